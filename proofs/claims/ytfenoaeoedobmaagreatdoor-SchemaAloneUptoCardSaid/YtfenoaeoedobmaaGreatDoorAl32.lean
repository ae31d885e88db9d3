/-
Parts of a proof.
-/
import Derived.Test.YtfenoaeoedobmaaGreatDoorAl31
set_option linter.unusedVariables false
set_option linter.unusedSimpArgs false
set_option maxHeartbeats 8000000
set_option maxRecDepth 20000
namespace Go.Proofs.YtfenoaeoedobmaaGreatDoor
open Go Go.RowKit
inductive Fo where
 |nil:Fo
 |sc (key text:ByteArray) (q:Bool) (next:Fo):Fo
 |br (kind:Int) (key:ByteArray) (kids next:Fo):Fo
namespace Fo
def size:Fo->Nat
 |nil=>0
 |sc _ _ _ nx=>1+nx.size
 |br _ _ kids nx=>1+kids.size+nx.size
def heads:Fo->Nat->List Int
 |nil,_=>[]
 |sc _ _ _ nx,i=>(i:Int)::nx.heads (i+1)
 |br _ _ kids nx,i=>(i:Int)::nx.heads (i+1+kids.size)
def flat:Fo->Nat->List Nd
 |nil,_=>[]
 |sc key text q nx,i=>⟨1,key,text,q,0,[]⟩::nx.flat (i+1)
 |br kind key kids nx,i=>⟨kind,key,⟨#[]⟩,false,0,kids.heads (i+1)⟩::(kids.flat (i+1)++nx.flat (i+1+kids.size))
def keys:Fo->List ByteArray
 |nil=>[]
 |sc key _ _ nx=>key::nx.keys
 |br _ key _ nx=>key::nx.keys
theorem aYp:Fo.nil.size=0:=rfl
theorem aI5 (key text:ByteArray) (q:Bool) (nx:Fo):(sc key text q nx).size=1+nx.size:=rfl
theorem aI6 (kind:Int) (key:ByteArray) (kids nx:Fo):(br kind key kids nx).size=1+kids.size+nx.size:=rfl
theorem aP7 (key text:ByteArray) (q:Bool) (nx:Fo) (i:Nat):(sc key text q nx).heads i=(i:Int)::nx.heads (i+1):=rfl
theorem aP8 (kind:Int) (key:ByteArray) (kids nx:Fo) (i:Nat):(br kind key kids nx).heads i=(i:Int)::nx.heads (i+1+kids.size):=rfl
theorem aUv (key text:ByteArray) (q:Bool) (nx:Fo) (i:Nat):(sc key text q nx).flat i=⟨1,key,text,q,0,[]⟩::nx.flat (i+1):=rfl
theorem aUw (kind:Int) (key:ByteArray) (kids nx:Fo) (i:Nat):(br kind key kids nx).flat i=⟨kind,key,⟨#[]⟩,false,0,kids.heads (i+1)⟩::(kids.flat (i+1)++nx.flat (i+1+kids.size)):=rfl
theorem flat_len:∀(F:Fo) (i:Nat),(F.flat i).length=F.size
 |nil,_=>rfl
 |sc _ _ _ nx,i=>by unfold flat;rw[a3n,flat_len nx,aI5];omega
 |br _ _ kids nx,i=>by unfold flat;rw[a3n,a3m,flat_len kids,flat_len nx,aI6];omega
end Fo
def KeyG (kind:Int) (key:ByteArray):Prop:=(kind=2->key.data.toList≠[]/\key.data.toList.length<=64/\key.data.toList.all aBv=true)/\(kind=3->key=⟨#[]⟩)
def ScalG (text:ByteArray) (q:Bool):Prop:=q=true\/aEy text.data.toList=true
def Fo.Ok (kind:Int):Fo->Prop
 | .nil=>True
 | .sc key text q nx=>KeyG kind key/\ScalG text q/\nx.Ok kind
 | .br kd key kids nx=>KeyG kind key/\(kd=2\/kd=3)/\kids≠ .nil/\kids.Ok kd/\(kd=2->kids.keys.Nodup)/\nx.Ok kind
def Fo.doc (F:Fo):List Nd:=(Fo.br 2 ⟨#[]⟩ F .nil).flat 0
def cutB:List UInt8->List UInt8×List UInt8
 |[]=>([],[])
 |c::r=>if c=10 then ([],r) else (c::(cutB r).1,(cutB r).2)
def aBq (ts:List Tok):Nat:=(ts.filter fun t=>t.kind==1).length
def aI7:Nat->List UInt8->Nat->Nat->List Tok->Except (Nat×Nat×Int) (List Tok)
 |0,_,_,_,acc=> .ok acc
 |f+1,l,k,n,acc=>
  if l=[] then .ok acc
  else match lineL (cutB l).1 ((n+1:Nat):Int) with
   | .error c=> .error (k,n+1,c)
   | .ok ts=>aI7 f (cutB l).2 (k+aBq ts) (n+1) (acc++ts)
def scanL (l:List UInt8):Except (Nat×Nat×Int) (List Tok):=if 65536<l.length then .error (0,0,3) else aI7 (l.length+1) l 0 0 []
theorem aFk:∀l:List UInt8,l≠[]->(cutB l).2.length<l.length
 |[],h=>absurd rfl h
 |c::r,_=>by
  unfold cutB
  split
  ·simp
  ·by_cases hr:r=[]
   ·subst hr;simp[cutB]
   ·have:=aFk r hr;simp only[a3n];omega
theorem aH0:∀l:List UInt8,(cutB l).1.length<=l.length
 |[]=>by simp[cutB]
 |c::r=>by
  have:=aH0 r;unfold cutB
  split
  ·simp
  ·simp only[a3n];omega
def okB (c:UInt8):Prop:=32<=c.toNat/\c.toNat≠127
theorem aUx (l:List UInt8):(aAo l).length<=l.length:=by
 induction l with
 |nil=>exact a3k _
 |cons c r ih=>
  unfold aAo
  split
  ·exact Nat.zero_le _
  ·simp only[a3n];omega
theorem a2a (l:List UInt8):(aAn l).length<=l.length:=by
 induction l with
 |nil=>exact a3k _
 |cons c r ih=>
  unfold aAn
  split
  ·exact Nat.zero_le _
  ·simp only[a3n];omega
theorem aYq {t x:List UInt8} (h:aDh t=some x):x.length<=t.length:=by
 unfold aDh at h
 split at h
 ·cases h
 ·split at h
  ·cases h
  ·obtain rfl:=a3p h;exact a3o (aUx _) (a2a _)
theorem aRr {c:UInt8} (h:aBv c=true) (n:Nat) (hn:n=34\/n=39\/n=35\/n=32\/n=10\/n<32\/n=127):c.toNat≠n:=by
 unfold aBv at h;have:=of_decide_eq_true h;omega
structure KeyF (key:List UInt8):Prop where
 ne:key≠[]
 len:key.length<=64
 all:key.all aBv=true
theorem KeyF.bytes {key:List UInt8} (h:KeyF key):∀c∈key,okB c:=by
 intro c hc;have:=aRr (List.all_eq_true.1 h.all c hc);unfold okB;refine ⟨?_,this 127 (by omega)⟩;rcases Nat.lt_or_ge c.toNat 32 with q|q
 ·exact absurd rfl (this _ (by omega))
 ·exact q
theorem aUy (a b:List Tok):aBq (a++b)=aBq a+aBq b:=by unfold aBq;rw[List.filter_append,a3m]
def Scan (a:List UInt8) (n:Nat) (ts:List Tok) (b:List UInt8) (m:Nat):Prop:=
 ∀f k acc,a.length<f->∃f',b.length<f'/\aI7 f a k n acc=aI7 f' b (k+aBq ts) m (acc++ts)
theorem Scan.refl (a:List UInt8) (n:Nat):Scan a n [] a n:=fun f k acc h=>⟨f,h,by simp[aBq]⟩
theorem Scan.trans {a b c:List UInt8} {n m p:Nat} {ts us:List Tok} (h:Scan a n ts b m) (g:Scan b m us c p):Scan a n (ts++us) c p:=by
 intro f k acc hf;obtain ⟨f1,h1,e1⟩:=h f k acc hf;obtain ⟨f2,h2,e2⟩:=g f1 (k+aBq ts) (acc++ts) h1;exact ⟨f2,h2,by rw[e1,e2,aUy,List.append_assoc,Nat.add_assoc]⟩
namespace Fo
def nl (kind:Int):Fo->Nat
 |nil=>0
 |sc _ _ _ nx=>1+nx.nl kind
 |br kd _ kids nx=>(if kind=2 then 1 else 0)+kids.nl kd+nx.nl kind
def tok (kind:Int) (n col:Nat):Fo->List Tok
 |nil=>[]
 |sc key text q nx=>
  (if kind=2 then [⟨3,n,col,key.data.toList,false⟩,⟨4,n,((col+key.data.toList.length+2:Nat):Int),text.data.toList,q⟩]
   else [⟨2,n,col,[],false⟩,⟨4,n,((col+2:Nat):Int),text.data.toList,q⟩])++nx.tok kind (n+1) col
 |br kd key kids nx=>
  (if kind=2 then ⟨3,n,col,key.data.toList,false⟩::kids.tok kd (n+1) (col+2) else ⟨2,n,col,[],false⟩::kids.tok kd n (col+2))++
   nx.tok kind (n+(if kind=2 then 1 else 0)+kids.nl kd) col
end Fo
theorem KeyG.f {key:ByteArray} (h:KeyG 2 key):KeyF key.data.toList:=⟨(h.1 rfl).1,(h.1 rfl).2.1,(h.1 rfl).2.2⟩
def er (n:Nd):Nd:={n with line:=0}
def aB7 (ns:List Nd) (i:Nat) (hs:List Int):List Nd:=match ns[i]? with|some x=>ns.set i {x with kids:=x.kids++hs}|none=>ns
theorem aCp {ns:List Nd} {i:Nat} {x:Nd} (h:ns[i]? =some x) (hs:List Int):aB7 ns i hs=ns.set i {x with kids:=x.kids++hs}:=by
 unfold aB7;rw[h]
theorem aDl (ns:List Nd) (i:Nat) (hs:List Int):(aB7 ns i hs).length=ns.length:=by
 unfold aB7
 split
 ·rw[List.length_set]
 ·rfl
theorem aOn (ns:List Nd) (i:Nat):aB7 ns i []=ns:=by
 unfold aB7
 split
 ·rename_i x h
  obtain ⟨hl,e⟩:=a3r h;rw[List.append_nil]
  show ns.set i x=ns
  rw[<-e,List.set_getElem_self]
 ·rfl
theorem aLj (ns:List Nd) (i:Nat) (a b:List Int):aB7 (aB7 ns i a) i b=aB7 ns i (a++b):=by
 cases h:ns[i]? with
 |none=>
  have e:∀hs,aB7 ns i hs=ns:=fun hs=>by unfold aB7;rw[h]
  rw[e,e,e]
 |some x=>
  have hl:=(a3r h).1;rw[aCp h a,aCp (x:={x with kids:=x.kids++a}) (by rw[List.getElem?_set_self hl]),aCp h];simp
theorem aOo {ns:List Nd} {i:Nat} (hi:i<ns.length) (b:List Nd) (hs:List Int):aB7 (ns++b) i hs=aB7 ns i hs++b:=by
 have h:=a3q hi;rw[aCp h,aCp (x:=ns[i]) (by rw[List.getElem?_append_left hi];exact h),List.set_append_left _ _ hi]
theorem aHr (ns:List Nd) (x:Nd) (hs:List Int):aB7 (ns++[x]) ns.length hs=ns++[{x with kids:=x.kids++hs}]:=by
 rw[aCp (x:=x) (by simp)];simp
namespace Fo
end Fo
def kTrue:ByteArray:=⟨#[116,114,117,101]⟩
def leafF (key s:ByteArray) (nx:Fo):Fo:= .sc key s (!aEy s.data.toList) nx
def aCv:List ByteArray->Fo
 |[]=> .nil
 |e::r=>leafF ⟨#[]⟩ e (aCv r)
def tgtF (wt:Nat->ByteArray) (t:Tgt):Fo:=
 if t.service≠⟨#[]⟩ then leafF aAx t.service (leafF aA9 (wt t.weight) .nil) else leafF aAy t.split (leafF aA9 (wt t.weight) .nil)
def tgtsF (wt:Nat->ByteArray):List Tgt->Fo
 |[]=> .nil
 |t::r=> .br 2 ⟨#[]⟩ (tgtF wt t) (tgtsF wt r)
def rulF (act:Bool) (x:Rul):Fo:=
 if act=true then leafF aBr (if x.allow=true then kAllow else kDeny) (leafF kPath x.path (leafF aA7 x.method .nil))
 else leafF kPath x.path (leafF aA7 x.method (leafF aAy x.split .nil))
def rulsF (act:Bool):List Rul->Fo
 |[]=> .nil
 |t::r=> .br 2 ⟨#[]⟩ (rulF act t) (rulsF act r)
def nKind (k:Int):ByteArray:=if k=1 then aDo else if k=2 then aJz else if k=3 then aJ0 else aG0
def ownT (wt:Nat->ByteArray) (r:Res):Fo:=
 if r.del=true then leafF aBd kTrue .nil
 else if r.kind=1 then (if r.endps=[] then .nil else .br 3 aAs (aCv r.endps) .nil)
 else if r.kind=2 then .br 3 aBm (tgtsF wt r.targets) .nil
 else if r.kind=3 then leafF kHost r.host (.br 3 aBp (rulsF false r.rules) .nil)
 else leafF aC3 r.route (.br 3 aBp (rulsF true r.rules) .nil)
def resF (wt:Nat->ByteArray) (r:Res):Fo:=leafF kKind (nKind r.kind) (leafF kName r.name (ownT wt r))
def treeW (wt:Nat->ByteArray) (r:Res):List Nd:=if r.kind<1\/4<r.kind then [] else (resF wt r).doc
namespace Fo
def app:Fo->Fo->Fo
 |nil,G=>G
 |sc key text q nx,G=>sc key text q (nx.app G)
 |br kind key kids nx,G=>br kind key kids (nx.app G)
theorem aP9:∀F G:Fo,(F.app G).size=F.size+G.size
 |nil,G=>by unfold app;rw[aYp];omega
 |sc key text q nx,G=>by unfold app;rw[aI5,aI5,aP9 nx];omega
 |br kind key kids nx,G=>by unfold app;rw[aI6,aI6,aP9 nx];omega
theorem aNa:∀(F G:Fo) (i:Nat),(F.app G).heads i=F.heads i++G.heads (i+F.size)
 |nil,G,i=>rfl
 |sc key text q nx,G,i=>by unfold app;rw[aP7,aP7,aNa nx,aI5,Nat.add_assoc];rfl
 |br kind key kids nx,G,i=>by unfold app;rw[aP8,aP8,aNa nx,aI6,show i+(1+kids.size+nx.size)=i+1+kids.size+nx.size by omega];rfl
theorem aQa:∀(F G:Fo) (i:Nat),(F.app G).flat i=F.flat i++G.flat (i+F.size)
 |nil,G,i=>rfl
 |sc key text q nx,G,i=>by unfold app;rw[aUv,aUv,aQa nx,aI5,Nat.add_assoc];rfl
 |br kind key kids nx,G,i=>by unfold app;rw[aUw,aUw,aQa nx,aI6,show i+(1+kids.size+nx.size)=i+1+kids.size+nx.size by omega];simp
end Fo
def addFo (ns:List Nd) (p:Nat) (F:Fo):List Nd:=aB7 ns p (F.heads ns.length)++F.flat ns.length
theorem aAr (ns:List Nd) (p:Nat) (F:Fo):(addFo ns p F).length=ns.length+F.size:=by
 unfold addFo;rw[a3m,aDl,Fo.flat_len]
theorem aFc (ns:List Nd) (p:Nat):addFo ns p .nil=ns:=by
 unfold addFo Fo.heads Fo.flat;rw[aOn,List.append_nil]
theorem aBo {ns:List Nd} {p:Nat} (hp:p<ns.length) (F G:Fo):addFo (addFo ns p F) p G=addFo ns p (F.app G):=by
 unfold addFo;rw[Fo.aNa,Fo.aQa,a3m,aDl,Fo.flat_len,aOo (by rw[aDl];exact hp),aLj,List.append_assoc]
theorem aEp {ns:List Nd} {p:Nat} (hp:p<ns.length) (kind:Int) (key:ByteArray) (K:Fo):addFo (addFo ns p (.br kind key .nil .nil)) ns.length K=addFo ns p (.br kind key K .nil):=by
 unfold addFo;simp only[Fo.aP8,Fo.aUw,Fo.heads,Fo.flat,List.append_nil,a3m,a3n,List.length_nil,aDl];have h:=aHr (aB7 ns p [(ns.length:Int)]) ⟨kind,key,⟨#[]⟩,false,0,[]⟩ (K.heads (ns.length+1));rw[aDl]at h;rw[show ns.length+(0+1)=ns.length+1 by omega,h];simp
theorem aFl (F:Fo):addFo [⟨2,⟨#[]⟩,⟨#[]⟩,false,0,[]⟩] 0 F=F.doc:=by
 unfold addFo Fo.doc;have h:=aHr [] ⟨2,⟨#[]⟩,⟨#[]⟩,false,0,[]⟩ (F.heads 1);rw[Fo.aUw]
 show aB7 ([]++[⟨2,⟨#[]⟩,⟨#[]⟩,false,0,[]⟩]) ([]:List Nd).length (F.heads 1)++F.flat 1=_
 rw[h];simp[Fo.flat]
abbrev NRowW:=NRowM 1048576
structure WrS (w0 w:World) (rb:Nat) (nv:Value) (ms:List NdM):Prop where
 below:Below w0.heap.size w0 w
 rge:w0.heap.size<=rb
 blk:w.heap[rb]? =some (.cells #[nv] 127 (0,0))
 nr:NRowW w0 w rb nv ms
theorem WrS.later {w0 w w2:World} {rb:Nat} {nv:Value} {ms:List NdM} (h:WrS w0 w rb nv ms) (hb:Below w.heap.size w w2):WrS w0 w2 rb nv ms:=
 ⟨h.below.trans (hb.mono h.below.size),h.rge,(hb.block rb (aAb h.blk)).trans h.blk,h.nr.later hb⟩
theorem WrS.rd_lt {w0 w:World} {rb:Nat} {nv:Value} {ms:List NdM} (h:WrS w0 w rb nv ms) {g:Nat} (hg:RdF rb nv ms g):w0.heap.size<=g/\g<w.heap.size:=by
 rcases hg with rfl|hg
 ·exact ⟨h.rge,aAb h.blk⟩
 ·have:=h.nr.own_lt hg;exact ⟨this.1,this.2.1⟩
def aEw (w0 w:World) (rb:Nat) (nv:Value) (ms:List NdM) (ns2:List Nd) (w':World):Prop:=
 ∃nv2 ms2,WrS w0 w' rb nv2 ms2/\nds ms2=ns2/\Mod (RdF rb nv ms) w w'/\∀g,nOwn nv2 ms2 g->nOwn nv ms g\/w.heap.size<=g
theorem a2b {w0 w w1 w5:World} {rb n:Nat} {ao ao5:Option Addr} {c c5:Nat} {ms:List NdM} {x:Nd} (h:WrS w0 w rb (.slice ao ms.length c) ms) (hn:n=ms.length) (hx:x.kids=[]) (hk:I64 x.kind) (hl:I64 x.line) (ht:x.text.size<=1048576) (hkey:x.key.size<=1048576) (hlen:n<1048576)
 (hb1:Below w.heap.size w w1) (own2:w5.ownsRow 0 55 6 (.slice ao5 (n+1) c5) (n+1) (ms.flatMap NdM.cells++NdM.cells ⟨x,.slice none 0 0⟩)) (gr2:w1.grownBy w5 (Value.slice ao n c).ownBlock)
 (new2:∀g,(Value.slice ao5 (n+1) c5).ownBlock=some g->(Value.slice ao n c).ownBlock=some g\/w1.heap.size<=g):
 w5.heap[rb]? =some (.cells #[.slice ao n c] 127 (0,0))/\
 WrS w0 (w5.setCell ⟨rb,0,none⟩ (.slice ao5 (n+1) c5)) rb (.slice ao5 (n+1) c5) (ms++[⟨x,.slice none 0 0⟩])/\
 Mod (RdF rb (.slice ao n c) ms) w (w5.setCell ⟨rb,0,none⟩ (.slice ao5 (n+1) c5))/\
 ∀g,nOwn (.slice ao5 (n+1) c5) (ms++[⟨x,.slice none 0 0⟩]) g->nOwn (.slice ao n c) ms g\/w.heap.size<=g:=by
 subst hn;have h1:=h.later hb1;obtain ⟨hnr,hno⟩:=h.nr.app (x:=x) h.below.size hb1 (aAb h.blk) hx hk hl ht hkey hlen own2 gr2 new2;have hM:Mod (fun b=>(Value.slice ao ms.length c).ownBlock=some b) w1 w5:=(Mod.refl _ _).grown gr2 (fun b e _=>e);have hblk:w5.heap[rb]? =some (.cells #[.slice ao ms.length c] 127 (0,0)):=hM.heap h1.blk (fun e=>(h.nr.new rb e).2 rfl);have hS:Mod (fun b=>b=rb) w5 (w5.setCell ⟨rb,0,none⟩ (.slice ao5 (ms.length+1) c5)):=(Mod.refl _ _).setCell _ _ (fun _=>rfl)
 have hW:Mod (RdF rb (.slice ao ms.length c) ms) w (w5.setCell ⟨rb,0,none⟩ (.slice ao5 (ms.length+1) c5)):=
  ((Mod.ofBelow (F:=RdF rb (.slice ao ms.length c) ms) hb1 (fun b hb hge=>by omega)).trans' hM (fun i hi q=> .inr (.inl q))).trans' hS (fun i hi q=> .inl q)
 refine ⟨hblk,⟨h.below.trans (hW.below h.below.size (fun b hb=>(h.rd_lt hb).1)),h.rge,aAk hblk 0 _,hnr.mod hS (fun g hg e=>(hnr.own_lt hg).2.2 e)⟩,hW,fun g hg=> ?_⟩;rcases hno g hg with q|q
 ·exact .inl q
 ·exact .inr (a3o hb1.size q)
theorem a2c {w0 w w1 w5:World} {rb i kid q g:Nat} {nv:Value} {ao5:Option Addr} {c5:Nat} {ms:List NdM} {m:NdM} (h:WrS w0 w rb nv ms) (hi:ms[i]? =some m) (hg:nv.ownBlock=some g) (hq:q=m.nd.kids.length) (hql:q<1048576)
 (hb1:Below w.heap.size w w1) (own2:w5.ownsRow 0 3 1 (.slice ao5 (q+1) c5) (q+1) (m.nd.kids.flatMap aA4++[.int .i64 (kid:Int)])) (gr2:w1.grownBy w5 m.kv.ownBlock)
 (new2:∀g,(Value.slice ao5 (q+1) c5).ownBlock=some g->m.kv.ownBlock=some g\/w1.heap.size<=g):
 Mod (RdF rb nv ms) w w5/\w5.heap[rb]? =w.heap[rb]? /\w5.heap[g]? =w.heap[g]? /\
 WrS w0 (w5.setCell ⟨g,i*6+5,none⟩ (.slice ao5 (q+1) c5)) rb nv (ms.set i ⟨{m.nd with kids:=m.nd.kids++[(kid:Int)]},.slice ao5 (q+1) c5⟩)/\
 Mod (RdF rb nv ms) w (w5.setCell ⟨g,i*6+5,none⟩ (.slice ao5 (q+1) c5))/\
 ∀b,nOwn nv (ms.set i ⟨{m.nd with kids:=m.nd.kids++[(kid:Int)]},.slice ao5 (q+1) c5⟩) b->nOwn nv ms b\/w.heap.size<=b:=by
 subst hq;have h1:=h.later hb1;have hmm:=List.mem_of_getElem? hi;have hP:=h1.nr.each m hmm;have hM:Mod (fun b=>m.kv.ownBlock=some b) w1 w5:=(Mod.refl _ _).grown gr2 (fun b e _=>e);have hrb:w5.heap[rb]? =w1.heap[rb]? :=hM.block rb (aAb h1.blk) (fun e=>(h.nr.kid m hmm rb e).2 rfl);have hgb:w5.heap[g]? =w1.heap[g]? :=hM.block g (h1.nr.row.lt g hg).2 (fun e=>(h.nr.kid m hmm g e).1 hg);have hW:Mod (RdF rb nv ms) w w5:=(Mod.ofBelow (F:=RdF rb nv ms) hb1 (fun b hb hge=>by omega)).trans' hM (fun b hb q=> .inr (.inr ⟨m,hmm,q⟩))
 have hS:Mod (fun b=>b=g) w5 (w5.setCell ⟨g,i*6+5,none⟩ (.slice ao5 (m.nd.kids.length+1) c5)):=(Mod.refl _ _).setCell _ _ (fun _=>rfl);have hW2:Mod (RdF rb nv ms) w (w5.setCell ⟨g,i*6+5,none⟩ (.slice ao5 (m.nd.kids.length+1) c5)):=hW.trans' hS (fun b hb q=> .inr (.inl (by rw[q];exact hg)));have hgr:g≠rb:=(h.nr.new g hg).2;have hP5:NdP w5 w0.heap.size ⟨{m.nd with kids:=m.nd.kids++[(kid:Int)]},.slice ao5 (m.nd.kids.length+1) c5⟩:=by
  refine ⟨?_,fun b hb=> ?_,hP.kind,hP.line,hP.text,hP.key,?_⟩
  ·show w5.ownsRow 0 3 1 (.slice ao5 (m.nd.kids.length+1) c5) (m.nd.kids++[(kid:Int)]).length ((m.nd.kids++[(kid:Int)]).flatMap aA4)
   rw[a3m,List.flatMap_append,List.flatMap_singleton];exact own2
  ·rcases new2 b hb with q|q
   ·exact hP.fresh b q
   ·exact a3o h1.below.size q
  ·show (m.nd.kids++[(kid:Int)]).length<=1048576
   rw[a3m];simp;omega
 have hN:=NRowM.kids (m':=⟨{m.nd with kids:=m.nd.kids++[(kid:Int)]},.slice ao5 (m.nd.kids.length+1) c5⟩) h1.nr h1.below.size (aAb h1.blk) hi hg hM rfl hP5 new2;refine ⟨hW,hrb.trans (hb1.block _ (aAb h.blk)),hgb.trans (hb1.block _ (h.nr.row.lt g hg).2),⟨h.below.trans (hW2.below h.below.size (fun b hb=>(h.rd_lt hb).1)),h.rge,?_,hN⟩,hW2,fun b hb=> ?_⟩
 ·rw[hS.block rb (Nat.lt_of_lt_of_le (aAb h1.blk) hM.size) (fun e=>hgr e.symm),hrb];exact h1.blk
 ·rcases hb with hb|⟨x,hx,hb⟩
  ·exact .inl (.inl hb)
  ·rcases List.mem_or_eq_of_mem_set hx with hx|rfl
   ·exact .inl (.inr ⟨x,hx,hb⟩)
   ·rcases new2 b hb with q|q
    ·exact .inl (.inr ⟨m,hmm,q⟩)
    ·exact .inr (a3o hb1.size q)
theorem aEw.trans {w0 w w1 w2:World} {rb:Nat} {nv nv1:Value} {ms ms1:List NdM} {ns2:List Nd} (hs:w.heap.size<=w1.heap.size) (h1:Mod (RdF rb nv ms) w w1) (o1:∀g,nOwn nv1 ms1 g->nOwn nv ms g\/w.heap.size<=g) (h:aEw w0 w1 rb nv1 ms1 ns2 w2):aEw w0 w rb nv ms ns2 w2:=by
 obtain ⟨nv2,ms2,a,b,c,d⟩:=h;exact ⟨nv2,ms2,a,b,aI2 (w0:=w0) h1 o1 c,aM6 hs o1 d⟩
theorem aQb {w:World} {B e sz n:Nat} {a:Option Addr} {k c:Nat} {xs:List Value} (h:w.ownsRow B e sz (.slice a k c) n xs):k=n:=by
 rcases h.2 with ⟨hv,hn⟩|⟨g,cap,cur,hv,-,-,hc,-⟩
 ·cases hv;omega
 ·cases hv;rfl
def layN (ns:List Nd) (p:Option Nat) (x:Nd):List Nd:=match p with|none=>ns++[x]|some p=>aCo (ns++[x]) p ns.length
theorem aUz {ns:List Nd} {p:Nat} (hp:p<ns.length) (key text:ByteArray) (q:Bool):layN ns (some p) ⟨1,key,text,q,0,[]⟩=addFo ns p (.sc key text q .nil):=by
 show aCo (ns++[_]) p ns.length=_
 unfold addFo aCo;rw[List.getElem?_append_left hp];obtain ⟨x,hx⟩:=aAh hp;rw[hx];simp only;rw[aCp hx,List.set_append_left _ _ hp];rfl
theorem aU0 {ns:List Nd} {p:Nat} (hp:p<ns.length) (kind:Int) (key:ByteArray):layN ns (some p) ⟨kind,key,⟨#[]⟩,false,0,[]⟩=addFo ns p (.br kind key .nil .nil):=by
 show aCo (ns++[_]) p ns.length=_
 unfold addFo aCo;rw[List.getElem?_append_left hp];obtain ⟨x,hx⟩:=aAh hp;rw[hx];simp only;rw[aCp hx,List.set_append_left _ _ hp];rfl
def parV (p:Option Nat):Int:=match p with|none=> -1|some p=>(p:Int)
theorem aKm {w0 w:World} {rb:Nat} {nv:Value} {ms:List NdM} (h:WrS w0 w rb nv ms) (p:Option Nat) (hp:∀i,p=some i->∃m,ms[i]? =some m/\m.nd.kids.length<1048576) (x:Nd) (hx:x.kids=[]) (hxk:I64 x.kind) (hxl:I64 x.line) (hxt:x.text.size<=1048576) (hxe:x.key.size<=1048576) (hlen:ms.length<1048576):
 Calls Tryz.prog 110 #[.pointer (some ⟨rb,0,none⟩),.int .i64 (parV p),.agg #[.int .i64 x.kind,.string x.key,.string x.text,.bool x.quoted,.int .i64 x.line,.slice none 0 0]] w
  fun r w'=>r= .returned (.int .i64 (ms.length:Int))/\aEw w0 w rb nv ms (layN (nds ms) p x) w':=by
 obtain ⟨ao,c,rfl⟩:=h.nr.form;obtain ⟨n,hn⟩:∃n,n=ms.length:=⟨_,rfl⟩;obtain ⟨gb,hgb⟩:∃gb,gb=w.heap.size:=⟨_,rfl⟩;obtain ⟨wa,hwa⟩:∃wa,wa=w.alloc (.cells #[.int .i64 x.kind,.string x.key,.string x.text,.bool x.quoted,.int .i64 x.line,.slice none 0 0] 55):=⟨_,rfl⟩;have hba:Below w.heap.size w wa:=by rw[hwa];exact (a3l _ _).alloc (a3k _) _
 have hsz:wa.heap.size=w.heap.size+1:=by rw[hwa];simp
 have hga:wa.heap[gb]? =some (.cells #[.int .i64 x.kind,.string x.key,.string x.text,.bool x.quoted,.int .i64 x.line,.slice none 0 0] 55 (0,0)):=by rw[hwa,hgb];exact aAc _
 have hRa:=h.later hba;have hblk:=hRa.blk;rw[<-hn]at hblk;have y0:=aAa hblk 0;simp at y0;have Hg:=hid (And.intro y0 hga);have Hgb:=hid (show gb<wa.heap.size by omega);have Hgn:=hid (show (Value.slice ao n c).ownBlock≠some gb from fun e=>by
  have:=(h.nr.own_lt (g:=gb) (.inl (by rw[<-hn];exact e))).2.1;omega)
 have Hown:=hid (fun ob=>show ((wa.alloc ob).drew).ownsRow 0 55 6 (.slice ao n c) n (ms.flatMap NdM.cells) from by
  have:=hRa.nr.row;rw[hn];exact World.ownsRow.alloc (w:=wa) this ob)
 have Hend:=hid (fun ob ao5 c5 (w5:World) (a1:w5.ownsRow 0 55 6 (.slice ao5 (n+1) c5) (n+1) (ms.flatMap NdM.cells++NdM.cells ⟨x,.slice none 0 0⟩))
  (a2:((wa.alloc ob).drew).grownBy w5 (Value.slice ao n c).ownBlock) (a3:∀g,(Value.slice ao5 (n+1) c5).ownBlock=some g->(Value.slice ao n c).ownBlock=some g\/((wa.alloc ob).drew).heap.size<=g)=>a2b hRa hn hx hxk hxl hxt hxe (by omega) (((a3l wa.heap.size wa).alloc (a3k _) ob).drew) a1 a2 a3)
 have Hnl:=hid (show n<=2000000 by omega);have Hba:=hid hba;have Hsz:=hid hsz;have Hn:=hid hn;have Hp:=hid hp;have Hl:=hid hlen;have Hga:=hid hga;rw[<-hn];clear h hp hx hxk hxl hxt hxe hlen hba hga hRa hblk hsz hn;cases p with
 |none=>
  unfold parV;go_enter Tryz.func110,Tryz.ntmps110;go_upto_region 1 with (fail)
  rw[<-hwa,<-hgb];clear hwa hgb;go_upto_region 2 with (fail)
  refine aCl (fun w'=>w'.cell? ⟨rb,0,none⟩=some (.slice ao n c)/\w'.heap[gb]? =some (.cells #[.int .i64 x.kind,.string x.key,.string x.text,.bool x.quoted,.int .i64 x.line,.slice none 0 0] 55 (0,0))) (fun i=>decide (i<8)) (by kernel_rfl) ?_;have hS:wa.drew.cell? ⟨rb,0,none⟩=some (.slice ao n c)/\wa.drew.heap[gb]? =some (.cells #[.int .i64 x.kind,.string x.key,.string x.text,.bool x.quoted,.int .i64 x.line,.slice none 0 0] 55 (0,0)):=Hg.out
  refine wK (i:=0) (v:= ?_) rfl (by kernel_rfl) (fun _ _ _ h=>h) (by rfl) ?_ hS ?_;rotate_left
  ·intro w' hSw;obtain ⟨s1,s2⟩:=hSw;obtain ⟨t0,t1,t2,t3,t4,t5⟩:=cB6 s2;simp at t0 t1 t2 t3 t4 t5;clear s2;go_simp
   try with_reducible rfl
  simp only[Act.put,sA,sZ,sS];refine wK (i:=1) (v:= ?_) rfl (by kernel_rfl) (fun _ _ _ h=>h) (by rfl) ?_ hS ?_;rotate_left
  ·intro w' hSw;obtain ⟨s1,s2⟩:=hSw;obtain ⟨t0,t1,t2,t3,t4,t5⟩:=cB6 s2;simp at t0 t1 t2 t3 t4 t5;clear s2;go_simp
   try with_reducible rfl
  simp only[Act.put,sA,sZ,sS];refine wK (i:=2) (v:= ?_) rfl (by kernel_rfl) (fun _ _ _ h=>h) (by rfl) ?_ hS ?_;rotate_left
  ·intro w' hSw;obtain ⟨s1,s2⟩:=hSw;obtain ⟨t0,t1,t2,t3,t4,t5⟩:=cB6 s2;simp at t0 t1 t2 t3 t4 t5;clear s2;go_simp
   try with_reducible rfl
  simp only[Act.put,sA,sZ,sS];refine wK (i:=3) (v:= ?_) rfl (by kernel_rfl) (fun _ _ _ h=>h) (by rfl) ?_ hS ?_;rotate_left
  ·intro w' hSw;obtain ⟨s1,s2⟩:=hSw;obtain ⟨t0,t1,t2,t3,t4,t5⟩:=cB6 s2;simp at t0 t1 t2 t3 t4 t5;clear s2;go_simp
   try with_reducible rfl
  simp only[Act.put,sA,sZ,sS];refine wK (i:=4) (v:= ?_) rfl (by kernel_rfl) (fun _ _ _ h=>h) (by rfl) ?_ hS ?_;rotate_left
  ·intro w' hSw;obtain ⟨s1,s2⟩:=hSw;obtain ⟨t0,t1,t2,t3,t4,t5⟩:=cB6 s2;simp at t0 t1 t2 t3 t4 t5;clear s2;go_simp
   try with_reducible rfl
  simp only[Act.put,sA,sZ,sS];refine wK (i:=5) (v:= ?_) rfl (by kernel_rfl) (fun _ _ _ h=>h) (by rfl) ?_ hS ?_;rotate_left
  ·intro w' hSw;obtain ⟨s1,s2⟩:=hSw;obtain ⟨t0,t1,t2,t3,t4,t5⟩:=cB6 s2;simp at t0 t1 t2 t3 t4 t5;clear s2;go_simp
   try with_reducible rfl
  simp only[Act.put,sA,sZ,sS];refine aAj (i:=6) (by kernel_rfl) rfl (fun K hK=> ?_);go_simp;refine hK.out _ _ (fun _=>⟨aBb ((a3l wa.drew.heap.size wa.drew).alloc (a3k _) _) hS.1,(aAe _ (aAb hS.2)).trans hS.2⟩) ?_;clear hK K
  try simp only[Act.put,sA,sZ,sS]
  refine aAj (i:=7) (by kernel_rfl) rfl (fun K hK=> ?_);refine aGi 55 33 (.agg #[.int .i64 0,.string ⟨#[]⟩,.string ⟨#[]⟩,.bool false,.int .i64 0,.slice none 0 0]) 6 80 Tryz.underlying33 aE4 rfl (by decide) (by decide) rfl _ _ rfl (.slice ao n c) n (ms.flatMap NdM.cells) rfl (Hown.out _) wa.heap.size #[.int .i64 x.kind,.string x.key,.string x.text,.bool x.quoted,.int .i64 x.line,.slice none 0 0] (NdM.cells ⟨x,.slice none 0 0⟩) rfl (aAc (w:=wa) _) rfl rfl (aMt _ rfl) Hnl.out (n+1) rfl ?_
  intro ao5 c5 w5 own2 gr2 new2;have HE:=hid (Hend.out _ _ _ _ own2 gr2 new2);have q1:=aAa HE.out.1 0;have qf:=aAd HE.out.1 0;simp at q1;have q2:w5.heap[gb]? =_:=(gr2.block gb (Nat.lt_of_lt_of_le Hgb.out (by show wa.heap.size<=(wa.alloc _).heap.size;simp)) (fun e=>Hgn.out e.symm)).trans ((aAe _ (aAb hS.2)).trans hS.2);refine hK.out _ _ (fun _=>⟨q1,q2⟩) ?_;clear hK K own2 gr2 new2 Hown Hend hS
  try simp only[Act.put,sA,sZ,sS]
  refine aAj (i:=8) (by kernel_rfl) rfl (fun K hK=> ?_);go_simp;refine hK.out _ _ (fun h=>absurd h (by decide)) ?_;clear hK K;refine aAj (i:=9) (by kernel_rfl) rfl (fun K hK=> ?_);go_simp;refine hK.out _ _ (fun h=>absurd h (by decide)) ?_;clear hK K;refine aAj (i:=10) (by kernel_rfl) rfl (fun K hK=> ?_);go_simp;refine hK.out _ _ (fun h=>absurd h (by decide)) ?_;clear hK K;refine aCk (by kernel_rfl) ?_ _
  clear q1 q2 qf;go_wp2;refine bodyPost_ret (results_tmp (t:=6) rfl _ _ _) rfl ⟨rfl,?_⟩;refine ⟨_,_,HE.out.2.1,aLh _ _,(Mod.ofBelow (F:=RdF rb (.slice ao n c) ms) Hba.out (fun b hb hge=>by omega)).trans HE.out.2.2.1,fun g hg=> ?_⟩;rcases HE.out.2.2.2 g hg with q|q
  ·exact .inl q
  ·exact .inr (a3o Hba.out.size q)
 |some p=>
  obtain ⟨m,hm,hmk⟩:=Hp.out p rfl;unfold parV;have bp:decide ((0:Int)<=(p:Int))=true:=dT (by omega);have bp2:(0:Int)<=(p:Int):=by omega
  have Hm:=hid (And.intro hm hmk);clear hm hmk;go_enter Tryz.func110,Tryz.ntmps110;go_upto_region 1 with (fail)
  rw[<-hwa,<-hgb];clear hwa hgb;go_upto_region 2 with (fail)
  refine aCl (fun w'=>w'.cell? ⟨rb,0,none⟩=some (.slice ao n c)/\w'.heap[gb]? =some (.cells #[.int .i64 x.kind,.string x.key,.string x.text,.bool x.quoted,.int .i64 x.line,.slice none 0 0] 55 (0,0))) (fun i=>decide (i<8)) (by kernel_rfl) ?_;have hS:wa.drew.cell? ⟨rb,0,none⟩=some (.slice ao n c)/\wa.drew.heap[gb]? =some (.cells #[.int .i64 x.kind,.string x.key,.string x.text,.bool x.quoted,.int .i64 x.line,.slice none 0 0] 55 (0,0)):=Hg.out
  refine wK (i:=0) (v:= ?_) rfl (by kernel_rfl) (fun _ _ _ h=>h) (by rfl) ?_ hS ?_;rotate_left
  ·intro w' hSw;obtain ⟨s1,s2⟩:=hSw;obtain ⟨t0,t1,t2,t3,t4,t5⟩:=cB6 s2;simp at t0 t1 t2 t3 t4 t5;clear s2;go_simp
   try with_reducible rfl
  simp only[Act.put,sA,sZ,sS];refine wK (i:=1) (v:= ?_) rfl (by kernel_rfl) (fun _ _ _ h=>h) (by rfl) ?_ hS ?_;rotate_left
  ·intro w' hSw;obtain ⟨s1,s2⟩:=hSw;obtain ⟨t0,t1,t2,t3,t4,t5⟩:=cB6 s2;simp at t0 t1 t2 t3 t4 t5;clear s2;go_simp
   try with_reducible rfl
  simp only[Act.put,sA,sZ,sS];refine wK (i:=2) (v:= ?_) rfl (by kernel_rfl) (fun _ _ _ h=>h) (by rfl) ?_ hS ?_;rotate_left
  ·intro w' hSw;obtain ⟨s1,s2⟩:=hSw;obtain ⟨t0,t1,t2,t3,t4,t5⟩:=cB6 s2;simp at t0 t1 t2 t3 t4 t5;clear s2;go_simp
   try with_reducible rfl
  simp only[Act.put,sA,sZ,sS];refine wK (i:=3) (v:= ?_) rfl (by kernel_rfl) (fun _ _ _ h=>h) (by rfl) ?_ hS ?_;rotate_left
  ·intro w' hSw;obtain ⟨s1,s2⟩:=hSw;obtain ⟨t0,t1,t2,t3,t4,t5⟩:=cB6 s2;simp at t0 t1 t2 t3 t4 t5;clear s2;go_simp
   try with_reducible rfl
  simp only[Act.put,sA,sZ,sS];refine wK (i:=4) (v:= ?_) rfl (by kernel_rfl) (fun _ _ _ h=>h) (by rfl) ?_ hS ?_;rotate_left
  ·intro w' hSw;obtain ⟨s1,s2⟩:=hSw;obtain ⟨t0,t1,t2,t3,t4,t5⟩:=cB6 s2;simp at t0 t1 t2 t3 t4 t5;clear s2;go_simp
   try with_reducible rfl
  simp only[Act.put,sA,sZ,sS];refine wK (i:=5) (v:= ?_) rfl (by kernel_rfl) (fun _ _ _ h=>h) (by rfl) ?_ hS ?_;rotate_left
  ·intro w' hSw;obtain ⟨s1,s2⟩:=hSw;obtain ⟨t0,t1,t2,t3,t4,t5⟩:=cB6 s2;simp at t0 t1 t2 t3 t4 t5;clear s2;go_simp
   try with_reducible rfl
  simp only[Act.put,sA,sZ,sS];refine aAj (i:=6) (by kernel_rfl) rfl (fun K hK=> ?_);go_simp;refine hK.out _ _ (fun _=>⟨aBb ((a3l wa.drew.heap.size wa.drew).alloc (a3k _) _) hS.1,(aAe _ (aAb hS.2)).trans hS.2⟩) ?_;clear hK K
  try simp only[Act.put,sA,sZ,sS]
  refine aAj (i:=7) (by kernel_rfl) rfl (fun K hK=> ?_);refine aGi 55 33 (.agg #[.int .i64 0,.string ⟨#[]⟩,.string ⟨#[]⟩,.bool false,.int .i64 0,.slice none 0 0]) 6 80 Tryz.underlying33 aE4 rfl (by decide) (by decide) rfl _ _ rfl (.slice ao n c) n (ms.flatMap NdM.cells) rfl (Hown.out _) wa.heap.size #[.int .i64 x.kind,.string x.key,.string x.text,.bool x.quoted,.int .i64 x.line,.slice none 0 0] (NdM.cells ⟨x,.slice none 0 0⟩) rfl (aAc (w:=wa) _) rfl rfl (aMt _ rfl) Hnl.out (n+1) rfl ?_
  intro ao5 c5 w5 own2 gr2 new2;have HE:=hid (Hend.out _ _ _ _ own2 gr2 new2);have q1:=aAa HE.out.1 0;have qf:=aAd HE.out.1 0;simp at q1;have q2:w5.heap[gb]? =_:=(gr2.block gb (Nat.lt_of_lt_of_le Hgb.out (by show wa.heap.size<=(wa.alloc _).heap.size;simp)) (fun e=>Hgn.out e.symm)).trans ((aAe _ (aAb hS.2)).trans hS.2);refine hK.out _ _ (fun _=>⟨q1,q2⟩) ?_;clear hK K own2 gr2 new2 Hown Hend hS
  try simp only[Act.put,sA,sZ,sS]
  refine aAj (i:=8) (by kernel_rfl) rfl (fun K hK=> ?_);go_simp;refine hK.out _ _ (fun h=>absurd h (by decide)) ?_;clear hK K;refine aAj (i:=9) (by kernel_rfl) rfl (fun K hK=> ?_);go_simp;refine hK.out _ _ (fun h=>absurd h (by decide)) ?_;clear hK K;refine aAj (i:=10) (by kernel_rfl) rfl (fun K hK=> ?_);go_simp;refine hK.out _ _ (fun h=>absurd h (by decide)) ?_;clear hK K;refine aCk (by kernel_rfl) ?_ _
  clear q1 q2 qf;go_upto_region 4 with (fail)
  obtain ⟨w4,hw4⟩:∃w4,w4=w5.setCell ⟨rb,0,none⟩ (.slice ao5 (n+1) c5):=⟨_,rfl⟩;have h2:=HE.out.2.1;have hm4:=HE.out.2.2.1;have ho4:=HE.out.2.2.2;rw[<-hw4]at h2 hm4 |-;have hm2:(ms++[(⟨x,.slice none 0 0⟩:NdM)])[p]? =some m:=by rw[List.getElem?_append_left (a3r Hm.out.1).1];exact Hm.out.1
  obtain ⟨g,c',hnv,hg,hat,hgf⟩:=h2.nr.at hm2;injection hnv with hnv1 hnv2 hnv3
  subst hnv1;have hP:=h2.nr.each m (List.mem_of_getElem? hm2);obtain ⟨ka,q,kc,hmk⟩:∃a n c,m.kv= .slice a n c:=by obtain ⟨a,c,h⟩:=(aB4 hP.row:∃a c,m.kv= .slice a m.nd.kids.length c);exact ⟨a,_,c,h⟩
  have hq:q=m.nd.kids.length:=by
   have:=hP.row;rw[hmk]at this;exact (aQb this)
  obtain ⟨N,hN⟩:∃N,N=n+1:=⟨_,rfl⟩;have hc5:=hat.c5;rw[hmk]at hc5;have hblk2:=h2.blk;rw[<-hN]at hblk2 h2 ho4 hg |-;have z0:=aAa hblk2 0;simp at z0;have hpn:p<n:=by rw[Hn.out];exact (a3r Hm.out.1).1
  have bi:(p:Int)<(N:Int):=by omega
  have Hown2:=hid (fun ob=>show ((w4.alloc ob).drew).ownsRow 0 3 1 (.slice ka q kc) q (m.nd.kids.flatMap aA4) from by
   have:=hP.row;rw[hmk,<-hq]at this;exact World.ownsRow.alloc (w:=w4) this ob)
  have Hend2:=hid (fun ob ao6 c6 (w6:World) (a1:w6.ownsRow 0 3 1 (.slice ao6 (q+1) c6) (q+1) (m.nd.kids.flatMap aA4++[.int .i64 (n:Int)])) (a2:((w4.alloc ob).drew).grownBy w6 (Value.slice ka q kc).ownBlock)
   (a3:∀g,(Value.slice ao6 (q+1) c6).ownBlock=some g->(Value.slice ka q kc).ownBlock=some g\/((w4.alloc ob).drew).heap.size<=g)=>a2c h2 hm2 hg hq (by have:=Hm.out.2;omega) (((a3l w4.heap.size w4).alloc (a3k _) ob).drew) a1 (by rw[hmk];exact a2) (by rw[hmk];exact a3))
  have Hql:=hid (show q<=2000000 by have:=Hm.out.2;omega);have Hg2:=hid (And.intro z0 hc5);have Hgf:=hid hgf;have Hm4:=hid (And.intro hm4 (And.intro ho4 hm2));clear HE hw4 h2 hm4 ho4 hm2 hnv2 hnv3 hg hat hgf hP hmk hq hc5 hblk2 z0 hN Hg Hgb Hgn Hga hpn;have Hg:=Hg2;clear Hg2;refine aCl (fun w'=>w'.cell? ⟨rb,0,none⟩=some (.slice (some ⟨g,0,none⟩) N c5)/\w'.cell? ⟨g,p*6+5,none⟩=some (.slice ka q kc)) (fun i=>decide (i<16)) (by kernel_rfl) ?_
  have hS:w4.drew.cell? ⟨rb,0,none⟩=some (.slice (some ⟨g,0,none⟩) N c5)/\w4.drew.cell? ⟨g,p*6+5,none⟩=some (.slice ka q kc):=Hg.out;refine wK (i:=0) (v:= ?_) rfl (by kernel_rfl) (fun _ _ _ h=>h) (by rfl) ?_ hS ?_;rotate_left
  ·intro w' hSw;obtain ⟨s1,s2⟩:=hSw;go_simp
   try with_reducible rfl
  simp only[Act.put,sA,sZ,sS];refine wK (i:=1) (v:= ?_) rfl (by kernel_rfl) (fun _ _ _ h=>h) (by rfl) ?_ hS ?_;rotate_left
  ·intro w' hSw;obtain ⟨s1,s2⟩:=hSw;go_simp
   try with_reducible rfl
  simp only[Act.put,sA,sZ,sS];refine wK (i:=2) (v:= ?_) rfl (by kernel_rfl) (fun _ _ _ h=>h) (by rfl) ?_ hS ?_;rotate_left
  ·intro w' hSw;obtain ⟨s1,s2⟩:=hSw;go_simp
   try with_reducible rfl
  simp only[Act.put,sA,sZ,sS];refine wK (i:=3) (v:= ?_) rfl (by kernel_rfl) (fun _ _ _ h=>h) (by rfl) ?_ hS ?_;rotate_left
  ·intro w' hSw;obtain ⟨s1,s2⟩:=hSw;go_simp
   try with_reducible rfl
  simp only[Act.put,sA,sZ,sS];refine wK (i:=4) (v:= ?_) rfl (by kernel_rfl) (fun _ _ _ h=>h) (by rfl) ?_ hS ?_;rotate_left
  ·intro w' hSw;obtain ⟨s1,s2⟩:=hSw;go_simp
   try with_reducible rfl
  simp only[Act.put,sA,sZ,sS];refine wK (i:=5) (v:= ?_) rfl (by kernel_rfl) (fun _ _ _ h=>h) (by rfl) ?_ hS ?_;rotate_left
  ·intro w' hSw;obtain ⟨s1,s2⟩:=hSw;go_simp
   try with_reducible rfl
  simp only[Act.put,sA,sZ,sS];refine wK (i:=6) (v:= ?_) rfl (by kernel_rfl) (fun _ _ _ h=>h) (by rfl) ?_ hS ?_;rotate_left
  ·intro w' hSw;obtain ⟨s1,s2⟩:=hSw;go_simp
   try with_reducible rfl
  simp only[Act.put,sA,sZ,sS];refine wK (i:=7) (v:= ?_) rfl (by kernel_rfl) (fun _ _ _ h=>h) (by rfl) ?_ hS ?_;rotate_left
  ·intro w' hSw;obtain ⟨s1,s2⟩:=hSw;go_simp
   try with_reducible rfl
  simp only[Act.put,sA,sZ,sS];refine wK (i:=8) (v:= ?_) rfl (by kernel_rfl) (fun _ _ _ h=>h) (by rfl) ?_ hS ?_;rotate_left
  ·intro w' hSw;obtain ⟨s1,s2⟩:=hSw;go_simp
   try with_reducible rfl
  simp only[Act.put,sA,sZ,sS];refine wK (i:=9) (v:= ?_) rfl (by kernel_rfl) (fun _ _ _ h=>h) (by rfl) ?_ hS ?_;rotate_left
  ·intro w' hSw;obtain ⟨s1,s2⟩:=hSw;go_simp
   try with_reducible rfl
  simp only[Act.put,sA,sZ,sS];refine wK (i:=10) (v:= ?_) rfl (by kernel_rfl) (fun _ _ _ h=>h) (by rfl) ?_ hS ?_;rotate_left
  ·intro w' hSw;obtain ⟨s1,s2⟩:=hSw;go_simp
   try with_reducible rfl
  simp only[Act.put,sA,sZ,sS];refine wK (i:=11) (v:= ?_) rfl (by kernel_rfl) (fun _ _ _ h=>h) (by rfl) ?_ hS ?_;rotate_left
  ·intro w' hSw;obtain ⟨s1,s2⟩:=hSw;go_simp
   try with_reducible rfl
  simp only[Act.put,sA,sZ,sS];refine wK (i:=12) (v:= ?_) rfl (by kernel_rfl) (fun _ _ _ h=>h) (by rfl) ?_ hS ?_;rotate_left
  ·intro w' hSw;obtain ⟨s1,s2⟩:=hSw;go_simp
   try with_reducible rfl
  simp only[Act.put,sA,sZ,sS];refine wK (i:=13) (v:= ?_) rfl (by kernel_rfl) (fun _ _ _ h=>h) (by rfl) ?_ hS ?_;rotate_left
  ·intro w' hSw;obtain ⟨s1,s2⟩:=hSw;go_simp
   try with_reducible rfl
  simp only[Act.put,sA,sZ,sS];refine aAj (i:=14) (by kernel_rfl) rfl (fun K hK=> ?_);go_simp;refine hK.out _ _ (fun _=>⟨aBb ((a3l w4.drew.heap.size w4.drew).alloc (a3k _) _) hS.1,aBb ((a3l w4.drew.heap.size w4.drew).alloc (a3k _) _) hS.2⟩) ?_;clear hK K
  try simp only[Act.put,sA,sZ,sS]
  refine aAj (i:=15) (by kernel_rfl) rfl (fun K hK=> ?_);refine aGi 3 53 (.int .i64 0) 1 8 Tryz.underlying53 aFg rfl (by decide) (by decide) rfl _ _ rfl (.slice ka q kc) q (m.nd.kids.flatMap aA4) rfl (Hown2.out _) w4.heap.size #[.int .i64 (n:Int)] [.int .i64 (n:Int)] rfl (aAc (w:=w4) _) rfl rfl aOm Hql.out (q+1) rfl ?_;intro ao6 c6 w6 own2 gr2 new2
  have HE2:=hid (Hend2.out _ _ _ _ own2 gr2 new2);have q1:=aD6 HE2.out.2.2.1 Hg.out.2;have q2:=aF0 HE2.out.2.2.1 (Hgf.out (p*6+5));have q3:=aD6 HE2.out.2.1 Hg.out.1;refine hK.out _ _ (fun _=>⟨q3,q1⟩) ?_;clear hK K own2 gr2 new2 Hown2 Hend2 hS
  try simp only[Act.put,sA,sZ,sS]
  refine aAj (i:=16) (by kernel_rfl) rfl (fun K hK=> ?_);go_simp;refine hK.out _ _ (fun h=>absurd h (by decide)) ?_;clear hK K;refine aAj (i:=17) (by kernel_rfl) rfl (fun K hK=> ?_);go_simp;refine hK.out _ _ (fun h=>absurd h (by decide)) ?_;clear hK K;refine aAj (i:=18) (by kernel_rfl) rfl (fun K hK=> ?_);go_simp;refine hK.out _ _ (fun h=>absurd h (by decide)) ?_;clear hK K;refine aCk (by kernel_rfl) ?_ _
  clear q1 q2 q3;go_wp2;refine bodyPost_ret (results_tmp (t:=6) rfl _ _ _) rfl ⟨rfl,?_⟩;have hnn:(nds ms).length=n:=by rw[aA5,Hn.out]
  refine ⟨_,_,HE2.out.2.2.2.1,?_,((Mod.ofBelow (F:=RdF rb (.slice ao n c) ms) Hba.out (fun b hb hge=>by omega)).trans' (Hm4.out.1.trans' HE2.out.2.2.2.2.1 (fun i hi qq=> ?_)) (fun _ _ q=>q)),fun g hg=> ?_⟩
  ·rw[aI4 Hm4.out.2.2,aLh];unfold layN;rw[hnn]
  ·rcases qq with qq|qq
   ·exact .inl qq
   ·rcases Hm4.out.2.1 i qq with qq|qq
    ·exact .inr qq
    ·omega
  ·rcases HE2.out.2.2.2.2.2 g hg with qq|qq
   ·rcases Hm4.out.2.1 g qq with qq|qq
    ·exact .inl qq
    ·exact .inr (a3o Hba.out.size qq)
   ·exact .inr (a3o Hba.out.size (a3o Hm4.out.1.size qq))
