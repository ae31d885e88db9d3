/-
Parts of a proof.
-/
import Derived.Test.YtfenoaeoedobmaaGreatDoorOw30
set_option linter.unusedVariables false
set_option linter.unusedSimpArgs false
set_option maxHeartbeats 8000000
set_option maxRecDepth 20000
namespace Go.Proofs.YtfenoaeoedobmaaGreatDoor
open Go Go.RowKit
inductive Fo where
 |nil:Fo
 |sc (key text:ByteArray) (q:Bool) (next:Fo):Fo
 |br (kind:Int) (key:ByteArray) (kids next:Fo):Fo
namespace Fo
def size:Fo->Nat
 |nil=>0
 |sc _ _ _ nx=>1+nx.size
 |br _ _ kids nx=>1+kids.size+nx.size
def depth:Fo->Nat
 |nil=>0
 |sc _ _ _ nx=>max 1 nx.depth
 |br _ _ kids nx=>max (1+kids.depth) nx.depth
def heads:Fo->Nat->List Int
 |nil,_=>[]
 |sc _ _ _ nx,i=>(i:Int)::nx.heads (i+1)
 |br _ _ kids nx,i=>(i:Int)::nx.heads (i+1+kids.size)
def flat:Fo->Nat->List Nd
 |nil,_=>[]
 |sc key text q nx,i=>⟨1,key,text,q,0,[]⟩::nx.flat (i+1)
 |br kind key kids nx,i=>⟨kind,key,⟨#[]⟩,false,0,kids.heads (i+1)⟩::(kids.flat (i+1)++nx.flat (i+1+kids.size))
def keys:Fo->List ByteArray
 |nil=>[]
 |sc key _ _ nx=>key::nx.keys
 |br _ key _ nx=>key::nx.keys
theorem size_nil:Fo.nil.size=0:=rfl
theorem size_sc (key text:ByteArray) (q:Bool) (nx:Fo):(sc key text q nx).size=1+nx.size:=rfl
theorem size_br (kind:Int) (key:ByteArray) (kids nx:Fo):(br kind key kids nx).size=1+kids.size+nx.size:=rfl
theorem depth_sc (key text:ByteArray) (q:Bool) (nx:Fo):(sc key text q nx).depth=max 1 nx.depth:=rfl
theorem depth_br (kind:Int) (key:ByteArray) (kids nx:Fo):(br kind key kids nx).depth=max (1+kids.depth) nx.depth:=rfl
theorem heads_sc (key text:ByteArray) (q:Bool) (nx:Fo) (i:Nat):(sc key text q nx).heads i=(i:Int)::nx.heads (i+1):=rfl
theorem heads_br (kind:Int) (key:ByteArray) (kids nx:Fo) (i:Nat):(br kind key kids nx).heads i=(i:Int)::nx.heads (i+1+kids.size):=rfl
theorem flat_sc (key text:ByteArray) (q:Bool) (nx:Fo) (i:Nat):(sc key text q nx).flat i=⟨1,key,text,q,0,[]⟩::nx.flat (i+1):=rfl
theorem flat_br (kind:Int) (key:ByteArray) (kids nx:Fo) (i:Nat):(br kind key kids nx).flat i=⟨kind,key,⟨#[]⟩,false,0,kids.heads (i+1)⟩::(kids.flat (i+1)++nx.flat (i+1+kids.size)):=rfl
theorem flat_len:∀(F:Fo) (i:Nat),(F.flat i).length=F.size
 |nil,_=>rfl
 |sc _ _ _ nx,i=>by unfold flat;rw[aAd,flat_len nx,size_sc];omega
 |br _ _ kids nx,i=>by unfold flat;rw[aAd,aAc,flat_len kids,flat_len nx,size_br];omega
def At (ns:List Nd) (F:Fo) (i:Nat):Prop:=∃a b,ns=a++(F.flat i++b)/\a.length=i
theorem At.head_sc {ns:List Nd} {key text:ByteArray} {q:Bool} {nx:Fo} {i:Nat} (h:At ns (sc key text q nx) i):ns[i]? =some ⟨1,key,text,q,0,[]⟩/\At ns nx (i+1):=by
 obtain ⟨a,b,rfl,rfl⟩:=h;unfold flat;refine ⟨by simp,a++[⟨1,key,text,q,0,[]⟩],b,by simp,by simp⟩
theorem At.head_br {ns:List Nd} {kind:Int} {key:ByteArray} {kids nx:Fo} {i:Nat} (h:At ns (br kind key kids nx) i):ns[i]? =some ⟨kind,key,⟨#[]⟩,false,0,kids.heads (i+1)⟩/\At ns kids (i+1)/\At ns nx (i+1+kids.size):=by
 obtain ⟨a,b,rfl,rfl⟩:=h;unfold flat;refine ⟨by simp,⟨a++[⟨kind,key,⟨#[]⟩,false,0,kids.heads (a.length+1)⟩],nx.flat (a.length+1+kids.size)++b,by simp,by simp⟩,⟨a++(⟨kind,key,⟨#[]⟩,false,0,kids.heads (a.length+1)⟩::kids.flat (a.length+1)),b,by simp,by simp[flat_len];omega⟩⟩
end Fo
theorem jA {ns:List Nd} {i:Nat} {x:Nd} (h:ns[i]? =some x):ns[i]! =x:=by
 rw[List.getElem!_eq_getElem?_getD,h];rfl
def AN (kind:Int) (key:ByteArray):Prop:=(kind=2->key.data.toList≠[]/\key.data.toList.length<=64/\key.data.toList.all cG=true)/\(kind=3->key=⟨#[]⟩)
def Lk (text:ByteArray) (q:Bool):Prop:=q=true\/fV text.data.toList=true
def Fo.Ok (kind:Int):Fo->Prop
 | .nil=>True
 | .sc key text q nx=>AN kind key/\Lk text q/\nx.Ok kind
 | .br kd key kids nx=>AN kind key/\(kd=2\/kd=3)/\kids≠ .nil/\kids.Ok kd/\(kd=2->kids.keys.Nodup)/\nx.Ok kind
theorem Fo.depth_pos {F:Fo} (h:F≠Fo.nil):1<=F.depth:=by
 cases F with
 |nil=>exact absurd rfl h
 |sc=>rw[Fo.depth_sc];omega
 |br=>rw[Fo.depth_br];omega
def Fo.doc (F:Fo):List Nd:=(Fo.br 2 ⟨#[]⟩ F .nil).flat 0
theorem Fo.doc_len (F:Fo):F.doc.length=F.size+1:=by unfold Fo.doc;rw[Fo.flat_len,Fo.size_br,Fo.size_nil];omega
theorem Fo.doc_at (F:Fo):Fo.At F.doc (Fo.br 2 ⟨#[]⟩ F .nil) 0:=⟨[],[],by simp[Fo.doc],rfl⟩
def cJ:List UInt8->List UInt8×List UInt8
 |[]=>([],[])
 |c::r=>if c=10 then ([],r) else (c::(cJ r).1,(cJ r).2)
def cl (ts:List Tok):Nat:=(ts.filter fun t=>t.kind==1).length
def kz:Nat->List UInt8->Nat->Nat->List Tok->Except (Nat×Nat×Int) (List Tok)
 |0,_,_,_,acc=> .ok acc
 |f+1,l,k,n,acc=>
  if l=[] then .ok acc
  else match du (cJ l).1 ((n+1:Nat):Int) with
   | .error c=> .error (k,n+1,c)
   | .ok ts=>kz f (cJ l).2 (k+cl ts) (n+1) (acc++ts)
def iB (l:List UInt8):Except (Nat×Nat×Int) (List Tok):=if 65536<l.length then .error (0,0,3) else kz (l.length+1) l 0 0 []
theorem iN:∀l:List UInt8,l≠[]->(cJ l).2.length<l.length
 |[],h=>absurd rfl h
 |c::r,_=>by
  unfold cJ
  split
  ·simp
  ·by_cases hr:r=[]
   ·subst hr;simp[cJ]
   ·have:=iN r hr;simp only[aAd];omega
theorem lG:∀l:List UInt8,(cJ l).1.length<=l.length
 |[]=>by simp[cJ]
 |c::r=>by
  have:=lG r;unfold cJ
  split
  ·simp
  ·simp only[aAd];omega
def okB (c:UInt8):Prop:=32<=c.toNat/\c.toNat≠127
theorem yY (l:List UInt8):(aL l).length<=l.length:=by
 induction l with
 |nil=>exact aAa _
 |cons c r ih=>
  unfold aL
  split
  ·exact Nat.zero_le _
  ·simp only[aAd];omega
theorem F0 (l:List UInt8):(aQ l).length<=l.length:=by
 induction l with
 |nil=>exact aAa _
 |cons c r ih=>
  unfold aQ
  split
  ·exact Nat.zero_le _
  ·simp only[aAd];omega
theorem B6 {t x:List UInt8} (h:eR t=some x):x.length<=t.length:=by
 unfold eR at h
 split at h
 ·cases h
 ·split at h
  ·cases h
  ·obtain rfl:=aAf h;exact aAe (yY _) (F0 _)
theorem wD {c:UInt8} (h:cG c=true) (n:Nat) (hn:n=34\/n=39\/n=35\/n=32\/n=10\/n<32\/n=127):c.toNat≠n:=by
 unfold cG at h;have:=of_decide_eq_true h;omega
structure KeyF (key:List UInt8):Prop where
 ne:key≠[]
 len:key.length<=64
 all:key.all cG=true
theorem KeyF.bytes {key:List UInt8} (h:KeyF key):∀c∈key,okB c:=by
 intro c hc;have:=wD (List.all_eq_true.1 h.all c hc);unfold okB;refine ⟨?_,this 127 (by omega)⟩;rcases Nat.lt_or_ge c.toNat 32 with q|q
 ·exact absurd rfl (this _ (by omega))
 ·exact q
theorem zU (a b:List Tok):cl (a++b)=cl a+cl b:=by unfold cl;rw[List.filter_append,aAc]
def Scan (a:List UInt8) (n:Nat) (ts:List Tok) (b:List UInt8) (m:Nat):Prop:=
 ∀f k acc,a.length<f->∃f',b.length<f'/\kz f a k n acc=kz f' b (k+cl ts) m (acc++ts)
theorem Scan.refl (a:List UInt8) (n:Nat):Scan a n [] a n:=fun f k acc h=>⟨f,h,by simp[cl]⟩
theorem Scan.trans {a b c:List UInt8} {n m p:Nat} {ts us:List Tok} (h:Scan a n ts b m) (g:Scan b m us c p):Scan a n (ts++us) c p:=by
 intro f k acc hf;obtain ⟨f1,h1,e1⟩:=h f k acc hf;obtain ⟨f2,h2,e2⟩:=g f1 (k+cl ts) (acc++ts) h1;exact ⟨f2,h2,by rw[e1,e2,zU,List.append_assoc,Nat.add_assoc]⟩
namespace Fo
def nl (kind:Int):Fo->Nat
 |nil=>0
 |sc _ _ _ nx=>1+nx.nl kind
 |br kd _ kids nx=>(if kind=2 then 1 else 0)+kids.nl kd+nx.nl kind
def tok (kind:Int) (n col:Nat):Fo->List Tok
 |nil=>[]
 |sc key text q nx=>
  (if kind=2 then [⟨3,n,col,key.data.toList,false⟩,⟨4,n,((col+key.data.toList.length+2:Nat):Int),text.data.toList,q⟩]
   else [⟨2,n,col,[],false⟩,⟨4,n,((col+2:Nat):Int),text.data.toList,q⟩])++nx.tok kind (n+1) col
 |br kd key kids nx=>
  (if kind=2 then ⟨3,n,col,key.data.toList,false⟩::kids.tok kd (n+1) (col+2) else ⟨2,n,col,[],false⟩::kids.tok kd n (col+2))++
   nx.tok kind (n+(if kind=2 then 1 else 0)+kids.nl kd) col
end Fo
theorem AN.f {key:ByteArray} (h:AN 2 key):KeyF key.data.toList:=⟨(h.1 rfl).1,(h.1 rfl).2.1,(h.1 rfl).2.2⟩
def er (n:Nd):Nd:={n with line:=0}
def cT (ns:List Nd) (i:Nat) (hs:List Int):List Nd:=match ns[i]? with|some x=>ns.set i {x with kids:=x.kids++hs}|none=>ns
theorem dZ {ns:List Nd} {i:Nat} {x:Nd} (h:ns[i]? =some x) (hs:List Int):cT ns i hs=ns.set i {x with kids:=x.kids++hs}:=by
 unfold cT;rw[h]
theorem fL (ns:List Nd) (i:Nat) (hs:List Int):(cT ns i hs).length=ns.length:=by
 unfold cT
 split
 ·rw[List.length_set]
 ·rfl
theorem tZ (ns:List Nd) (i:Nat):cT ns i []=ns:=by
 unfold cT
 split
 ·rename_i x h
  obtain ⟨hl,e⟩:=aAh h;rw[List.append_nil]
  show ns.set i x=ns
  rw[<-e,List.set_getElem_self]
 ·rfl
theorem qc (ns:List Nd) (i:Nat) (a b:List Int):cT (cT ns i a) i b=cT ns i (a++b):=by
 cases h:ns[i]? with
 |none=>
  have e:∀hs,cT ns i hs=ns:=fun hs=>by unfold cT;rw[h]
  rw[e,e,e]
 |some x=>
  have hl:=(aAh h).1;rw[dZ h a,dZ (x:={x with kids:=x.kids++a}) (by rw[List.getElem?_set_self hl]),dZ h];simp
theorem uc {ns:List Nd} {i:Nat} (hi:i<ns.length) (b:List Nd) (hs:List Int):cT (ns++b) i hs=cT ns i hs++b:=by
 have h:=aAg hi;rw[dZ h,dZ (x:=ns[i]) (by rw[List.getElem?_append_left hi];exact h),List.set_append_left _ _ hi]
theorem lx (ns:List Nd) (x:Nd) (hs:List Int):cT (ns++[x]) ns.length hs=ns++[{x with kids:=x.kids++hs}]:=by
 rw[dZ (x:=x) (by simp)];simp
namespace Fo
end Fo
structure DocG (F:Fo):Prop where
 ne:F≠ .nil
 ok:F.Ok 2
 nodup:F.keys.Nodup
 depth:F.depth<=15
 size:F.size<=4095
structure LF where
 f:Int->Int
 z:f 0=0
def lf (φ:LF) (n:Nd):Nd:={n with line:=φ.f n.line}
def kTrue:ByteArray:=⟨#[116,114,117,101]⟩
def aJ (key s:ByteArray) (nx:Fo):Fo:= .sc key s (!fV s.data.toList) nx
def dR:List ByteArray->Fo
 |[]=> .nil
 |e::r=>aJ ⟨#[]⟩ e (dR r)
def pU (wt:Nat->ByteArray) (t:Tgt):Fo:=
 if t.service≠⟨#[]⟩ then aJ bd t.service (aJ bD (wt t.weight) .nil) else aJ aU t.split (aJ bD (wt t.weight) .nil)
def gF (wt:Nat->ByteArray):List Tgt->Fo
 |[]=> .nil
 |t::r=> .br 2 ⟨#[]⟩ (pU wt t) (gF wt r)
def pV (act:Bool) (x:Rul):Fo:=
 if act=true then aJ cm (if x.allow=true then kAllow else kDeny) (aJ bV x.path (aJ bA x.method .nil))
 else aJ bV x.path (aJ bA x.method (aJ aU x.split .nil))
def cZ (act:Bool):List Rul->Fo
 |[]=> .nil
 |t::r=> .br 2 ⟨#[]⟩ (pV act t) (cZ act r)
def kf (k:Int):ByteArray:=if k=1 then fK else if k=2 then mj else if k=3 then ml else jW
def ij (wt:Nat->ByteArray) (r:Res):Fo:=
 if r.del=true then aJ bu kTrue .nil
 else if r.kind=1 then (if r.endps=[] then .nil else .br 3 bn (dR r.endps) .nil)
 else if r.kind=2 then .br 3 cq (gF wt r.targets) .nil
 else if r.kind=3 then aJ fM r.host (.br 3 bX (cZ false r.rules) .nil)
 else aJ ed r.route (.br 3 bX (cZ true r.rules) .nil)
def tD (wt:Nat->ByteArray) (r:Res):Fo:=aJ kKind (kf r.kind) (aJ bB r.name (ij wt r))
def jn (wt:Nat->ByteArray) (r:Res):List Nd:=if r.kind<1\/4<r.kind then [] else (tD wt r).doc
namespace Fo
def app:Fo->Fo->Fo
 |nil,G=>G
 |sc key text q nx,G=>sc key text q (nx.app G)
 |br kind key kids nx,G=>br kind key kids (nx.app G)
theorem app_size:∀F G:Fo,(F.app G).size=F.size+G.size
 |nil,G=>by unfold app;rw[size_nil];omega
 |sc key text q nx,G=>by unfold app;rw[size_sc,size_sc,app_size nx];omega
 |br kind key kids nx,G=>by unfold app;rw[size_br,size_br,app_size nx];omega
theorem app_heads:∀(F G:Fo) (i:Nat),(F.app G).heads i=F.heads i++G.heads (i+F.size)
 |nil,G,i=>rfl
 |sc key text q nx,G,i=>by unfold app;rw[heads_sc,heads_sc,app_heads nx,size_sc,Nat.add_assoc];rfl
 |br kind key kids nx,G,i=>by unfold app;rw[heads_br,heads_br,app_heads nx,size_br,show i+(1+kids.size+nx.size)=i+1+kids.size+nx.size by omega];rfl
theorem app_flat:∀(F G:Fo) (i:Nat),(F.app G).flat i=F.flat i++G.flat (i+F.size)
 |nil,G,i=>rfl
 |sc key text q nx,G,i=>by unfold app;rw[flat_sc,flat_sc,app_flat nx,size_sc,Nat.add_assoc];rfl
 |br kind key kids nx,G,i=>by unfold app;rw[flat_br,flat_br,app_flat nx,size_br,show i+(1+kids.size+nx.size)=i+1+kids.size+nx.size by omega];simp
end Fo
def aI (ns:List Nd) (p:Nat) (F:Fo):List Nd:=cT ns p (F.heads ns.length)++F.flat ns.length
theorem aY (ns:List Nd) (p:Nat) (F:Fo):(aI ns p F).length=ns.length+F.size:=by
 unfold aI;rw[aAc,fL,Fo.flat_len]
theorem iP (ns:List Nd) (p:Nat):aI ns p .nil=ns:=by
 unfold aI Fo.heads Fo.flat;rw[tZ,List.append_nil]
theorem cE {ns:List Nd} {p:Nat} (hp:p<ns.length) (F G:Fo):aI (aI ns p F) p G=aI ns p (F.app G):=by
 unfold aI;rw[Fo.app_heads,Fo.app_flat,aAc,fL,Fo.flat_len,uc (by rw[fL];exact hp),qc,List.append_assoc]
theorem gX {ns:List Nd} {p:Nat} (hp:p<ns.length) (kind:Int) (key:ByteArray) (K:Fo):aI (aI ns p (.br kind key .nil .nil)) ns.length K=aI ns p (.br kind key K .nil):=by
 unfold aI;simp only[Fo.heads_br,Fo.flat_br,Fo.heads,Fo.flat,List.append_nil,aAc,aAd,List.length_nil,fL];have h:=lx (cT ns p [(ns.length:Int)]) ⟨kind,key,⟨#[]⟩,false,0,[]⟩ (K.heads (ns.length+1));rw[fL]at h;rw[show ns.length+(0+1)=ns.length+1 by omega,h];simp
theorem jb (F:Fo):aI [⟨2,⟨#[]⟩,⟨#[]⟩,false,0,[]⟩] 0 F=F.doc:=by
 unfold aI Fo.doc;have h:=lx [] ⟨2,⟨#[]⟩,⟨#[]⟩,false,0,[]⟩ (F.heads 1);rw[Fo.flat_br]
 show cT ([]++[⟨2,⟨#[]⟩,⟨#[]⟩,false,0,[]⟩]) ([]:List Nd).length (F.heads 1)++F.flat 1=_
 rw[h];simp[Fo.flat]
theorem CS:AN 3 ⟨#[]⟩:=⟨fun h=>absurd h (by decide),fun _=>rfl⟩
abbrev Ll:=NRowM 1048576
structure WrS (w0 w:World) (rb:Nat) (nv:Value) (ms:List NdM):Prop where
 below:Below w0.heap.size w0 w
 rge:w0.heap.size<=rb
 blk:w.heap[rb]? =some (.cells #[nv] 127 (0,0))
 nr:Ll w0 w rb nv ms
theorem WrS.later {w0 w w2:World} {rb:Nat} {nv:Value} {ms:List NdM} (h:WrS w0 w rb nv ms) (hb:Below w.heap.size w w2):WrS w0 w2 rb nv ms:=
 ⟨h.below.trans (hb.mono h.below.size),h.rge,(hb.block rb (ag h.blk)).trans h.blk,h.nr.later hb⟩
theorem WrS.rd_lt {w0 w:World} {rb:Nat} {nv:Value} {ms:List NdM} (h:WrS w0 w rb nv ms) {g:Nat} (hg:RdF rb nv ms g):w0.heap.size<=g/\g<w.heap.size:=by
 rcases hg with rfl|hg
 ·exact ⟨h.rge,ag h.blk⟩
 ·have:=h.nr.own_lt hg;exact ⟨this.1,this.2.1⟩
def gg (w0 w:World) (rb:Nat) (nv:Value) (ms:List NdM) (ns2:List Nd) (w':World):Prop:=
 ∃nv2 ms2,WrS w0 w' rb nv2 ms2/\nds ms2=ns2/\Mod (RdF rb nv ms) w w'/\∀g,nOwn nv2 ms2 g->nOwn nv ms g\/w.heap.size<=g
theorem Fv {w0 w w1 w5:World} {rb n:Nat} {ao ao5:Option Addr} {c c5:Nat} {ms:List NdM} {x:Nd} (h:WrS w0 w rb (.slice ao ms.length c) ms) (hn:n=ms.length) (hx:x.kids=[]) (hk:I64 x.kind) (hl:I64 x.line) (ht:x.text.size<=1048576) (hkey:x.key.size<=1048576) (hlen:n<1048576)
 (hb1:Below w.heap.size w w1) (own2:w5.ownsRow 0 55 6 (.slice ao5 (n+1) c5) (n+1) (ms.flatMap NdM.cells++NdM.cells ⟨x,.slice none 0 0⟩)) (gr2:w1.grownBy w5 (Value.slice ao n c).ownBlock)
 (new2:∀g,(Value.slice ao5 (n+1) c5).ownBlock=some g->(Value.slice ao n c).ownBlock=some g\/w1.heap.size<=g):
 w5.heap[rb]? =some (.cells #[.slice ao n c] 127 (0,0))/\
 WrS w0 (w5.setCell ⟨rb,0,none⟩ (.slice ao5 (n+1) c5)) rb (.slice ao5 (n+1) c5) (ms++[⟨x,.slice none 0 0⟩])/\
 Mod (RdF rb (.slice ao n c) ms) w (w5.setCell ⟨rb,0,none⟩ (.slice ao5 (n+1) c5))/\
 ∀g,nOwn (.slice ao5 (n+1) c5) (ms++[⟨x,.slice none 0 0⟩]) g->nOwn (.slice ao n c) ms g\/w.heap.size<=g:=by
 subst hn;have h1:=h.later hb1;obtain ⟨hnr,hno⟩:=h.nr.app (x:=x) h.below.size hb1 (ag h.blk) hx hk hl ht hkey hlen own2 gr2 new2;have hM:Mod (fun b=>(Value.slice ao ms.length c).ownBlock=some b) w1 w5:=(Mod.refl _ _).grown gr2 (fun b e _=>e);have hblk:w5.heap[rb]? =some (.cells #[.slice ao ms.length c] 127 (0,0)):=hM.heap h1.blk (fun e=>(h.nr.new rb e).2 rfl);have hS:Mod (fun b=>b=rb) w5 (w5.setCell ⟨rb,0,none⟩ (.slice ao5 (ms.length+1) c5)):=(Mod.refl _ _).setCell _ _ (fun _=>rfl)
 have hW:Mod (RdF rb (.slice ao ms.length c) ms) w (w5.setCell ⟨rb,0,none⟩ (.slice ao5 (ms.length+1) c5)):=
  ((Mod.ofBelow (F:=RdF rb (.slice ao ms.length c) ms) hb1 (fun b hb hge=>by omega)).trans' hM (fun i hi q=> .inr (.inl q))).trans' hS (fun i hi q=> .inl q)
 refine ⟨hblk,⟨h.below.trans (hW.below h.below.size (fun b hb=>(h.rd_lt hb).1)),h.rge,aE hblk 0 _,hnr.mod hS (fun g hg e=>(hnr.own_lt hg).2.2 e)⟩,hW,fun g hg=> ?_⟩;rcases hno g hg with q|q
 ·exact .inl q
 ·exact .inr (aAe hb1.size q)
theorem Fu {w0 w w1 w5:World} {rb i kid q g:Nat} {nv:Value} {ao5:Option Addr} {c5:Nat} {ms:List NdM} {m:NdM} (h:WrS w0 w rb nv ms) (hi:ms[i]? =some m) (hg:nv.ownBlock=some g) (hq:q=m.nd.kids.length) (hql:q<1048576)
 (hb1:Below w.heap.size w w1) (own2:w5.ownsRow 0 3 1 (.slice ao5 (q+1) c5) (q+1) (m.nd.kids.flatMap aP++[.int .i64 (kid:Int)])) (gr2:w1.grownBy w5 m.kv.ownBlock)
 (new2:∀g,(Value.slice ao5 (q+1) c5).ownBlock=some g->m.kv.ownBlock=some g\/w1.heap.size<=g):
 Mod (RdF rb nv ms) w w5/\w5.heap[rb]? =w.heap[rb]? /\w5.heap[g]? =w.heap[g]? /\
 WrS w0 (w5.setCell ⟨g,i*6+5,none⟩ (.slice ao5 (q+1) c5)) rb nv (ms.set i ⟨{m.nd with kids:=m.nd.kids++[(kid:Int)]},.slice ao5 (q+1) c5⟩)/\
 Mod (RdF rb nv ms) w (w5.setCell ⟨g,i*6+5,none⟩ (.slice ao5 (q+1) c5))/\
 ∀b,nOwn nv (ms.set i ⟨{m.nd with kids:=m.nd.kids++[(kid:Int)]},.slice ao5 (q+1) c5⟩) b->nOwn nv ms b\/w.heap.size<=b:=by
 subst hq;have h1:=h.later hb1;have hmm:=List.mem_of_getElem? hi;have hP:=h1.nr.each m hmm;have hM:Mod (fun b=>m.kv.ownBlock=some b) w1 w5:=(Mod.refl _ _).grown gr2 (fun b e _=>e);have hrb:w5.heap[rb]? =w1.heap[rb]? :=hM.block rb (ag h1.blk) (fun e=>(h.nr.kid m hmm rb e).2 rfl);have hgb:w5.heap[g]? =w1.heap[g]? :=hM.block g (h1.nr.row.lt g hg).2 (fun e=>(h.nr.kid m hmm g e).1 hg);have hW:Mod (RdF rb nv ms) w w5:=(Mod.ofBelow (F:=RdF rb nv ms) hb1 (fun b hb hge=>by omega)).trans' hM (fun b hb q=> .inr (.inr ⟨m,hmm,q⟩))
 have hS:Mod (fun b=>b=g) w5 (w5.setCell ⟨g,i*6+5,none⟩ (.slice ao5 (m.nd.kids.length+1) c5)):=(Mod.refl _ _).setCell _ _ (fun _=>rfl);have hW2:Mod (RdF rb nv ms) w (w5.setCell ⟨g,i*6+5,none⟩ (.slice ao5 (m.nd.kids.length+1) c5)):=hW.trans' hS (fun b hb q=> .inr (.inl (by rw[q];exact hg)));have hgr:g≠rb:=(h.nr.new g hg).2;have hP5:NdP w5 w0.heap.size ⟨{m.nd with kids:=m.nd.kids++[(kid:Int)]},.slice ao5 (m.nd.kids.length+1) c5⟩:=by
  refine ⟨?_,fun b hb=> ?_,hP.kind,hP.line,hP.text,hP.key,?_⟩
  ·show w5.ownsRow 0 3 1 (.slice ao5 (m.nd.kids.length+1) c5) (m.nd.kids++[(kid:Int)]).length ((m.nd.kids++[(kid:Int)]).flatMap aP)
   rw[aAc,List.flatMap_append,List.flatMap_singleton];exact own2
  ·rcases new2 b hb with q|q
   ·exact hP.fresh b q
   ·exact aAe h1.below.size q
  ·show (m.nd.kids++[(kid:Int)]).length<=1048576
   rw[aAc];simp;omega
 have hN:=NRowM.kids (m':=⟨{m.nd with kids:=m.nd.kids++[(kid:Int)]},.slice ao5 (m.nd.kids.length+1) c5⟩) h1.nr h1.below.size (ag h1.blk) hi hg hM rfl hP5 new2;refine ⟨hW,hrb.trans (hb1.block _ (ag h.blk)),hgb.trans (hb1.block _ (h.nr.row.lt g hg).2),⟨h.below.trans (hW2.below h.below.size (fun b hb=>(h.rd_lt hb).1)),h.rge,?_,hN⟩,hW2,fun b hb=> ?_⟩
 ·rw[hS.block rb (Nat.lt_of_lt_of_le (ag h1.blk) hM.size) (fun e=>hgr e.symm),hrb];exact h1.blk
 ·rcases hb with hb|⟨x,hx,hb⟩
  ·exact .inl (.inl hb)
  ·rcases List.mem_or_eq_of_mem_set hx with hx|rfl
   ·exact .inl (.inr ⟨x,hx,hb⟩)
   ·rcases new2 b hb with q|q
    ·exact .inl (.inr ⟨m,hmm,q⟩)
    ·exact .inr (aAe hb1.size q)
theorem gg.trans {w0 w w1 w2:World} {rb:Nat} {nv nv1:Value} {ms ms1:List NdM} {ns2:List Nd} (hs:w.heap.size<=w1.heap.size) (h1:Mod (RdF rb nv ms) w w1) (o1:∀g,nOwn nv1 ms1 g->nOwn nv ms g\/w.heap.size<=g) (h:gg w0 w1 rb nv1 ms1 ns2 w2):gg w0 w rb nv ms ns2 w2:=by
 obtain ⟨nv2,ms2,a,b,c,d⟩:=h;exact ⟨nv2,ms2,a,b,l9 (w0:=w0) h1 o1 c,qI hs o1 d⟩
theorem tz {w:World} {B e sz n:Nat} {a:Option Addr} {k c:Nat} {xs:List Value} (h:w.ownsRow B e sz (.slice a k c) n xs):k=n:=by
 rcases h.2 with ⟨hv,hn⟩|⟨g,cap,cur,hv,-,-,hc,-⟩
 ·cases hv;omega
 ·cases hv;rfl
def Ac (ns:List Nd) (p:Option Nat) (x:Nd):List Nd:=match p with|none=>ns++[x]|some p=>dh (ns++[x]) p ns.length
theorem x8 {ns:List Nd} {p:Nat} (hp:p<ns.length) (key text:ByteArray) (q:Bool):Ac ns (some p) ⟨1,key,text,q,0,[]⟩=aI ns p (.sc key text q .nil):=by
 show dh (ns++[_]) p ns.length=_
 unfold aI dh;rw[List.getElem?_append_left hp];obtain ⟨x,hx⟩:=au hp;rw[hx];simp only;rw[dZ hx,List.set_append_left _ _ hp];rfl
theorem x9 {ns:List Nd} {p:Nat} (hp:p<ns.length) (kind:Int) (key:ByteArray):Ac ns (some p) ⟨kind,key,⟨#[]⟩,false,0,[]⟩=aI ns p (.br kind key .nil .nil):=by
 show dh (ns++[_]) p ns.length=_
 unfold aI dh;rw[List.getElem?_append_left hp];obtain ⟨x,hx⟩:=au hp;rw[hx];simp only;rw[dZ hx,List.set_append_left _ _ hp];rfl
def zD (p:Option Nat):Int:=match p with|none=> -1|some p=>(p:Int)
theorem oU {w0 w:World} {rb:Nat} {nv:Value} {ms:List NdM} (h:WrS w0 w rb nv ms) (p:Option Nat) (hp:∀i,p=some i->∃m,ms[i]? =some m/\m.nd.kids.length<1048576) (x:Nd) (hx:x.kids=[]) (hxk:I64 x.kind) (hxl:I64 x.line) (hxt:x.text.size<=1048576) (hxe:x.key.size<=1048576) (hlen:ms.length<1048576):
 Calls Tryz.prog 110 #[.pointer (some ⟨rb,0,none⟩),.int .i64 (zD p),.agg #[.int .i64 x.kind,.string x.key,.string x.text,.bool x.quoted,.int .i64 x.line,.slice none 0 0]] w
  fun r w'=>r= .returned (.int .i64 (ms.length:Int))/\gg w0 w rb nv ms (Ac (nds ms) p x) w':=by
 obtain ⟨ao,c,rfl⟩:=h.nr.form;obtain ⟨n,hn⟩:=ex (ms.length);obtain ⟨gb,hgb⟩:=ex (w.heap.size);obtain ⟨wa,hwa⟩:=ex (w.alloc (.cells #[.int .i64 x.kind,.string x.key,.string x.text,.bool x.quoted,.int .i64 x.line,.slice none 0 0] 55));have hba:Below w.heap.size w wa:=by rw[hwa];exact (aAb _ _).alloc (aAa _) _
 have hsz:wa.heap.size=w.heap.size+1:=by rw[hwa];simp
 have hga:wa.heap[gb]? =some (.cells #[.int .i64 x.kind,.string x.key,.string x.text,.bool x.quoted,.int .i64 x.line,.slice none 0 0] 55 (0,0)):=by rw[hwa,hgb];exact ah _
 have hRa:=h.later hba;have hblk:=hRa.blk;rw[<-hn]at hblk;have y0:=af hblk 0;simp at y0;have Hg:=hid (And.intro y0 hga);have Hgb:=hid (show gb<wa.heap.size by omega);have Hgn:=hid (show (Value.slice ao n c).ownBlock≠some gb from fun e=>by
  have:=(h.nr.own_lt (g:=gb) (.inl (by rw[<-hn];exact e))).2.1;omega)
 have Hown:=hid (fun ob=>show ((wa.alloc ob).drew).ownsRow 0 55 6 (.slice ao n c) n (ms.flatMap NdM.cells) from by
  have:=hRa.nr.row;rw[hn];exact World.ownsRow.alloc (w:=wa) this ob)
 have Hend:=hid (fun ob ao5 c5 (w5:World) (a1:w5.ownsRow 0 55 6 (.slice ao5 (n+1) c5) (n+1) (ms.flatMap NdM.cells++NdM.cells ⟨x,.slice none 0 0⟩))
  (a2:((wa.alloc ob).drew).grownBy w5 (Value.slice ao n c).ownBlock) (a3:∀g,(Value.slice ao5 (n+1) c5).ownBlock=some g->(Value.slice ao n c).ownBlock=some g\/((wa.alloc ob).drew).heap.size<=g)=>Fv hRa hn hx hxk hxl hxt hxe (by omega) (((aAb wa.heap.size wa).alloc (aAa _) ob).drew) a1 a2 a3)
 have Hnl:=hid (show n<=2000000 by omega);have Hba:=hid hba;have Hsz:=hid hsz;have Hn:=hid hn;have Hp:=hid hp;have Hl:=hid hlen;have Hga:=hid hga;rw[<-hn];clear h hp hx hxk hxl hxt hxe hlen hba hga hRa hblk hsz hn;cases p with
 |none=>
  unfold zD;go_enter Tryz.func110,Tryz.ntmps110;go_upto_region 1 with (fail)
  rw[<-hwa,<-hgb];clear hwa hgb;go_upto_region 2 with (fail)
  refine dW (fun w'=>w'.cell? ⟨rb,0,none⟩=some (.slice ao n c)/\w'.heap[gb]? =some (.cells #[.int .i64 x.kind,.string x.key,.string x.text,.bool x.quoted,.int .i64 x.line,.slice none 0 0] 55 (0,0))) (fun i=>decide (i<8)) (by kernel_rfl) ?_;have hS:wa.drew.cell? ⟨rb,0,none⟩=some (.slice ao n c)/\wa.drew.heap[gb]? =some (.cells #[.int .i64 x.kind,.string x.key,.string x.text,.bool x.quoted,.int .i64 x.line,.slice none 0 0] 55 (0,0)):=Hg.o
  refine wL (i:=0) (v:= ?_) rfl ?_ hS ?_;rotate_left
  ·intro w' hSw;obtain ⟨s1,s2⟩:=hSw;obtain ⟨t0,t1,t2,t3,t4,t5⟩:=cB6 s2;simp at t0 t1 t2 t3 t4 t5;clear s2;go_simp
   try with_reducible rfl
  simp only[Act.put,sA,sZ,sS];refine wL (i:=1) (v:= ?_) rfl ?_ hS ?_;rotate_left
  ·intro w' hSw;obtain ⟨s1,s2⟩:=hSw;obtain ⟨t0,t1,t2,t3,t4,t5⟩:=cB6 s2;simp at t0 t1 t2 t3 t4 t5;clear s2;go_simp
   try with_reducible rfl
  simp only[Act.put,sA,sZ,sS];refine wL (i:=2) (v:= ?_) rfl ?_ hS ?_;rotate_left
  ·intro w' hSw;obtain ⟨s1,s2⟩:=hSw;obtain ⟨t0,t1,t2,t3,t4,t5⟩:=cB6 s2;simp at t0 t1 t2 t3 t4 t5;clear s2;go_simp
   try with_reducible rfl
  simp only[Act.put,sA,sZ,sS];refine wL (i:=3) (v:= ?_) rfl ?_ hS ?_;rotate_left
  ·intro w' hSw;obtain ⟨s1,s2⟩:=hSw;obtain ⟨t0,t1,t2,t3,t4,t5⟩:=cB6 s2;simp at t0 t1 t2 t3 t4 t5;clear s2;go_simp
   try with_reducible rfl
  simp only[Act.put,sA,sZ,sS];refine wL (i:=4) (v:= ?_) rfl ?_ hS ?_;rotate_left
  ·intro w' hSw;obtain ⟨s1,s2⟩:=hSw;obtain ⟨t0,t1,t2,t3,t4,t5⟩:=cB6 s2;simp at t0 t1 t2 t3 t4 t5;clear s2;go_simp
   try with_reducible rfl
  simp only[Act.put,sA,sZ,sS];refine wL (i:=5) (v:= ?_) rfl ?_ hS ?_;rotate_left
  ·intro w' hSw;obtain ⟨s1,s2⟩:=hSw;obtain ⟨t0,t1,t2,t3,t4,t5⟩:=cB6 s2;simp at t0 t1 t2 t3 t4 t5;clear s2;go_simp
   try with_reducible rfl
  simp only[Act.put,sA,sZ,sS];refine aK (i:=6) (by kernel_rfl) rfl (fun K hK=> ?_);go_simp;refine hK.out _ _ (fun _=>⟨bR ((aAb wa.drew.heap.size wa.drew).alloc (aAa _) _) hS.1,(aj _ (ag hS.2)).trans hS.2⟩) ?_;clear hK K
  try simp only[Act.put,sA,sZ,sS]
  refine aK (i:=7) (by kernel_rfl) rfl (fun K hK=> ?_);refine jo 55 33 (.agg #[.int .i64 0,.string ⟨#[]⟩,.string ⟨#[]⟩,.bool false,.int .i64 0,.slice none 0 0]) 6 80 Tryz.underlying33 iI rfl (by decide) (by decide) rfl _ _ rfl (.slice ao n c) n (ms.flatMap NdM.cells) rfl (Hown.o _) wa.heap.size #[.int .i64 x.kind,.string x.key,.string x.text,.bool x.quoted,.int .i64 x.line,.slice none 0 0] (NdM.cells ⟨x,.slice none 0 0⟩) rfl (ah (w:=wa) _) rfl rfl (oM _ rfl) Hnl.o (n+1) rfl ?_
  intro ao5 c5 w5 own2 gr2 new2;have HE:=hid (Hend.o _ _ _ _ own2 gr2 new2);have q1:=af HE.o.1 0;have qf:=ai HE.o.1 0;simp at q1;have q2:w5.heap[gb]? =_:=(gr2.block gb (Nat.lt_of_lt_of_le Hgb.o (by show wa.heap.size<=(wa.alloc _).heap.size;simp)) (fun e=>Hgn.o e.symm)).trans ((aj _ (ag hS.2)).trans hS.2);refine hK.out _ _ (fun _=>⟨q1,q2⟩) ?_;clear hK K own2 gr2 new2 Hown Hend hS
  try simp only[Act.put,sA,sZ,sS]
  refine aK (i:=8) (by kernel_rfl) rfl (fun K hK=> ?_);go_simp;refine hK.out _ _ (fun h=>absurd h (by decide)) ?_;clear hK K;refine aK (i:=9) (by kernel_rfl) rfl (fun K hK=> ?_);go_simp;refine hK.out _ _ (fun h=>absurd h (by decide)) ?_;clear hK K;refine aK (i:=10) (by kernel_rfl) rfl (fun K hK=> ?_);go_simp;refine hK.out _ _ (fun h=>absurd h (by decide)) ?_;clear hK K;refine dX (by kernel_rfl) ?_ _
  clear q1 q2 qf;go_wp2;refine bodyPost_ret (results_tmp (t:=6) rfl _ _ _) rfl ⟨rfl,?_⟩;refine ⟨_,_,HE.o.2.1,oL _ _,(Mod.ofBelow (F:=RdF rb (.slice ao n c) ms) Hba.o (fun b hb hge=>by omega)).trans HE.o.2.2.1,fun g hg=> ?_⟩;rcases HE.o.2.2.2 g hg with q|q
  ·exact .inl q
  ·exact .inr (aAe Hba.o.size q)
 |some p=>
  obtain ⟨m,hm,hmk⟩:=Hp.o p rfl;unfold zD;have bp:decide ((0:Int)<=(p:Int))=true:=dT (by omega);have bp2:(0:Int)<=(p:Int):=by omega
  have Hm:=hid (And.intro hm hmk);clear hm hmk;go_enter Tryz.func110,Tryz.ntmps110;go_upto_region 1 with (fail)
  rw[<-hwa,<-hgb];clear hwa hgb;go_upto_region 2 with (fail)
  refine dW (fun w'=>w'.cell? ⟨rb,0,none⟩=some (.slice ao n c)/\w'.heap[gb]? =some (.cells #[.int .i64 x.kind,.string x.key,.string x.text,.bool x.quoted,.int .i64 x.line,.slice none 0 0] 55 (0,0))) (fun i=>decide (i<8)) (by kernel_rfl) ?_;have hS:wa.drew.cell? ⟨rb,0,none⟩=some (.slice ao n c)/\wa.drew.heap[gb]? =some (.cells #[.int .i64 x.kind,.string x.key,.string x.text,.bool x.quoted,.int .i64 x.line,.slice none 0 0] 55 (0,0)):=Hg.o
  refine wL (i:=0) (v:= ?_) rfl ?_ hS ?_;rotate_left
  ·intro w' hSw;obtain ⟨s1,s2⟩:=hSw;obtain ⟨t0,t1,t2,t3,t4,t5⟩:=cB6 s2;simp at t0 t1 t2 t3 t4 t5;clear s2;go_simp
   try with_reducible rfl
  simp only[Act.put,sA,sZ,sS];refine wL (i:=1) (v:= ?_) rfl ?_ hS ?_;rotate_left
  ·intro w' hSw;obtain ⟨s1,s2⟩:=hSw;obtain ⟨t0,t1,t2,t3,t4,t5⟩:=cB6 s2;simp at t0 t1 t2 t3 t4 t5;clear s2;go_simp
   try with_reducible rfl
  simp only[Act.put,sA,sZ,sS];refine wL (i:=2) (v:= ?_) rfl ?_ hS ?_;rotate_left
  ·intro w' hSw;obtain ⟨s1,s2⟩:=hSw;obtain ⟨t0,t1,t2,t3,t4,t5⟩:=cB6 s2;simp at t0 t1 t2 t3 t4 t5;clear s2;go_simp
   try with_reducible rfl
  simp only[Act.put,sA,sZ,sS];refine wL (i:=3) (v:= ?_) rfl ?_ hS ?_;rotate_left
  ·intro w' hSw;obtain ⟨s1,s2⟩:=hSw;obtain ⟨t0,t1,t2,t3,t4,t5⟩:=cB6 s2;simp at t0 t1 t2 t3 t4 t5;clear s2;go_simp
   try with_reducible rfl
  simp only[Act.put,sA,sZ,sS];refine wL (i:=4) (v:= ?_) rfl ?_ hS ?_;rotate_left
  ·intro w' hSw;obtain ⟨s1,s2⟩:=hSw;obtain ⟨t0,t1,t2,t3,t4,t5⟩:=cB6 s2;simp at t0 t1 t2 t3 t4 t5;clear s2;go_simp
   try with_reducible rfl
  simp only[Act.put,sA,sZ,sS];refine wL (i:=5) (v:= ?_) rfl ?_ hS ?_;rotate_left
  ·intro w' hSw;obtain ⟨s1,s2⟩:=hSw;obtain ⟨t0,t1,t2,t3,t4,t5⟩:=cB6 s2;simp at t0 t1 t2 t3 t4 t5;clear s2;go_simp
   try with_reducible rfl
  simp only[Act.put,sA,sZ,sS];refine aK (i:=6) (by kernel_rfl) rfl (fun K hK=> ?_);go_simp;refine hK.out _ _ (fun _=>⟨bR ((aAb wa.drew.heap.size wa.drew).alloc (aAa _) _) hS.1,(aj _ (ag hS.2)).trans hS.2⟩) ?_;clear hK K
  try simp only[Act.put,sA,sZ,sS]
  refine aK (i:=7) (by kernel_rfl) rfl (fun K hK=> ?_);refine jo 55 33 (.agg #[.int .i64 0,.string ⟨#[]⟩,.string ⟨#[]⟩,.bool false,.int .i64 0,.slice none 0 0]) 6 80 Tryz.underlying33 iI rfl (by decide) (by decide) rfl _ _ rfl (.slice ao n c) n (ms.flatMap NdM.cells) rfl (Hown.o _) wa.heap.size #[.int .i64 x.kind,.string x.key,.string x.text,.bool x.quoted,.int .i64 x.line,.slice none 0 0] (NdM.cells ⟨x,.slice none 0 0⟩) rfl (ah (w:=wa) _) rfl rfl (oM _ rfl) Hnl.o (n+1) rfl ?_
  intro ao5 c5 w5 own2 gr2 new2;have HE:=hid (Hend.o _ _ _ _ own2 gr2 new2);have q1:=af HE.o.1 0;have qf:=ai HE.o.1 0;simp at q1;have q2:w5.heap[gb]? =_:=(gr2.block gb (Nat.lt_of_lt_of_le Hgb.o (by show wa.heap.size<=(wa.alloc _).heap.size;simp)) (fun e=>Hgn.o e.symm)).trans ((aj _ (ag hS.2)).trans hS.2);refine hK.out _ _ (fun _=>⟨q1,q2⟩) ?_;clear hK K own2 gr2 new2 Hown Hend hS
  try simp only[Act.put,sA,sZ,sS]
  refine aK (i:=8) (by kernel_rfl) rfl (fun K hK=> ?_);go_simp;refine hK.out _ _ (fun h=>absurd h (by decide)) ?_;clear hK K;refine aK (i:=9) (by kernel_rfl) rfl (fun K hK=> ?_);go_simp;refine hK.out _ _ (fun h=>absurd h (by decide)) ?_;clear hK K;refine aK (i:=10) (by kernel_rfl) rfl (fun K hK=> ?_);go_simp;refine hK.out _ _ (fun h=>absurd h (by decide)) ?_;clear hK K;refine dX (by kernel_rfl) ?_ _
  clear q1 q2 qf;go_upto_region 4 with (fail)
  obtain ⟨w4,hw4⟩:=ex (w5.setCell ⟨rb,0,none⟩ (.slice ao5 (n+1) c5));have h2:=HE.o.2.1;have hm4:=HE.o.2.2.1;have ho4:=HE.o.2.2.2;rw[<-hw4]at h2 hm4 |-;have hm2:(ms++[(⟨x,.slice none 0 0⟩:NdM)])[p]? =some m:=by rw[List.getElem?_append_left (aAh Hm.o.1).1];exact Hm.o.1
  obtain ⟨g,c',hnv,hg,hat,hgf⟩:=h2.nr.at hm2;injection hnv with hnv1 hnv2 hnv3
  subst hnv1;have hP:=h2.nr.each m (List.mem_of_getElem? hm2);obtain ⟨ka,q,kc,hmk⟩:∃a n c,m.kv= .slice a n c:=by obtain ⟨a,c,h⟩:=(cR hP.row:∃a c,m.kv= .slice a m.nd.kids.length c);exact ⟨a,_,c,h⟩
  have hq:q=m.nd.kids.length:=by
   have:=hP.row;rw[hmk]at this;exact (tz this)
  obtain ⟨N,hN⟩:=ex (n+1);have hc5:=hat.c5;rw[hmk]at hc5;have hblk2:=h2.blk;rw[<-hN]at hblk2 h2 ho4 hg |-;have z0:=af hblk2 0;simp at z0;have hpn:p<n:=by rw[Hn.o];exact (aAh Hm.o.1).1
  have bi:(p:Int)<(N:Int):=by omega
  have Hown2:=hid (fun ob=>show ((w4.alloc ob).drew).ownsRow 0 3 1 (.slice ka q kc) q (m.nd.kids.flatMap aP) from by
   have:=hP.row;rw[hmk,<-hq]at this;exact World.ownsRow.alloc (w:=w4) this ob)
  have Hend2:=hid (fun ob ao6 c6 (w6:World) (a1:w6.ownsRow 0 3 1 (.slice ao6 (q+1) c6) (q+1) (m.nd.kids.flatMap aP++[.int .i64 (n:Int)])) (a2:((w4.alloc ob).drew).grownBy w6 (Value.slice ka q kc).ownBlock)
   (a3:∀g,(Value.slice ao6 (q+1) c6).ownBlock=some g->(Value.slice ka q kc).ownBlock=some g\/((w4.alloc ob).drew).heap.size<=g)=>Fu h2 hm2 hg hq (by have:=Hm.o.2;omega) (((aAb w4.heap.size w4).alloc (aAa _) ob).drew) a1 (by rw[hmk];exact a2) (by rw[hmk];exact a3))
  have Hql:=hid (show q<=2000000 by have:=Hm.o.2;omega);have Hg2:=hid (And.intro z0 hc5);have Hgf:=hid hgf;have Hm4:=hid (And.intro hm4 (And.intro ho4 hm2));clear HE hw4 h2 hm4 ho4 hm2 hnv2 hnv3 hg hat hgf hP hmk hq hc5 hblk2 z0 hN Hg Hgb Hgn Hga hpn;have Hg:=Hg2;clear Hg2;refine dW (fun w'=>w'.cell? ⟨rb,0,none⟩=some (.slice (some ⟨g,0,none⟩) N c5)/\w'.cell? ⟨g,p*6+5,none⟩=some (.slice ka q kc)) (fun i=>decide (i<16)) (by kernel_rfl) ?_
  have hS:w4.drew.cell? ⟨rb,0,none⟩=some (.slice (some ⟨g,0,none⟩) N c5)/\w4.drew.cell? ⟨g,p*6+5,none⟩=some (.slice ka q kc):=Hg.o;refine wL (i:=0) (v:= ?_) rfl ?_ hS ?_;rotate_left
  ·intro w' hSw;obtain ⟨s1,s2⟩:=hSw;go_simp
   try with_reducible rfl
  simp only[Act.put,sA,sZ,sS];refine wL (i:=1) (v:= ?_) rfl ?_ hS ?_;rotate_left
  ·intro w' hSw;obtain ⟨s1,s2⟩:=hSw;go_simp
   try with_reducible rfl
  simp only[Act.put,sA,sZ,sS];refine wL (i:=2) (v:= ?_) rfl ?_ hS ?_;rotate_left
  ·intro w' hSw;obtain ⟨s1,s2⟩:=hSw;go_simp
   try with_reducible rfl
  simp only[Act.put,sA,sZ,sS];refine wL (i:=3) (v:= ?_) rfl ?_ hS ?_;rotate_left
  ·intro w' hSw;obtain ⟨s1,s2⟩:=hSw;go_simp
   try with_reducible rfl
  simp only[Act.put,sA,sZ,sS];refine wL (i:=4) (v:= ?_) rfl ?_ hS ?_;rotate_left
  ·intro w' hSw;obtain ⟨s1,s2⟩:=hSw;go_simp
   try with_reducible rfl
  simp only[Act.put,sA,sZ,sS];refine wL (i:=5) (v:= ?_) rfl ?_ hS ?_;rotate_left
  ·intro w' hSw;obtain ⟨s1,s2⟩:=hSw;go_simp
   try with_reducible rfl
  simp only[Act.put,sA,sZ,sS];refine wL (i:=6) (v:= ?_) rfl ?_ hS ?_;rotate_left
  ·intro w' hSw;obtain ⟨s1,s2⟩:=hSw;go_simp
   try with_reducible rfl
  simp only[Act.put,sA,sZ,sS];refine wL (i:=7) (v:= ?_) rfl ?_ hS ?_;rotate_left
  ·intro w' hSw;obtain ⟨s1,s2⟩:=hSw;go_simp
   try with_reducible rfl
  simp only[Act.put,sA,sZ,sS];refine wL (i:=8) (v:= ?_) rfl ?_ hS ?_;rotate_left
  ·intro w' hSw;obtain ⟨s1,s2⟩:=hSw;go_simp
   try with_reducible rfl
  simp only[Act.put,sA,sZ,sS];refine wL (i:=9) (v:= ?_) rfl ?_ hS ?_;rotate_left
  ·intro w' hSw;obtain ⟨s1,s2⟩:=hSw;go_simp
   try with_reducible rfl
  simp only[Act.put,sA,sZ,sS];refine wL (i:=10) (v:= ?_) rfl ?_ hS ?_;rotate_left
  ·intro w' hSw;obtain ⟨s1,s2⟩:=hSw;go_simp
   try with_reducible rfl
  simp only[Act.put,sA,sZ,sS];refine wL (i:=11) (v:= ?_) rfl ?_ hS ?_;rotate_left
  ·intro w' hSw;obtain ⟨s1,s2⟩:=hSw;go_simp
   try with_reducible rfl
  simp only[Act.put,sA,sZ,sS];refine wL (i:=12) (v:= ?_) rfl ?_ hS ?_;rotate_left
  ·intro w' hSw;obtain ⟨s1,s2⟩:=hSw;go_simp
   try with_reducible rfl
  simp only[Act.put,sA,sZ,sS];refine wL (i:=13) (v:= ?_) rfl ?_ hS ?_;rotate_left
  ·intro w' hSw;obtain ⟨s1,s2⟩:=hSw;go_simp
   try with_reducible rfl
  simp only[Act.put,sA,sZ,sS];refine aK (i:=14) (by kernel_rfl) rfl (fun K hK=> ?_);go_simp;refine hK.out _ _ (fun _=>⟨bR ((aAb w4.drew.heap.size w4.drew).alloc (aAa _) _) hS.1,bR ((aAb w4.drew.heap.size w4.drew).alloc (aAa _) _) hS.2⟩) ?_;clear hK K
  try simp only[Act.put,sA,sZ,sS]
  refine aK (i:=15) (by kernel_rfl) rfl (fun K hK=> ?_);refine jo 3 53 (.int .i64 0) 1 8 Tryz.underlying53 gR rfl (by decide) (by decide) rfl _ _ rfl (.slice ka q kc) q (m.nd.kids.flatMap aP) rfl (Hown2.o _) w4.heap.size #[.int .i64 (n:Int)] [.int .i64 (n:Int)] rfl (ah (w:=w4) _) rfl rfl rG Hql.o (q+1) rfl ?_;intro ao6 c6 w6 own2 gr2 new2
  have HE2:=hid (Hend2.o _ _ _ _ own2 gr2 new2);have q1:=gD HE2.o.2.2.1 Hg.o.2;have q2:=jB HE2.o.2.2.1 (Hgf.o (p*6+5));have q3:=gD HE2.o.2.1 Hg.o.1;refine hK.out _ _ (fun _=>⟨q3,q1⟩) ?_;clear hK K own2 gr2 new2 Hown2 Hend2 hS
  try simp only[Act.put,sA,sZ,sS]
  refine aK (i:=16) (by kernel_rfl) rfl (fun K hK=> ?_);go_simp;refine hK.out _ _ (fun h=>absurd h (by decide)) ?_;clear hK K;refine aK (i:=17) (by kernel_rfl) rfl (fun K hK=> ?_);go_simp;refine hK.out _ _ (fun h=>absurd h (by decide)) ?_;clear hK K;refine aK (i:=18) (by kernel_rfl) rfl (fun K hK=> ?_);go_simp;refine hK.out _ _ (fun h=>absurd h (by decide)) ?_;clear hK K;refine dX (by kernel_rfl) ?_ _
  clear q1 q2 q3;go_wp2;refine bodyPost_ret (results_tmp (t:=6) rfl _ _ _) rfl ⟨rfl,?_⟩;have hnn:(nds ms).length=n:=by rw[bt,Hn.o]
  refine ⟨_,_,HE2.o.2.2.2.1,?_,((Mod.ofBelow (F:=RdF rb (.slice ao n c) ms) Hba.o (fun b hb hge=>by omega)).trans' (Hm4.o.1.trans' HE2.o.2.2.2.2.1 (fun i hi qq=> ?_)) (fun _ _ q=>q)),fun g hg=> ?_⟩
  ·rw[mr Hm4.o.2.2,oL];unfold Ac;rw[hnn]
  ·rcases qq with qq|qq
   ·exact .inl qq
   ·rcases Hm4.o.2.1 i qq with qq|qq
    ·exact .inr qq
    ·omega
  ·rcases HE2.o.2.2.2.2.2 g hg with qq|qq
   ·rcases Hm4.o.2.1 g qq with qq|qq
    ·exact .inl qq
    ·exact .inr (aAe Hba.o.size qq)
   ·exact .inr (aAe Hba.o.size (aAe Hm4.o.1.size qq))
