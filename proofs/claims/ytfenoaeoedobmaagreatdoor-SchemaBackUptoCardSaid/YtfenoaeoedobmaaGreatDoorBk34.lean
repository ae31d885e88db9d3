/-
Parts of a proof.
-/
import Derived.Test.YtfenoaeoedobmaaGreatDoorBk33
set_option linter.unusedVariables false
set_option linter.unusedSimpArgs false
set_option maxHeartbeats 8000000
set_option maxRecDepth 20000
namespace Go.Proofs.YtfenoaeoedobmaaGreatDoor
open Go Go.RowKit
def kTrue:ByteArray:=⟨#[116,114,117,101]⟩
def leafF (key s:ByteArray) (nx:Fo):Fo:= .sc key s (!aDl s.data.toList) nx
def aBp:List ByteArray->Fo
 |[]=> .nil
 |e::r=>leafF ⟨#[]⟩ e (aBp r)
def tgtF (wt:Nat->ByteArray) (t:Tgt):Fo:=
 if t.service≠⟨#[]⟩ then leafF aAv t.service (leafF aA8 (wt t.weight) .nil) else leafF aAu t.split (leafF aA8 (wt t.weight) .nil)
def tgtsF (wt:Nat->ByteArray):List Tgt->Fo
 |[]=> .nil
 |t::r=> .br 2 ⟨#[]⟩ (tgtF wt t) (tgtsF wt r)
def rulF (act:Bool) (x:Rul):Fo:=
 if act=true then leafF aBn (if x.allow=true then kAllow else kDeny) (leafF kPath x.path (leafF aA7 x.method .nil))
 else leafF kPath x.path (leafF aA7 x.method (leafF aAu x.split .nil))
def rulsF (act:Bool):List Rul->Fo
 |[]=> .nil
 |t::r=> .br 2 ⟨#[]⟩ (rulF act t) (rulsF act r)
def nKind (k:Int):ByteArray:=if k=1 then aD1 else if k=2 then aK0 else if k=3 then aK1 else aHr
def ownT (wt:Nat->ByteArray) (r:Res):Fo:=
 if r.del=true then leafF aBb kTrue .nil
 else if r.kind=1 then (if r.endps=[] then .nil else .br 3 aAt (aBp r.endps) .nil)
 else if r.kind=2 then .br 3 aBl (tgtsF wt r.targets) .nil
 else if r.kind=3 then leafF kHost r.host (.br 3 aBi (rulsF false r.rules) .nil)
 else leafF aC7 r.route (.br 3 aBi (rulsF true r.rules) .nil)
def resF (wt:Nat->ByteArray) (r:Res):Fo:=leafF kKind (nKind r.kind) (leafF kName r.name (ownT wt r))
def treeW (wt:Nat->ByteArray) (r:Res):List Nd:=if r.kind<1\/4<r.kind then [] else (resF wt r).doc
namespace Fo
def app:Fo->Fo->Fo
 |nil,G=>G
 |sc key text q nx,G=>sc key text q (nx.app G)
 |br kind key kids nx,G=>br kind key kids (nx.app G)
theorem aSf:∀F G:Fo,(F.app G).size=F.size+G.size
 |nil,G=>by unfold app;rw[a1d];omega
 |sc key text q nx,G=>by unfold app;rw[aH2,aH2,aSf nx];omega
 |br kind key kids nx,G=>by unfold app;rw[aH3,aH3,aSf nx];omega
theorem aOz:∀(F G:Fo) (i:Nat),(F.app G).heads i=F.heads i++G.heads (i+F.size)
 |nil,G,i=>rfl
 |sc key text q nx,G,i=>by unfold app;rw[aR4,aR4,aOz nx,aH2,Nat.add_assoc];rfl
 |br kind key kids nx,G,i=>by unfold app;rw[aR5,aR5,aOz nx,aH3,show i+(1+kids.size+nx.size)=i+1+kids.size+nx.size by omega];rfl
theorem aSg:∀(F G:Fo) (i:Nat),(F.app G).flat i=F.flat i++G.flat (i+F.size)
 |nil,G,i=>rfl
 |sc key text q nx,G,i=>by unfold app;rw[aW6,aW6,aSg nx,aH2,Nat.add_assoc];rfl
 |br kind key kids nx,G,i=>by unfold app;rw[aW7,aW7,aSg nx,aH3,show i+(1+kids.size+nx.size)=i+1+kids.size+nx.size by omega];simp
end Fo
def addFo (ns:List Nd) (p:Nat) (F:Fo):List Nd:=aBo ns p (F.heads ns.length)++F.flat ns.length
theorem aAr (ns:List Nd) (p:Nat) (F:Fo):(addFo ns p F).length=ns.length+F.size:=by
 unfold addFo;rw[a7e,aCy,Fo.flat_len]
theorem aFv (ns:List Nd) (p:Nat):addFo ns p .nil=ns:=by
 unfold addFo Fo.heads Fo.flat;rw[aJ0,List.append_nil]
theorem aBs {ns:List Nd} {p:Nat} (hp:p<ns.length) (F G:Fo):addFo (addFo ns p F) p G=addFo ns p (F.app G):=by
 unfold addFo;rw[Fo.aOz,Fo.aSg,a7e,aCy,Fo.flat_len,aDy (by rw[aCy];exact hp),aE6,List.append_assoc]
theorem aE8 {ns:List Nd} {p:Nat} (hp:p<ns.length) (kind:Int) (key:ByteArray) (K:Fo):addFo (addFo ns p (.br kind key .nil .nil)) ns.length K=addFo ns p (.br kind key K .nil):=by
 unfold addFo;simp only[Fo.aR5,Fo.aW7,Fo.heads,Fo.flat,List.append_nil,a7e,a7f,List.length_nil,aCy];have h:=aD7 (aBo ns p [(ns.length:Int)]) ⟨kind,key,⟨#[]⟩,false,0,[]⟩ (K.heads (ns.length+1));rw[aCy]at h;rw[show ns.length+(0+1)=ns.length+1 by omega,h];simp
theorem aF4 (F:Fo):addFo [⟨2,⟨#[]⟩,⟨#[]⟩,false,0,[]⟩] 0 F=F.doc:=by
 unfold addFo Fo.doc;have h:=aD7 [] ⟨2,⟨#[]⟩,⟨#[]⟩,false,0,[]⟩ (F.heads 1);rw[Fo.aW7]
 show aBo ([]++[⟨2,⟨#[]⟩,⟨#[]⟩,false,0,[]⟩]) ([]:List Nd).length (F.heads 1)++F.flat 1=_
 rw[h];simp[Fo.flat]
def FullF:Fo->Prop
 | .nil=>True
 | .sc _ _ _ nx=>FullF nx
 | .br _ _ kids nx=>kids≠ .nil/\FullF kids/\FullF nx
def KindF:Fo->Prop
 | .nil=>True
 | .sc _ _ _ nx=>KindF nx
 | .br kd _ kids nx=>(kd=2\/kd=3)/\KindF kids/\KindF nx
theorem aMv {ns:List Nd} (hg:∀j,j<ns.length->nodeR ns j (ns[j]!)=true):∀(F:Fo) (i:Nat),Fo.At ns F i->KindF F->FullF F
 | .nil,_,_,_=>trivial
 | .sc key text q nx,i,h,hk=>aMv hg nx (i+1) h.head_sc.2 hk
 | .br kd key kids nx,i,h,hk=>by
  obtain ⟨h1,h2,h3⟩:=h.head_br;refine ⟨fun e=> ?_,aMv hg kids (i+1) h2 hk.2.1,aMv hg nx _ h3 hk.2.2⟩;have h4:=hg i (a7j h1).1;rw[aIq h1]at h4;unfold nodeR at h4;have hkd:1<kd:=by rcases hk.1 with q|q<;>omega
  have hkd3:kd<=3:=by rcases hk.1 with q|q<;>omega
  simp only at h4;rw[if_neg (by omega),if_neg (by omega),if_pos ⟨hkd,.inl (by rw[e];rfl)⟩]at h4;cases h4
theorem a56 {key:ByteArray} (h:key.data.toList≠[]/\key.data.toList.length<=64/\key.data.toList.all aBu=true):KeyG 2 key:=⟨fun _=>h,fun h=>absurd h (by decide)⟩
theorem aMw:KeyG 3 ⟨#[]⟩:=⟨fun h=>absurd h (by decide),fun _=>rfl⟩
theorem aT1 (s:ByteArray):ScalG s (!aDl s.data.toList):=by
 unfold ScalG;cases aDl s.data.toList
 ·exact .inl rfl
 ·exact .inr rfl
theorem aBe {kind:Int} {key s:ByteArray} {nx:Fo} (hk:KeyG kind key) (hn:nx.Ok kind):(leafF key s nx).Ok kind:=⟨hk,aT1 s,hn⟩
theorem aO0:∀l:List ByteArray,(aBp l).Ok 3
 |[]=>trivial
 |e::r=>aBe aMw (aO0 r)
theorem kg (key:ByteArray) (h:decide (key.data.toList≠[]/\key.data.toList.length<=64/\key.data.toList.all aBu=true)=true):KeyG 2 key:=a56 (of_decide_eq_true h)
theorem tgt_ok (wt:Nat->ByteArray) (t:Tgt):(tgtF wt t).Ok 2/\tgtF wt t≠ .nil/\(tgtF wt t).keys.Nodup/\(tgtF wt t).size=2/\(tgtF wt t).depth=1:=by
 unfold tgtF
 split
 ·exact ⟨aBe (kg _ (by decide)) (aBe (kg _ (by decide)) trivial),by unfold leafF;simp,by simp only[leafF,Fo.keys];decide,rfl,rfl⟩
 ·exact ⟨aBe (kg _ (by decide)) (aBe (kg _ (by decide)) trivial),by unfold leafF;simp,by simp only[leafF,Fo.keys];decide,rfl,rfl⟩
theorem rul_ok (act:Bool) (x:Rul):(rulF act x).Ok 2/\rulF act x≠ .nil/\(rulF act x).keys.Nodup/\(rulF act x).size=3/\(rulF act x).depth=1:=by
 unfold rulF
 split
 ·exact ⟨aBe (kg _ (by decide)) (aBe (kg _ (by decide)) (aBe (kg _ (by decide)) trivial)),by unfold leafF;simp,by simp only[leafF,Fo.keys];decide,rfl,rfl⟩
 ·exact ⟨aBe (kg _ (by decide)) (aBe (kg _ (by decide)) (aBe (kg _ (by decide)) trivial)),by unfold leafF;simp,by simp only[leafF,Fo.keys];decide,rfl,rfl⟩
theorem aXs (wt:Nat->ByteArray):∀l:List Tgt,(tgtsF wt l).Ok 3/\(tgtsF wt l).size=3*l.length/\(tgtsF wt l).depth<=2
 |[]=>⟨trivial,rfl,Nat.zero_le _⟩
 |t::r=>by
  obtain ⟨h1,h2,h3⟩:=aXs wt r;obtain ⟨a1,a2,a3,a4,a5⟩:=tgt_ok wt t;refine ⟨⟨aMw,.inl rfl,a2,a1,fun _=>a3,h1⟩,?_,?_⟩
  ·unfold tgtsF;rw[Fo.aH3,a4,h2,a7f];omega
  ·unfold tgtsF;rw[Fo.a1f,a5];omega
theorem aQf (act:Bool):∀l:List Rul,(rulsF act l).Ok 3/\(rulsF act l).size=4*l.length/\(rulsF act l).depth<=2
 |[]=>⟨trivial,rfl,Nat.zero_le _⟩
 |t::r=>by
  obtain ⟨h1,h2,h3⟩:=aQf act r;obtain ⟨a1,a2,a3,a4,a5⟩:=rul_ok act t;refine ⟨⟨aMw,.inl rfl,a2,a1,fun _=>a3,h1⟩,?_,?_⟩
  ·unfold rulsF;rw[Fo.aH3,a4,h2,a7f];omega
  ·unfold rulsF;rw[Fo.a1f,a5];omega
theorem aJ4:∀l:List ByteArray,(aBp l).size=l.length/\(aBp l).depth<=1
 |[]=>⟨rfl,Nat.zero_le _⟩
 |e::r=>by
  obtain ⟨h1,h2⟩:=aJ4 r;refine ⟨?_,?_⟩
  ·unfold aBp leafF;rw[Fo.aH2,h1,a7f];omega
  ·unfold aBp leafF;rw[Fo.a1e];omega
theorem aT2 {l:List ByteArray} (h:l≠[]):aBp l≠ .nil:=by cases l with|nil=>exact absurd rfl h|cons e r=>unfold aBp leafF;simp
theorem a1s {wt:Nat->ByteArray} {l:List Tgt} (h:l≠[]):tgtsF wt l≠ .nil:=by cases l with|nil=>exact absurd rfl h|cons e r=>unfold tgtsF;simp
theorem aSh {act:Bool} {l:List Rul} (h:l≠[]):rulsF act l≠ .nil:=by cases l with|nil=>exact absurd rfl h|cons e r=>unfold rulsF;simp
structure ResN0 (r:Res):Prop where
 t:r.del=false->r.kind=2->r.targets≠[]
 u:r.del=false->2<r.kind->r.rules≠[]
theorem a1t (wt:Nat->ByteArray) {r:Res} (hk:1<=r.kind) (h:ResN0 r):(resF wt r).Ok 2/\(resF wt r).keys.Nodup/\(resF wt r).depth<=4/\resF wt r≠ .nil:=by
 have k1:=kg kKind (by decide);have k2:=kg kName (by decide);unfold resF ownT;by_cases hd:r.del=true
 ·rw[if_pos hd];exact ⟨aBe k1 (aBe k2 (aBe (kg _ (by decide)) trivial)),by simp only[leafF,Fo.keys];decide,by show (1:Nat)<=4;decide,by unfold leafF;simp⟩
 ·have hd2:r.del=false:=by simpa using hd
  rw[if_neg hd];by_cases h1:r.kind=1
  ·rw[if_pos h1];by_cases he:r.endps=[]
   ·rw[if_pos he];exact ⟨aBe k1 (aBe k2 trivial),by simp only[leafF,Fo.keys];decide,by show (1:Nat)<=4;decide,by unfold leafF;simp⟩
   ·rw[if_neg he];have:=aJ4 r.endps;refine ⟨aBe k1 (aBe k2 ⟨kg _ (by decide),.inr rfl,aT2 he,aO0 _,fun h=>absurd h (by decide),trivial⟩),by simp only[leafF,Fo.keys];decide,?_,by unfold leafF;simp⟩;simp only[leafF,Fo.a1e,Fo.a1f,Fo.depth];omega
  ·rw[if_neg h1];by_cases h2:r.kind=2
   ·rw[if_pos h2];obtain ⟨a1,a2,a3⟩:=aXs wt r.targets;refine ⟨aBe k1 (aBe k2 ⟨kg _ (by decide),.inr rfl,a1s (h.t hd2 h2),a1,fun h=>absurd h (by decide),trivial⟩),by simp only[leafF,Fo.keys];decide,?_,by unfold leafF;simp⟩;simp only[leafF,Fo.a1e,Fo.a1f,Fo.depth];omega
   ·rw[if_neg h2];have hu:=h.u hd2 (by omega);by_cases h3:r.kind=3
    ·rw[if_pos h3];obtain ⟨a1,a2,a3⟩:=aQf false r.rules;refine ⟨aBe k1 (aBe k2 (aBe (kg _ (by decide)) ⟨kg _ (by decide),.inr rfl,aSh hu,a1,fun h=>absurd h (by decide),trivial⟩)),by simp only[leafF,Fo.keys];decide,?_,by unfold leafF;simp⟩;simp only[leafF,Fo.a1e,Fo.a1f,Fo.depth];omega
    ·rw[if_neg h3];obtain ⟨a1,a2,a3⟩:=aQf true r.rules;refine ⟨aBe k1 (aBe k2 (aBe (kg _ (by decide)) ⟨kg _ (by decide),.inr rfl,aSh hu,a1,fun h=>absurd h (by decide),trivial⟩)),by simp only[leafF,Fo.keys];decide,?_,by unfold leafF;simp⟩;simp only[leafF,Fo.a1e,Fo.a1f,Fo.depth];omega
theorem aJ5:∀l,KindF (aBp l)
 |[]=>trivial
 |e::r=>aJ5 r
theorem aO1 (wt:Nat->ByteArray):∀l,KindF (tgtsF wt l)
 |[]=>trivial
 |e::r=>⟨.inl rfl,by unfold tgtF;split<;>trivial,aO1 wt r⟩
theorem aJ6 (act:Bool):∀l,KindF (rulsF act l)
 |[]=>trivial
 |e::r=>⟨.inl rfl,by unfold rulF;split<;>trivial,aJ6 act r⟩
theorem a1u (wt:Nat->ByteArray) (r:Res):KindF (resF wt r):=by
 unfold resF ownT
 show KindF (if r.del=true then _ else _)
 split
 ·trivial
 ·split
  ·split
   ·trivial
   ·exact ⟨.inr rfl,aJ5 _,trivial⟩
  ·split
   ·exact ⟨.inr rfl,aO1 wt _,trivial⟩
   ·split
    ·exact ⟨.inr rfl,aJ6 false _,trivial⟩
    ·exact ⟨.inr rfl,aJ6 true _,trivial⟩
theorem aSi (wt:Nat->ByteArray) {r:Res} (h:treeP (treeW wt r)=true):1<=r.kind/\r.kind<=4/\ResN0 r/\treeW wt r=(resF wt r).doc/\(resF wt r).size<=4095:=by
 obtain ⟨⟨h1,h2,-⟩,hg⟩:=(aEe _).1 h;have hk:¬(r.kind<1\/4<r.kind):=fun q=>by unfold treeW at h1;rw[if_pos q]at h1;exact h1 rfl
 have hw:treeW wt r=(resF wt r).doc:=by unfold treeW;rw[if_neg hk]
 rw[hw]at h2 hg;rw[Fo.doc_len]at h2;have hf:=aMv hg.node (resF wt r) 1 (resF wt r).doc_at.head_br.2.1 (a1u wt r);refine ⟨by omega,by omega,⟨fun hd h2 e=> ?_,fun hd h2 e=> ?_⟩,hw,by omega⟩
 ·unfold resF ownT at hf;have hf2:FullF (if r.del=true then leafF aBb kTrue .nil else _):=hf;rw[if_neg (by rw[hd];decide),if_neg (by omega),if_pos h2]at hf2;exact hf2.1 (by rw[e];rfl)
 ·unfold resF ownT at hf;have hf2:FullF (if r.del=true then leafF aBb kTrue .nil else _):=hf;rw[if_neg (by rw[hd];decide),if_neg (by omega),if_neg (by omega)]at hf2
  split at hf2
  ·have hf3:FullF (.br 3 aBi (rulsF false r.rules) .nil):=hf2;exact hf3.1 (by rw[e];rfl)
  ·have hf3:FullF (.br 3 aBi (rulsF true r.rules) .nil):=hf2;exact hf3.1 (by rw[e];rfl)
theorem a1v (wt:Nat->ByteArray) {r:Res} (h:treeP (treeW wt r)=true):DocG (resF wt r):=by
 obtain ⟨h1,h2,h3,h4,h5⟩:=aSi wt h;obtain ⟨a1,a2,a3,a4⟩:=a1t wt h1 h3;exact ⟨a4,a1,a2,by omega,h5⟩
abbrev NRowW:=NRowM 1048576
structure WrS (w0 w:World) (rb:Nat) (nv:Value) (ms:List NdM):Prop where
 below:Below w0.heap.size w0 w
 rge:w0.heap.size<=rb
 blk:w.heap[rb]? =some (.cells #[nv] 127 (0,0))
 nr:NRowW w0 w rb nv ms
theorem WrS.later {w0 w w2:World} {rb:Nat} {nv:Value} {ms:List NdM} (h:WrS w0 w rb nv ms) (hb:Below w.heap.size w w2):WrS w0 w2 rb nv ms:=
 ⟨h.below.trans (hb.mono h.below.size),h.rge,(hb.block rb (aAb h.blk)).trans h.blk,h.nr.later hb⟩
theorem WrS.rd_lt {w0 w:World} {rb:Nat} {nv:Value} {ms:List NdM} (h:WrS w0 w rb nv ms) {g:Nat} (hg:RdF rb nv ms g):w0.heap.size<=g/\g<w.heap.size:=by
 rcases hg with rfl|hg
 ·exact ⟨h.rge,aAb h.blk⟩
 ·have:=h.nr.own_lt hg;exact ⟨this.1,this.2.1⟩
def aFh (w0 w:World) (rb:Nat) (nv:Value) (ms:List NdM) (ns2:List Nd) (w':World):Prop:=
 ∃nv2 ms2,WrS w0 w' rb nv2 ms2/\nds ms2=ns2/\Mod (RdF rb nv ms) w w'/\∀g,nOwn nv2 ms2 g->nOwn nv ms g\/w.heap.size<=g
theorem a57 {w0 w w1 w5:World} {rb n:Nat} {ao ao5:Option Addr} {c c5:Nat} {ms:List NdM} {x:Nd} (h:WrS w0 w rb (.slice ao ms.length c) ms) (hn:n=ms.length) (hx:x.kids=[]) (hk:I64 x.kind) (hl:I64 x.line) (ht:x.text.size<=1048576) (hkey:x.key.size<=1048576) (hlen:n<1048576)
 (hb1:Below w.heap.size w w1) (own2:w5.ownsRow 0 55 6 (.slice ao5 (n+1) c5) (n+1) (ms.flatMap NdM.cells++NdM.cells ⟨x,.slice none 0 0⟩)) (gr2:w1.grownBy w5 (Value.slice ao n c).ownBlock)
 (new2:∀g,(Value.slice ao5 (n+1) c5).ownBlock=some g->(Value.slice ao n c).ownBlock=some g\/w1.heap.size<=g):
 w5.heap[rb]? =some (.cells #[.slice ao n c] 127 (0,0))/\
 WrS w0 (w5.setCell ⟨rb,0,none⟩ (.slice ao5 (n+1) c5)) rb (.slice ao5 (n+1) c5) (ms++[⟨x,.slice none 0 0⟩])/\
 Mod (RdF rb (.slice ao n c) ms) w (w5.setCell ⟨rb,0,none⟩ (.slice ao5 (n+1) c5))/\
 ∀g,nOwn (.slice ao5 (n+1) c5) (ms++[⟨x,.slice none 0 0⟩]) g->nOwn (.slice ao n c) ms g\/w.heap.size<=g:=by
 subst hn;have h1:=h.later hb1;obtain ⟨hnr,hno⟩:=h.nr.app (x:=x) h.below.size hb1 (aAb h.blk) hx hk hl ht hkey hlen own2 gr2 new2;have hM:Mod (fun b=>(Value.slice ao ms.length c).ownBlock=some b) w1 w5:=(Mod.refl _ _).grown gr2 (fun b e _=>e);have hblk:w5.heap[rb]? =some (.cells #[.slice ao ms.length c] 127 (0,0)):=hM.heap h1.blk (fun e=>(h.nr.new rb e).2 rfl);have hS:Mod (fun b=>b=rb) w5 (w5.setCell ⟨rb,0,none⟩ (.slice ao5 (ms.length+1) c5)):=(Mod.refl _ _).setCell _ _ (fun _=>rfl)
 have hW:Mod (RdF rb (.slice ao ms.length c) ms) w (w5.setCell ⟨rb,0,none⟩ (.slice ao5 (ms.length+1) c5)):=
  ((Mod.ofBelow (F:=RdF rb (.slice ao ms.length c) ms) hb1 (fun b hb hge=>by omega)).trans' hM (fun i hi q=> .inr (.inl q))).trans' hS (fun i hi q=> .inl q)
 refine ⟨hblk,⟨h.below.trans (hW.below h.below.size (fun b hb=>(h.rd_lt hb).1)),h.rge,aAk hblk 0 _,hnr.mod hS (fun g hg e=>(hnr.own_lt hg).2.2 e)⟩,hW,fun g hg=> ?_⟩;rcases hno g hg with q|q
 ·exact .inl q
 ·exact .inr (a7g hb1.size q)
theorem a58 {w0 w w1 w5:World} {rb i kid q g:Nat} {nv:Value} {ao5:Option Addr} {c5:Nat} {ms:List NdM} {m:NdM} (h:WrS w0 w rb nv ms) (hi:ms[i]? =some m) (hg:nv.ownBlock=some g) (hq:q=m.nd.kids.length) (hql:q<1048576)
 (hb1:Below w.heap.size w w1) (own2:w5.ownsRow 0 3 1 (.slice ao5 (q+1) c5) (q+1) (m.nd.kids.flatMap aB9++[.int .i64 (kid:Int)])) (gr2:w1.grownBy w5 m.kv.ownBlock)
 (new2:∀g,(Value.slice ao5 (q+1) c5).ownBlock=some g->m.kv.ownBlock=some g\/w1.heap.size<=g):
 Mod (RdF rb nv ms) w w5/\w5.heap[rb]? =w.heap[rb]? /\w5.heap[g]? =w.heap[g]? /\
 WrS w0 (w5.setCell ⟨g,i*6+5,none⟩ (.slice ao5 (q+1) c5)) rb nv (ms.set i ⟨{m.nd with kids:=m.nd.kids++[(kid:Int)]},.slice ao5 (q+1) c5⟩)/\
 Mod (RdF rb nv ms) w (w5.setCell ⟨g,i*6+5,none⟩ (.slice ao5 (q+1) c5))/\
 ∀b,nOwn nv (ms.set i ⟨{m.nd with kids:=m.nd.kids++[(kid:Int)]},.slice ao5 (q+1) c5⟩) b->nOwn nv ms b\/w.heap.size<=b:=by
 subst hq;have h1:=h.later hb1;have hmm:=List.mem_of_getElem? hi;have hP:=h1.nr.each m hmm;have hM:Mod (fun b=>m.kv.ownBlock=some b) w1 w5:=(Mod.refl _ _).grown gr2 (fun b e _=>e);have hrb:w5.heap[rb]? =w1.heap[rb]? :=hM.block rb (aAb h1.blk) (fun e=>(h.nr.kid m hmm rb e).2 rfl);have hgb:w5.heap[g]? =w1.heap[g]? :=hM.block g (h1.nr.row.lt g hg).2 (fun e=>(h.nr.kid m hmm g e).1 hg);have hW:Mod (RdF rb nv ms) w w5:=(Mod.ofBelow (F:=RdF rb nv ms) hb1 (fun b hb hge=>by omega)).trans' hM (fun b hb q=> .inr (.inr ⟨m,hmm,q⟩))
 have hS:Mod (fun b=>b=g) w5 (w5.setCell ⟨g,i*6+5,none⟩ (.slice ao5 (m.nd.kids.length+1) c5)):=(Mod.refl _ _).setCell _ _ (fun _=>rfl);have hW2:Mod (RdF rb nv ms) w (w5.setCell ⟨g,i*6+5,none⟩ (.slice ao5 (m.nd.kids.length+1) c5)):=hW.trans' hS (fun b hb q=> .inr (.inl (by rw[q];exact hg)));have hgr:g≠rb:=(h.nr.new g hg).2;have hP5:NdP w5 w0.heap.size ⟨{m.nd with kids:=m.nd.kids++[(kid:Int)]},.slice ao5 (m.nd.kids.length+1) c5⟩:=by
  refine ⟨?_,fun b hb=> ?_,hP.kind,hP.line,hP.text,hP.key,?_⟩
  ·show w5.ownsRow 0 3 1 (.slice ao5 (m.nd.kids.length+1) c5) (m.nd.kids++[(kid:Int)]).length ((m.nd.kids++[(kid:Int)]).flatMap aB9)
   rw[a7e,List.flatMap_append,List.flatMap_singleton];exact own2
  ·rcases new2 b hb with q|q
   ·exact hP.fresh b q
   ·exact a7g h1.below.size q
  ·show (m.nd.kids++[(kid:Int)]).length<=1048576
   rw[a7e];simp;omega
 have hN:=NRowM.kids (m':=⟨{m.nd with kids:=m.nd.kids++[(kid:Int)]},.slice ao5 (m.nd.kids.length+1) c5⟩) h1.nr h1.below.size (aAb h1.blk) hi hg hM rfl hP5 new2;refine ⟨hW,hrb.trans (hb1.block _ (aAb h.blk)),hgb.trans (hb1.block _ (h.nr.row.lt g hg).2),⟨h.below.trans (hW2.below h.below.size (fun b hb=>(h.rd_lt hb).1)),h.rge,?_,hN⟩,hW2,fun b hb=> ?_⟩
 ·rw[hS.block rb (Nat.lt_of_lt_of_le (aAb h1.blk) hM.size) (fun e=>hgr e.symm),hrb];exact h1.blk
 ·rcases hb with hb|⟨x,hx,hb⟩
  ·exact .inl (.inl hb)
  ·rcases List.mem_or_eq_of_mem_set hx with hx|rfl
   ·exact .inl (.inr ⟨x,hx,hb⟩)
   ·rcases new2 b hb with q|q
    ·exact .inl (.inr ⟨m,hmm,q⟩)
    ·exact .inr (a7g hb1.size q)
theorem aFh.trans {w0 w w1 w2:World} {rb:Nat} {nv nv1:Value} {ms ms1:List NdM} {ns2:List Nd} (hs:w.heap.size<=w1.heap.size) (h1:Mod (RdF rb nv ms) w w1) (o1:∀g,nOwn nv1 ms1 g->nOwn nv ms g\/w.heap.size<=g) (h:aFh w0 w1 rb nv1 ms1 ns2 w2):aFh w0 w rb nv ms ns2 w2:=by
 obtain ⟨nv2,ms2,a,b,c,d⟩:=h;exact ⟨nv2,ms2,a,b,aJr (w0:=w0) h1 o1 c,aOj hs o1 d⟩
theorem aSj {w:World} {B e sz n:Nat} {a:Option Addr} {k c:Nat} {xs:List Value} (h:w.ownsRow B e sz (.slice a k c) n xs):k=n:=by
 rcases h.2 with ⟨hv,hn⟩|⟨g,cap,cur,hv,-,-,hc,-⟩
 ·cases hv;omega
 ·cases hv;rfl
def layN (ns:List Nd) (p:Option Nat) (x:Nd):List Nd:=match p with|none=>ns++[x]|some p=>aBx (ns++[x]) p ns.length
theorem aXt {ns:List Nd} {p:Nat} (hp:p<ns.length) (key text:ByteArray) (q:Bool):layN ns (some p) ⟨1,key,text,q,0,[]⟩=addFo ns p (.sc key text q .nil):=by
 show aBx (ns++[_]) p ns.length=_
 unfold addFo aBx;rw[List.getElem?_append_left hp];obtain ⟨x,hx⟩:=aAh hp;rw[hx];simp only;rw[aCm hx,List.set_append_left _ _ hp];rfl
theorem aXu {ns:List Nd} {p:Nat} (hp:p<ns.length) (kind:Int) (key:ByteArray):layN ns (some p) ⟨kind,key,⟨#[]⟩,false,0,[]⟩=addFo ns p (.br kind key .nil .nil):=by
 show aBx (ns++[_]) p ns.length=_
 unfold addFo aBx;rw[List.getElem?_append_left hp];obtain ⟨x,hx⟩:=aAh hp;rw[hx];simp only;rw[aCm hx,List.set_append_left _ _ hp];rfl
def parV (p:Option Nat):Int:=match p with|none=> -1|some p=>(p:Int)
theorem aLr {w0 w:World} {rb:Nat} {nv:Value} {ms:List NdM} (h:WrS w0 w rb nv ms) (p:Option Nat) (hp:∀i,p=some i->∃m,ms[i]? =some m/\m.nd.kids.length<1048576) (x:Nd) (hx:x.kids=[]) (hxk:I64 x.kind) (hxl:I64 x.line) (hxt:x.text.size<=1048576) (hxe:x.key.size<=1048576) (hlen:ms.length<1048576):
 Calls Tryz.prog 110 #[.pointer (some ⟨rb,0,none⟩),.int .i64 (parV p),.agg #[.int .i64 x.kind,.string x.key,.string x.text,.bool x.quoted,.int .i64 x.line,.slice none 0 0]] w
  fun r w'=>r= .returned (.int .i64 (ms.length:Int))/\aFh w0 w rb nv ms (layN (nds ms) p x) w':=by
 obtain ⟨ao,c,rfl⟩:=h.nr.form;obtain ⟨n,hn⟩:∃n,n=ms.length:=⟨_,rfl⟩;obtain ⟨gb,hgb⟩:∃gb,gb=w.heap.size:=⟨_,rfl⟩;obtain ⟨wa,hwa⟩:∃wa,wa=w.alloc (.cells #[.int .i64 x.kind,.string x.key,.string x.text,.bool x.quoted,.int .i64 x.line,.slice none 0 0] 55):=⟨_,rfl⟩;have hba:Below w.heap.size w wa:=by rw[hwa];exact (a7d _ _).alloc (a7c _) _
 have hsz:wa.heap.size=w.heap.size+1:=by rw[hwa];simp
 have hga:wa.heap[gb]? =some (.cells #[.int .i64 x.kind,.string x.key,.string x.text,.bool x.quoted,.int .i64 x.line,.slice none 0 0] 55 (0,0)):=by rw[hwa,hgb];exact aAc _
 have hRa:=h.later hba;have hblk:=hRa.blk;rw[<-hn]at hblk;have y0:=aAa hblk 0;simp at y0;have Hg:=hid (And.intro y0 hga);have Hgb:=hid (show gb<wa.heap.size by omega);have Hgn:=hid (show (Value.slice ao n c).ownBlock≠some gb from fun e=>by
  have:=(h.nr.own_lt (g:=gb) (.inl (by rw[<-hn];exact e))).2.1;omega)
 have Hown:=hid (fun ob=>show ((wa.alloc ob).drew).ownsRow 0 55 6 (.slice ao n c) n (ms.flatMap NdM.cells) from by
  have:=hRa.nr.row;rw[hn];exact World.ownsRow.alloc (w:=wa) this ob)
 have Hend:=hid (fun ob ao5 c5 (w5:World) (a1:w5.ownsRow 0 55 6 (.slice ao5 (n+1) c5) (n+1) (ms.flatMap NdM.cells++NdM.cells ⟨x,.slice none 0 0⟩))
  (a2:((wa.alloc ob).drew).grownBy w5 (Value.slice ao n c).ownBlock) (a3:∀g,(Value.slice ao5 (n+1) c5).ownBlock=some g->(Value.slice ao n c).ownBlock=some g\/((wa.alloc ob).drew).heap.size<=g)=>a57 hRa hn hx hxk hxl hxt hxe (by omega) (((a7d wa.heap.size wa).alloc (a7c _) ob).drew) a1 a2 a3)
 have Hnl:=hid (show n<=2000000 by omega);have Hba:=hid hba;have Hsz:=hid hsz;have Hn:=hid hn;have Hp:=hid hp;have Hl:=hid hlen;have Hga:=hid hga;rw[<-hn];clear h hp hx hxk hxl hxt hxe hlen hba hga hRa hblk hsz hn;cases p with
 |none=>
  unfold parV;go_enter Tryz.func110,Tryz.ntmps110;go_upto_region 1 with (fail)
  rw[<-hwa,<-hgb];clear hwa hgb;go_upto_region 2 with (fail)
  refine aCx (fun w'=>w'.cell? ⟨rb,0,none⟩=some (.slice ao n c)/\w'.heap[gb]? =some (.cells #[.int .i64 x.kind,.string x.key,.string x.text,.bool x.quoted,.int .i64 x.line,.slice none 0 0] 55 (0,0))) (fun i=>decide (i<8)) (by kernel_rfl) ?_;have hS:wa.drew.cell? ⟨rb,0,none⟩=some (.slice ao n c)/\wa.drew.heap[gb]? =some (.cells #[.int .i64 x.kind,.string x.key,.string x.text,.bool x.quoted,.int .i64 x.line,.slice none 0 0] 55 (0,0)):=Hg.out
  refine wK (i:=0) (v:= ?_) rfl (by kernel_rfl) (fun _ _ _ h=>h) (by rfl) ?_ hS ?_;rotate_left
  ·intro w' hSw;obtain ⟨s1,s2⟩:=hSw;obtain ⟨t0,t1,t2,t3,t4,t5⟩:=cB6 s2;simp at t0 t1 t2 t3 t4 t5;clear s2;go_simp
   try with_reducible rfl
  simp only[Act.put,sA,sZ,sS];refine wK (i:=1) (v:= ?_) rfl (by kernel_rfl) (fun _ _ _ h=>h) (by rfl) ?_ hS ?_;rotate_left
  ·intro w' hSw;obtain ⟨s1,s2⟩:=hSw;obtain ⟨t0,t1,t2,t3,t4,t5⟩:=cB6 s2;simp at t0 t1 t2 t3 t4 t5;clear s2;go_simp
   try with_reducible rfl
  simp only[Act.put,sA,sZ,sS];refine wK (i:=2) (v:= ?_) rfl (by kernel_rfl) (fun _ _ _ h=>h) (by rfl) ?_ hS ?_;rotate_left
  ·intro w' hSw;obtain ⟨s1,s2⟩:=hSw;obtain ⟨t0,t1,t2,t3,t4,t5⟩:=cB6 s2;simp at t0 t1 t2 t3 t4 t5;clear s2;go_simp
   try with_reducible rfl
  simp only[Act.put,sA,sZ,sS];refine wK (i:=3) (v:= ?_) rfl (by kernel_rfl) (fun _ _ _ h=>h) (by rfl) ?_ hS ?_;rotate_left
  ·intro w' hSw;obtain ⟨s1,s2⟩:=hSw;obtain ⟨t0,t1,t2,t3,t4,t5⟩:=cB6 s2;simp at t0 t1 t2 t3 t4 t5;clear s2;go_simp
   try with_reducible rfl
  simp only[Act.put,sA,sZ,sS];refine wK (i:=4) (v:= ?_) rfl (by kernel_rfl) (fun _ _ _ h=>h) (by rfl) ?_ hS ?_;rotate_left
  ·intro w' hSw;obtain ⟨s1,s2⟩:=hSw;obtain ⟨t0,t1,t2,t3,t4,t5⟩:=cB6 s2;simp at t0 t1 t2 t3 t4 t5;clear s2;go_simp
   try with_reducible rfl
  simp only[Act.put,sA,sZ,sS];refine wK (i:=5) (v:= ?_) rfl (by kernel_rfl) (fun _ _ _ h=>h) (by rfl) ?_ hS ?_;rotate_left
  ·intro w' hSw;obtain ⟨s1,s2⟩:=hSw;obtain ⟨t0,t1,t2,t3,t4,t5⟩:=cB6 s2;simp at t0 t1 t2 t3 t4 t5;clear s2;go_simp
   try with_reducible rfl
  simp only[Act.put,sA,sZ,sS];refine aAi (i:=6) (by kernel_rfl) rfl (fun K hK=> ?_);go_simp;refine hK.out _ _ (fun _=>⟨aBd ((a7d wa.drew.heap.size wa.drew).alloc (a7c _) _) hS.1,(aAe _ (aAb hS.2)).trans hS.2⟩) ?_;clear hK K
  try simp only[Act.put,sA,sZ,sS]
  refine aAi (i:=7) (by kernel_rfl) rfl (fun K hK=> ?_);refine aG4 55 33 (.agg #[.int .i64 0,.string ⟨#[]⟩,.string ⟨#[]⟩,.bool false,.int .i64 0,.slice none 0 0]) 6 80 Tryz.underlying33 aG2 rfl (by decide) (by decide) rfl _ _ rfl (.slice ao n c) n (ms.flatMap NdM.cells) rfl (Hown.out _) wa.heap.size #[.int .i64 x.kind,.string x.key,.string x.text,.bool x.quoted,.int .i64 x.line,.slice none 0 0] (NdM.cells ⟨x,.slice none 0 0⟩) rfl (aAc (w:=wa) _) rfl rfl (aRl _ rfl) Hnl.out (n+1) rfl ?_
  intro ao5 c5 w5 own2 gr2 new2;have HE:=hid (Hend.out _ _ _ _ own2 gr2 new2);have q1:=aAa HE.out.1 0;have qf:=aAd HE.out.1 0;simp at q1;have q2:w5.heap[gb]? =_:=(gr2.block gb (Nat.lt_of_lt_of_le Hgb.out (by show wa.heap.size<=(wa.alloc _).heap.size;simp)) (fun e=>Hgn.out e.symm)).trans ((aAe _ (aAb hS.2)).trans hS.2);refine hK.out _ _ (fun _=>⟨q1,q2⟩) ?_;clear hK K own2 gr2 new2 Hown Hend hS
  try simp only[Act.put,sA,sZ,sS]
  refine aAi (i:=8) (by kernel_rfl) rfl (fun K hK=> ?_);go_simp;refine hK.out _ _ (fun h=>absurd h (by decide)) ?_;clear hK K;refine aAi (i:=9) (by kernel_rfl) rfl (fun K hK=> ?_);go_simp;refine hK.out _ _ (fun h=>absurd h (by decide)) ?_;clear hK K;refine aAi (i:=10) (by kernel_rfl) rfl (fun K hK=> ?_);go_simp;refine hK.out _ _ (fun h=>absurd h (by decide)) ?_;clear hK K;refine aCw (by kernel_rfl) ?_ _
  clear q1 q2 qf;go_wp2;refine bodyPost_ret (results_tmp (t:=6) rfl _ _ _) rfl ⟨rfl,?_⟩;refine ⟨_,_,HE.out.2.1,aMq _ _,(Mod.ofBelow (F:=RdF rb (.slice ao n c) ms) Hba.out (fun b hb hge=>by omega)).trans HE.out.2.2.1,fun g hg=> ?_⟩;rcases HE.out.2.2.2 g hg with q|q
  ·exact .inl q
  ·exact .inr (a7g Hba.out.size q)
 |some p=>
  obtain ⟨m,hm,hmk⟩:=Hp.out p rfl;unfold parV;have bp:decide ((0:Int)<=(p:Int))=true:=dT (by omega);have bp2:(0:Int)<=(p:Int):=by omega
  have Hm:=hid (And.intro hm hmk);clear hm hmk;go_enter Tryz.func110,Tryz.ntmps110;go_upto_region 1 with (fail)
  rw[<-hwa,<-hgb];clear hwa hgb;go_upto_region 2 with (fail)
  refine aCx (fun w'=>w'.cell? ⟨rb,0,none⟩=some (.slice ao n c)/\w'.heap[gb]? =some (.cells #[.int .i64 x.kind,.string x.key,.string x.text,.bool x.quoted,.int .i64 x.line,.slice none 0 0] 55 (0,0))) (fun i=>decide (i<8)) (by kernel_rfl) ?_;have hS:wa.drew.cell? ⟨rb,0,none⟩=some (.slice ao n c)/\wa.drew.heap[gb]? =some (.cells #[.int .i64 x.kind,.string x.key,.string x.text,.bool x.quoted,.int .i64 x.line,.slice none 0 0] 55 (0,0)):=Hg.out
  refine wK (i:=0) (v:= ?_) rfl (by kernel_rfl) (fun _ _ _ h=>h) (by rfl) ?_ hS ?_;rotate_left
  ·intro w' hSw;obtain ⟨s1,s2⟩:=hSw;obtain ⟨t0,t1,t2,t3,t4,t5⟩:=cB6 s2;simp at t0 t1 t2 t3 t4 t5;clear s2;go_simp
   try with_reducible rfl
  simp only[Act.put,sA,sZ,sS];refine wK (i:=1) (v:= ?_) rfl (by kernel_rfl) (fun _ _ _ h=>h) (by rfl) ?_ hS ?_;rotate_left
  ·intro w' hSw;obtain ⟨s1,s2⟩:=hSw;obtain ⟨t0,t1,t2,t3,t4,t5⟩:=cB6 s2;simp at t0 t1 t2 t3 t4 t5;clear s2;go_simp
   try with_reducible rfl
  simp only[Act.put,sA,sZ,sS];refine wK (i:=2) (v:= ?_) rfl (by kernel_rfl) (fun _ _ _ h=>h) (by rfl) ?_ hS ?_;rotate_left
  ·intro w' hSw;obtain ⟨s1,s2⟩:=hSw;obtain ⟨t0,t1,t2,t3,t4,t5⟩:=cB6 s2;simp at t0 t1 t2 t3 t4 t5;clear s2;go_simp
   try with_reducible rfl
  simp only[Act.put,sA,sZ,sS];refine wK (i:=3) (v:= ?_) rfl (by kernel_rfl) (fun _ _ _ h=>h) (by rfl) ?_ hS ?_;rotate_left
  ·intro w' hSw;obtain ⟨s1,s2⟩:=hSw;obtain ⟨t0,t1,t2,t3,t4,t5⟩:=cB6 s2;simp at t0 t1 t2 t3 t4 t5;clear s2;go_simp
   try with_reducible rfl
  simp only[Act.put,sA,sZ,sS];refine wK (i:=4) (v:= ?_) rfl (by kernel_rfl) (fun _ _ _ h=>h) (by rfl) ?_ hS ?_;rotate_left
  ·intro w' hSw;obtain ⟨s1,s2⟩:=hSw;obtain ⟨t0,t1,t2,t3,t4,t5⟩:=cB6 s2;simp at t0 t1 t2 t3 t4 t5;clear s2;go_simp
   try with_reducible rfl
  simp only[Act.put,sA,sZ,sS];refine wK (i:=5) (v:= ?_) rfl (by kernel_rfl) (fun _ _ _ h=>h) (by rfl) ?_ hS ?_;rotate_left
  ·intro w' hSw;obtain ⟨s1,s2⟩:=hSw;obtain ⟨t0,t1,t2,t3,t4,t5⟩:=cB6 s2;simp at t0 t1 t2 t3 t4 t5;clear s2;go_simp
   try with_reducible rfl
  simp only[Act.put,sA,sZ,sS];refine aAi (i:=6) (by kernel_rfl) rfl (fun K hK=> ?_);go_simp;refine hK.out _ _ (fun _=>⟨aBd ((a7d wa.drew.heap.size wa.drew).alloc (a7c _) _) hS.1,(aAe _ (aAb hS.2)).trans hS.2⟩) ?_;clear hK K
  try simp only[Act.put,sA,sZ,sS]
  refine aAi (i:=7) (by kernel_rfl) rfl (fun K hK=> ?_);refine aG4 55 33 (.agg #[.int .i64 0,.string ⟨#[]⟩,.string ⟨#[]⟩,.bool false,.int .i64 0,.slice none 0 0]) 6 80 Tryz.underlying33 aG2 rfl (by decide) (by decide) rfl _ _ rfl (.slice ao n c) n (ms.flatMap NdM.cells) rfl (Hown.out _) wa.heap.size #[.int .i64 x.kind,.string x.key,.string x.text,.bool x.quoted,.int .i64 x.line,.slice none 0 0] (NdM.cells ⟨x,.slice none 0 0⟩) rfl (aAc (w:=wa) _) rfl rfl (aRl _ rfl) Hnl.out (n+1) rfl ?_
  intro ao5 c5 w5 own2 gr2 new2;have HE:=hid (Hend.out _ _ _ _ own2 gr2 new2);have q1:=aAa HE.out.1 0;have qf:=aAd HE.out.1 0;simp at q1;have q2:w5.heap[gb]? =_:=(gr2.block gb (Nat.lt_of_lt_of_le Hgb.out (by show wa.heap.size<=(wa.alloc _).heap.size;simp)) (fun e=>Hgn.out e.symm)).trans ((aAe _ (aAb hS.2)).trans hS.2);refine hK.out _ _ (fun _=>⟨q1,q2⟩) ?_;clear hK K own2 gr2 new2 Hown Hend hS
  try simp only[Act.put,sA,sZ,sS]
  refine aAi (i:=8) (by kernel_rfl) rfl (fun K hK=> ?_);go_simp;refine hK.out _ _ (fun h=>absurd h (by decide)) ?_;clear hK K;refine aAi (i:=9) (by kernel_rfl) rfl (fun K hK=> ?_);go_simp;refine hK.out _ _ (fun h=>absurd h (by decide)) ?_;clear hK K;refine aAi (i:=10) (by kernel_rfl) rfl (fun K hK=> ?_);go_simp;refine hK.out _ _ (fun h=>absurd h (by decide)) ?_;clear hK K;refine aCw (by kernel_rfl) ?_ _
  clear q1 q2 qf;go_upto_region 4 with (fail)
  obtain ⟨w4,hw4⟩:∃w4,w4=w5.setCell ⟨rb,0,none⟩ (.slice ao5 (n+1) c5):=⟨_,rfl⟩;have h2:=HE.out.2.1;have hm4:=HE.out.2.2.1;have ho4:=HE.out.2.2.2;rw[<-hw4]at h2 hm4 |-;have hm2:(ms++[(⟨x,.slice none 0 0⟩:NdM)])[p]? =some m:=by rw[List.getElem?_append_left (a7j Hm.out.1).1];exact Hm.out.1
  obtain ⟨g,c',hnv,hg,hat,hgf⟩:=h2.nr.at hm2;injection hnv with hnv1 hnv2 hnv3
  subst hnv1;have hP:=h2.nr.each m (List.mem_of_getElem? hm2);obtain ⟨ka,q,kc,hmk⟩:∃a n c,m.kv= .slice a n c:=by obtain ⟨a,c,h⟩:=(aCk hP.row:∃a c,m.kv= .slice a m.nd.kids.length c);exact ⟨a,_,c,h⟩
  have hq:q=m.nd.kids.length:=by
   have:=hP.row;rw[hmk]at this;exact (aSj this)
  obtain ⟨N,hN⟩:∃N,N=n+1:=⟨_,rfl⟩;have hc5:=hat.c5;rw[hmk]at hc5;have hblk2:=h2.blk;rw[<-hN]at hblk2 h2 ho4 hg |-;have z0:=aAa hblk2 0;simp at z0;have hpn:p<n:=by rw[Hn.out];exact (a7j Hm.out.1).1
  have bi:(p:Int)<(N:Int):=by omega
  have Hown2:=hid (fun ob=>show ((w4.alloc ob).drew).ownsRow 0 3 1 (.slice ka q kc) q (m.nd.kids.flatMap aB9) from by
   have:=hP.row;rw[hmk,<-hq]at this;exact World.ownsRow.alloc (w:=w4) this ob)
  have Hend2:=hid (fun ob ao6 c6 (w6:World) (a1:w6.ownsRow 0 3 1 (.slice ao6 (q+1) c6) (q+1) (m.nd.kids.flatMap aB9++[.int .i64 (n:Int)])) (a2:((w4.alloc ob).drew).grownBy w6 (Value.slice ka q kc).ownBlock)
   (a3:∀g,(Value.slice ao6 (q+1) c6).ownBlock=some g->(Value.slice ka q kc).ownBlock=some g\/((w4.alloc ob).drew).heap.size<=g)=>a58 h2 hm2 hg hq (by have:=Hm.out.2;omega) (((a7d w4.heap.size w4).alloc (a7c _) ob).drew) a1 (by rw[hmk];exact a2) (by rw[hmk];exact a3))
  have Hql:=hid (show q<=2000000 by have:=Hm.out.2;omega);have Hg2:=hid (And.intro z0 hc5);have Hgf:=hid hgf;have Hm4:=hid (And.intro hm4 (And.intro ho4 hm2));clear HE hw4 h2 hm4 ho4 hm2 hnv2 hnv3 hg hat hgf hP hmk hq hc5 hblk2 z0 hN Hg Hgb Hgn Hga hpn;have Hg:=Hg2;clear Hg2;refine aCx (fun w'=>w'.cell? ⟨rb,0,none⟩=some (.slice (some ⟨g,0,none⟩) N c5)/\w'.cell? ⟨g,p*6+5,none⟩=some (.slice ka q kc)) (fun i=>decide (i<16)) (by kernel_rfl) ?_
  have hS:w4.drew.cell? ⟨rb,0,none⟩=some (.slice (some ⟨g,0,none⟩) N c5)/\w4.drew.cell? ⟨g,p*6+5,none⟩=some (.slice ka q kc):=Hg.out;refine wK (i:=0) (v:= ?_) rfl (by kernel_rfl) (fun _ _ _ h=>h) (by rfl) ?_ hS ?_;rotate_left
  ·intro w' hSw;obtain ⟨s1,s2⟩:=hSw;go_simp
   try with_reducible rfl
  simp only[Act.put,sA,sZ,sS];refine wK (i:=1) (v:= ?_) rfl (by kernel_rfl) (fun _ _ _ h=>h) (by rfl) ?_ hS ?_;rotate_left
  ·intro w' hSw;obtain ⟨s1,s2⟩:=hSw;go_simp
   try with_reducible rfl
  simp only[Act.put,sA,sZ,sS];refine wK (i:=2) (v:= ?_) rfl (by kernel_rfl) (fun _ _ _ h=>h) (by rfl) ?_ hS ?_;rotate_left
  ·intro w' hSw;obtain ⟨s1,s2⟩:=hSw;go_simp
   try with_reducible rfl
  simp only[Act.put,sA,sZ,sS];refine wK (i:=3) (v:= ?_) rfl (by kernel_rfl) (fun _ _ _ h=>h) (by rfl) ?_ hS ?_;rotate_left
  ·intro w' hSw;obtain ⟨s1,s2⟩:=hSw;go_simp
   try with_reducible rfl
  simp only[Act.put,sA,sZ,sS];refine wK (i:=4) (v:= ?_) rfl (by kernel_rfl) (fun _ _ _ h=>h) (by rfl) ?_ hS ?_;rotate_left
  ·intro w' hSw;obtain ⟨s1,s2⟩:=hSw;go_simp
   try with_reducible rfl
  simp only[Act.put,sA,sZ,sS];refine wK (i:=5) (v:= ?_) rfl (by kernel_rfl) (fun _ _ _ h=>h) (by rfl) ?_ hS ?_;rotate_left
  ·intro w' hSw;obtain ⟨s1,s2⟩:=hSw;go_simp
   try with_reducible rfl
  simp only[Act.put,sA,sZ,sS];refine wK (i:=6) (v:= ?_) rfl (by kernel_rfl) (fun _ _ _ h=>h) (by rfl) ?_ hS ?_;rotate_left
  ·intro w' hSw;obtain ⟨s1,s2⟩:=hSw;go_simp
   try with_reducible rfl
  simp only[Act.put,sA,sZ,sS];refine wK (i:=7) (v:= ?_) rfl (by kernel_rfl) (fun _ _ _ h=>h) (by rfl) ?_ hS ?_;rotate_left
  ·intro w' hSw;obtain ⟨s1,s2⟩:=hSw;go_simp
   try with_reducible rfl
  simp only[Act.put,sA,sZ,sS];refine wK (i:=8) (v:= ?_) rfl (by kernel_rfl) (fun _ _ _ h=>h) (by rfl) ?_ hS ?_;rotate_left
  ·intro w' hSw;obtain ⟨s1,s2⟩:=hSw;go_simp
   try with_reducible rfl
  simp only[Act.put,sA,sZ,sS];refine wK (i:=9) (v:= ?_) rfl (by kernel_rfl) (fun _ _ _ h=>h) (by rfl) ?_ hS ?_;rotate_left
  ·intro w' hSw;obtain ⟨s1,s2⟩:=hSw;go_simp
   try with_reducible rfl
  simp only[Act.put,sA,sZ,sS];refine wK (i:=10) (v:= ?_) rfl (by kernel_rfl) (fun _ _ _ h=>h) (by rfl) ?_ hS ?_;rotate_left
  ·intro w' hSw;obtain ⟨s1,s2⟩:=hSw;go_simp
   try with_reducible rfl
  simp only[Act.put,sA,sZ,sS];refine wK (i:=11) (v:= ?_) rfl (by kernel_rfl) (fun _ _ _ h=>h) (by rfl) ?_ hS ?_;rotate_left
  ·intro w' hSw;obtain ⟨s1,s2⟩:=hSw;go_simp
   try with_reducible rfl
  simp only[Act.put,sA,sZ,sS];refine wK (i:=12) (v:= ?_) rfl (by kernel_rfl) (fun _ _ _ h=>h) (by rfl) ?_ hS ?_;rotate_left
  ·intro w' hSw;obtain ⟨s1,s2⟩:=hSw;go_simp
   try with_reducible rfl
  simp only[Act.put,sA,sZ,sS];refine wK (i:=13) (v:= ?_) rfl (by kernel_rfl) (fun _ _ _ h=>h) (by rfl) ?_ hS ?_;rotate_left
  ·intro w' hSw;obtain ⟨s1,s2⟩:=hSw;go_simp
   try with_reducible rfl
  simp only[Act.put,sA,sZ,sS];refine aAi (i:=14) (by kernel_rfl) rfl (fun K hK=> ?_);go_simp;refine hK.out _ _ (fun _=>⟨aBd ((a7d w4.drew.heap.size w4.drew).alloc (a7c _) _) hS.1,aBd ((a7d w4.drew.heap.size w4.drew).alloc (a7c _) _) hS.2⟩) ?_;clear hK K
  try simp only[Act.put,sA,sZ,sS]
  refine aAi (i:=15) (by kernel_rfl) rfl (fun K hK=> ?_);refine aG4 3 53 (.int .i64 0) 1 8 Tryz.underlying53 aIn rfl (by decide) (by decide) rfl _ _ rfl (.slice ka q kc) q (m.nd.kids.flatMap aB9) rfl (Hown2.out _) w4.heap.size #[.int .i64 (n:Int)] [.int .i64 (n:Int)] rfl (aAc (w:=w4) _) rfl rfl aQa Hql.out (q+1) rfl ?_;intro ao6 c6 w6 own2 gr2 new2
  have HE2:=hid (Hend2.out _ _ _ _ own2 gr2 new2);have q1:=aEn HE2.out.2.2.1 Hg.out.2;have q2:=aGm HE2.out.2.2.1 (Hgf.out (p*6+5));have q3:=aEn HE2.out.2.1 Hg.out.1;refine hK.out _ _ (fun _=>⟨q3,q1⟩) ?_;clear hK K own2 gr2 new2 Hown2 Hend2 hS
  try simp only[Act.put,sA,sZ,sS]
  refine aAi (i:=16) (by kernel_rfl) rfl (fun K hK=> ?_);go_simp;refine hK.out _ _ (fun h=>absurd h (by decide)) ?_;clear hK K;refine aAi (i:=17) (by kernel_rfl) rfl (fun K hK=> ?_);go_simp;refine hK.out _ _ (fun h=>absurd h (by decide)) ?_;clear hK K;refine aAi (i:=18) (by kernel_rfl) rfl (fun K hK=> ?_);go_simp;refine hK.out _ _ (fun h=>absurd h (by decide)) ?_;clear hK K;refine aCw (by kernel_rfl) ?_ _
  clear q1 q2 q3;go_wp2;refine bodyPost_ret (results_tmp (t:=6) rfl _ _ _) rfl ⟨rfl,?_⟩;have hnn:(nds ms).length=n:=by rw[aBa,Hn.out]
  refine ⟨_,_,HE2.out.2.2.2.1,?_,((Mod.ofBelow (F:=RdF rb (.slice ao n c) ms) Hba.out (fun b hb hge=>by omega)).trans' (Hm4.out.1.trans' HE2.out.2.2.2.2.1 (fun i hi qq=> ?_)) (fun _ _ q=>q)),fun g hg=> ?_⟩
  ·rw[aJt Hm4.out.2.2,aMq];unfold layN;rw[hnn]
  ·rcases qq with qq|qq
   ·exact .inl qq
   ·rcases Hm4.out.2.1 i qq with qq|qq
    ·exact .inr qq
    ·omega
  ·rcases HE2.out.2.2.2.2.2 g hg with qq|qq
   ·rcases Hm4.out.2.1 g qq with qq|qq
    ·exact .inl qq
    ·exact .inr (a7g Hba.out.size qq)
   ·exact .inr (a7g Hba.out.size (a7g Hm4.out.1.size qq))
