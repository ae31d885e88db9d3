/-
Parts of a proof.
-/
import Derived.Test.YtfenoaeoedobmaaGreatDoorBk38
set_option linter.unusedVariables false
set_option linter.unusedSimpArgs false
set_option maxHeartbeats 4000000
set_option maxRecDepth 20000
namespace Go.Proofs.YtfenoaeoedobmaaGreatDoor
open Go Go.RowKit
theorem TwEs.toE {a:Act} {bb wb lv n j:Nat} {ev:Value} {sx:ByteArray} (h:TwEs a bb wb lv ev n j sx):TwE a bb wb lv ev n j:=⟨h.size,h.dfr,h.s1,h.s3,h.s5,h.s60,h.s61,h.s62⟩
theorem TwTk.toT {a:Act} {bb wb lv n j tb k:Nat} {ev:Value} (h:TwTk a bb wb lv ev n j tb k):TwT a bb wb lv ev n j:=⟨h.size,h.dfr,h.s1,h.s3,h.s8,h.s79,h.s80,h.s81⟩
theorem TwUk.toU {a:Act} {bb wb lv n j tb k:Nat} {ev:Value} (h:TwUk a bb wb lv ev n j tb k):TwU a bb wb lv ev n j:=⟨h.size,h.dfr,h.s1,h.s3,h.s12,h.s129,h.s130,h.s131⟩
theorem TwE.toO {a:Act} {bb wb lv n j:Nat} {ev:Value} (h:TwE a bb wb lv ev n j):TwO a bb wb:=⟨h.size,h.dfr,h.s1,h.s3⟩
theorem TwT.toO {a:Act} {bb wb lv n j:Nat} {ev:Value} (h:TwT a bb wb lv ev n j):TwO a bb wb:=⟨h.size,h.dfr,h.s1,h.s3⟩
theorem TwU.toO {a:Act} {bb wb lv n j:Nat} {ev:Value} (h:TwU a bb wb lv ev n j):TwO a bb wb:=⟨h.size,h.dfr,h.s1,h.s3⟩
theorem TwP.toO {a:Act} {bb wb k0:Nat} (h:TwP a bb wb k0):TwO a bb wb:=⟨h.size,h.dfr,h.s1,h.s3⟩
theorem aHb {α:Type} {l:List α} {j:Nat} {x:α} (h:l[j]? =some x):l.take (j+1)=l.take j++[x]:=by
 rw[List.take_add_one,h];rfl
def aO4 {α:Type} (w:World) (lw:Value) (n sz:Nat) (l:List α) (cells:α->List Value):Prop:=
 ∀j x,l[j]? =some x->∃lb lo lc,lw= .slice (some ⟨lb,lo,none⟩) n lc/\lb<w.heap.size/\∀i v,(cells x)[i]? =some v->w.cell? ⟨lb,lo+j*sz+i,none⟩=some v
theorem aHc {α:Type} {w:World} {lw:Value} {sz:Nat} {l:List α} {cells:α->List Value} (h:SlR w lw sz l cells):aO4 w lw l.length sz l cells:=by
 obtain ⟨ao,cap,hv,hc,hat⟩:=h;intro j x hx;have hj:=(a7j hx).1;obtain ⟨lb,lo,rfl,hlb,hlc⟩:=hat (by omega);exact ⟨lb,lo,cap,hv,hlb,fun i v hi=>hlc j x hx i v hi⟩
section
variable {w1 w:World} {Q:Exit->Act->World->Prop} {a:Act} {r:Res} {ev tv rv lw:Value} {ns:List Nd} {bb wb lv n:Nat}
theorem a10 {l:List ByteArray} (hn:l.length=n) (hl:ns.length+1*n<1048576) (hp:lv<ns.length) (hs:∀x∈l,x.size<=1048576) (hc:aO4 w1 lw n 1 l aAp) (hT:TrS w1 w r ev tv rv bb wb none ns) (hf:TwE a bb wb lv lw n 0)
 (ok:∀a' w',TwO a' bb wb->TrS w1 w' r ev tv rv bb wb none (addFo ns lv (aBp l))->Q (.exit 1) a' w'):twEl.wp Tryz.prog Q a w:=by
 show (Code.loop (Code.seq twEh (Code.seq twEi (Code.seq (Code.block 2 twEo) twEn)))).wp Tryz.prog Q a w
 refine wp_loop (fun a' w'=>∃(j:Nat),j<=n/\TwE a' bb wb lv lw n j/\TrS w1 w' r ev tv rv bb wb none (addFo ns lv (aBp (l.take j)))) (fun a' _=>n-(intOf (a'.tmps.getD 62 undef)).toNat) ⟨0,Nat.zero_le _,hf,hT.eq (aFv ns lv).symm⟩ ?_;clear hf hT;rintro a1 w2 ⟨j,hj,hf1,hT1⟩;by_cases hjq:j<n
 ·obtain ⟨y,hy⟩:∃y,l[j]? =some y:=aAh (by omega);have hym:=List.mem_of_getElem? hy;have HR:∀(Q':Exit->Act->World->Prop) (a':Act),TwE a' bb wb lv lw n j->
   (∀a2 w',TwE a2 bb wb lv lw n j->TrS w1 w' r ev tv rv bb wb none (addFo ns lv (aBp (l.take (j+1))))->Q' .normal a2 w')->twEo.wp Tryz.prog Q' a' w2:=by
   intro Q' a' hf' ok';rw[aHb hy]at ok';obtain ⟨lb,lo,lc,rfl,hlb,hat⟩:=hc j y hy;have hz:=fun i v (hi:(aAp y)[i]? =some v)=>(hT1.below.cell (p:=⟨lb,lo+j*1+i,none⟩) hlb).trans (hat i v hi);have hlen:(addFo ns lv (aBp (l.take j))).length=ns.length+1*j:=by rw[aAr,aX1,List.length_take,Nat.min_eq_left (by omega)];omega
   have hjl:1*(j+1)<=1*n:=Nat.mul_le_mul_left _ hjq;rw[Nat.mul_one]at hz;rw[aQj,<-aBs hp]at ok'
   show (Code.seq twEa twEc).wp Tryz.prog Q' a' w2
   refine tw_ea _ hjq (hz 0 _ rfl) hf' (fun a2 f2=> ?_);exact tw_ec hT1 (by rw[hlen];omega) (by rw[hlen];omega) (hs y hym) f2 (fun a3 w3 f3 h3=>ok' a3 w3 f3.toE h3)
  obtain ⟨Hms,Hgo⟩:=aA3 (k:=j) (n:=n) hjq (by omega);have HR2:=hid HR;have Hj:=hid hjq;have tj:decide (j<n)=true:=dT hjq;have wj:wrap64 ((j:Int)+1)=(j:Int)+1:=aA1 (by omega) (by omega);obtain ⟨vv,rfl,eE⟩:=hf1.shape;simp only[tw_L,eE];clear eE;clear hf1 hy hym hjq hj hT1 ok HR hn hl hp hc;dsimp only[twEh,twEi,ncs,ncl,ncr,ncb,nco,nct,nce,ncx,Tryz.f29];go_wp2
  rename_i Q1 K1 hK1
  have Hnext:∀(a2:Act) (w':World),TwE a2 bb wb lv lw n j->TrS w1 w' r ev tv rv bb wb none (addFo ns lv (aBp (l.take (j+1))))->K1 a2 w':=by
   intro a2 w' f2 r2;refine hK1 _ _ ?_;have HE:=hid r2;obtain ⟨vv2,rfl,eE⟩:=f2.shape;simp only[tw_L,eE];clear eE;clear f2 r2 HR2;dsimp only[twEn,ncs,ncl,ncr,ncb,nco,nct,nce,ncx,Tryz.f29];go_wp2;exact ⟨⟨j+1,Hj.out,⟨rfl,rfl,rfl,rfl,rfl,rfl,rfl,congrArg some Hgo.out⟩,HE.out⟩,Hms.out⟩
  exact HR2.out _ _ ⟨rfl,rfl,rfl,rfl,rfl,rfl,rfl,rfl⟩ (fun a2 w' f2 r2=>Hnext a2 w' f2 r2)
 ·have ej:j=n:=by omega
  subst ej;rw[List.take_of_length_le (by omega)]at hT1;have HO:=hid (fun a' hd=>ok a' w2 hd hT1);have ti:decide (j<j)=false:=dF (Nat.lt_irrefl j);obtain ⟨vv,rfl,eE⟩:=hf1.shape;simp only[tw_L,eE];clear eE;clear hf1 hj hjq hT1 ok hn hl hp hc;dsimp only[twEh,twEi,ncs,ncl,ncr,ncb,nco,nct,nce,ncx,Tryz.f29];go_wp2;exact HO.out _ ⟨rfl,rfl,rfl,rfl⟩
theorem a11 {l:List Tgt} (hn:l.length=n) (hl:ns.length+3*n<1048576) (hp:lv<ns.length) (hs:∀x∈l,x.service.size<=1048576/\x.split.size<=1048576/\x.weight<18446744073709551616) (hc:aO4 w1 lw n 3 l aA6) (hT:TrS w1 w r ev tv rv bb wb none ns) (hf:TwT a bb wb lv lw n 0)
 (ok:∀a' w',TwO a' bb wb->TrS w1 w' r ev tv rv bb wb none (addFo ns lv (tgtsF wtF l))->Q (.exit 3) a' w'):twTl.wp Tryz.prog Q a w:=by
 show (Code.loop (Code.seq twTh (Code.seq twTi (Code.seq (Code.block 4 twTo) twTn)))).wp Tryz.prog Q a w
 refine wp_loop (fun a' w'=>∃(j:Nat),j<=n/\TwT a' bb wb lv lw n j/\TrS w1 w' r ev tv rv bb wb none (addFo ns lv (tgtsF wtF (l.take j)))) (fun a' _=>n-(intOf (a'.tmps.getD 81 undef)).toNat) ⟨0,Nat.zero_le _,hf,hT.eq (aFv ns lv).symm⟩ ?_;clear hf hT;rintro a1 w2 ⟨j,hj,hf1,hT1⟩;by_cases hjq:j<n
 ·obtain ⟨y,hy⟩:∃y,l[j]? =some y:=aAh (by omega);have hym:=List.mem_of_getElem? hy;have HR:∀(Q':Exit->Act->World->Prop) (a':Act),TwT a' bb wb lv lw n j->
   (∀a2 w',TwT a2 bb wb lv lw n j->TrS w1 w' r ev tv rv bb wb none (addFo ns lv (tgtsF wtF (l.take (j+1))))->Q' .normal a2 w')->twTo.wp Tryz.prog Q' a' w2:=by
   intro Q' a' hf' ok';rw[aHb hy]at ok';obtain ⟨lb,lo,lc,rfl,hlb,hat⟩:=hc j y hy;have hz:=fun i v (hi:(aA6 y)[i]? =some v)=>(hT1.below.cell (p:=⟨lb,lo+j*3+i,none⟩) hlb).trans (hat i v hi);have hlen:(addFo ns lv (tgtsF wtF (l.take j))).length=ns.length+3*j:=by rw[aAr,a6e,List.length_take,Nat.min_eq_left (by omega)]
   have hjl:3*(j+1)<=3*n:=Nat.mul_le_mul_left _ hjq;rw[aX0,<-aBs hp,<-aE8 (by rw[hlen];omega)]at ok'
   show (Code.seq twTa (Code.seq twTb (Code.seq twTc twTd))).wp Tryz.prog Q' a' w2
   generalize hG:addFo ns lv (tgtsF wtF (l.take j))=G at*;obtain ⟨s1,s2,s3⟩:=hs y hym;refine tw_ta (t:=y) _ hT1 hjq (hz 0 _ rfl) (hz 1 _ rfl) (hz 2 _ rfl) hf' (fun a2 w3 tb f2 h2=> ?_);refine tw_tb _ h2 (by omega) (by omega) f2 (fun a3 w4 f3 h3=> ?_);have hl3:(addFo G lv (.br 2 ⟨#[]⟩ .nil .nil)).length=G.length+1:=by rw[aAr,Fo.aH3,Fo.a1d]
   generalize hG2:addFo G lv (.br 2 ⟨#[]⟩ .nil .nil)=G2 at*;by_cases hsv:y.service=⟨#[]⟩
   ·have e:tgtF wtF y=(leafF aAu y.split .nil).app (leafF aA8 (wtF y.weight) .nil):=by unfold tgtF;rw[if_neg (by simpa using hsv)];rfl
    rw[e,<-aBs (by omega)]at ok';refine tw_tcn _ h3 (by omega) (by omega) hsv s2 f3 (fun a4 w5 f4 h4=> ?_);have hl4:(addFo G2 G.length (leafF aAu y.split .nil)).length=G2.length+1:=by rw[aAr];unfold leafF;rw[Fo.aH2,Fo.a1d]
    refine tw_td h4 (by omega) (by omega) s3 f4 (fun a5 w6 f5 h5=>ok' a5 w6 f5.toT h5.drop)
   ·have e:tgtF wtF y=(leafF aAv y.service .nil).app (leafF aA8 (wtF y.weight) .nil):=by unfold tgtF;rw[if_pos hsv];rfl
    rw[e,<-aBs (by omega)]at ok';refine tw_tcy _ h3 (by omega) (by omega) hsv s1 f3 (fun a4 w5 f4 h4=> ?_);have hl4:(addFo G2 G.length (leafF aAv y.service .nil)).length=G2.length+1:=by rw[aAr];unfold leafF;rw[Fo.aH2,Fo.a1d]
    refine tw_td h4 (by omega) (by omega) s3 f4 (fun a5 w6 f5 h5=>ok' a5 w6 f5.toT h5.drop)
  obtain ⟨Hms,Hgo⟩:=aA3 (k:=j) (n:=n) hjq (by omega);have HR2:=hid HR;have Hj:=hid hjq;have tj:decide (j<n)=true:=dT hjq;have wj:wrap64 ((j:Int)+1)=(j:Int)+1:=aA1 (by omega) (by omega);obtain ⟨vv,rfl,eE⟩:=hf1.shape;simp only[tw_L,eE];clear eE;clear hf1 hy hym hjq hj hT1 ok HR hn hl hp hc;dsimp only[twTh,twTi,ncs,ncl,ncr,ncb,nco,nct,nce,ncx,Tryz.f29];go_wp2
  rename_i Q1 K1 hK1
  have Hnext:∀(a2:Act) (w':World),TwT a2 bb wb lv lw n j->TrS w1 w' r ev tv rv bb wb none (addFo ns lv (tgtsF wtF (l.take (j+1))))->K1 a2 w':=by
   intro a2 w' f2 r2;refine hK1 _ _ ?_;have HE:=hid r2;obtain ⟨vv2,rfl,eE⟩:=f2.shape;simp only[tw_L,eE];clear eE;clear f2 r2 HR2;dsimp only[twTn,ncs,ncl,ncr,ncb,nco,nct,nce,ncx,Tryz.f29];go_wp2;exact ⟨⟨j+1,Hj.out,⟨rfl,rfl,rfl,rfl,rfl,rfl,rfl,congrArg some Hgo.out⟩,HE.out⟩,Hms.out⟩
  exact HR2.out _ _ ⟨rfl,rfl,rfl,rfl,rfl,rfl,rfl,rfl⟩ (fun a2 w' f2 r2=>Hnext a2 w' f2 r2)
 ·have ej:j=n:=by omega
  subst ej;rw[List.take_of_length_le (by omega)]at hT1;have HO:=hid (fun a' hd=>ok a' w2 hd hT1);have ti:decide (j<j)=false:=dF (Nat.lt_irrefl j);obtain ⟨vv,rfl,eE⟩:=hf1.shape;simp only[tw_L,eE];clear eE;clear hf1 hj hjq hT1 ok hn hl hp hc;dsimp only[twTh,twTi,ncs,ncl,ncr,ncb,nco,nct,nce,ncx,Tryz.f29];go_wp2;exact HO.out _ ⟨rfl,rfl,rfl,rfl⟩
theorem aX3 {l:List Rul} (hn:l.length=n) (hl:ns.length+4*n<1048576) (hp:lv<ns.length) (hk:r.kind=3) (hs:∀x∈l,x.path.size<=1048576/\x.method.size<=1048576/\x.split.size<=1048576) (hc:aO4 w1 lw n 4 l aAy) (hT:TrS w1 w r ev tv rv bb wb none ns) (hf:TwU a bb wb lv lw n 0)
 (ok:∀a' w',TwO a' bb wb->TrS w1 w' r ev tv rv bb wb none (addFo ns lv (rulsF false l))->Q (.exit 5) a' w'):twUl.wp Tryz.prog Q a w:=by
 show (Code.loop (Code.seq twUh (Code.seq twUi (Code.seq (Code.block 6 twUo) twUn)))).wp Tryz.prog Q a w
 refine wp_loop (fun a' w'=>∃(j:Nat),j<=n/\TwU a' bb wb lv lw n j/\TrS w1 w' r ev tv rv bb wb none (addFo ns lv (rulsF false (l.take j)))) (fun a' _=>n-(intOf (a'.tmps.getD 131 undef)).toNat) ⟨0,Nat.zero_le _,hf,hT.eq (aFv ns lv).symm⟩ ?_;clear hf hT;rintro a1 w2 ⟨j,hj,hf1,hT1⟩;by_cases hjq:j<n
 ·obtain ⟨y,hy⟩:∃y,l[j]? =some y:=aAh (by omega);have hym:=List.mem_of_getElem? hy;have HR:∀(Q':Exit->Act->World->Prop) (a':Act),TwU a' bb wb lv lw n j->
   (∀a2 w',TwU a2 bb wb lv lw n j->TrS w1 w' r ev tv rv bb wb none (addFo ns lv (rulsF false (l.take (j+1))))->Q' .normal a2 w')->twUo.wp Tryz.prog Q' a' w2:=by
   intro Q' a' hf' ok';rw[aHb hy]at ok';obtain ⟨lb,lo,lc,rfl,hlb,hat⟩:=hc j y hy;have hz:=fun i v (hi:(aAy y)[i]? =some v)=>(hT1.below.cell (p:=⟨lb,lo+j*4+i,none⟩) hlb).trans (hat i v hi);have hlen:(addFo ns lv (rulsF false (l.take j))).length=ns.length+4*j:=by rw[aAr,aX2,List.length_take,Nat.min_eq_left (by omega)]
   have hjl:4*(j+1)<=4*n:=Nat.mul_le_mul_left _ hjq;rw[aO3,<-aBs hp,<-aE8 (by rw[hlen];omega)]at ok'
   show (Code.seq twUa (Code.seq twUb (Code.seq twUc (Code.seq twUd (Code.seq twUe twUf))))).wp Tryz.prog Q' a' w2
   generalize hG:addFo ns lv (rulsF false (l.take j))=G at*;obtain ⟨s1,s2,s3⟩:=hs y hym;refine tw_ua (u:=y) _ hT1 hjq (hz 0 _ rfl) (hz 1 _ rfl) (hz 2 _ rfl) (hz 3 _ rfl) hf' (fun a2 w3 tb f2 h2=> ?_);refine tw_ub _ h2 (by omega) (by omega) f2 (fun a3 w4 f3 h3=> ?_);have hl3:(addFo G lv (.br 2 ⟨#[]⟩ .nil .nil)).length=G.length+1:=by rw[aAr,Fo.aH3,Fo.a1d]
   generalize hG2:addFo G lv (.br 2 ⟨#[]⟩ .nil .nil)=G2 at*;have e:rulF false y=(leafF kPath y.path .nil).app ((leafF aA7 y.method .nil).app (leafF aAu y.split .nil)):=by unfold rulF;rw[if_neg (by decide)];rfl
   rw[e,<-aBs (by omega),<-aBs (by rw[aAr];omega)]at ok';refine tw_ucn _ h3 hk f3 (fun a4 f4=> ?_);refine tw_ud _ h3 (by omega) (by omega) s1 f4 (fun a5 w6 f5 h5=> ?_);have hl5:(addFo G2 G.length (leafF kPath y.path .nil)).length=G2.length+1:=by rw[aAr];unfold leafF;rw[Fo.aH2,Fo.a1d]
   refine tw_ue _ h5 (by omega) (by omega) s2 f5 (fun a6 w7 f6 h6=> ?_);have hl6:(addFo (addFo G2 G.length (leafF kPath y.path .nil)) G.length (leafF aA7 y.method .nil)).length=G2.length+2:=by rw[aAr,hl5];unfold leafF;rw[Fo.aH2,Fo.a1d]
   exact tw_ufy h6 (by omega) (by omega) hk s3 f6 (fun a7 w8 f7 h7=>ok' a7 w8 f7.toU h7.drop)
  obtain ⟨Hms,Hgo⟩:=aA3 (k:=j) (n:=n) hjq (by omega);have HR2:=hid HR;have Hj:=hid hjq;have tj:decide (j<n)=true:=dT hjq;have wj:wrap64 ((j:Int)+1)=(j:Int)+1:=aA1 (by omega) (by omega);obtain ⟨vv,rfl,eE⟩:=hf1.shape;simp only[tw_L,eE];clear eE;clear hf1 hy hym hjq hj hT1 ok HR hn hl hp hc;dsimp only[twUh,twUi,ncs,ncl,ncr,ncb,nco,nct,nce,ncx,Tryz.f29];go_wp2
  rename_i Q1 K1 hK1
  have Hnext:∀(a2:Act) (w':World),TwU a2 bb wb lv lw n j->TrS w1 w' r ev tv rv bb wb none (addFo ns lv (rulsF false (l.take (j+1))))->K1 a2 w':=by
   intro a2 w' f2 r2;refine hK1 _ _ ?_;have HE:=hid r2;obtain ⟨vv2,rfl,eE⟩:=f2.shape;simp only[tw_L,eE];clear eE;clear f2 r2 HR2;dsimp only[twUn,ncs,ncl,ncr,ncb,nco,nct,nce,ncx,Tryz.f29];go_wp2;exact ⟨⟨j+1,Hj.out,⟨rfl,rfl,rfl,rfl,rfl,rfl,rfl,congrArg some Hgo.out⟩,HE.out⟩,Hms.out⟩
  exact HR2.out _ _ ⟨rfl,rfl,rfl,rfl,rfl,rfl,rfl,rfl⟩ (fun a2 w' f2 r2=>Hnext a2 w' f2 r2)
 ·have ej:j=n:=by omega
  subst ej;rw[List.take_of_length_le (by omega)]at hT1;have HO:=hid (fun a' hd=>ok a' w2 hd hT1);have ti:decide (j<j)=false:=dF (Nat.lt_irrefl j);obtain ⟨vv,rfl,eE⟩:=hf1.shape;simp only[tw_L,eE];clear eE;clear hf1 hj hjq hT1 ok hn hl hp hc;dsimp only[twUh,twUi,ncs,ncl,ncr,ncb,nco,nct,nce,ncx,Tryz.f29];go_wp2;exact HO.out _ ⟨rfl,rfl,rfl,rfl⟩
theorem aX4 {l:List Rul} (hn:l.length=n) (hl:ns.length+4*n<1048576) (hp:lv<ns.length) (hk:r.kind=4) (hs:∀x∈l,x.path.size<=1048576/\x.method.size<=1048576/\x.split.size<=1048576) (hc:aO4 w1 lw n 4 l aAy) (hT:TrS w1 w r ev tv rv bb wb none ns) (hf:TwU a bb wb lv lw n 0)
 (ok:∀a' w',TwO a' bb wb->TrS w1 w' r ev tv rv bb wb none (addFo ns lv (rulsF true l))->Q (.exit 5) a' w'):twUl.wp Tryz.prog Q a w:=by
 show (Code.loop (Code.seq twUh (Code.seq twUi (Code.seq (Code.block 6 twUo) twUn)))).wp Tryz.prog Q a w
 refine wp_loop (fun a' w'=>∃(j:Nat),j<=n/\TwU a' bb wb lv lw n j/\TrS w1 w' r ev tv rv bb wb none (addFo ns lv (rulsF true (l.take j)))) (fun a' _=>n-(intOf (a'.tmps.getD 131 undef)).toNat) ⟨0,Nat.zero_le _,hf,hT.eq (aFv ns lv).symm⟩ ?_;clear hf hT;rintro a1 w2 ⟨j,hj,hf1,hT1⟩;by_cases hjq:j<n
 ·obtain ⟨y,hy⟩:∃y,l[j]? =some y:=aAh (by omega);have hym:=List.mem_of_getElem? hy;have HR:∀(Q':Exit->Act->World->Prop) (a':Act),TwU a' bb wb lv lw n j->
   (∀a2 w',TwU a2 bb wb lv lw n j->TrS w1 w' r ev tv rv bb wb none (addFo ns lv (rulsF true (l.take (j+1))))->Q' .normal a2 w')->twUo.wp Tryz.prog Q' a' w2:=by
   intro Q' a' hf' ok';rw[aHb hy]at ok';obtain ⟨lb,lo,lc,rfl,hlb,hat⟩:=hc j y hy;have hz:=fun i v (hi:(aAy y)[i]? =some v)=>(hT1.below.cell (p:=⟨lb,lo+j*4+i,none⟩) hlb).trans (hat i v hi);have hlen:(addFo ns lv (rulsF true (l.take j))).length=ns.length+4*j:=by rw[aAr,aX2,List.length_take,Nat.min_eq_left (by omega)]
   have hjl:4*(j+1)<=4*n:=Nat.mul_le_mul_left _ hjq;rw[aO3,<-aBs hp,<-aE8 (by rw[hlen];omega)]at ok'
   show (Code.seq twUa (Code.seq twUb (Code.seq twUc (Code.seq twUd (Code.seq twUe twUf))))).wp Tryz.prog Q' a' w2
   generalize hG:addFo ns lv (rulsF true (l.take j))=G at*;obtain ⟨s1,s2,s3⟩:=hs y hym;refine tw_ua (u:=y) _ hT1 hjq (hz 0 _ rfl) (hz 1 _ rfl) (hz 2 _ rfl) (hz 3 _ rfl) hf' (fun a2 w3 tb f2 h2=> ?_);refine tw_ub _ h2 (by omega) (by omega) f2 (fun a3 w4 f3 h3=> ?_);have hl3:(addFo G lv (.br 2 ⟨#[]⟩ .nil .nil)).length=G.length+1:=by rw[aAr,Fo.aH3,Fo.a1d]
   generalize hG2:addFo G lv (.br 2 ⟨#[]⟩ .nil .nil)=G2 at*;have e:rulF true y=(leafF aBn (if y.allow=true then kAllow else kDeny) .nil).app ((leafF kPath y.path .nil).app (leafF aA7 y.method .nil)):=by unfold rulF;rw[if_pos rfl];rfl
   rw[e,<-aBs (by omega),<-aBs (by rw[aAr];omega)]at ok';refine tw_ucy _ h3 (by omega) (by omega) hk f3 (fun a4 w5 f4 h4=> ?_);have hl4:(addFo G2 G.length (leafF aBn (if y.allow=true then kAllow else kDeny) .nil)).length=G2.length+1:=by rw[aAr];unfold leafF;rw[Fo.aH2,Fo.a1d]
   refine tw_ud _ h4 (by omega) (by omega) s1 f4 (fun a5 w6 f5 h5=> ?_);have hl5:(addFo (addFo G2 G.length (leafF aBn (if y.allow=true then kAllow else kDeny) .nil)) G.length (leafF kPath y.path .nil)).length=G2.length+2:=by rw[aAr,hl4];unfold leafF;rw[Fo.aH2,Fo.a1d]
   refine tw_ue _ h5 (by omega) (by omega) s2 f5 (fun a6 w7 f6 h6=> ?_);exact tw_ufn h6 hk f6 (fun a7 f7=>ok' a7 w7 f7.toU h6.drop)
  obtain ⟨Hms,Hgo⟩:=aA3 (k:=j) (n:=n) hjq (by omega);have HR2:=hid HR;have Hj:=hid hjq;have tj:decide (j<n)=true:=dT hjq;have wj:wrap64 ((j:Int)+1)=(j:Int)+1:=aA1 (by omega) (by omega);obtain ⟨vv,rfl,eE⟩:=hf1.shape;simp only[tw_L,eE];clear eE;clear hf1 hy hym hjq hj hT1 ok HR hn hl hp hc;dsimp only[twUh,twUi,ncs,ncl,ncr,ncb,nco,nct,nce,ncx,Tryz.f29];go_wp2
  rename_i Q1 K1 hK1
  have Hnext:∀(a2:Act) (w':World),TwU a2 bb wb lv lw n j->TrS w1 w' r ev tv rv bb wb none (addFo ns lv (rulsF true (l.take (j+1))))->K1 a2 w':=by
   intro a2 w' f2 r2;refine hK1 _ _ ?_;have HE:=hid r2;obtain ⟨vv2,rfl,eE⟩:=f2.shape;simp only[tw_L,eE];clear eE;clear f2 r2 HR2;dsimp only[twUn,ncs,ncl,ncr,ncb,nco,nct,nce,ncx,Tryz.f29];go_wp2;exact ⟨⟨j+1,Hj.out,⟨rfl,rfl,rfl,rfl,rfl,rfl,rfl,congrArg some Hgo.out⟩,HE.out⟩,Hms.out⟩
  exact HR2.out _ _ ⟨rfl,rfl,rfl,rfl,rfl,rfl,rfl,rfl⟩ (fun a2 w' f2 r2=>Hnext a2 w' f2 r2)
 ·have ej:j=n:=by omega
  subst ej;rw[List.take_of_length_le (by omega)]at hT1;have HO:=hid (fun a' hd=>ok a' w2 hd hT1);have ti:decide (j<j)=false:=dF (Nat.lt_irrefl j);obtain ⟨vv,rfl,eE⟩:=hf1.shape;simp only[tw_L,eE];clear eE;clear hf1 hj hjq hT1 ok hn hl hp hc;dsimp only[twUh,twUi,ncs,ncl,ncr,ncb,nco,nct,nce,ncx,Tryz.f29];go_wp2;exact HO.out _ ⟨rfl,rfl,rfl,rfl⟩
end
noncomputable def twQ7:Code:=(ncl (ncb (ncl (ncr (ncr (ncr (ncr (ncr (ncr (ncx Tryz.f29.body))))))))))
noncomputable def twS9:Code:=(nce (ncr (ncb (ncl (ncr (ncr (ncr (ncr (ncr (ncr (ncx Tryz.f29.body)))))))))))
noncomputable def twEX:Code:=(nct (ncr (nce (ncr (ncb (ncl (ncr (ncr (ncr (ncr (ncr (ncr (ncx Tryz.f29.body)))))))))))))
noncomputable def twS16:Code:=(nce (ncr (nce (ncr (ncb (ncl (ncr (ncr (ncr (ncr (ncr (ncr (ncx Tryz.f29.body)))))))))))))
noncomputable def twTX:Code:=(nct (ncr (nce (ncr (nce (ncr (ncb (ncl (ncr (ncr (ncr (ncr (ncr (ncr (ncx Tryz.f29.body)))))))))))))))
noncomputable def twS27:Code:=(nce (ncr (nce (ncr (nce (ncr (ncb (ncl (ncr (ncr (ncr (ncr (ncr (ncr (ncx Tryz.f29.body)))))))))))))))
noncomputable def twUX:Code:=(nct (ncr (nce (ncr (nce (ncr (nce (ncr (ncb (ncl (ncr (ncr (ncr (ncr (ncr (ncr (ncx Tryz.f29.body)))))))))))))))))
section
variable {w1 w:World} {Q:Exit->Act->World->Prop} {a:Act} {r:Res} {ev tv rv lw:Value} {ns:List Nd} {bb wb k0:Nat}
theorem aF6 {α:Type} {w:World} {v:Value} {sz:Nat} {xs:List α} {cells:α->List Value} (h:SlR w v sz xs cells) {n:Nat} (hn:xs.length=n):∃a c,v= .slice a n c:=by
 obtain ⟨ao,cap,hv,_⟩:=h;rw[hn]at hv;exact ⟨ao,cap,hv⟩
theorem tw_ex (hT:TrS w1 w r ev tv rv bb wb none ns) (hz:ResZ r) (hp:k0<ns.length) (hl:ns.length<=4) (hf:TwP a bb wb k0)
 (ok:∀a' w',TwO a' bb wb->TrS w1 w' r ev tv rv bb wb none (addFo ns k0 (.br 3 aAt (aBp r.endps) .nil))->Q .normal a' w'):twEX.wp Tryz.prog Q a w:=by
 show (Code.seq twE1 (Code.seq twE2 (Code.block 1 twEl))).wp Tryz.prog Q a w
 rw[<-aE8 hp]at ok;have hn:=hz.n;refine tw_e1 _ hT (by omega) hp hf (fun a2 w2 f2 h2=> ?_);obtain ⟨ao,cap,rfl⟩:=aF6 hT.lists.e rfl;refine tw_e2 _ h2 f2 (fun a3 f3=> ?_);have hl2:(addFo ns k0 (.br 3 aAt .nil .nil)).length=ns.length+1:=by rw[aAr,Fo.aH3,Fo.a1d]
 refine wp_block (a10 rfl (by omega) (by omega) hz.e (aHc hT.lists.e) h2 f3 (fun a4 w4 f4 h4=>aMp (ok a4 w4 f4 h4)))
theorem tw_tx (hT:TrS w1 w r ev tv rv bb wb none ns) (hz:ResZ r) (hp:k0<ns.length) (hl:ns.length<=4) (hf:TwP a bb wb k0)
 (ok:∀a' w',TwO a' bb wb->TrS w1 w' r ev tv rv bb wb none (addFo ns k0 (.br 3 aBl (tgtsF wtF r.targets) .nil))->Q .normal a' w'):twTX.wp Tryz.prog Q a w:=by
 show (Code.seq twT1 (Code.seq twT2 (Code.block 3 twTl))).wp Tryz.prog Q a w
 rw[<-aE8 hp]at ok;have hn:=hz.n;refine tw_t1 _ hT (by omega) hp hf (fun a2 w2 f2 h2=> ?_);obtain ⟨ao,cap,rfl⟩:=aF6 hT.lists.t rfl;refine tw_t2 _ h2 f2 (fun a3 f3=> ?_);have hl2:(addFo ns k0 (.br 3 aBl .nil .nil)).length=ns.length+1:=by rw[aAr,Fo.aH3,Fo.a1d]
 refine wp_block (a11 rfl (by omega) (by omega) hz.t (aHc hT.lists.t) h2 f3 (fun a4 w4 f4 h4=>aMp (ok a4 w4 f4 h4)))
theorem tw_ux3 (hT:TrS w1 w r ev tv rv bb wb none ns) (hz:ResZ r) (hk:r.kind=3) (hp:k0<ns.length) (hl:ns.length<=4) (hf:TwP a bb wb k0)
 (ok:∀a' w',TwO a' bb wb->TrS w1 w' r ev tv rv bb wb none (addFo ns k0 (leafF kHost r.host (.br 3 aBi (rulsF false r.rules) .nil)))->Q .normal a' w'):twUX.wp Tryz.prog Q a w:=by
 show (Code.seq twU0 (Code.seq twU1 (Code.seq twU2 (Code.block 5 twUl)))).wp Tryz.prog Q a w
 rw[show leafF kHost r.host (.br 3 aBi (rulsF false r.rules) .nil)=(leafF kHost r.host .nil).app (.br 3 aBi (rulsF false r.rules) .nil) from rfl,<-aBs hp,<-aE8 (by rw[aAr];omega)]at ok;have hn:=hz.n;refine tw_u03 _ hT (by omega) hp hk hz.host hf (fun a1 w2 f1 h1=> ?_);have hl1:(addFo ns k0 (leafF kHost r.host .nil)).length=ns.length+1:=by rw[aAr];unfold leafF;rw[Fo.aH2,Fo.a1d]
 refine tw_u1 _ h1 (by omega) (by omega) f1 (fun a2 w3 f2 h2=> ?_);obtain ⟨ao,cap,rfl⟩:=aF6 hT.lists.r rfl;refine tw_u2 _ h2 f2 (fun a3 f3=> ?_);have hl2:(addFo (addFo ns k0 (leafF kHost r.host .nil)) k0 (.br 3 aBi .nil .nil)).length=ns.length+2:=by rw[aAr,Fo.aH3,Fo.a1d,hl1]
 refine wp_block (aX3 rfl (by omega) (by omega) hk hz.u (aHc hT.lists.r) h2 f3 (fun a4 w4 f4 h4=>aMp (ok a4 w4 f4 h4)))
theorem tw_ux4 (hT:TrS w1 w r ev tv rv bb wb none ns) (hz:ResZ r) (hk:r.kind=4) (hp:k0<ns.length) (hl:ns.length<=4) (hf:TwP a bb wb k0)
 (ok:∀a' w',TwO a' bb wb->TrS w1 w' r ev tv rv bb wb none (addFo ns k0 (leafF aC7 r.route (.br 3 aBi (rulsF true r.rules) .nil)))->Q .normal a' w'):twUX.wp Tryz.prog Q a w:=by
 show (Code.seq twU0 (Code.seq twU1 (Code.seq twU2 (Code.block 5 twUl)))).wp Tryz.prog Q a w
 rw[show leafF aC7 r.route (.br 3 aBi (rulsF true r.rules) .nil)=(leafF aC7 r.route .nil).app (.br 3 aBi (rulsF true r.rules) .nil) from rfl,<-aBs hp,<-aE8 (by rw[aAr];omega)]at ok;have hn:=hz.n;refine tw_u04 _ hT (by omega) hp hk hz.route hf (fun a1 w2 f1 h1=> ?_);have hl1:(addFo ns k0 (leafF aC7 r.route .nil)).length=ns.length+1:=by rw[aAr];unfold leafF;rw[Fo.aH2,Fo.a1d]
 refine tw_u1 _ h1 (by omega) (by omega) f1 (fun a2 w3 f2 h2=> ?_);obtain ⟨ao,cap,rfl⟩:=aF6 hT.lists.r rfl;refine tw_u2 _ h2 f2 (fun a3 f3=> ?_);have hl2:(addFo (addFo ns k0 (leafF aC7 r.route .nil)) k0 (.br 3 aBi .nil .nil)).length=ns.length+2:=by rw[aAr,Fo.aH3,Fo.a1d,hl1]
 refine wp_block (aX4 rfl (by omega) (by omega) hk hz.u (aHc hT.lists.r) h2 f3 (fun a4 w4 f4 h4=>aMp (ok a4 w4 f4 h4)))
theorem a12 (hT:TrS w1 w r ev tv rv bb wb none ns) (hd:r.del=true) (hf:TwP a bb wb k0)
 (ok:∀a',TwP a' bb wb k0->twDel.wp Tryz.prog Q a' w):(Code.seq twQ7 (Code.cond (.tmp 40) twDel twS9)).wp Tryz.prog Q a w:=by
 obtain ⟨c0,c1,c2,c3,c4,c5,c6,c7⟩:=hT.cells;rw[hd]at c7;have Hok:=hid ok;obtain ⟨vv,rfl,eE⟩:=hf.shape;simp only[tw_L,eE];clear eE;clear hf ok hT;dsimp only[twQ7,ncs,ncl,ncr,ncb,nco,nct,nce,ncx,Tryz.f29];go_wp2;exact Hok.out _ ⟨rfl,rfl,rfl,rfl,rfl⟩
theorem tw_q_e (hT:TrS w1 w r ev tv rv bb wb none ns) (hd:r.del=false) (hk:r.kind=1) (hne:r.endps≠[]) (hf:TwP a bb wb k0)
 (ok:∀a',TwP a' bb wb k0->twEX.wp Tryz.prog Q a' w):(Code.seq twQ7 (Code.cond (.tmp 40) twDel twS9)).wp Tryz.prog Q a w:=by
 obtain ⟨c0,c1,c2,c3,c4,c5,c6,c7⟩:=hT.cells;rw[hd]at c7;rw[hk]at c0;have hn0:0<r.endps.length:=List.length_pos_iff.2 hne;obtain ⟨n,hn⟩:∃n,n=r.endps.length:=⟨_,rfl⟩;obtain ⟨ao,cap,rfl⟩:=aF6 hT.lists.e hn.symm;rw[<-hn]at hn0;have t1:decide (0<n)=true:=dT hn0;clear hn;have Hok:=hid ok;obtain ⟨vv,rfl,eE⟩:=hf.shape;simp only[tw_L,eE];clear eE;clear hf ok hT;dsimp only[twQ7,ncs,ncl,ncr,ncb,nco,nct,nce,ncx,Tryz.f29]
 go_wp2
 show (Code.seq twQ9 (Code.cond (.tmp 46) twEX twS16)).wp Tryz.prog Q _ _
 dsimp only[twQ9,ncs,ncl,ncr,ncb,nco,nct,nce,ncx,Tryz.f29];go_wp2;exact Hok.out _ ⟨rfl,rfl,rfl,rfl,rfl⟩
theorem tw_q_n (hT:TrS w1 w r ev tv rv bb wb none ns) (hd:r.del=false) (hk:r.kind=1) (hne:r.endps=[]) (hf:TwP a bb wb k0)
 (ok:∀a',TwP a' bb wb k0->Q .normal a' w):(Code.seq twQ7 (Code.cond (.tmp 40) twDel twS9)).wp Tryz.prog Q a w:=by
 obtain ⟨c0,c1,c2,c3,c4,c5,c6,c7⟩:=hT.cells;rw[hd]at c7;rw[hk]at c0;have hn0:r.endps.length=0:=by rw[hne];rfl
 obtain ⟨ao,cap,rfl⟩:=aF6 hT.lists.e hn0;have Hok:=hid ok;obtain ⟨vv,rfl,eE⟩:=hf.shape;simp only[tw_L,eE];clear eE;clear hf ok hT;dsimp only[twQ7,ncs,ncl,ncr,ncb,nco,nct,nce,ncx,Tryz.f29];go_wp2
 show (Code.seq twQ9 (Code.cond (.tmp 46) twEX twS16)).wp Tryz.prog Q _ _
 dsimp only[twQ9,ncs,ncl,ncr,ncb,nco,nct,nce,ncx,Tryz.f29];go_wp2
 show (Code.seq twQ16 (Code.cond (.tmp 71) twTX twS27)).wp Tryz.prog Q _ _
 dsimp only[twQ16,ncs,ncl,ncr,ncb,nco,nct,nce,ncx,Tryz.f29];go_wp2
 show (Code.seq twQ27 (Code.cond (.tmp 108) twUX .skip)).wp Tryz.prog Q _ _
 dsimp only[twQ27,ncs,ncl,ncr,ncb,nco,nct,nce,ncx,Tryz.f29];go_wp2;exact Hok.out _ ⟨rfl,rfl,rfl,rfl,rfl⟩
theorem tw_q_2 (hT:TrS w1 w r ev tv rv bb wb none ns) (hd:r.del=false) (hk:r.kind=2) (hf:TwP a bb wb k0)
 (ok:∀a',TwP a' bb wb k0->twTX.wp Tryz.prog Q a' w):(Code.seq twQ7 (Code.cond (.tmp 40) twDel twS9)).wp Tryz.prog Q a w:=by
 obtain ⟨c0,c1,c2,c3,c4,c5,c6,c7⟩:=hT.cells;rw[hd]at c7;rw[hk]at c0;have Hok:=hid ok;obtain ⟨vv,rfl,eE⟩:=hf.shape;simp only[tw_L,eE];clear eE;clear hf ok hT;dsimp only[twQ7,ncs,ncl,ncr,ncb,nco,nct,nce,ncx,Tryz.f29];go_wp2
 show (Code.seq twQ9 (Code.cond (.tmp 46) twEX twS16)).wp Tryz.prog Q _ _
 dsimp only[twQ9,ncs,ncl,ncr,ncb,nco,nct,nce,ncx,Tryz.f29];go_wp2
 show (Code.seq twQ16 (Code.cond (.tmp 71) twTX twS27)).wp Tryz.prog Q _ _
 dsimp only[twQ16,ncs,ncl,ncr,ncb,nco,nct,nce,ncx,Tryz.f29];go_wp2;exact Hok.out _ ⟨rfl,rfl,rfl,rfl,rfl⟩
theorem tw_q_3 (hT:TrS w1 w r ev tv rv bb wb none ns) (hd:r.del=false) (hk:r.kind=3) (hf:TwP a bb wb k0)
 (ok:∀a',TwP a' bb wb k0->twUX.wp Tryz.prog Q a' w):(Code.seq twQ7 (Code.cond (.tmp 40) twDel twS9)).wp Tryz.prog Q a w:=by
 obtain ⟨c0,c1,c2,c3,c4,c5,c6,c7⟩:=hT.cells;rw[hd]at c7;rw[hk]at c0;have Hok:=hid ok;obtain ⟨vv,rfl,eE⟩:=hf.shape;simp only[tw_L,eE];clear eE;clear hf ok hT;dsimp only[twQ7,ncs,ncl,ncr,ncb,nco,nct,nce,ncx,Tryz.f29];go_wp2
 show (Code.seq twQ9 (Code.cond (.tmp 46) twEX twS16)).wp Tryz.prog Q _ _
 dsimp only[twQ9,ncs,ncl,ncr,ncb,nco,nct,nce,ncx,Tryz.f29];go_wp2
 show (Code.seq twQ16 (Code.cond (.tmp 71) twTX twS27)).wp Tryz.prog Q _ _
 dsimp only[twQ16,ncs,ncl,ncr,ncb,nco,nct,nce,ncx,Tryz.f29];go_wp2
 show (Code.seq twQ27 (Code.cond (.tmp 108) twUX .skip)).wp Tryz.prog Q _ _
 dsimp only[twQ27,ncs,ncl,ncr,ncb,nco,nct,nce,ncx,Tryz.f29];go_wp2;exact Hok.out _ ⟨rfl,rfl,rfl,rfl,rfl⟩
theorem tw_q_4 (hT:TrS w1 w r ev tv rv bb wb none ns) (hd:r.del=false) (hk:r.kind=4) (hf:TwP a bb wb k0)
 (ok:∀a',TwP a' bb wb k0->twUX.wp Tryz.prog Q a' w):(Code.seq twQ7 (Code.cond (.tmp 40) twDel twS9)).wp Tryz.prog Q a w:=by
 obtain ⟨c0,c1,c2,c3,c4,c5,c6,c7⟩:=hT.cells;rw[hd]at c7;rw[hk]at c0;have Hok:=hid ok;obtain ⟨vv,rfl,eE⟩:=hf.shape;simp only[tw_L,eE];clear eE;clear hf ok hT;dsimp only[twQ7,ncs,ncl,ncr,ncb,nco,nct,nce,ncx,Tryz.f29];go_wp2
 show (Code.seq twQ9 (Code.cond (.tmp 46) twEX twS16)).wp Tryz.prog Q _ _
 dsimp only[twQ9,ncs,ncl,ncr,ncb,nco,nct,nce,ncx,Tryz.f29];go_wp2
 show (Code.seq twQ16 (Code.cond (.tmp 71) twTX twS27)).wp Tryz.prog Q _ _
 dsimp only[twQ16,ncs,ncl,ncr,ncb,nco,nct,nce,ncx,Tryz.f29];go_wp2
 show (Code.seq twQ27 (Code.cond (.tmp 108) twUX .skip)).wp Tryz.prog Q _ _
 dsimp only[twQ27,ncs,ncl,ncr,ncb,nco,nct,nce,ncx,Tryz.f29];go_wp2;exact Hok.out _ ⟨rfl,rfl,rfl,rfl,rfl⟩
theorem tw_blk (hT:TrS w1 w r ev tv rv bb wb none ns) (hz:ResZ r) (h1:1<=r.kind) (h4:r.kind<=4) (hp:k0<ns.length) (hl:ns.length<=4) (hf:TwP a bb wb k0)
 (ok:∀a' w',TwO a' bb wb->TrS w1 w' r ev tv rv bb wb none (addFo ns k0 (ownT wtF r))->Q .normal a' w'):(Code.seq twQ7 (Code.cond (.tmp 40) twDel twS9)).wp Tryz.prog Q a w:=by
 have hn:=hz.n;cases hd:r.del with
 |true=>
  rw[show ownT wtF r=leafF aBb kTrue .nil by unfold ownT;rw[if_pos hd]]at ok;exact a12 hT hd hf (fun a2 f2=>tw_del hT (by omega) hp (by decide) f2 (fun a3 w3 f3 h3=>ok a3 w3 f3.toO h3))
 |false=>
  have hnd:¬r.del=true:=by rw[hd];decide
  rcases (show r.kind=1\/r.kind=2\/r.kind=3\/r.kind=4 by omega) with hk|hk|hk|hk
  ·by_cases hne:r.endps=[]
   ·rw[show ownT wtF r= .nil by unfold ownT;rw[if_neg hnd,if_pos hk,if_pos hne],aFv]at ok;exact tw_q_n hT hd hk hne hf (fun a2 f2=>ok a2 w f2.toO hT)
   ·rw[show ownT wtF r= .br 3 aAt (aBp r.endps) .nil by unfold ownT;rw[if_neg hnd,if_pos hk,if_neg hne]]at ok;exact tw_q_e hT hd hk hne hf (fun a2 f2=>tw_ex hT hz hp hl f2 ok)
  ·rw[show ownT wtF r= .br 3 aBl (tgtsF wtF r.targets) .nil by unfold ownT;rw[if_neg hnd,if_neg (by omega),if_pos hk]]at ok;exact tw_q_2 hT hd hk hf (fun a2 f2=>tw_tx hT hz hp hl f2 ok)
  ·rw[show ownT wtF r=leafF kHost r.host (.br 3 aBi (rulsF false r.rules) .nil) by unfold ownT;rw[if_neg hnd,if_neg (by omega),if_neg (by omega),if_pos hk]]at ok;exact tw_q_3 hT hd hk hf (fun a2 f2=>tw_ux3 hT hz hk hp hl f2 ok)
  ·rw[show ownT wtF r=leafF aC7 r.route (.br 3 aBi (rulsF true r.rules) .nil) by unfold ownT;rw[if_neg hnd,if_neg (by omega),if_neg (by omega),if_neg (by omega)]]at ok;exact tw_q_4 hT hd hk hf (fun a2 f2=>tw_ux4 hT hz hk hp hl f2 ok)
end
def STree (w:World) (r:Res) (x:Ending) (w':World):Prop:=
 ∃v ms,x= .returned v/\DocP w' w.heap.size ⟨v,ms⟩/\nds ms=treeW wtF r/\Below w.heap.size w w'
theorem a13 {w w1 w':World} {r:Res} {ev tv rv:Value} {bb wb:Nat} {F:Fo} (hb:Below w.heap.size w w1) (h:TrS w1 w' r ev tv rv bb wb none F.doc):
 ∃nv,w'.cell? ⟨wb,0,none⟩=some nv/\∃ms,DocP w' w.heap.size ⟨nv,ms⟩/\nds ms=F.doc/\Below w.heap.size w w'/\w'.heap[wb]? =some (.cells #[nv] 127 (0,0))/\∃ao n c,nv= .slice ao n c:=by
 obtain ⟨nv,ms,hw,e,_⟩:=h.wr;obtain ⟨ao,c,hv⟩:=hw.nr.form;exact ⟨nv,aAa hw.blk 0,ms,⟨hw.nr.row,fun g hg=>a7g hb.size (hw.nr.new g hg).1,fun m hm=>NdE.down (x:=m) (hw.nr.each m hm) hb.size,hw.nr.len⟩,e,hb.trans (hw.below.mono hb.size),hw.blk,ao,_,c,hv⟩
section
variable {w1 w:World} {Q:Exit->Act->World->Prop} {a:Act} {r:Res} {ev tv rv lw:Value} {ns:List Nd} {bb wb k0:Nat}
theorem tw_b (X:Code) (hT:TrS w1 w r ev tv rv bb wb none []) (hf:TwO a bb wb)
 (ok:∀a' w',TwP a' bb wb 0->TrS w1 w' r ev tv rv bb wb none [⟨2,⟨#[]⟩,⟨#[]⟩,false,0,[]⟩]->X.wp Tryz.prog Q a' w'):(Code.seq twB X).wp Tryz.prog Q a w:=by
 obtain ⟨nv,ms,hw,e,ht⟩:=hT.wr;have hm0:ms=[]:=by cases ms with|nil=>rfl|cons x l=>cases e
 subst hm0;have hC:=aXv hw none (fun i hi=>by cases hi) 2 (by decide) ⟨#[]⟩ (by decide) (by decide);have HC:Hid (Calls Tryz.prog 70 #[.pointer (some ⟨wb,0,none⟩),.int .i64 (-1),.int .i64 2,.string ⟨#[]⟩] w
  fun x w'=>x= .returned (.int .i64 ((0:Nat):Int))/\TrS w1 w' r ev tv rv bb wb none [⟨2,⟨#[]⟩,⟨#[]⟩,false,0,[]⟩]):=hid (by
  refine hC.mono ?_;rintro x w' ⟨hx,hp⟩;exact ⟨hx,hT.put (fun y hy=>by rw[List.mem_singleton.1 hy];exact Nat.zero_le _) (fun tb ob q=>by cases q) hp⟩)
 have Hok:=hid ok;obtain ⟨vv,rfl,eE⟩:=hf.shape;simp only[tw_L,eE];clear eE;clear hf ok hT hC hw e ht;dsimp only[twB,ncs,ncl,ncr,ncb,nco,nct,nce,ncx,Tryz.f29]
 go_wp2_with fail
 refine HC.out.mono ?_;rintro x w2 ⟨rfl,h2⟩;have H2:=hid h2;clear h2 HC;go_wp2;exact Hok.out _ _ ⟨rfl,rfl,rfl,rfl,rfl⟩ H2.out
theorem tw_z {w0:World} {F:Fo} (hb:Below w0.heap.size w0 w1) (hT:TrS w1 w r ev tv rv bb wb none F.doc) (hF:F.doc=treeW wtF r) (hf:TwO a bb wb):
 twZ.wp Tryz.prog (bodyPost Tryz.prog Tryz.f29 (STree w0 r)) a w:=by
 obtain ⟨nv,z0,ms,hD,he,hbw,hblk,ao,n,c,rfl⟩:=a13 hb hT;have HE:=hid (show STree w0 r (.returned (.slice ao n c)) w from ⟨_,ms,rfl,hD,he.trans hF,hbw⟩);obtain ⟨vv,rfl,eE⟩:=hf.shape;simp only[tw_L,eE];clear eE;clear hf hT hD he hb hbw hF;dsimp only[twZ,ncs,ncl,ncr,ncb,nco,nct,nce,ncx,Tryz.f29];go_wp2;refine bodyPost_ret (results_tmp (t:=2) rfl _ _ _) rfl HE.out
end
noncomputable def a33:Code:=(ncr (ncr (ncr (ncx Tryz.f29.body))))
theorem a6g (w:World) (r:Res) (ev tv rv:Value) (hz:ResZ r) (hL:ResL w r ev tv rv) (hg:GlobT w):
 Calls Tryz.prog 29 #[.agg (resA r ev tv rv)] w (STree w r):=by
 by_cases hk:1<=r.kind/\r.kind<=4
 ·obtain ⟨h1,h4⟩:=hk;have hn:=hz.n;have HK:Hid (∀a,TwO a w.heap.size (w.heap.size+1)->a33.wp Tryz.prog (bodyPost Tryz.prog Tryz.f29 (STree w r)) a ((w.alloc (.cells (resA r ev tv rv) 49)).alloc (.cells #[.slice none 0 0] 127))):=hid (by
   intro a hf;have hb1:Below w.heap.size w (w.alloc (.cells (resA r ev tv rv) 49)):=(a7d _ _).alloc (a7c _) _;have hs1:(w.alloc (.cells (resA r ev tv rv) 49)).heap.size=w.heap.size+1:=by simp
   have hT:TrS (w.alloc (.cells (resA r ev tv rv) 49)) ((w.alloc (.cells (resA r ev tv rv) 49)).alloc (.cells #[.slice none 0 0] 127)) r ev tv rv w.heap.size (w.heap.size+1) none []:=by
    refine ⟨by rw[hs1];omega,aAc _,⟨hL.e.later hb1,hL.t.later hb1,hL.r.later hb1⟩,hg.later hb1,nofun,.slice none 0 0,[],⟨(a7d _ _).alloc (a7c _) _,by rw[hs1];exact a7c _,?_,NRowM.first _ _ _⟩,rfl,nofun⟩;have h:=aAc (w:=w.alloc (.cells (resA r ev tv rv) 49)) (.cells #[.slice none 0 0] 127)
    rwa [hs1]at h
   generalize (w.alloc (.cells (resA r ev tv rv) 49)).alloc (.cells #[.slice none 0 0] 127)=w2 at*
   show (Code.seq twB (Code.seq twC (Code.seq twD (Code.seq (Code.block 0 (Code.seq twQ7 (Code.cond (.tmp 40) twDel twS9))) twZ)))).wp Tryz.prog _ a w2
   refine tw_b _ hT hf (fun a2 w3 f2 h2=> ?_);refine tw_c _ h2 (by decide) (by decide) h1 h4 f2 (fun a3 w4 f3 h3=> ?_);rw[aF4]at h3;have e1:(leafF kKind (nKind r.kind) .nil).doc.length=2:=by rw[<-aF4,aAr];unfold leafF;rw[Fo.aH2,Fo.a1d];rfl
   refine tw_d _ h3 (by omega) (by omega) hz.name f3 (fun a4 w5 f4 h4'=> ?_);rw[<-aF4,aBs (by decide)]at h4';refine wp_seq (wp_block (tw_blk h4' hz h1 h4 (by rw[aAr];exact Nat.lt_of_lt_of_le (by decide) (Nat.le_add_right _ _)) (by rw[aAr,Fo.aSf];unfold leafF;rw[Fo.aH2,Fo.aH2,Fo.a1d];decide) f4 (fun a5 w6 f5 h5=> ?_)));rw[aBs (by decide),aF4]at h5
   refine tw_z hb1 h5 ?_ f5;unfold treeW;rw[if_neg (by omega)];rfl)
  have t1:decide (r.kind<1)=false:=dF (by omega);have t2:decide (4<r.kind)=false:=dF (by omega);clear hz hL hg h1 h4 hn;unfold resA at HK |-;generalize r.kind=kd at*;go_enter Tryz.func29,Tryz.ntmps29;change (Code.seq (ncl (ncx Tryz.f29.body)) (Code.seq (ncl (ncr (ncx Tryz.f29.body))) (Code.seq twA a33))).wp _ _ _ _
  dsimp only[twA,ncs,ncl,ncr,ncb,nco,nct,nce,ncx,Tryz.f29];go_wp2;exact HK.out _ ⟨rfl,rfl,rfl,rfl⟩
 ·have ht:treeW wtF r=[]:=by unfold treeW;rw[if_pos (by omega)]
  have HE:=hid (show ∀w',Below w.heap.size w w'->STree w r (.returned (.slice none 0 0)) w' from fun w' hb=>⟨_,[],rfl,⟨World.ownsRow_nil _ _ _ _,nofun,nofun,Nat.zero_le _⟩,ht.symm,hb⟩);have Hbn:=hid (fun o=>(a7d w.heap.size w).alloc (a7c _) o);have Hk:=hid hk;clear hz hL hg hk ht;unfold resA;generalize r.kind=kd at*;by_cases h1:kd<1
  ·have t1:decide (kd<1)=true:=dT h1;clear h1;go_enter Tryz.func29,Tryz.ntmps29;go_wp2;refine bodyPost_ret (results_tmp (t:=2) rfl _ _ _) rfl (HE.out _ (Hbn.out _))
  ·have t1:decide (kd<1)=false:=dF h1;have t2:decide (4<kd)=true:=dT (by have:=Hk.out;omega);clear h1;go_enter Tryz.func29,Tryz.ntmps29;go_wp2;refine bodyPost_ret (results_tmp (t:=2) rfl _ _ _) rfl (HE.out _ (Hbn.out _))
