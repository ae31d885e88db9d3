/-
Parts of a proof, one behind the other (laid dense by a program of mine: pack.py).
-/
import Derived.Test.YtfenoaeoedobmaaGreatDoorRd41
set_option linter.unusedVariables false
set_option linter.unusedSimpArgs false
set_option maxHeartbeats 4000000
set_option maxRecDepth 20000
namespace Go.Proofs.YtfenoaeoedobmaaGreatDoor
open Go Go.RowKit
def kindI (nd:Nd) (i:Nat):Nat:=if kindN nd<i then kindN nd else 0
theorem kindI_one (nd:Nd):kindI nd 1=0:=by
 unfold kindI
 split<;>omega
theorem kindN_le (nd:Nd):kindN nd≤4:=by
 unfold kindN
 repeat' split
 all_goals omega
theorem kindI_all (nd:Nd):kindI nd 5=kindN nd:=by
 unfold kindI;rw[if_pos (by have:=kindN_le nd;omega)]
theorem kindI_hit {nd:Nd} {i:Nat} (h:kindN nd=i):kindI nd (i+1)=i:=by
 unfold kindI;rw[h,if_pos (Nat.lt_succ_self i)]
theorem kindI_miss {nd:Nd} {i:Nat} (h:¬kindN nd=i):kindI nd (i+1)=kindI nd i:=by
 unfold kindI;by_cases h2:kindN nd<i
 ·rw[if_pos h2,if_pos (by omega)]
 ·rw[if_neg h2,if_neg (by omega)]
theorem kindN_iff {nd:Nd} (hk:nd.kind=1) {i:Nat} {s:ByteArray} (h1:1≤i) (hs:kindL[i]? =some s):kindN nd=i↔nd.text=s:=by
 have hi:i<5:=(List.getElem?_eq_some_iff.1 hs).1;have e:kindN nd=if nd.text=nService then 1 else if nd.text=nSplit then 2 else if nd.text=nRoute then 3 else if nd.text=nPolicy then 4 else 0:=by
  unfold kindN;rw[if_neg (fun q=>q hk)]
 rw[e];have n1:¬nService=nSplit:=by decide
 have n2:¬nService=nRoute:=by decide
 have n3:¬nService=nPolicy:=by decide
 have n4:¬nSplit=nRoute:=by decide
 have n5:¬nSplit=nPolicy:=by decide
 have n6:¬nRoute=nPolicy:=by decide
 have m1:¬nSplit=nService:=fun q=>n1 q.symm;have m2:¬nRoute=nService:=fun q=>n2 q.symm;have m3:¬nPolicy=nService:=fun q=>n3 q.symm;have m4:¬nRoute=nSplit:=fun q=>n4 q.symm;have m5:¬nPolicy=nSplit:=fun q=>n5 q.symm;have m6:¬nPolicy=nRoute:=fun q=>n6 q.symm
 match i,h1,hi,hs with
 |1,_,_,hs=>
  obtain rfl:=Option.some.inj hs;by_cases q:nd.text=nService
  ·simp[q]
  ·constructor
   ·intro h;rw[if_neg q]at h;split at h<;>(try split at h)<;>(try split at h)<;>omega
   ·intro h;exact absurd h q
 |2,_,_,hs=>
  obtain rfl:=Option.some.inj hs;by_cases q:nd.text=nSplit
  ·simp[q,m1]
  ·constructor
   ·intro h;rw[if_neg q]at h;split at h<;>(try split at h)<;>(try split at h)<;>omega
   ·intro h;exact absurd h q
 |3,_,_,hs=>
  obtain rfl:=Option.some.inj hs;by_cases q:nd.text=nRoute
  ·simp[q,m2,m4]
  ·constructor
   ·intro h;rw[if_neg q]at h;split at h<;>(try split at h)<;>(try split at h)<;>omega
   ·intro h;exact absurd h q
 |4,_,_,hs=>
  obtain rfl:=Option.some.inj hs;by_cases q:nd.text=nPolicy
  ·simp[q,m3,m5,m6]
  ·constructor
   ·intro h;rw[if_neg q]at h;split at h<;>(try split at h)<;>(try split at h)<;>omega
   ·intro h;exact absurd h q
section
variable {w0 w:World} {Q:Exit→Act→World→Prop} {a:Act} {ms:List NdM} {st:St} {b o q cap rn db rb:Nat} {kd:Int} {nm:ByteArray} {dl:Bool} {m0:NdM}
theorem xr_kind (X:Code) (hf:XrA a b o q cap rn db rb) (h:XQ w0 w db b o cap ms none rn rb kd nm dl) (h0:ms[0]? =some m0)
 (ok:∀a' w',XrB a' b o q cap rn db rb (needR (nds ms) m0.nd kKind none).1→XQ w0 w' db b o cap ms (needR (nds ms) m0.nd kKind none).2 rn rb kd nm dl→X.wp Tryz.prog Q a' w'):(Code.seq xr7 X).wp Tryz.prog Q a w:=by
 have Hn:=hid (need_r (i:=0) h.dq h0 kKind);have HT:=hid h;have Hok:=hid ok;generalize (needR (nds ms) m0.nd kKind none)=nd at*;obtain ⟨n1,n2⟩:=nd;simp only at Hn Hok;unfold kKind at Hn;obtain ⟨vv,rfl⟩:=hf.shape;clear hf h ok h0;dsimp only[xr7,ncs,ncl,ncr,ncb,nco,nct,nce,ncx,Tryz.f22]
 go_wp2_with fail
 refine Hn.out.mono ?_;rintro r w2 ⟨rfl,hq,hm⟩;have HE:=hid (HT.out.call hq hm);clear hq hm Hn HT;go_wp2;exact Hok.out _ _ ⟨rfl,rfl,rfl,rfl,rfl,rfl,rfl⟩ HE.out
theorem xr_k12 {k i:Nat} {mk:NdM} (hf:XrC a b o q cap rn db rb (some k) i) (h:XQ w0 w db b o cap ms st rn rb (kindI mk.nd i:Int) nm dl) (hq:q=ms.length) (hk:ms[k]? =some mk) (h1:1≤i) (h4:i≤4)
 (ok:∀a' w',XrC a' b o q cap rn db rb (some k) i→XQ w0 w' db b o cap ms st rn rb (kindI mk.nd (i+1):Int) nm dl→Q .normal a' w'):xrKR.wp Tryz.prog Q a w:=by
 obtain ⟨s,hs⟩:∃s,kindL[i]? =some s:=at_of_lt (show i<5 by omega);have c:=(h.dq.at hk).1;have y0:=c.c0;have y2:=c.c2;have bk:(k:Int)<(q:Int):=by have:=(List.getElem?_eq_some_iff.1 hk).1;omega
 have bi:(i:Int)<5:=by omega
 have z0:=cell_blk h.rbk 0;have zf:=frozen_blk h.rbk 0;unfold resD at z0;simp at z0;have Hk:=hid (kinds_r w.drew);have HX:=hid h;have Hok:=hid ok;have hv:fldV (some k)=(k:Int):=rfl;have hni:¬(kindI mk.nd i:Int)<0:=by omega
 by_cases hkd:mk.nd.kind=1
 ·have hiff:=kindN_iff hkd h1 hs;rw[hkd]at y0;by_cases hh:mk.nd.text=s
  ·have e:=kindI_hit (hiff.2 hh);rw[e]at Hok;have tx1:=same_yes hh;have HE:=hid (fun w2 (hb:Below w.heap.size w w2)=>(h.later hb).put 0 (.int .i64 (i:Int)) (kd':=(i:Int)) (nm':=nm) (dl':=dl) rfl);have Hz:=hid (fun w2 (hb:Below w.heap.size w w2)=>show w2.cell? ⟨rb,0,none⟩=some (.int .i64 (kindI mk.nd i:Int))∧w2.frozen? ⟨rb,0,none⟩=false from ⟨(hb.cell (lt_of_cell z0)).trans z0,(hb.frozen (p:=⟨rb,0,none⟩) (lt_of_cell z0)).trans zf⟩)
   obtain ⟨vv,rfl⟩:=hf.shape;rw[hv];have hS:(w.drew.cell? ⟨b,o+k*6,none⟩=some (.int .i64 1)∧w.drew.cell? ⟨b,o+k*6+2,none⟩=some (.string mk.nd.text)):=⟨y0,y2⟩;clear hf h ok hk h1 h4 c hv e hh hiff hkd hq
   show (Code.seq xrK12 xrK13).wp Tryz.prog Q _ w
   refine wp_seq ?_;dsimp only[xrK12,ncs,ncl,ncr,ncb,nco,nct,nce,ncx,Tryz.f22];refine wp_calm_n ?_;refine wp_region_K (fun w'=>w'.cell? ⟨b,o+k*6,none⟩=some (.int .i64 1)∧w'.cell? ⟨b,o+k*6+2,none⟩=some (.string mk.nd.text)) (fun i=>true) (by kernel_rfl) ?_;refine wK (i:=0) (v:= ?_) rfl (by kernel_rfl) (fun _ _ _ h=>h) (by rfl) ?_ hS ?_;rotate_left
   ·intro w' hSw;obtain ⟨s1,s2⟩:=hSw;go_simp
    try with_reducible rfl
   try simp only[Act.put,sA,sZ,sS]
   refine wK (i:=1) (v:= ?_) rfl (by kernel_rfl) (fun _ _ _ h=>h) (by rfl) ?_ hS ?_;rotate_left
   ·intro w' hSw;obtain ⟨s1,s2⟩:=hSw;go_simp
    try with_reducible rfl
   try simp only[Act.put,sA,sZ,sS]
   refine wK (i:=2) (v:= ?_) rfl (by kernel_rfl) (fun _ _ _ h=>h) (by rfl) ?_ hS ?_;rotate_left
   ·intro w' hSw;obtain ⟨s1,s2⟩:=hSw;go_simp
    try with_reducible rfl
   try simp only[Act.put,sA,sZ,sS]
   refine wK (i:=3) (v:= ?_) rfl (by kernel_rfl) (fun _ _ _ h=>h) (by rfl) ?_ hS ?_;rotate_left
   ·intro w' hSw;obtain ⟨s1,s2⟩:=hSw;go_simp
    try with_reducible rfl
   try simp only[Act.put,sA,sZ,sS]
   refine wK (i:=4) (v:= ?_) rfl (by kernel_rfl) (fun _ _ _ h=>h) (by rfl) ?_ hS ?_;rotate_left
   ·intro w' hSw;obtain ⟨s1,s2⟩:=hSw;go_simp
    try with_reducible rfl
   try simp only[Act.put,sA,sZ,sS]
   refine wK (i:=5) (v:= ?_) rfl (by kernel_rfl) (fun _ _ _ h=>h) (by rfl) ?_ hS ?_;rotate_left
   ·intro w' hSw;obtain ⟨s1,s2⟩:=hSw;go_simp
    try with_reducible rfl
   try simp only[Act.put,sA,sZ,sS]
   refine wK (i:=6) (v:= ?_) rfl (by kernel_rfl) (fun _ _ _ h=>h) (by rfl) ?_ hS ?_;rotate_left
   ·intro w' hSw;obtain ⟨s1,s2⟩:=hSw;go_simp
    try with_reducible rfl
   try simp only[Act.put,sA,sZ,sS]
   refine wpAnyK_take (i:=7) (v:= ?_) rfl (by kernel_rfl) (by kernel_rfl) (by kernel_rfl) (by kernel_rfl) (fun _ _ _ h=>h) (Or.inl ⟨by kernel_rfl,?_⟩) hS ?_;rotate_left
   ·intro w' hSw;obtain ⟨s1,s2⟩:=hSw;go_simp
    try with_reducible rfl
   try simp only[Act.put,sA,sZ,sS]
   refine wpAnyK_take (i:=8) (v:= ?_) rfl (by kernel_rfl) (by kernel_rfl) (by kernel_rfl) (by kernel_rfl) (fun _ _ _ h=>h) (Or.inl ⟨by kernel_rfl,?_⟩) hS ?_;rotate_left
   ·intro w' hSw;obtain ⟨s1,s2⟩:=hSw;go_simp
    try with_reducible rfl
   try simp only[Act.put,sA,sZ,sS]
   refine wpAnyK_take (i:=9) (v:= ?_) rfl (by kernel_rfl) (by kernel_rfl) (by kernel_rfl) (by kernel_rfl) (fun _ _ _ h=>h) (Or.inl ⟨by kernel_rfl,?_⟩) hS ?_;rotate_left
   ·intro w' hSw;obtain ⟨s1,s2⟩:=hSw;go_simp
    try with_reducible rfl
   try simp only[Act.put,sA,sZ,sS]
   refine wpAnyK_take (i:=10) (v:= ?_) rfl (by kernel_rfl) (by kernel_rfl) (by kernel_rfl) (by kernel_rfl) (fun _ _ _ h=>h) (Or.inl ⟨by kernel_rfl,?_⟩) hS ?_;rotate_left
   ·intro w' hSw;obtain ⟨s1,s2⟩:=hSw;go_simp
    try with_reducible rfl
   try simp only[Act.put,sA,sZ,sS]
   refine wpAnyK_take (i:=11) (v:= ?_) rfl (by kernel_rfl) (by kernel_rfl) (by kernel_rfl) (by kernel_rfl) (fun _ _ _ h=>h) (Or.inl ⟨by kernel_rfl,?_⟩) hS ?_;rotate_left
   ·intro w' hSw;obtain ⟨s1,s2⟩:=hSw;go_simp
    try with_reducible rfl
   try simp only[Act.put,sA,sZ,sS]
   refine wpAnyK_take (i:=13) (v:= ?_) rfl (by kernel_rfl) (by kernel_rfl) (by kernel_rfl) (by kernel_rfl) (fun _ _ _ h=>h) (Or.inl ⟨by kernel_rfl,?_⟩) hS ?_;rotate_left
   ·intro w' hSw;obtain ⟨s1,s2⟩:=hSw;go_simp
    try with_reducible rfl
   try simp only[Act.put,sA,sZ,sS]
   refine wpAnyK_one (i:=12) (by kernel_rfl) rfl (fun K hK=> ?_);go_simp;refine Hk.out.mono ?_;rintro r w2 ⟨g,rfl,hb,hc⟩;have hS2:(w2.cell? ⟨b,o+k*6,none⟩=some (.int .i64 1)∧w2.cell? ⟨b,o+k*6+2,none⟩=some (.string mk.nd.text)):=⟨(hb.cell (lt_of_cell hS.1)).trans hS.1,(hb.cell (lt_of_cell hS.2)).trans hS.2⟩;have hcell:=hc i s hs;have hcell2:=hcell;rw[Nat.zero_add]at hcell2;have HB:=hid (show Below w.heap.size w w2 from (bdH (Below.refl w.heap.size w) 1).trans hb)
   refine hK.out _ _ (fun _=>hS2) ?_;clear hK K Hk hS hb hc hs
   try simp only[Act.put,sA,sZ,sS]
   refine wpAnyK_one (i:=14) (by kernel_rfl) rfl (fun K hK=> ?_);go_simp;refine hK.out _ _ (fun _=>hS2) ?_;clear hK K;refine wpAnyK_one (i:=15) (by kernel_rfl) rfl (fun K hK=> ?_);go_simp;refine hK.out _ _ (fun _=>hS2) ?_;clear hK K;refine wpAnyK_one (i:=16) (by kernel_rfl) rfl (fun K hK=> ?_);go_simp;refine hK.out _ _ (fun _=>hS2) ?_;clear hK K;refine wpAnyK_one (i:=17) (by kernel_rfl) rfl (fun K hK=> ?_)
   go_simp;refine hK.out _ _ (fun _=>hS2) ?_;clear hK K;refine wpAnyK_done (by kernel_rfl) ?_ _
   show xrK13.wp Tryz.prog Q _ w2
   dsimp only[xrK13,ncs,ncl,ncr,ncb,nco,nct,nce,ncx,Tryz.f22];obtain ⟨z1,z2⟩:=Hz.out _ HB.out;have HE2:=hid (HE.out _ HB.out);clear HE Hz HB hcell hcell2 hS2;go_wp2;exact Hok.out _ _ ⟨rfl,rfl,rfl,rfl,rfl,rfl,rfl,rfl⟩ HE2.out
  ·have e:=kindI_miss (fun q=>hh (hiff.1 q));rw[e]at Hok;have tx1:=same_no hh;have HE:=hid (fun w2 (hb:Below w.heap.size w w2)=>h.later hb);obtain ⟨vv,rfl⟩:=hf.shape;rw[hv];have hS:(w.drew.cell? ⟨b,o+k*6,none⟩=some (.int .i64 1)∧w.drew.cell? ⟨b,o+k*6+2,none⟩=some (.string mk.nd.text)):=⟨y0,y2⟩;clear hf h ok hk h1 h4 c hv e hh hiff hkd hq
   show (Code.seq xrK12 xrK13).wp Tryz.prog Q _ w
   refine wp_seq ?_;dsimp only[xrK12,ncs,ncl,ncr,ncb,nco,nct,nce,ncx,Tryz.f22];refine wp_calm_n ?_;refine wp_region_K (fun w'=>w'.cell? ⟨b,o+k*6,none⟩=some (.int .i64 1)∧w'.cell? ⟨b,o+k*6+2,none⟩=some (.string mk.nd.text)) (fun i=>true) (by kernel_rfl) ?_;refine wK (i:=0) (v:= ?_) rfl (by kernel_rfl) (fun _ _ _ h=>h) (by rfl) ?_ hS ?_;rotate_left
   ·intro w' hSw;obtain ⟨s1,s2⟩:=hSw;go_simp
    try with_reducible rfl
   try simp only[Act.put,sA,sZ,sS]
   refine wK (i:=1) (v:= ?_) rfl (by kernel_rfl) (fun _ _ _ h=>h) (by rfl) ?_ hS ?_;rotate_left
   ·intro w' hSw;obtain ⟨s1,s2⟩:=hSw;go_simp
    try with_reducible rfl
   try simp only[Act.put,sA,sZ,sS]
   refine wK (i:=2) (v:= ?_) rfl (by kernel_rfl) (fun _ _ _ h=>h) (by rfl) ?_ hS ?_;rotate_left
   ·intro w' hSw;obtain ⟨s1,s2⟩:=hSw;go_simp
    try with_reducible rfl
   try simp only[Act.put,sA,sZ,sS]
   refine wK (i:=3) (v:= ?_) rfl (by kernel_rfl) (fun _ _ _ h=>h) (by rfl) ?_ hS ?_;rotate_left
   ·intro w' hSw;obtain ⟨s1,s2⟩:=hSw;go_simp
    try with_reducible rfl
   try simp only[Act.put,sA,sZ,sS]
   refine wK (i:=4) (v:= ?_) rfl (by kernel_rfl) (fun _ _ _ h=>h) (by rfl) ?_ hS ?_;rotate_left
   ·intro w' hSw;obtain ⟨s1,s2⟩:=hSw;go_simp
    try with_reducible rfl
   try simp only[Act.put,sA,sZ,sS]
   refine wK (i:=5) (v:= ?_) rfl (by kernel_rfl) (fun _ _ _ h=>h) (by rfl) ?_ hS ?_;rotate_left
   ·intro w' hSw;obtain ⟨s1,s2⟩:=hSw;go_simp
    try with_reducible rfl
   try simp only[Act.put,sA,sZ,sS]
   refine wK (i:=6) (v:= ?_) rfl (by kernel_rfl) (fun _ _ _ h=>h) (by rfl) ?_ hS ?_;rotate_left
   ·intro w' hSw;obtain ⟨s1,s2⟩:=hSw;go_simp
    try with_reducible rfl
   try simp only[Act.put,sA,sZ,sS]
   refine wpAnyK_take (i:=7) (v:= ?_) rfl (by kernel_rfl) (by kernel_rfl) (by kernel_rfl) (by kernel_rfl) (fun _ _ _ h=>h) (Or.inl ⟨by kernel_rfl,?_⟩) hS ?_;rotate_left
   ·intro w' hSw;obtain ⟨s1,s2⟩:=hSw;go_simp
    try with_reducible rfl
   try simp only[Act.put,sA,sZ,sS]
   refine wpAnyK_take (i:=8) (v:= ?_) rfl (by kernel_rfl) (by kernel_rfl) (by kernel_rfl) (by kernel_rfl) (fun _ _ _ h=>h) (Or.inl ⟨by kernel_rfl,?_⟩) hS ?_;rotate_left
   ·intro w' hSw;obtain ⟨s1,s2⟩:=hSw;go_simp
    try with_reducible rfl
   try simp only[Act.put,sA,sZ,sS]
   refine wpAnyK_take (i:=9) (v:= ?_) rfl (by kernel_rfl) (by kernel_rfl) (by kernel_rfl) (by kernel_rfl) (fun _ _ _ h=>h) (Or.inl ⟨by kernel_rfl,?_⟩) hS ?_;rotate_left
   ·intro w' hSw;obtain ⟨s1,s2⟩:=hSw;go_simp
    try with_reducible rfl
   try simp only[Act.put,sA,sZ,sS]
   refine wpAnyK_take (i:=10) (v:= ?_) rfl (by kernel_rfl) (by kernel_rfl) (by kernel_rfl) (by kernel_rfl) (fun _ _ _ h=>h) (Or.inl ⟨by kernel_rfl,?_⟩) hS ?_;rotate_left
   ·intro w' hSw;obtain ⟨s1,s2⟩:=hSw;go_simp
    try with_reducible rfl
   try simp only[Act.put,sA,sZ,sS]
   refine wpAnyK_take (i:=11) (v:= ?_) rfl (by kernel_rfl) (by kernel_rfl) (by kernel_rfl) (by kernel_rfl) (fun _ _ _ h=>h) (Or.inl ⟨by kernel_rfl,?_⟩) hS ?_;rotate_left
   ·intro w' hSw;obtain ⟨s1,s2⟩:=hSw;go_simp
    try with_reducible rfl
   try simp only[Act.put,sA,sZ,sS]
   refine wpAnyK_take (i:=13) (v:= ?_) rfl (by kernel_rfl) (by kernel_rfl) (by kernel_rfl) (by kernel_rfl) (fun _ _ _ h=>h) (Or.inl ⟨by kernel_rfl,?_⟩) hS ?_;rotate_left
   ·intro w' hSw;obtain ⟨s1,s2⟩:=hSw;go_simp
    try with_reducible rfl
   try simp only[Act.put,sA,sZ,sS]
   refine wpAnyK_one (i:=12) (by kernel_rfl) rfl (fun K hK=> ?_);go_simp;refine Hk.out.mono ?_;rintro r w2 ⟨g,rfl,hb,hc⟩;have hS2:(w2.cell? ⟨b,o+k*6,none⟩=some (.int .i64 1)∧w2.cell? ⟨b,o+k*6+2,none⟩=some (.string mk.nd.text)):=⟨(hb.cell (lt_of_cell hS.1)).trans hS.1,(hb.cell (lt_of_cell hS.2)).trans hS.2⟩;have hcell:=hc i s hs;have hcell2:=hcell;rw[Nat.zero_add]at hcell2;have HB:=hid (show Below w.heap.size w w2 from (bdH (Below.refl w.heap.size w) 1).trans hb)
   refine hK.out _ _ (fun _=>hS2) ?_;clear hK K Hk hS hb hc hs
   try simp only[Act.put,sA,sZ,sS]
   refine wpAnyK_one (i:=14) (by kernel_rfl) rfl (fun K hK=> ?_);go_simp;refine hK.out _ _ (fun _=>hS2) ?_;clear hK K;refine wpAnyK_one (i:=15) (by kernel_rfl) rfl (fun K hK=> ?_);go_simp;refine hK.out _ _ (fun _=>hS2) ?_;clear hK K;refine wpAnyK_one (i:=16) (by kernel_rfl) rfl (fun K hK=> ?_);go_simp;refine hK.out _ _ (fun _=>hS2) ?_;clear hK K;refine wpAnyK_one (i:=17) (by kernel_rfl) rfl (fun K hK=> ?_)
   go_simp;refine hK.out _ _ (fun _=>hS2) ?_;clear hK K;refine wpAnyK_done (by kernel_rfl) ?_ _
   show xrK13.wp Tryz.prog Q _ w2
   dsimp only[xrK13,ncs,ncl,ncr,ncb,nco,nct,nce,ncx,Tryz.f22];have HE2:=hid (HE.out _ HB.out);clear HE HB hcell hcell2 hS2;go_wp2;exact Hok.out _ _ ⟨rfl,rfl,rfl,rfl,rfl,rfl,rfl,rfl⟩ HE2.out
 ·have hz:kindN mk.nd=0:=kindN_empty (.inl hkd);have e:=kindI_miss (nd:=mk.nd) (i:=i) (by omega);rw[e]at Hok;have t1:(mk.nd.kind==1)=false:=beq_eq_false_iff_ne.2 hkd;have HE:=hid (fun z=>h.later (bdH (Below.refl _ _) z));obtain ⟨vv,rfl⟩:=hf.shape;rw[hv];clear hf h ok hk h1 h4 hs c hv hz e hq
  show (Code.seq xrK12 xrK13).wp Tryz.prog Q _ w
  dsimp only[xrK12,xrK13,ncs,ncl,ncr,ncb,nco,nct,nce,ncx,Tryz.f22];go_wp2;go_quiet (fail);go_wp2;exact Hok.out _ _ ⟨rfl,rfl,rfl,rfl,rfl,rfl,rfl,rfl⟩ (HE.out _)
end
def kkdR (ns:List Nd) (x:Option Nat):Nat:=match x with|none=>0|some x=>kindN (ns[x]!)
def kstR (ns:List Nd) (x:Option Nat) (st:St):St:=match x with|none=>st|some x=>if kindN (ns[x]!)=0 then failR st (ns[x]!).line 120 else st
section
variable {w0 w:World} {Q:Exit→Act→World→Prop} {a:Act} {ms:List NdM} {st:St} {b o q cap rn db rb:Nat} {kd:Int} {nm:ByteArray} {dl:Bool} {m0:NdM}
theorem xr_kloop {k:Nat} {mk:NdM} (hf:XrC a b o q cap rn db rb (some k) 1) (h:XQ w0 w db b o cap ms st rn rb 0 nm dl) (hq:q=ms.length) (hk:ms[k]? =some mk)
 (ok:∀a' w',XrB a' b o q cap rn db rb (some k)→XQ w0 w' db b o cap ms st rn rb (kindN mk.nd:Int) nm dl→Q (.exit 0) a' w'):xrKL.wp Tryz.prog Q a w:=by
 show (Code.loop (Code.seq xrKT (Code.seq (Code.block 1 xrKR) xrK11))).wp Tryz.prog Q a w
 refine wp_loop (fun a' w'=>∃i:Nat,1≤i∧i≤5∧XrC a' b o q cap rn db rb (some k) i∧XQ w0 w' db b o cap ms st rn rb (kindI mk.nd i:Int) nm dl) (fun a' _=>5-(intOf (a'.tmps.getD 8 undef)).toNat) ⟨1,Nat.le_refl _,by omega,hf,by rw[kindI_one];exact h⟩ ?_;clear hf h;rintro a1 w1 ⟨i,h1,h5,hf1,hx⟩;by_cases hi:i≤4
 ·have ti:decide ((i:Int)≤4)=true:=dT (by omega);have HT:=hid (fun (Q':Exit→Act→World→Prop) (a':Act) (f':XrC a' b o q cap rn db rb (some k) i) ok'=>xr_k12 (Q:=Q') f' hx hq hk h1 hi ok');have Hms:=hid (show 5-(intOf (.int .i64 (wrap64 ((i:Int)+1)))).toNat<5-(intOf (.int .i64 (i:Int))).toNat from by
   rw[wrap_ok (by omega) (by omega)];simp only[intOf];omega)
  have Hgo:=hid (show Value.int .i64 (wrap64 ((i:Int)+1))= .int .i64 ((i+1:Nat):Int) from by
   rw[wrap_ok (by omega) (by omega)];rfl)
  have Hi:=hid (show 1≤i+1∧i+1≤5 by omega);obtain ⟨vv,rfl⟩:=hf1.shape;clear hf1 hx hq hk h1 h5 hi ok;dsimp only[xrKT,ncs,ncl,ncr,ncb,nco,nct,nce,ncx,Tryz.f22];go_wp2
  rename_i Q1 K1 hK1
  refine HT.out _ _ ⟨rfl,rfl,rfl,rfl,rfl,rfl,rfl,rfl⟩ (fun a2 w2 f2 h2=>hK1 _ _ ?_);have HE:=hid h2;obtain ⟨vv2,rfl⟩:=f2.shape;clear f2 h2 HT hK1;dsimp only[xrK11,ncs,ncl,ncr,ncb,nco,nct,nce,ncx,Tryz.f22];go_wp2;exact ⟨⟨i+1,Hi.out.1,Hi.out.2,⟨rfl,rfl,rfl,rfl,rfl,rfl,rfl,congrArg some Hgo.out⟩,HE.out⟩,Hms.out⟩
 ·obtain rfl:i=5:=by omega
  rw[kindI_all]at hx;have HO:=hid (fun a' f'=>ok a' w1 f' hx);obtain ⟨vv,rfl⟩:=hf1.shape;clear hf1 hx ok hq hk h1 h5 hi;dsimp only[xrKT,ncs,ncl,ncr,ncb,nco,nct,nce,ncx,Tryz.f22];go_wp2;exact HO.out _ ⟨rfl,rfl,rfl,rfl,rfl,rfl,rfl⟩
theorem xr_knum (X:Code) {x:Option Nat} (hf:XrB a b o q cap rn db rb x) (h:XQ w0 w db b o cap ms st rn rb 0 nm dl) (hq:q=ms.length) (hx:∀k,x=some k→k<ms.length)
 (ok:∀a' w',XrA a' b o q cap rn db rb→XQ w0 w' db b o cap ms (kstR (nds ms) x st) rn rb (kkdR (nds ms) x:Int) nm dl→X.wp Tryz.prog Q a' w'):(Code.seq xr8 X).wp Tryz.prog Q a w:=by
 have Hok:=hid ok
 show (Code.seq (Code.seq xr8h (Code.cond (.tmp 35) xrK .skip)) X).wp Tryz.prog Q a w
 cases x with
 |none=>
  have HX:=hid h;obtain ⟨vv,rfl⟩:=hf.shape;have hv:fldV none= -1:=rfl;rw[hv];clear hf h ok hx hq hv;dsimp only[xr8h,ncs,ncl,ncr,ncb,nco,nct,nce,ncx,Tryz.f22];go_wp2;exact Hok.out _ _ ⟨rfl,rfl,rfl,rfl,rfl,rfl⟩ HX.out
 |some k=>
  obtain ⟨mk,hk⟩:∃mk,ms[k]? =some mk:=at_of_lt (hx k rfl);have e1:kkdR (nds ms) (some k)=kindN mk.nd:=by unfold kkdR;simp only[nds_at hk]
  have e2:kstR (nds ms) (some k) st=if kindN mk.nd=0 then failR st mk.nd.line 120 else st:=by unfold kstR;simp only[nds_at hk]
  rw[e1,e2]at Hok;have HL:=hid (fun (Q':Exit→Act→World→Prop) a' f' ok'=>xr_kloop (Q:=Q') (a:=a') f' h hq hk ok');have HN:=hid (fun (Q':Exit→Act→World→Prop) (a':Act) (w':World) (f':XrB a' b o q cap rn db rb (some k)) (h':XQ w0 w' db b o cap ms st rn rb (kindN mk.nd:Int) nm dl) (ok':∀a2 w2,XrA a2 b o q cap rn db rb→XQ w0 w2 db b o cap ms (if kindN mk.nd=0 then failR st mk.nd.line 120 else st) rn rb (kindN mk.nd:Int) nm dl→Q' .normal a2 w2)=>show xrK14.wp Tryz.prog Q' a' w' from by
   have z0:=cell_blk h'.rbk 0;unfold resD at z0;simp at z0;have HX:=hid h';have Hok':=hid ok';have d0:=(h'.dq.heads hq).1;have c4:=(h'.dq.at hk).1.c4;have bk:(k:Int)<(q:Int):=by have:=(List.getElem?_eq_some_iff.1 hk).1;omega
   have Hf:=hid (fail_r h'.dq mk.nd.line 120 (by decide));have hv:fldV (some k)=(k:Int):=rfl;by_cases hz:kindN mk.nd=0
   ·rw[if_pos hz]at Hok';rw[hz]at z0 Hok' HX;obtain ⟨vv,rfl⟩:=f'.shape;rw[hv];clear f' h' ok' hv hz Hok ok h hf HL e1 e2 hx hk hq;dsimp only[xrK14,ncs,ncl,ncr,ncb,nco,nct,nce,ncx,Tryz.f22]
    go_wp2_with fail
    refine Hf.out.mono ?_;rintro r w2 ⟨rfl,hq2,hm2⟩;have HE:=hid (HX.out.call hq2 hm2);clear hq2 hm2 Hf d0 c4 z0;go_wp2;exact Hok'.out _ _ ⟨rfl,rfl,rfl,rfl,rfl,rfl⟩ HE.out
   ·rw[if_neg hz]at Hok';have tz:((kindN mk.nd:Int)==0)=false:=beq_eq_false_iff_ne.2 (by omega);have pz:¬(kindN mk.nd:Int)=0:=by omega
    generalize (kindN mk.nd:Int)=kn at*;obtain ⟨vv,rfl⟩:=f'.shape;rw[hv];clear f' h' ok' hv hz Hok ok h hf HL e1 e2 hx hk hq Hf d0 c4;dsimp only[xrK14,ncs,ncl,ncr,ncb,nco,nct,nce,ncx,Tryz.f22];go_wp2;exact Hok'.out _ _ ⟨rfl,rfl,rfl,rfl,rfl,rfl⟩ HX.out)
  obtain ⟨vv,rfl⟩:=hf.shape;have hv:fldV (some k)=(k:Int):=rfl;rw[hv];have tk:decide ((0:Int)≤(k:Int))=true:=dT (by omega);clear hf h ok hx hk hq hv e1 e2;have hsh:xrK=Code.seq (Code.seq xrK9 (Code.block 0 xrKL)) xrK14:=rfl;rw[hsh];clear hsh;dsimp only[xr8h,xrK9,ncs,ncl,ncr,ncb,nco,nct,nce,ncx,Tryz.f22];go_wp2
  rename_i K0 hK0 K1 hK1
  refine HL.out _ _ ⟨rfl,rfl,rfl,rfl,rfl,rfl,rfl,rfl⟩ (fun a' w' f' h'=> ?_);refine out_block (hK1 _ _ ?_);refine HN.out _ _ _ f' h' (fun a2 w2 f2 h2=> ?_);exact hK0 _ _ (Hok.out _ _ f2 h2)
theorem xr_name0 (X:Code) (hf:XrA a b o q cap rn db rb) (h:XQ w0 w db b o cap ms st rn rb kd nm dl) (h0:ms[0]? =some m0)
 (ok:∀a' w',XrN a' b o q cap rn db rb (if st=none then needR (nds ms) m0.nd kName st else (none,st)).1→XQ w0 w' db b o cap ms (if st=none then needR (nds ms) m0.nd kName st else (none,st)).2 rn rb kd nm dl→X.wp Tryz.prog Q a' w'):(Code.seq xr16 (Code.seq xr17 X)).wp Tryz.prog Q a w:=by
 have d2:=cell_blk h.dq.doc 2;simp at d2;have HX:=hid h;have Hok:=hid ok;cases st with
 |none=>
  have Hn:=hid (need_r (i:=0) h.dq h0 kName);rw[if_pos rfl]at Hok;generalize needR (nds ms) m0.nd kName none=nd at*;obtain ⟨n1,n2⟩:=nd;simp only at Hn Hok;unfold kName at Hn;simp only[stV]at d2;obtain ⟨vv,rfl⟩:=hf.shape;clear hf h ok h0;dsimp only[xr16,xr17,ncs,ncl,ncr,ncb,nco,nct,nce,ncx,Tryz.f22]
  go_wp2_with fail
  refine Hn.out.mono ?_;rintro r w2 ⟨rfl,hq,hm⟩;have HE:=hid (HX.out.call hq hm);clear hq hm Hn HX d2;go_wp2;exact Hok.out _ _ ⟨rfl,rfl,rfl,rfl,rfl,rfl,rfl⟩ HE.out
 |some e=>
  rw[if_neg nofun]at Hok;have te:(e.2==0)=false:=beq_eq_false_iff_ne.2 (h.dq.ok e rfl);have pe:¬e.2=0:=h.dq.ok e rfl;simp only[stV]at d2;obtain ⟨vv,rfl⟩:=hf.shape;clear hf h ok h0;dsimp only[xr16,xr17,ncs,ncl,ncr,ncb,nco,nct,nce,ncx,Tryz.f22];go_wp2;exact Hok.out _ _ ⟨rfl,rfl,rfl,rfl,rfl,rfl,rfl⟩ HX.out
theorem xr_name (X:Code) {x:Option Nat} (hf:XrN a b o q cap rn db rb x) (h:XQ w0 w db b o cap ms st rn rb kd nm dl) (hx:∀k,x=some k→k<ms.length)
 (ok:∀a' w',XrA a' b o q cap rn db rb→XQ w0 w' db b o cap ms (wordR (nds ms) x (isName (textR (nds ms) x)) st).2 rn rb kd (wordR (nds ms) x (isName (textR (nds ms) x)) st).1 dl→X.wp Tryz.prog Q a' w'):(Code.seq xr19 X).wp Tryz.prog Q a w:=by
 have Ht:=hid (text_r h.dq x hx);have Hn:=hid (rname_c w (textR (nds ms) x) (textR_size h.dq x hx));have Hw:=hid (word_r h.dq x hx (isName (textR (nds ms) x)));have HT:=hid h;have Hok:=hid ok;generalize (wordR (nds ms) x (isName (textR (nds ms) x)) st)=p at*;obtain ⟨p1,p2⟩:=p;generalize textR (nds ms) x=tx at*;generalize isName tx=bm at*;simp only at Hw Hok;obtain ⟨vv,rfl⟩:=hf.shape;clear hf h ok hx
 dsimp only[xr19,ncs,ncl,ncr,ncb,nco,nct,nce,ncx,Tryz.f22]
 go_wp2_with fail
 refine Ht.out.mono ?_;rintro r w2 ⟨rfl,hw⟩;obtain rfl:=hw.symm;clear Ht
 go_wp2_with fail
 refine Hn.out.mono ?_;rintro r w2 ⟨rfl,hw⟩;obtain rfl:=hw.symm;clear Hn
 go_wp2_with fail
 refine Hw.out.mono ?_;rintro r w2 ⟨rfl,hq,hm⟩;have hT:=HT.out.call hq hm;have x0:=cell_blk hT.rbk 1;have xf:=frozen_blk hT.rbk 1;unfold resD at x0;simp at x0;have HE:=hid (hT.put 1 (.string p1) (kd':=kd) (nm':=p1) (dl':=dl) rfl);clear hq hm Hw HT hT;go_wp2;exact Hok.out _ _ ⟨rfl,rfl,rfl,rfl,rfl,rfl⟩ HE.out
theorem xr_del0 (X:Code) (hf:XrA a b o q cap rn db rb) (h:XQ w0 w db b o cap ms st rn rb kd nm dl) (h0:ms[0]? =some m0)
 (ok:∀a',XrX a' b o q cap rn db rb (fieldN (nds ms) m0.nd kDelete)→X.wp Tryz.prog Q a' w):(Code.seq xr22 X).wp Tryz.prog Q a w:=by
 have Hn:=hid (field_r (i:=0) h.dq h0 kDelete);have Hok:=hid ok;generalize fieldN (nds ms) m0.nd kDelete=x at*;unfold kDelete at Hn;obtain ⟨vv,rfl⟩:=hf.shape;clear hf h ok h0;dsimp only[xr22,ncs,ncl,ncr,ncb,nco,nct,nce,ncx,Tryz.f22]
 go_wp2_with fail
 refine Hn.out.mono ?_;rintro r w2 ⟨rfl,hw⟩;obtain rfl:=hw.symm;clear Hn;go_wp2;exact Hok.out _ ⟨rfl,rfl,rfl,rfl,rfl,rfl,rfl⟩
end
end Go.Proofs.YtfenoaeoedobmaaGreatDoor
