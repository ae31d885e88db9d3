/-
Parts of a proof, one behind the other (laid dense by a program of mine: pack.py).
-/
import Derived.Test.YtfenoaeoedobmaaGreatDoorRd38
set_option linter.unusedVariables false
set_option linter.unusedSimpArgs false
set_option maxHeartbeats 4000000
set_option maxRecDepth 20000
namespace Go.Proofs.YtfenoaeoedobmaaGreatDoor
open Go Go.RowKit
def CalmN (Q:Exit→Act→World→Prop):Exit→Act→World→Prop
 | .normal,a,w=>Q .normal a w
 |_,_,_=>False
theorem wp_calm_n {P:Program} {c:Code} {Q:Exit→Act→World→Prop} {a:Act} {w:World} (h:c.wp P (CalmN Q) a w):c.wp P Q a w:=
 wp_mono h (by intro e a w h;cases e<;>first|exact h|exact h.elim)
theorem tgt_one (t:Tgt):∀u∈tgtCells t,u.oneCell'=true:=by
 intro u hu;unfold tgtCells at hu;simp only[List.mem_cons,List.not_mem_nil,or_false]at hu;rcases hu with rfl|rfl|rfl<;>rfl
theorem rul_one (t:Rul):∀u∈rulCells t,u.oneCell'=true:=by
 intro u hu;unfold rulCells at hu;simp only[List.mem_cons,List.not_mem_nil,or_false]at hu;rcases hu with rfl|rfl|rfl|rfl<;>rfl
theorem rq_tgt {w0 wb w:World} {Q:Exit→Act→World→Prop} {a:Act} {ms:List NdM} {db b o cap rb q lc j lb lo n k:Nat} {pre:Value→Array Value} {v:Value} {xs:List Value} {mk:NdM}
 (hf:RqT a db rb (some ⟨lb,lo,none⟩) q lc j) (h:RQ w0 wb w db b o cap ms none rb 3 pre 58 3 v n xs) (hp:∀v,(pre v)[3]? =some v) (hk:ms[k]? =some mk) (hj:j<q) (hlb:lb<w0.heap.size) (hc:w0.cell? ⟨lb,lo+j,none⟩=some (.int .i64 (k:Int))) (hn:n≤1000)
 (ok:∀a' w' v',RqT a' db rb (some ⟨lb,lo,none⟩) q lc j→RQ w0 wb w' db b o cap ms (targetR (nds ms) k none).2 rb 3 pre 58 3 v' (n+1) (xs++tgtCells (targetR (nds ms) k none).1)→Q .normal a' w'):rqt20.wp Tryz.prog Q a w:=by
 have hst:= @store_float;have hcw:=(h.dq.below.cell (p:=⟨lb,lo+j,none⟩) hlb).trans hc;have hcell:w.cell? ⟨rb,3,none⟩=some v:=(cell_blk h.blk 3).trans (hp v);have hS:(w.drew.cell? ⟨rb,3,none⟩=some v∧w.drew.cell? ⟨lb,lo+j,none⟩=some (.int .i64 (k:Int))):=⟨hcell,hcw⟩;have bj:(j:Int)<(q:Int):=by omega
 have Hc:=hid (target_r (h.dq.drewN 1) hk);have HR:=hid h;have Hp:=hid hp;have Hl:=hid (show n≤1000000 by omega);have Hlb:=hid (show lb<wb.heap.size∧lb≠rb∧lb≠db by have:=h.rlo;have:=h.rlt;have:=h.dq.dlo;omega);have Hok:=hid ok;generalize targetR (nds ms) k none=p at*;obtain ⟨p1,p2⟩:=p;unfold PostT at Hc;have Harr:=hid (show (tgtA p1).toList=tgtCells p1 from rfl);have Hone:=hid (show ∀u∈tgtCells p1,u.oneCell'=true from tgt_one p1)
 unfold tgtA at Hc Harr;simp only at Hc Hok;obtain ⟨vv,rfl⟩:=hf.shape;clear hf h ok hk hj hlb hc hn hp hcw hcell;dsimp only[rqt20,ncs,ncl,ncr,ncb,nco,nct,nce,ncx,Tryz.f62];refine wp_calm_n ?_;refine wp_region_K (fun w'=>w'.cell? ⟨rb,3,none⟩=some v∧w'.cell? ⟨lb,lo+j,none⟩=some (.int .i64 (k:Int))) (fun i=>decide (i<13)) (by kernel_rfl) ?_;refine wK (i:=0) (v:= ?_) rfl (by kernel_rfl) (fun _ _ _ h=>h) (by rfl) ?_ hS ?_
 rotate_left
 ·intro w' hSw;obtain ⟨s1,s2⟩:=hSw;go_simp
  try with_reducible rfl
 simp only[Act.put,sA,sZ,sS];refine wK (i:=1) (v:= ?_) rfl (by kernel_rfl) (fun _ _ _ h=>h) (by rfl) ?_ hS ?_;rotate_left
 ·intro w' hSw;obtain ⟨s1,s2⟩:=hSw;go_simp
  try with_reducible rfl
 simp only[Act.put,sA,sZ,sS];refine wK (i:=2) (v:= ?_) rfl (by kernel_rfl) (fun _ _ _ h=>h) (by rfl) ?_ hS ?_;rotate_left
 ·intro w' hSw;obtain ⟨s1,s2⟩:=hSw;go_simp
  try with_reducible rfl
 simp only[Act.put,sA,sZ,sS];refine wK (i:=3) (v:= ?_) rfl (by kernel_rfl) (fun _ _ _ h=>h) (by rfl) ?_ hS ?_;rotate_left
 ·intro w' hSw;obtain ⟨s1,s2⟩:=hSw;go_simp
  try with_reducible rfl
 simp only[Act.put,sA,sZ,sS];refine wK (i:=4) (v:= ?_) rfl (by kernel_rfl) (fun _ _ _ h=>h) (by rfl) ?_ hS ?_;rotate_left
 ·intro w' hSw;obtain ⟨s1,s2⟩:=hSw;go_simp
  try with_reducible rfl
 simp only[Act.put,sA,sZ,sS];refine wK (i:=5) (v:= ?_) rfl (by kernel_rfl) (fun _ _ _ h=>h) (by rfl) ?_ hS ?_;rotate_left
 ·intro w' hSw;obtain ⟨s1,s2⟩:=hSw;go_simp
  try with_reducible rfl
 simp only[Act.put,sA,sZ,sS];refine wK (i:=6) (v:= ?_) rfl (by kernel_rfl) (fun _ _ _ h=>h) (by rfl) ?_ hS ?_;rotate_left
 ·intro w' hSw;obtain ⟨s1,s2⟩:=hSw;go_simp
  try with_reducible rfl
 simp only[Act.put,sA,sZ,sS];refine wK (i:=7) (v:= ?_) rfl (by kernel_rfl) (fun _ _ _ h=>h) (by rfl) ?_ hS ?_;rotate_left
 ·intro w' hSw;obtain ⟨s1,s2⟩:=hSw;go_simp
  try with_reducible rfl
 simp only[Act.put,sA,sZ,sS];refine wK (i:=8) (v:= ?_) rfl (by kernel_rfl) (fun _ _ _ h=>h) (by rfl) ?_ hS ?_;rotate_left
 ·intro w' hSw;obtain ⟨s1,s2⟩:=hSw;go_simp
  try with_reducible rfl
 simp only[Act.put,sA,sZ,sS];refine wK (i:=9) (v:= ?_) rfl (by kernel_rfl) (fun _ _ _ h=>h) (by rfl) ?_ hS ?_;rotate_left
 ·intro w' hSw;obtain ⟨s1,s2⟩:=hSw;go_simp
  try with_reducible rfl
 simp only[Act.put,sA,sZ,sS];refine wpAnyK_one (i:=10) (by kernel_rfl) rfl (fun K hK=> ?_);go_simp;refine Hc.out.mono ?_;rintro r w2 ⟨rfl,hq,hm⟩;have hR2:=(HR.out.later (bdH (Below.refl _ _) 1)).call hq hm;have hS2:(w2.cell? ⟨rb,3,none⟩=some v∧w2.cell? ⟨lb,lo+j,none⟩=some (.int .i64 (k:Int))):=⟨(cell_blk hR2.blk 3).trans (Hp.out v),hm.cell hS.2 (fun e=>Hlb.out.2.2 e)⟩;refine hK.out _ _ (fun _=>hS2) ?_
 clear hK K Hc hS hq hm
 try simp only[Act.put,sA,sZ,sS]
 refine wpAnyK_one (i:=11) (by kernel_rfl) rfl (fun K hK=> ?_);go_simp;have hb3:∀ob,Below w2.heap.size w2 (w2.alloc ob):=fun ob=>(Below.refl _ _).alloc (Nat.le_refl _) ob;refine hK.out _ _ (fun _=>⟨((hb3 _).cell (lt_of_cell hS2.1)).trans hS2.1,((hb3 _).cell (lt_of_cell hS2.2)).trans hS2.2⟩) ?_;clear hK K
 try simp only[Act.put,sA,sZ,sS]
 refine wpAnyK_one (i:=12) (by kernel_rfl) rfl (fun K hK=> ?_);refine stepRow 58 46 (.agg #[.string ⟨#[]⟩,.string ⟨#[]⟩,.float .f64 0]) 3 40 Tryz.underlying46 tgt_info rfl (by decide) (by decide) rfl _ _ rfl v n xs rfl (hR2.later (hb3 _)).row w2.heap.size _ _ rfl (alloc_new _) Harr.out rfl Hone.out Hl.out (n+1) rfl ?_;intro ao4 c4 w4 own4 gr4 new4
 have hRp:=(hR2.later (hb3 _)).put own4 gr4 new4;have hm4:Mod (fun k=>v.ownBlock=some k) _ w4:=(Mod.refl _ _).grown gr4 (fun k e _=>e);have hb4:=hm4.heap (hR2.later (hb3 _)).blk (fun q=>by have:=hR2.new rb q;have:=hR2.rlt;omega);have hl4:=hm4.cell (((hb3 _).cell (lt_of_cell hS2.2)).trans hS2.2) (fun q=>by have:=hR2.new lb q;have:=Hlb.out.1;omega);refine hK.out _ _ (fun _=>⟨(cell_blk hb4 3).trans (Hp.out v),hl4⟩) ?_
 clear hK K;have c4:=(cell_blk hb4 3).trans (Hp.out v);have f4:=frozen_blk hb4 3;have HE:=hid hRp;clear hRp hm4 hb4 hl4 own4 gr4 new4 hS2 hR2 hb3 Hp HR Hlb
 try simp only[Act.put,sA,sZ,sS]
 refine wpAnyK_one (i:=13) (by kernel_rfl) rfl (fun K hK=> ?_);go_simp;refine hK.out _ _ (fun h=>absurd h (by decide)) ?_;clear hK K;refine wpAnyK_one (i:=14) (by kernel_rfl) rfl (fun K hK=> ?_);go_simp;refine hK.out _ _ (fun h=>absurd h (by decide)) ?_;clear hK K;refine wpAnyK_one (i:=15) (by kernel_rfl) rfl (fun K hK=> ?_);go_simp;refine hK.out _ _ (fun h=>absurd h (by decide)) ?_;clear hK K;refine wpAnyK_done (by kernel_rfl) ?_ _
 exact Hok.out _ _ _ ⟨rfl,rfl,rfl,rfl,rfl,rfl⟩ HE.out
theorem rq_rul {w0 wb w:World} {Q:Exit→Act→World→Prop} {a:Act} {ms:List NdM} {db b o cap rb q lc j lb lo n k:Nat} {pre:Value→Array Value} {v:Value} {xs:List Value} {mk:NdM} {act:Bool}
 (hf:RqU a db rb (some ⟨lb,lo,none⟩) q lc j (lastK act)) (h:RQ w0 wb w db b o cap ms none rb 5 pre 60 4 v n xs) (hp:∀v,(pre v)[5]? =some v) (hk:ms[k]? =some mk) (hj:j<q) (hlb:lb<w0.heap.size) (hc:w0.cell? ⟨lb,lo+j,none⟩=some (.int .i64 (k:Int))) (hn:n≤1000)
 (ok:∀a' w' v',RqU a' db rb (some ⟨lb,lo,none⟩) q lc j (lastK act)→RQ w0 wb w' db b o cap ms (ruleR (nds ms) act k none).2 rb 5 pre 60 4 v' (n+1) (xs++rulCells (ruleR (nds ms) act k none).1)→Q .normal a' w'):rqu36.wp Tryz.prog Q a w:=by
 have hst:= @store_float;have hcw:=(h.dq.below.cell (p:=⟨lb,lo+j,none⟩) hlb).trans hc;have hcell:w.cell? ⟨rb,5,none⟩=some v:=(cell_blk h.blk 5).trans (hp v);have hS:(w.drew.cell? ⟨rb,5,none⟩=some v∧w.drew.cell? ⟨lb,lo+j,none⟩=some (.int .i64 (k:Int))):=⟨hcell,hcw⟩;have bj:(j:Int)<(q:Int):=by omega
 have Hc:=hid (rule_r (h.dq.drewN 1) hk act);have HR:=hid h;have Hp:=hid hp;have Hl:=hid (show n≤1000000 by omega);have Hlb:=hid (show lb<wb.heap.size∧lb≠rb∧lb≠db by have:=h.rlo;have:=h.rlt;have:=h.dq.dlo;omega);have Hok:=hid ok;generalize ruleR (nds ms) act k none=p at*;obtain ⟨p1,p2⟩:=p;unfold PostU at Hc;have Harr:=hid (show (rulA p1).toList=rulCells p1 from rfl);have Hone:=hid (show ∀u∈rulCells p1,u.oneCell'=true from rul_one p1)
 unfold rulA at Hc Harr;simp only at Hc Hok;obtain ⟨vv,rfl⟩:=hf.shape;clear hf h ok hk hj hlb hc hn hp hcw hcell;dsimp only[rqu36,ncs,ncl,ncr,ncb,nco,nct,nce,ncx,Tryz.f62];refine wp_calm_n ?_;refine wp_region_K (fun w'=>w'.cell? ⟨rb,5,none⟩=some v∧w'.cell? ⟨lb,lo+j,none⟩=some (.int .i64 (k:Int))) (fun i=>decide (i<14)) (by kernel_rfl) ?_;refine wK (i:=0) (v:= ?_) rfl (by kernel_rfl) (fun _ _ _ h=>h) (by rfl) ?_ hS ?_
 rotate_left
 ·intro w' hSw;obtain ⟨s1,s2⟩:=hSw;go_simp
  try with_reducible rfl
 simp only[Act.put,sA,sZ,sS];refine wK (i:=1) (v:= ?_) rfl (by kernel_rfl) (fun _ _ _ h=>h) (by rfl) ?_ hS ?_;rotate_left
 ·intro w' hSw;obtain ⟨s1,s2⟩:=hSw;go_simp
  try with_reducible rfl
 simp only[Act.put,sA,sZ,sS];refine wK (i:=2) (v:= ?_) rfl (by kernel_rfl) (fun _ _ _ h=>h) (by rfl) ?_ hS ?_;rotate_left
 ·intro w' hSw;obtain ⟨s1,s2⟩:=hSw;go_simp
  try with_reducible rfl
 simp only[Act.put,sA,sZ,sS];refine wK (i:=3) (v:= ?_) rfl (by kernel_rfl) (fun _ _ _ h=>h) (by rfl) ?_ hS ?_;rotate_left
 ·intro w' hSw;obtain ⟨s1,s2⟩:=hSw;go_simp
  try with_reducible rfl
 simp only[Act.put,sA,sZ,sS];refine wK (i:=4) (v:= ?_) rfl (by kernel_rfl) (fun _ _ _ h=>h) (by rfl) ?_ hS ?_;rotate_left
 ·intro w' hSw;obtain ⟨s1,s2⟩:=hSw;go_simp
  try with_reducible rfl
 simp only[Act.put,sA,sZ,sS];refine wK (i:=5) (v:= ?_) rfl (by kernel_rfl) (fun _ _ _ h=>h) (by rfl) ?_ hS ?_;rotate_left
 ·intro w' hSw;obtain ⟨s1,s2⟩:=hSw;go_simp
  try with_reducible rfl
 simp only[Act.put,sA,sZ,sS];refine wK (i:=6) (v:= ?_) rfl (by kernel_rfl) (fun _ _ _ h=>h) (by rfl) ?_ hS ?_;rotate_left
 ·intro w' hSw;obtain ⟨s1,s2⟩:=hSw;go_simp
  try with_reducible rfl
 simp only[Act.put,sA,sZ,sS];refine wK (i:=7) (v:= ?_) rfl (by kernel_rfl) (fun _ _ _ h=>h) (by rfl) ?_ hS ?_;rotate_left
 ·intro w' hSw;obtain ⟨s1,s2⟩:=hSw;go_simp
  try with_reducible rfl
 simp only[Act.put,sA,sZ,sS];refine wK (i:=8) (v:= ?_) rfl (by kernel_rfl) (fun _ _ _ h=>h) (by rfl) ?_ hS ?_;rotate_left
 ·intro w' hSw;obtain ⟨s1,s2⟩:=hSw;go_simp
  try with_reducible rfl
 simp only[Act.put,sA,sZ,sS];refine wK (i:=9) (v:= ?_) rfl (by kernel_rfl) (fun _ _ _ h=>h) (by rfl) ?_ hS ?_;rotate_left
 ·intro w' hSw;obtain ⟨s1,s2⟩:=hSw;go_simp
  try with_reducible rfl
 simp only[Act.put,sA,sZ,sS];refine wK (i:=10) (v:= ?_) rfl (by kernel_rfl) (fun _ _ _ h=>h) (by rfl) ?_ hS ?_;rotate_left
 ·intro w' hSw;obtain ⟨s1,s2⟩:=hSw;go_simp
  try with_reducible rfl
 simp only[Act.put,sA,sZ,sS];refine wpAnyK_one (i:=11) (by kernel_rfl) rfl (fun K hK=> ?_);go_simp;refine Hc.out.mono ?_;rintro r w2 ⟨rfl,hq,hm⟩;have hR2:=(HR.out.later (bdH (Below.refl _ _) 1)).call hq hm;have hS2:(w2.cell? ⟨rb,5,none⟩=some v∧w2.cell? ⟨lb,lo+j,none⟩=some (.int .i64 (k:Int))):=⟨(cell_blk hR2.blk 5).trans (Hp.out v),hm.cell hS.2 (fun e=>Hlb.out.2.2 e)⟩;refine hK.out _ _ (fun _=>hS2) ?_
 clear hK K Hc hS hq hm
 try simp only[Act.put,sA,sZ,sS]
 refine wpAnyK_one (i:=12) (by kernel_rfl) rfl (fun K hK=> ?_);go_simp;have hb3:∀ob,Below w2.heap.size w2 (w2.alloc ob):=fun ob=>(Below.refl _ _).alloc (Nat.le_refl _) ob;refine hK.out _ _ (fun _=>⟨((hb3 _).cell (lt_of_cell hS2.1)).trans hS2.1,((hb3 _).cell (lt_of_cell hS2.2)).trans hS2.2⟩) ?_;clear hK K
 try simp only[Act.put,sA,sZ,sS]
 refine wpAnyK_one (i:=13) (by kernel_rfl) rfl (fun K hK=> ?_);refine stepRow 60 47 (.agg #[.string ⟨#[]⟩,.string ⟨#[]⟩,.string ⟨#[]⟩,.bool false]) 4 56 Tryz.underlying47 rul_info rfl (by decide) (by decide) rfl _ _ rfl v n xs rfl (hR2.later (hb3 _)).row w2.heap.size _ _ rfl (alloc_new _) Harr.out rfl Hone.out Hl.out (n+1) rfl ?_;intro ao4 c4 w4 own4 gr4 new4
 have hRp:=(hR2.later (hb3 _)).put own4 gr4 new4;have hm4:Mod (fun k=>v.ownBlock=some k) _ w4:=(Mod.refl _ _).grown gr4 (fun k e _=>e);have hb4:=hm4.heap (hR2.later (hb3 _)).blk (fun q=>by have:=hR2.new rb q;have:=hR2.rlt;omega);have hl4:=hm4.cell (((hb3 _).cell (lt_of_cell hS2.2)).trans hS2.2) (fun q=>by have:=hR2.new lb q;have:=Hlb.out.1;omega);refine hK.out _ _ (fun _=>⟨(cell_blk hb4 5).trans (Hp.out v),hl4⟩) ?_
 clear hK K;have c4:=(cell_blk hb4 5).trans (Hp.out v);have f4:=frozen_blk hb4 5;have HE:=hid hRp;clear hRp hm4 hb4 hl4 own4 gr4 new4 hS2 hR2 hb3 Hp HR Hlb
 try simp only[Act.put,sA,sZ,sS]
 refine wpAnyK_one (i:=14) (by kernel_rfl) rfl (fun K hK=> ?_);go_simp;refine hK.out _ _ (fun h=>absurd h (by decide)) ?_;clear hK K;refine wpAnyK_one (i:=15) (by kernel_rfl) rfl (fun K hK=> ?_);go_simp;refine hK.out _ _ (fun h=>absurd h (by decide)) ?_;clear hK K;refine wpAnyK_one (i:=16) (by kernel_rfl) rfl (fun K hK=> ?_);go_simp;refine hK.out _ _ (fun h=>absurd h (by decide)) ?_;clear hK K;refine wpAnyK_done (by kernel_rfl) ?_ _
 exact Hok.out _ _ _ ⟨rfl,rfl,rfl,rfl,rfl,rfl,rfl⟩ HE.out
theorem rq_tloop {w0 wb w:World} {Q:Exit→Act→World→Prop} {a:Act} {ms:List NdM} {db b o cap rb q lc:Nat} {la:Option Addr} {pre:Value→Array Value} {st:St} {L:List Int}
 (hf:RqT a db rb la q lc 0) (hL:LsI w0 la q lc L) (hq:q≤1000) (hLk:∀x∈L,0≤x∧x<(ms.length:Int)) (h:RQ w0 wb w db b o cap ms st rb 3 pre 58 3 (.slice none 0 0) 0 []) (hp:∀v,(pre v)[3]? =some v)
 (ok:∀a' w' v',a'.defers=[]→RQ w0 wb w' db b o cap ms (targetsR (nds ms) L [] st).2 rb 3 pre 58 3 v' (targetsR (nds ms) L [] st).1.length ((targetsR (nds ms) L [] st).1.flatMap tgtCells)→Q (.exit 5) a' w'):rqtL.wp Tryz.prog Q a w:=by
 show (Code.loop (Code.seq rqtT (Code.seq (Code.block 6 rqt20) rqt19))).wp Tryz.prog Q a w
 refine wp_loop (fun a' w'=>∃(j:Nat) (v:Value) (out:List Tgt) (s1:St),j≤q∧out.length=j∧RqT a' db rb la q lc j∧RQ w0 wb w' db b o cap ms s1 rb 3 pre 58 3 v out.length (out.flatMap tgtCells)∧targetsR (nds ms) L [] st=targetsR (nds ms) (L.drop j) out s1) (fun a' _=>q-(intOf (a'.tmps.getD 9 undef)).toNat) ⟨0,_,[],st,Nat.zero_le _,rfl,hf,h,by rw[List.drop_zero]⟩ ?_;clear hf h;rintro a1 w1 ⟨j,v,out,s1,hjq,hol,hf1,h1,hs⟩
 have d2:=cell_blk h1.dq.doc 2;simp at d2;by_cases hj:j<q
 ·cases s1 with
  |some e=>
   have te:(e.2==0)=false:=beq_eq_false_iff_ne.2 (h1.dq.ok e rfl);have pe:¬e.2=0:=h1.dq.ok e rfl;obtain ⟨x,_,_,hx,_⟩:=hL.at hj;have hfin:targetsR (nds ms) L [] st=(out,some e):=by rw[hs,drop_at hx];rfl
   rw[hfin]at ok;have HO:=hid (fun a' hd=>ok a' w1 v hd h1);have tj:decide (j<q)=true:=dT hj;simp only[stV]at d2;obtain ⟨vv,rfl⟩:=hf1.shape;clear hf1 h1 hs ok hx hfin hL hLk hp hj hjq hol hq;dsimp only[rqtT,ncs,ncl,ncr,ncb,nco,nct,nce,ncx,Tryz.f62];go_wp2;exact HO.out _ rfl
  |none=>
   have tj:decide (j<q)=true:=dT hj;obtain ⟨x,lb,lo,hx,rfl,hlt,hc⟩:=hL.at hj;obtain ⟨hx0,hx1⟩:=hLk x (List.mem_of_getElem? hx);obtain ⟨k,rfl⟩:∃k:Nat,x=(k:Int):=⟨x.toNat,by omega⟩;obtain ⟨mk,hk⟩:∃mk,ms[k]? =some mk:=at_of_lt (by omega);rw[drop_at hx]at hs;obtain ⟨Hms,Hgo⟩:=step_two (k:=j) (n:=q) hj (by omega);have HT:=hid (fun (Q':Exit→Act→World→Prop) (a':Act) (f':RqT a' db rb (some ⟨lb,lo,none⟩) q lc j) (ok':_)=>rq_tgt (Q:=Q') f' h1 hp hk hj hlt hc (by omega) ok')
   have Hs:=hid (And.intro hs (And.intro hol (show j+1≤q from hj)));simp only[stV]at d2;obtain ⟨vv,rfl⟩:=hf1.shape;clear hf1 h1 hs ok hx hk hL hLk hp hj hjq hol hq hc hlt hx0 hx1;dsimp only[rqtT,ncs,ncl,ncr,ncb,nco,nct,nce,ncx,Tryz.f62];go_wp2
   rename_i Q1 K1 hK1
   refine HT.out _ _ ⟨rfl,rfl,rfl,rfl,rfl,rfl⟩ (fun a2 w2 v2 f2 r2=>hK1 _ _ ?_);have HE:=hid r2;obtain ⟨vv2,rfl⟩:=f2.shape;clear f2 r2 HT hK1 d2;dsimp only[rqt19,ncs,ncl,ncr,ncb,nco,nct,nce,ncx,Tryz.f62];go_wp2;refine ⟨⟨j+1,v2,out++[(targetR (nds ms) k none).1],(targetR (nds ms) k none).2,Hs.out.2.2,by rw[List.length_append,Hs.out.2.1];rfl,⟨rfl,rfl,rfl,rfl,rfl,congrArg some Hgo.out⟩,?_,Hs.out.1⟩,Hms.out⟩
   have h9:=HE.out;rw[List.length_append,List.flatMap_append,List.flatMap_singleton];exact h9
 ·have hfin:targetsR (nds ms) L [] st=(out,s1):=by
   rw[hs,List.drop_eq_nil_of_le (by have:=hL.len;omega)];rfl
  rw[hfin]at ok;have HO:=hid (fun a' hd=>ok a' w1 v hd h1);have tj:decide (j<q)=false:=dF hj;generalize (stV s1).2=ev at*;obtain ⟨vv,rfl⟩:=hf1.shape;clear hf1 h1 hs ok hfin hL hLk hp hj hjq hol hq;dsimp only[rqtT,ncs,ncl,ncr,ncb,nco,nct,nce,ncx,Tryz.f62];go_wp2;exact HO.out _ rfl
theorem rq_uloop {w0 wb w:World} {Q:Exit→Act→World→Prop} {a:Act} {ms:List NdM} {db b o cap rb q lc:Nat} {la:Option Addr} {pre:Value→Array Value} {st:St} {L:List Int} {act:Bool}
 (hf:RqU a db rb la q lc 0 (lastK act)) (hL:LsI w0 la q lc L) (hq:q≤1000) (hLk:∀x∈L,0≤x∧x<(ms.length:Int)) (h:RQ w0 wb w db b o cap ms st rb 5 pre 60 4 (.slice none 0 0) 0 []) (hp:∀v,(pre v)[5]? =some v)
 (ok:∀a' w' v',a'.defers=[]→RQ w0 wb w' db b o cap ms (rulesR (nds ms) act L [] st).2 rb 5 pre 60 4 v' (rulesR (nds ms) act L [] st).1.length ((rulesR (nds ms) act L [] st).1.flatMap rulCells)→Q (.exit 7) a' w'):rquL.wp Tryz.prog Q a w:=by
 show (Code.loop (Code.seq rquT (Code.seq (Code.block 8 rqu36) rqu35))).wp Tryz.prog Q a w
 refine wp_loop (fun a' w'=>∃(j:Nat) (v:Value) (out:List Rul) (s1:St),j≤q∧out.length=j∧RqU a' db rb la q lc j (lastK act)∧RQ w0 wb w' db b o cap ms s1 rb 5 pre 60 4 v out.length (out.flatMap rulCells)∧rulesR (nds ms) act L [] st=rulesR (nds ms) act (L.drop j) out s1) (fun a' _=>q-(intOf (a'.tmps.getD 14 undef)).toNat) ⟨0,_,[],st,Nat.zero_le _,rfl,hf,h,by rw[List.drop_zero]⟩ ?_;clear hf h
 rintro a1 w1 ⟨j,v,out,s1,hjq,hol,hf1,h1,hs⟩;have d2:=cell_blk h1.dq.doc 2;simp at d2;by_cases hj:j<q
 ·cases s1 with
  |some e=>
   have te:(e.2==0)=false:=beq_eq_false_iff_ne.2 (h1.dq.ok e rfl);have pe:¬e.2=0:=h1.dq.ok e rfl;obtain ⟨x,_,_,hx,_⟩:=hL.at hj;have hfin:rulesR (nds ms) act L [] st=(out,some e):=by rw[hs,drop_at hx];rfl
   rw[hfin]at ok;have HO:=hid (fun a' hd=>ok a' w1 v hd h1);have tj:decide (j<q)=true:=dT hj;simp only[stV]at d2;obtain ⟨vv,rfl⟩:=hf1.shape;clear hf1 h1 hs ok hx hfin hL hLk hp hj hjq hol hq;dsimp only[rquT,ncs,ncl,ncr,ncb,nco,nct,nce,ncx,Tryz.f62];go_wp2;exact HO.out _ rfl
  |none=>
   have tj:decide (j<q)=true:=dT hj;obtain ⟨x,lb,lo,hx,rfl,hlt,hc⟩:=hL.at hj;obtain ⟨hx0,hx1⟩:=hLk x (List.mem_of_getElem? hx);obtain ⟨k,rfl⟩:∃k:Nat,x=(k:Int):=⟨x.toNat,by omega⟩;obtain ⟨mk,hk⟩:∃mk,ms[k]? =some mk:=at_of_lt (by omega);rw[drop_at hx]at hs;obtain ⟨Hms,Hgo⟩:=step_two (k:=j) (n:=q) hj (by omega);have HT:=hid (fun (Q':Exit→Act→World→Prop) (a':Act) (f':RqU a' db rb (some ⟨lb,lo,none⟩) q lc j (lastK act)) (ok':_)=>rq_rul (Q:=Q') f' h1 hp hk hj hlt hc (by omega) ok')
   have Hs:=hid (And.intro hs (And.intro hol (show j+1≤q from hj)));simp only[stV]at d2;obtain ⟨vv,rfl⟩:=hf1.shape;clear hf1 h1 hs ok hx hk hL hLk hp hj hjq hol hq hc hlt hx0 hx1;dsimp only[rquT,ncs,ncl,ncr,ncb,nco,nct,nce,ncx,Tryz.f62];go_wp2
   rename_i Q1 K1 hK1
   refine HT.out _ _ ⟨rfl,rfl,rfl,rfl,rfl,rfl,rfl⟩ (fun a2 w2 v2 f2 r2=>hK1 _ _ ?_);have HE:=hid r2;obtain ⟨vv2,rfl⟩:=f2.shape;clear f2 r2 HT hK1 d2;dsimp only[rqu35,ncs,ncl,ncr,ncb,nco,nct,nce,ncx,Tryz.f62];go_wp2;refine ⟨⟨j+1,v2,out++[(ruleR (nds ms) act k none).1],(ruleR (nds ms) act k none).2,Hs.out.2.2,by rw[List.length_append,Hs.out.2.1];rfl,⟨rfl,rfl,rfl,rfl,rfl,rfl,congrArg some Hgo.out⟩,?_,Hs.out.1⟩,Hms.out⟩
   have h9:=HE.out;rw[List.length_append,List.flatMap_append,List.flatMap_singleton];exact h9
 ·have hfin:rulesR (nds ms) act L [] st=(out,s1):=by
   rw[hs,List.drop_eq_nil_of_le (by have:=hL.len;omega)];rfl
  rw[hfin]at ok;have HO:=hid (fun a' hd=>ok a' w1 v hd h1);have tj:decide (j<q)=false:=dF hj;generalize (stV s1).2=ev at*;obtain ⟨vv,rfl⟩:=hf1.shape;clear hf1 h1 hs ok hfin hL hLk hp hj hjq hol hq;dsimp only[rquT,ncs,ncl,ncr,ncb,nco,nct,nce,ncx,Tryz.f62];go_wp2;exact HO.out _ rfl
theorem rq_sword {w0 w:World} {Q:Exit→Act→World→Prop} {a:Act} {ms:List NdM} {st:St} {db b o cap rb q lc j lb lo k:Nat} {mk:NdM}
 (hf:RqS a db rb (some ⟨lb,lo,none⟩) q lc j) (h:DQ w0 w db b o cap ms st) (hk:ms[k]? =some mk) (hj:j<q) (hlb:lb<w0.heap.size) (hc:w0.cell? ⟨lb,lo+j,none⟩=some (.int .i64 (k:Int)))
 (ok:∀a' w',RqI a' db rb (some ⟨lb,lo,none⟩) q lc j (wordR (nds ms) (some k) (isName mk.nd.text) st).1→DQ w0 w' db b o cap ms (wordR (nds ms) (some k) (isName mk.nd.text) st).2→Mod (fun k=>k=db) w w'→Q .normal a' w'):rqs7.wp Tryz.prog Q a w:=by
 have hcw:=(h.below.cell (p:=⟨lb,lo+j,none⟩) hlb).trans hc;have hS:w.drew.cell? ⟨lb,lo+j,none⟩=some (.int .i64 (k:Int)):=hcw;have hkl:k<ms.length:=(List.getElem?_eq_some_iff.1 hk).1;have hx:∀z,some k=some z→z<ms.length:=fun z e=>by injection e with e;omega
 have htx:textR (nds ms) (some k)=mk.nd.text:=by unfold textR;simp only[nds_at hk]
 have bj:(j:Int)<(q:Int):=by omega
 have Ht:=hid (text_r (h.drewN 1) (some k) hx);have Hn:=hid (fun w1=>rname_c w1 mk.nd.text (by have:=(h.at hk).2.text;omega));have Hw:=hid (word_r (h.drewN 1) (some k) hx (isName mk.nd.text));have hv:fldV (some k)=(k:Int):=rfl;rw[htx]at Ht;rw[hv]at Ht Hw;have Hdb:=hid (show lb≠db by have:=h.dlo;omega);have Hok:=hid ok;generalize (wordR (nds ms) (some k) (isName mk.nd.text) st)=p at*;obtain ⟨p1,p2⟩:=p
 generalize mk.nd.text=tx at*;generalize isName tx=nm at*;simp only at Hw Hok;obtain ⟨vv,rfl⟩:=hf.shape;clear hf h ok hk hj hlb hc hcw hkl hx htx hv;dsimp only[rqs7,ncs,ncl,ncr,ncb,nco,nct,nce,ncx,Tryz.f62];refine wp_calm_n ?_;refine wp_region_K (fun w'=>w'.cell? ⟨lb,lo+j,none⟩=some (.int .i64 (k:Int))) (fun i=>decide (i<13)) (by kernel_rfl) ?_;refine wK (i:=0) (v:= ?_) rfl (by kernel_rfl) (fun _ _ _ h=>h) (by rfl) ?_ hS ?_
 rotate_left
 ·intro w' hSw;go_simp
  try with_reducible rfl
 simp only[Act.put,sA,sZ,sS];refine wK (i:=1) (v:= ?_) rfl (by kernel_rfl) (fun _ _ _ h=>h) (by rfl) ?_ hS ?_;rotate_left
 ·intro w' hSw;go_simp
  try with_reducible rfl
 simp only[Act.put,sA,sZ,sS];refine wK (i:=2) (v:= ?_) rfl (by kernel_rfl) (fun _ _ _ h=>h) (by rfl) ?_ hS ?_;rotate_left
 ·intro w' hSw;go_simp
  try with_reducible rfl
 simp only[Act.put,sA,sZ,sS];refine wK (i:=3) (v:= ?_) rfl (by kernel_rfl) (fun _ _ _ h=>h) (by rfl) ?_ hS ?_;rotate_left
 ·intro w' hSw;go_simp
  try with_reducible rfl
 simp only[Act.put,sA,sZ,sS];refine wK (i:=4) (v:= ?_) rfl (by kernel_rfl) (fun _ _ _ h=>h) (by rfl) ?_ hS ?_;rotate_left
 ·intro w' hSw;go_simp
  try with_reducible rfl
 simp only[Act.put,sA,sZ,sS];refine wK (i:=5) (v:= ?_) rfl (by kernel_rfl) (fun _ _ _ h=>h) (by rfl) ?_ hS ?_;rotate_left
 ·intro w' hSw;go_simp
  try with_reducible rfl
 simp only[Act.put,sA,sZ,sS];refine wK (i:=6) (v:= ?_) rfl (by kernel_rfl) (fun _ _ _ h=>h) (by rfl) ?_ hS ?_;rotate_left
 ·intro w' hSw;go_simp
  try with_reducible rfl
 simp only[Act.put,sA,sZ,sS];refine wK (i:=7) (v:= ?_) rfl (by kernel_rfl) (fun _ _ _ h=>h) (by rfl) ?_ hS ?_;rotate_left
 ·intro w' hSw;go_simp
  try with_reducible rfl
 simp only[Act.put,sA,sZ,sS];refine wK (i:=8) (v:= ?_) rfl (by kernel_rfl) (fun _ _ _ h=>h) (by rfl) ?_ hS ?_;rotate_left
 ·intro w' hSw;go_simp
  try with_reducible rfl
 simp only[Act.put,sA,sZ,sS];refine wK (i:=9) (v:= ?_) rfl (by kernel_rfl) (fun _ _ _ h=>h) (by rfl) ?_ hS ?_;rotate_left
 ·intro w' hSw;go_simp
  try with_reducible rfl
 simp only[Act.put,sA,sZ,sS];refine wpAnyK_one (i:=10) (by kernel_rfl) rfl (fun K hK=> ?_);go_simp;refine Ht.out.mono ?_;rintro r w2 ⟨rfl,hw⟩;obtain rfl:=hw.symm;refine hK.out _ _ (fun _=>hS) ?_;clear hK K Ht
 try simp only[Act.put,sA,sZ,sS]
 refine wpAnyK_one (i:=11) (by kernel_rfl) rfl (fun K hK=> ?_);go_simp;refine (Hn.out _).mono ?_;rintro r w2 ⟨rfl,hw⟩;obtain rfl:=hw.symm;refine hK.out _ _ (fun _=>hS) ?_;clear hK K Hn
 try simp only[Act.put,sA,sZ,sS]
 refine wpAnyK_one (i:=12) (by kernel_rfl) rfl (fun K hK=> ?_);go_simp;refine Hw.out.mono ?_;rintro r w2 ⟨rfl,hq,hm⟩;have HE:=hid (And.intro hq (show Mod (fun k=>k=db) w w2 from mod_later (bdH (Below.refl _ _) 1) hm));refine hK.out _ _ (fun _=>hm.cell hS (fun e=>Hdb.out e)) ?_;clear hK K Hw hq hm hS
 try simp only[Act.put,sA,sZ,sS]
 refine wpAnyK_one (i:=13) (by kernel_rfl) rfl (fun K hK=> ?_);go_simp;refine hK.out _ _ (fun h=>absurd h (by decide)) ?_;clear hK K;refine wpAnyK_done (by kernel_rfl) ?_ _;exact Hok.out _ _ ⟨rfl,rfl,rfl,rfl,rfl,rfl,rfl⟩ HE.out.1 HE.out.2
def SinI (p2 s2:St) (s:ByteArray) (out:List ByteArray) (t:Nat) (line:Int):Prop:=
 (s2=p2∧(p2=none→¬s∈out.take t))∨(p2=none∧s∈out∧s2=some (line,91))
theorem SinI.done {p2 s2:St} {s:ByteArray} {out:List ByteArray} {t:Nat} {line:Int} (h:SinI p2 s2 s out t line) (ht:s2=none→out.length≤t):s2=if p2=none∧s∈out then some (line,91) else p2:=by
 rcases h with ⟨h1,h2⟩|⟨h1,h2,h3⟩
 ·by_cases hp:p2=none
  ·have h4:=h2 hp;rw[List.take_of_length_le (ht (h1.trans hp))]at h4;rw[if_neg (fun q=>h4 q.2),h1]
  ·rw[if_neg (fun q=>hp q.1),h1]
 ·rw[if_pos ⟨h1,h2⟩,h3]
theorem strs_at {w:World} {v:Value} {n:Nat} {out:List ByteArray} (h:w.ownsRow 0 9 1 v n (out.flatMap strCell)) (hn:n=out.length) (hb:n≤1000) {t:Nat} {x:ByteArray} (hx:out[t]? =some x):∃g cp,v= .slice (some ⟨g,0,none⟩) n cp∧w.cell? ⟨g,0+t,none⟩=some (.string x):=by
 have hs:SlR w v 1 out strCell:=SlR.ofRow h hn (fun _=>rfl) (by omega) (by decide);have ht:=(List.getElem?_eq_some_iff.1 hx).1;rcases h.2 with ⟨_,h0⟩|⟨g,cap,cur,hv,_⟩
 ·omega
 ·obtain ⟨ao,cp,e,_,hat⟩:=hs;obtain ⟨b,o,ha,_,hc⟩:=hat (by omega);have h1:=hc t x hx 0 _ rfl;rw[hv]at e;injection e with e1 e2 e3
  rw[←e1]at ha;injection ha with ha
  injection ha with hb1 hb2
  subst hb1;subst hb2;rw[Nat.mul_one,Nat.add_zero]at h1;exact ⟨g,cap,hv,h1⟩
theorem rq_sin {w0 wb w:World} {Q:Exit→Act→World→Prop} {a:Act} {ms:List NdM} {p2:St} {db b o cap rb q lc j lb lo k:Nat} {pre:Value→Array Value} {v:Value} {out:List ByteArray} {mk:NdM} {s:ByteArray} (X:Code)
 (hf:RqI a db rb (some ⟨lb,lo,none⟩) q lc j s) (h:RQ w0 wb w db b o cap ms p2 rb 2 pre 9 1 v out.length (out.flatMap strCell)) (hp:∀v,(pre v)[2]? =some v) (hk:ms[k]? =some mk) (hj:j<q) (hq:q≤1000) (hlb:lb<w0.heap.size) (hc:w0.cell? ⟨lb,lo+j,none⟩=some (.int .i64 (k:Int))) (hol:out.length=j)
 (ok:∀a' w',RqI a' db rb (some ⟨lb,lo,none⟩) q lc j s→RQ w0 wb w' db b o cap ms (if p2=none∧s∈out then some (mk.nd.line,91) else p2) rb 2 pre 9 1 v out.length (out.flatMap strCell)→X.wp Tryz.prog Q a' w'):(Code.seq (Code.seq rqs8 (Code.block 3 rqsI)) X).wp Tryz.prog Q a w:=by
 refine wp_seq (wp_seq ?_);have HL:∀(Q':Exit→Act→World→Prop) (a0:Act),RqJ a0 db rb (some ⟨lb,lo,none⟩) q lc j s 0→(∀a' w',RqI a' db rb (some ⟨lb,lo,none⟩) q lc j s→RQ w0 wb w' db b o cap ms (if p2=none∧s∈out then some (mk.nd.line,91) else p2) rb 2 pre 9 1 v out.length (out.flatMap strCell)→Q' (.exit 3) a' w')→rqsI.wp Tryz.prog Q' a0 w:=by
  intro Q' a0 hf0 ok'
  show (Code.loop rqsJ).wp Tryz.prog Q' a0 w
  refine wp_loop (fun a' w'=>∃(t:Nat) (s2:St),t≤j∧RqJ a' db rb (some ⟨lb,lo,none⟩) q lc j s t∧RQ w0 wb w' db b o cap ms s2 rb 2 pre 9 1 v out.length (out.flatMap strCell)∧SinI p2 s2 s out t mk.nd.line) (fun a' _=>j-(intOf (a'.tmps.getD 7 undef)).toNat) ⟨0,p2,Nat.zero_le _,hf0,h,.inl ⟨rfl,fun _=>by simp⟩⟩ ?_;clear hf0;rintro a1 w1 ⟨t,s2,htj,hf1,h1,hs⟩;have d2:=cell_blk h1.dq.doc 2;simp at d2
  by_cases ht:t<j
  ·have tt:decide (t<j)=true:=dT ht;cases s2 with
   |some e=>
    have te:(e.2==0)=false:=beq_eq_false_iff_ne.2 (h1.dq.ok e rfl);have pe:¬e.2=0:=h1.dq.ok e rfl;have hfin:=hs.done (fun q=>by cases q);rw[←hfin]at ok';have HO:=hid (fun a' hf'=>ok' a' w1 hf' h1);simp only[stV]at d2;obtain ⟨vv,rfl⟩:=hf1.shape;clear hf1 h1 hs ok' hfin h ok hf;dsimp only[rqsJ,ncs,ncl,ncr,ncb,nco,nct,nce,ncx,Tryz.f62];go_wp2;exact HO.out _ ⟨rfl,rfl,rfl,rfl,rfl,rfl,rfl⟩
   |none=>
    obtain ⟨x,hx⟩:∃x,out[t]? =some x:=at_of_lt (by omega);obtain ⟨g,cp,hv,hcell⟩:=strs_at h1.row rfl (by omega) hx;rw[Nat.zero_add]at hcell;have bt:(t:Int)<(out.length:Int):=by omega
    have c2:w1.cell? ⟨rb,2,none⟩=some v:=(cell_blk h1.blk 2).trans (hp v);rw[hv]at c2;have hp2:p2=none∧¬s∈out.take t:=by
     rcases hs with ⟨e1,e2⟩|⟨_,_,e3⟩
     ·exact ⟨e1.symm,e2 e1.symm⟩
     ·cases e3
    obtain ⟨Hms,Hgo⟩:=step_two (k:=t) (n:=j) ht (by omega);by_cases e:x=s
    ·have tx:=same_yes e;have Hf:=hid (fail_r (h1.dq.drewN 1) mk.nd.line 91 (by decide));have H1:=hid h1;have HS:=hid (show SinI p2 (some (mk.nd.line,91)) s out (t+1) mk.nd.line from .inr ⟨hp2.1,by rw[←e];exact List.mem_of_getElem? hx,rfl⟩);have hfr:failR none mk.nd.line 91=some (mk.nd.line,91):=rfl;rw[hfr]at Hf;obtain ⟨n,hn⟩:∃n,n=ms.length:=⟨_,rfl⟩;have d0:=(h1.dq.heads hn).1;have bk:(k:Int)<(n:Int):=by have:=(List.getElem?_eq_some_iff.1 hk).1;omega
     have cl:=(h1.dq.below.cell (p:=⟨lb,lo+j,none⟩) hlb).trans hc;have c4:=(h1.dq.at hk).1.c4;have bj:(j:Int)<(q:Int):=by omega
     have Ht1:=hid (show t+1≤j from ht);simp only[stV]at d2;obtain ⟨vv,rfl⟩:=hf1.shape;clear hf1 h1 hs ok' h ok hf hx e hp2 hfr hn hk hj hq hlb hc ht htj hp hv;dsimp only[rqsJ,ncs,ncl,ncr,ncb,nco,nct,nce,ncx,Tryz.f62];go_wp2
     go_still_tail 12,(by kernel_rfl)
     change wpList _ _ _ _ _ w1.drew
     go_wp2_with fail
     refine Hf.out.mono ?_;rintro r w3 ⟨rfl,hq3,hm3⟩;have HE:=hid ((H1.out.later (bdH (Below.refl _ _) 1)).call hq3 hm3);clear hq3 hm3 Hf H1 d0 d2 cl c4 c2 hcell;go_wp2;exact ⟨⟨t+1,_,Ht1.out,⟨rfl,rfl,rfl,rfl,rfl,rfl,rfl,congrArg some Hgo.out⟩,HE.out,HS.out⟩,Hms.out⟩
    ·have tx:=same_no e;have H1:=hid h1;have HS:=hid (show SinI p2 none s out (t+1) mk.nd.line from .inl ⟨hp2.1.symm,fun _=>by
      rw[List.take_add_one,hx];intro q;rcases List.mem_append.1 q with q|q
      ·exact hp2.2 q
      ·simp at q;exact e q.symm⟩)
     have Ht1:=hid (show t+1≤j from ht);simp only[stV]at d2;obtain ⟨vv,rfl⟩:=hf1.shape;clear hf1 h1 hs ok' h ok hf hx e hp2 hk hj hq hlb hc ht htj hp hv;dsimp only[rqsJ,ncs,ncl,ncr,ncb,nco,nct,nce,ncx,Tryz.f62];go_wp2;exact ⟨⟨t+1,_,Ht1.out,⟨rfl,rfl,rfl,rfl,rfl,rfl,rfl,congrArg some Hgo.out⟩,H1.out,HS.out⟩,Hms.out⟩
  ·have tt:decide (t<j)=false:=dF ht;have hfin:=hs.done (fun _=>by omega);rw[←hfin]at ok';have HO:=hid (fun a' hf'=>ok' a' w1 hf' h1);generalize (stV s2).2=ev at*;obtain ⟨vv,rfl⟩:=hf1.shape;clear hf1 h1 hs ok' hfin h ok hf;dsimp only[rqsJ,ncs,ncl,ncr,ncb,nco,nct,nce,ncx,Tryz.f62];go_wp2;exact HO.out _ ⟨rfl,rfl,rfl,rfl,rfl,rfl,rfl⟩
 have HL2:=hid HL;have Hok:=hid ok;obtain ⟨vv,rfl⟩:=hf.shape;clear HL hf h ok hk hj hq hlb hc hol hp;dsimp only[rqs8,ncs,ncl,ncr,ncb,nco,nct,nce,ncx,Tryz.f62];go_wp2;refine HL2.out _ _ ⟨rfl,rfl,rfl,rfl,rfl,rfl,rfl,rfl⟩ (fun a' w' hf' h'=> ?_);exact Hok.out _ _ hf' h'
theorem rq_sapp {w0 wb w:World} {Q:Exit→Act→World→Prop} {a:Act} {ms:List NdM} {st:St} {db b o cap rb q lc j:Nat} {la:Option Addr} {pre:Value→Array Value} {v:Value} {n:Nat} {xs:List Value} {s:ByteArray}
 (hf:RqI a db rb la q lc j s) (h:RQ w0 wb w db b o cap ms st rb 2 pre 9 1 v n xs) (hp:∀v,(pre v)[2]? =some v) (hn:n≤1000)
 (ok:∀a' w' v',RqS a' db rb la q lc j→RQ w0 wb w' db b o cap ms st rb 2 pre 9 1 v' (n+1) (xs++strCell s)→Q .normal a' w'):rqs13.wp Tryz.prog Q a w:=by
 have c2:w.cell? ⟨rb,2,none⟩=some v:=(cell_blk h.blk 2).trans (hp v);have Hb:=hid (fun ob=>(Below.refl w.heap.size w).alloc (Nat.le_refl _) ob);have Hown:=hid (fun ob=>(h.later (Hb.out ob)).row);have Hl:=hid (show n≤1000000 by omega);have Hd1:=hid (show 0<1 by decide);have Hd2:=hid (show 16≤1000 by decide);have Hone:=hid (show ∀u∈strCell s,u.oneCell'=true from fun u hu=>by unfold strCell at hu;simp only[List.mem_singleton]at hu;rw[hu];rfl)
 have Harr:=hid (show (#[.string s]:Array Value).toList=strCell s from rfl);have HA:=hid (fun (ob:Obj) (v':Value) (w2:World) (a1:w2.ownsRow 0 9 1 v' (n+1) (xs++strCell s)) (a2:(w.alloc ob).grownBy w2 v.ownBlock) (a3:∀g,v'.ownBlock=some g→v.ownBlock=some g∨(w.alloc ob).heap.size≤g)=>show (w2.cell? ⟨rb,2,none⟩=some v∧w2.frozen? ⟨rb,2,none⟩=false)∧RQ w0 wb (w2.setCell ⟨rb,2,none⟩ v') db b o cap ms st rb 2 pre 9 1 v' (n+1) (xs++strCell s) from by
  have h2:=h.later (Hb.out ob);have hm:Mod (fun k=>v.ownBlock=some k) (w.alloc ob) w2:=(Mod.refl _ _).grown a2 (fun k e _=>e);have hb:=hm.heap h2.blk (fun q=>by have:=h2.new rb q;have:=h2.rlt;omega);exact ⟨⟨(cell_blk hb 2).trans (hp v),frozen_blk hb 2⟩,h2.put a1 a2 a3⟩)
 have Hok:=hid ok;obtain ⟨vv,rfl⟩:=hf.shape;clear hf h ok hp hn;dsimp only[rqs13,ncs,ncl,ncr,ncb,nco,nct,nce,ncx,Tryz.f62]
 go_wp2_with (at_builtin;refine rowAppend 9 45 (.string ⟨#[]⟩) 1 16 Tryz.underlying45 str_info rfl Hd1.out Hd2.out rfl _ _ rfl v n xs rfl (Hown.out _) w.heap.size _ _ rfl (alloc_new _) Harr.out rfl Hone.out Hl.out (n+1) rfl ?_;intro ao4 c4 w2 own2 gr2 new2;have hA:=HA.out _ _ _ own2 gr2 new2;have y0:=hA.1.1;have y1:=hA.1.2;have HE:=hid hA.2;clear own2 gr2 new2 hA)
 exact Hok.out _ _ _ ⟨rfl,rfl,rfl,rfl,rfl,rfl⟩ HE.out
noncomputable def rqsRound:Code:=ncb (ncl (ncr rqsO))
theorem endp_step {ns:List Nd} {k:Nat} {r:List Int} {out:List ByteArray} {st:St} {nd:Nd} (h:ns[k]! =nd):endpR ns ((k:Int)::r) out st=endpR ns r (out++[(wordR ns (some k) (isName nd.text) st).1]) (if (wordR ns (some k) (isName nd.text) st).2=none∧(wordR ns (some k) (isName nd.text) st).1∈out then some (nd.line,91) else (wordR ns (some k) (isName nd.text) st).2):=by
 rw[endpR];simp only[Int.toNat_natCast,h]
theorem rq_sloop {w0 wb w:World} {Q:Exit→Act→World→Prop} {a:Act} {ms:List NdM} {db b o cap rb q lc:Nat} {la:Option Addr} {pre:Value→Array Value} {st:St} {L:List Int}
 (hf:RqS a db rb la q lc 0) (hL:LsI w0 la q lc L) (hq:q≤1000) (hLk:∀x∈L,0≤x∧x<(ms.length:Int)) (h:RQ w0 wb w db b o cap ms st rb 2 pre 9 1 (.slice none 0 0) 0 []) (hp:∀v,(pre v)[2]? =some v)
 (ok:∀a' w' v',a'.defers=[]→RQ w0 wb w' db b o cap ms (endpR (nds ms) L [] st).2 rb 2 pre 9 1 v' (endpR (nds ms) L [] st).1.length ((endpR (nds ms) L [] st).1.flatMap strCell)→Q (.exit 1) a' w'):rqsL.wp Tryz.prog Q a w:=by
 show (Code.loop (Code.seq rqsT (Code.seq (Code.block 2 rqsRound) rqs6))).wp Tryz.prog Q a w
 refine wp_loop (fun a' w'=>∃(j:Nat) (v:Value) (out:List ByteArray) (s1:St),j≤q∧out.length=j∧RqS a' db rb la q lc j∧RQ w0 wb w' db b o cap ms s1 rb 2 pre 9 1 v out.length (out.flatMap strCell)∧endpR (nds ms) L [] st=endpR (nds ms) (L.drop j) out s1) (fun a' _=>q-(intOf (a'.tmps.getD 5 undef)).toNat) ⟨0,_,[],st,Nat.zero_le _,rfl,hf,h,by rw[List.drop_zero]⟩ ?_;clear hf h;rintro a1 w1 ⟨j,v,out,s1,hjq,hol,hf1,h1,hs⟩
 by_cases hj:j<q
 ·have tj:decide (j<q)=true:=dT hj;obtain ⟨x,lb,lo,hx,rfl,hlt,hc⟩:=hL.at hj;obtain ⟨hx0,hx1⟩:=hLk x (List.mem_of_getElem? hx);obtain ⟨k,rfl⟩:∃k:Nat,x=(k:Int):=⟨x.toNat,by omega⟩;obtain ⟨mk,hk⟩:∃mk,ms[k]? =some mk:=at_of_lt (by omega);rw[drop_at hx,endp_step (nds_at hk)]at hs;obtain ⟨Hms,Hgo⟩:=step_two (k:=j) (n:=q) hj (by omega);have HT:=hid (fun (Q':Exit→Act→World→Prop) (a':Act) (f':RqS a' db rb (some ⟨lb,lo,none⟩) q lc j)
   (ok':∀a2 w2 v2,RqS a2 db rb (some ⟨lb,lo,none⟩) q lc j→RQ w0 wb w2 db b o cap ms (if (wordR (nds ms) (some k) (isName mk.nd.text) s1).2=none∧(wordR (nds ms) (some k) (isName mk.nd.text) s1).1∈out then some (mk.nd.line,91) else (wordR (nds ms) (some k) (isName mk.nd.text) s1).2) rb 2 pre 9 1 v2 (out.length+1) (out.flatMap strCell++strCell (wordR (nds ms) (some k) (isName mk.nd.text) s1).1)→Q' .normal a2 w2)=>
   show rqsRound.wp Tryz.prog Q' a' w1 from by
    show (Code.seq rqs7 (Code.seq (Code.seq rqs8 (Code.block 3 rqsI)) rqs13)).wp Tryz.prog Q' a' w1
    refine wp_seq (rq_sword f' h1.dq hk hj hlt hc (fun a3 w3 f3 hd3 hm3=> ?_));refine rq_sin rqs13 f3 (h1.call hd3 hm3) hp hk hj hq hlt hc hol (fun a4 w4 f4 h4=> ?_);exact rq_sapp f4 h4 hp (by omega) (fun a5 w5 v5 f5 h5=>ok' a5 w5 v5 f5 h5))
  have Hs:=hid (And.intro hs (And.intro hol (show j+1≤q from hj)));obtain ⟨vv,rfl⟩:=hf1.shape;clear hf1 h1 hs ok hx hk hL hLk hp hj hjq hol hq hc hlt hx0 hx1;dsimp only[rqsT,ncs,ncl,ncr,ncb,nco,nct,nce,ncx,Tryz.f62];go_wp2
  rename_i Q1 K1 hK1
  refine HT.out _ _ ⟨rfl,rfl,rfl,rfl,rfl,rfl⟩ (fun a2 w2 v2 f2 r2=>hK1 _ _ ?_);have HE:=hid r2;obtain ⟨vv2,rfl⟩:=f2.shape;clear f2 r2 HT hK1;dsimp only[rqs6,ncs,ncl,ncr,ncb,nco,nct,nce,ncx,Tryz.f62];go_wp2;refine ⟨⟨j+1,v2,out++[(wordR (nds ms) (some k) (isName mk.nd.text) s1).1],_,Hs.out.2.2,by rw[List.length_append,Hs.out.2.1];rfl,⟨rfl,rfl,rfl,rfl,rfl,congrArg some Hgo.out⟩,?_,Hs.out.1⟩,Hms.out⟩
  have h9:=HE.out;rw[List.length_append,List.flatMap_append,List.flatMap_singleton];exact h9
 ·have hfin:endpR (nds ms) L [] st=(out,s1):=by
   rw[hs,List.drop_eq_nil_of_le (by have:=hL.len;omega)];rfl
  rw[hfin]at ok;have HO:=hid (fun a' hd=>ok a' w1 v hd h1);have tj:decide (j<q)=false:=dF hj;obtain ⟨vv,rfl⟩:=hf1.shape;clear hf1 h1 hs ok hfin hL hLk hp hj hjq hol hq;dsimp only[rqsT,ncs,ncl,ncr,ncb,nco,nct,nce,ncx,Tryz.f62];go_wp2;exact HO.out _ rfl
end Go.Proofs.YtfenoaeoedobmaaGreatDoor
