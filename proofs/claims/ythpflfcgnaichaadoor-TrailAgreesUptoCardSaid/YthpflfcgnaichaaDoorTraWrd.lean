/-
decide.Words, and trail.Agrees: functions of what the arguments hold.
-/
import Derived.Test.YthpflfcgnaichaaDoorTraDecD
import Derived.StillTailTactics
set_option linter.unusedVariables false
set_option linter.unusedSimpArgs false
namespace Go.Proofs.YthpflfcgnaichaaDoor
open Go Go.RowKit

noncomputable def unitV (a : Nat) : Nat := if h : a < 18446744073709551616 then Classical.choose (unit_c a h) else 0
theorem unitV_c {a : Nat} (h : a < 18446744073709551616) (w : World) : Calls Tryd.prog 37 #[.int .u64 (a : Int)] w fun r w' => r = .returned (.float .f64 (unitV a)) ∧ w' = w := by
  have := Classical.choose_spec (unit_c a h) w
  unfold unitV
  rw [dif_pos h]
  exact this

noncomputable def wordsV (hosts : List HostD) (hs : List HealD) (m hn p : ByteArray) (a b : Nat) : DecV := decideV hosts hs m hn p (unitV a) (wrap64 (bits .and .u64 (b : Int) 2147483647))

/-- Tables and healthy lists as they came in. -/
structure TabIn (w : World) (hv hl : Value) (hosts : List HostD) (hs : List HealD) : Prop where
  tab : SlR w hv 4 hosts HostD.cells
  each : ∀ x ∈ hosts, x.Ok w
  heal : SlR w hl 2 hs HealD.cells
  heach : ∀ y ∈ hs, y.ok w

theorem TabIn.later {w w2 : World} {hv hl : Value} {hosts : List HostD} {hs : List HealD} (h : TabIn w hv hl hosts hs) (hb : Below w.heap.size w w2) : TabIn w2 hv hl hosts hs :=
  ⟨h.tab.later hb, fun x hx => (h.each x hx).later hb, h.heal.later hb, fun y hy => SlR.later (h.heach y hy) hb⟩

set_option maxRecDepth 20000 in
set_option maxHeartbeats 4000000 in
theorem words_c (w : World) (ver hv sv hl : Value) (hosts : List HostD) (hs : List HealD) (m hn p : ByteArray) (a b : Nat) (h : TabIn w hv hl hosts hs) (ha : a < 18446744073709551616) (hb : b < 18446744073709551616) :
    Calls Tryd.prog 22 #[.agg #[ver, hv, sv], hl, .string m, .string hn, .string p, .int .u64 (a : Int), .int .u64 (b : Int)] w fun r w' => r = .returned (.agg (wordsV hosts hs m hn p a b).cells.toArray) ∧ Below w.heap.size w w' := by
  have Hu := Lib.hid (unitV_c ha)
  obtain ⟨w1, hw1⟩ : ∃ w1, w1 = (w.alloc (.cells #[ver, hv, sv] 61)).alloc (DecO 0 0 ⟨#[]⟩ 0 ⟨#[]⟩ ⟨#[]⟩) := ⟨_, rfl⟩
  have e1 : (w.alloc (.cells #[ver, hv, sv] 61)).heap.size = w.heap.size + 1 := by simp
  have hb1 : Below w.heap.size w w1 := by rw [hw1]; exact ((Below.refl _ w).alloc (Nat.le_refl _) _).alloc (by omega) _
  have z : w1.heap[w.heap.size]? = some (.cells #[ver, hv, sv] 61) := by
    rw [hw1, alloc_old _ (by omega)]
    exact alloc_new _
  have y : w1.heap[w.heap.size + 1]? = some (DecO 0 0 ⟨#[]⟩ 0 ⟨#[]⟩ ⟨#[]⟩) := by
    rw [hw1, ← e1]
    exact alloc_new _
  have z0 : w1.cell? ⟨w.heap.size, 0, none⟩ = some ver := cell_blk z 0
  have z1 : w1.cell? ⟨w.heap.size, 1, none⟩ = some hv := cell_blk z 1
  have z2 : w1.cell? ⟨w.heap.size, 2, none⟩ = some sv := cell_blk z 2
  have H := Lib.hid (h.later hb1)
  have Hy := Lib.hid y
  have hb2 := h.later (hb1.trans (Below.drew (Below.refl w.heap.size w1)))
  have Hd := Lib.hid (show Calls _ _ _ w1.drew fun r w' => r = .returned (.agg (wordsV hosts hs m hn p a b).cells.toArray) ∧ Below w1.heap.size w1 w' from (decide_c w1.drew ver hv sv hl hosts hs m hn p (unitV a) (wrap64 (bits .and .u64 (b : Int) 2147483647)) hb2.tab hb2.each hb2.heal hb2.heach (by unfold wrap64; omega)).mono fun r w' ⟨h1, h2⟩ => ⟨h1, (Below.drew (Below.refl w1.heap.size w1)).trans h2⟩)
  have Hb1 := Lib.hid hb1
  clear hb1 z y e1 h hb2
  go_enter Tryd.func22, Tryd.ntmps22
  go_wp2_with fail
  rw [← hw1]
  clear hw1
  go_still_tail 10, (by kernel_rfl)
  still_call (Hu.out _)
  repeat still_step
  refine wpStill_nil ?_
  change wpList _ _ _ _ _ w1.drew
  go_wp2_with fail
  refine Hd.out.mono ?_
  rintro r w2 ⟨rfl, hb⟩
  have HB := Lib.hid (Hb1.out.trans (hb.mono Hb1.out.size))
  have hy2 : w2.heap[w.heap.size + 1]? = some (DecO 0 0 ⟨#[]⟩ 0 ⟨#[]⟩ ⟨#[]⟩) := (hb.block _ (lt_of_heap Hy.out)).trans Hy.out
  clear hb Hd Hu H Hy Hb1 z0 z1 z2
  obtain ⟨dv, hdv⟩ : ∃ dv, dv = wordsV hosts hs m hn p a b := ⟨_, rfl⟩
  rw [← hdv]
  have Hdv := Lib.hid hdv
  clear hdv
  obtain ⟨k, st, rt, ru, svc, ep⟩ := dv
  rw [show (DecV.cells ⟨k, st, rt, ru, svc, ep⟩).toArray = #[.int .i64 k, .int .i64 st, .string rt, .int .i64 ru, .string svc, .string ep] from rfl]
  have HE := Lib.hid (show Below w.heap.size w (w2.setCells (w.heap.size + 1) 0 [.int .i64 k, .int .i64 st, .string rt, .int .i64 ru, .string svc, .string ep]) ∧ (w2.setCells (w.heap.size + 1) 0 [.int .i64 k, .int .i64 st, .string rt, .int .i64 ru, .string svc, .string ep]).heap[w.heap.size + 1]? = some (DecO k st rt ru svc ep) from
    ⟨HB.out.trans ((mod_setCells (F := fun q => q = w.heap.size + 1) (fun _ => rfl) _ 0 _ (Mod.refl _ w2)).below HB.out.size (fun q hq => by omega)), (setCells_blk _ 0 _ _ hy2).trans (congrArg (fun c => some (Obj.cells c 30 (0, 0))) (writeAt_all (old := [.int .i64 0, .int .i64 0, .string ⟨#[]⟩, .int .i64 0, .string ⟨#[]⟩, .string ⟨#[]⟩]) rfl))⟩)
  have y0 : w2.cell? ⟨w.heap.size + 1, 0, none⟩ = some (.int .i64 0) := cell_blk hy2 0
  have f0 := frozen_blk hy2 0
  have y1 : w2.cell? ⟨w.heap.size + 1, 1, none⟩ = some (.int .i64 0) := cell_blk hy2 1
  have f1 := frozen_blk hy2 1
  have y2 : w2.cell? ⟨w.heap.size + 1, 2, none⟩ = some (.string ⟨#[]⟩) := cell_blk hy2 2
  have f2 := frozen_blk hy2 2
  have y3 : w2.cell? ⟨w.heap.size + 1, 3, none⟩ = some (.int .i64 0) := cell_blk hy2 3
  have f3 := frozen_blk hy2 3
  have y4 : w2.cell? ⟨w.heap.size + 1, 4, none⟩ = some (.string ⟨#[]⟩) := cell_blk hy2 4
  have f4 := frozen_blk hy2 4
  have y5 : w2.cell? ⟨w.heap.size + 1, 5, none⟩ = some (.string ⟨#[]⟩) := cell_blk hy2 5
  have f5 := frozen_blk hy2 5
  clear hy2
  go_wp2_with fail
  refine bodyPost_ret (results_dec (d := ⟨k, st, rt, ru, svc, ep⟩) rfl rfl HE.out.2) rfl ?_
  exact ⟨by rw [Hdv.out], HE.out.1⟩

end Go.Proofs.YthpflfcgnaichaaDoor
