/-
The reference's Pass.
-/
import Derived.Test.YtibijonjjkknoaaNetRefW
set_option linter.unusedVariables false
set_option linter.unusedSimpArgs false
namespace Go.Proofs.Ytibijonjjkknoaa
open Go Go.RowKit

/-- What passing m bytes of side k makes of a connection. -/
def RC.passed (c : RC) (k m : Nat) : RC := { c with P := setf c.P k (c.P k + m), E := if c.C k = true ∧ c.P k + m = (c.W k).length then setf c.E k true else c.E }

section
variable {w0 w : World} {It : Nat → Item} {r rb : Nat} {R : RS}

/-- A connection's block is written over, its rows stay. -/
theorem RefI.turn {cv nv tv : Value} {bs : List Nat} {vs : Nat → Nat → Value} (hB : Bg w0 w It) (h : RefI It r rb R cv nv tv bs vs) {i b : Nat} {c : RC} (hb : bs[i]? = some b) (hc : R.cs[i]? = some c) (c' : RC) (hW : c'.W = c.W) {w2 : World} (hm : Mod (fun g => g = b) w w2) (hblk : w2.heap[b]? = some (c'.obj (vs i 0) (vs i 1))) :
    RPost w0 w It r rb { R with cs := R.cs.set i c' } w2 := by
  obtain ⟨q4, q5, q6⟩ := h.cn i b c hb hc
  exact RPost.put (hB.obj (ix r (4 + 3 * i)) q4 hm hblk) (h.setConn hb c' (vs i 0) (vs i 1) (upd_same _ _ _) (by rw [upd_ne _ _ (ix_ne (by omega)), hW]; exact q5) (by rw [upd_ne _ _ (ix_ne (by omega)), hW]; exact q6) (fun j h1 h2 h3 => upd_ne _ _ (ix_ne h1))) (by rw [q4]; exact hm)



set_option maxHeartbeats 2000000 in
theorem rpass_ok0A (hB : Bg w0 w It) (h : RefIs It r rb R) {i : Nat} {c : RC} (hc : R.cs[i]? = some c) (hcut : c.cut = false) (hok : c.Ok) (hcl : c.C 0 = false) (mm : Nat) (hmm : mm < (c.W 0).length - c.P 0) :
    Calls Try.prog 29 #[.pointer (some ⟨rb, 0, none⟩), .int .i64 (i : Int), .int .i64 0, .int .i64 (mm : Int)] w fun e w' => e = .returned (.tuple #[.int .i64 (mm : Nat), .int .i64 0]) ∧ RPost w0 w It r rb { R with cs := R.cs.set i (c.passed 0 mm) } w' := by
  obtain ⟨cv, nv, tv, bs, vs, h⟩ := h
  obtain ⟨b, g, cc, hb, q⟩ := h.look hB hc
  have Hw := Lib.hid (rwhy_ok hB ⟨cv, nv, tv, bs, vs, h⟩ (i : Int) 0)
  rw [show R.why (i : Int) 0 = 0 from rwhy_at (kk := 0) (by decide) hc hcut] at Hw
  have y0 := q.h0
  have y1 := q.hi
  have b1 : (i : Int) < (bs.length : Int) := by have := q.lt; omega
  have y2 : w.cell? ⟨b, 9, none⟩ = some (.bool false) := by rw [cell_blk q.blk, ← hcl]; rfl
  obtain ⟨ao2, cp2, hv⟩ := row_slice q.r0
  have y3 : w.cell? ⟨b, 3, none⟩ = some (.slice ao2 (c.W 0).length cp2) := by rw [cell_blk q.blk, ← hv]; rfl
  have y4 : w.cell? ⟨b, 5, none⟩ = some (.int .i64 (c.P 0 : Int)) := by rw [cell_blk q.blk]; rfl
  have f2 := frozen_blk q.blk 5
  have hp1 := hok.p 0
  have hp2 := hok.w 0
  have hz0 : wrap64 (((c.W 0).length : Int) - (c.P 0 : Int)) = ((c.W 0).length : Int) - (c.P 0 : Int) := rsub_wrap hp2 hp1
  have hz : (IntKind.i64.wrap ((c.P 0 : Int) + (mm : Int))) = ((c.P 0 + mm : Nat) : Int) := by
    first | (rw [IntKind.wrap_i64]; omega) | (rw [IntKind.wrap_i64]; unfold wrap64; omega) | (unfold wrap64; omega)
  have b2 : (mm : Int) < wrap64 (((c.W 0).length : Int) - (c.P 0 : Int)) := by rw [hz0]; omega
  have b3 : ¬ ((mm : Int) < 0) := by omega
  have Hr := Lib.hid (show wrap64 (((c.W 0).length : Int) - (c.P 0 : Int)) = (((c.W 0).length - c.P 0 : Nat) : Int) by rw [hz0]; omega)
  have hset := set_blk q.blk 5 (.int .i64 (IntKind.i64.wrap ((c.P 0 : Int) + (mm : Int))))
  have Hfin := Lib.hid (RefI.turn hB h hb hc (c.passed 0 mm) rfl (w2 := (w.setCell ⟨b, 5, none⟩ (.int .i64 (IntKind.i64.wrap ((c.P 0 : Int) + (mm : Int)))))) (((Mod.refl (fun g => g = b) w).setCell ⟨b, 5, none⟩ (.int .i64 (IntKind.i64.wrap ((c.P 0 : Int) + (mm : Int)))) (fun _ => rfl))) (by
    unfold RC.passed
    rw [if_neg (fun q => by rw [hcl] at q; cases q.1)]
    first | (rw [hset, hz]; rfl) | (rw [set_blk hset, hz]; rfl)))
  clear h hB hc hb q hv hok hmm hset hz hz0 hp1 hp2 hcl
  go_enter Try.func29, Try.ntmps29
  go_wp2_with fail
  refine Hw.out.mono ?_
  rintro e w1 ⟨rfl, hw⟩
  obtain rfl := hw.symm
  clear hw Hw
  go_wp2
  go_quiet (fail)
  go_wp2
  go_region_law (fail)
  all_goals go_wp2
  all_goals go_quiet (fail)
  all_goals go_wp2
  all_goals go_ret2
  all_goals exact ⟨rfl, Hfin.out.later ⟨rfl, rfl, rfl, Nat.le_refl _, fun _ _ => rfl⟩⟩


set_option maxHeartbeats 2000000 in
theorem rpass_ok0B (hB : Bg w0 w It) (h : RefIs It r rb R) {i : Nat} {c : RC} (hc : R.cs[i]? = some c) (hcut : c.cut = false) (hok : c.Ok) (hcl : c.C 0 = true) (mm : Nat) (hmm : mm < (c.W 0).length - c.P 0) :
    Calls Try.prog 29 #[.pointer (some ⟨rb, 0, none⟩), .int .i64 (i : Int), .int .i64 0, .int .i64 (mm : Int)] w fun e w' => e = .returned (.tuple #[.int .i64 (mm : Nat), .int .i64 0]) ∧ RPost w0 w It r rb { R with cs := R.cs.set i (c.passed 0 mm) } w' := by
  obtain ⟨cv, nv, tv, bs, vs, h⟩ := h
  obtain ⟨b, g, cc, hb, q⟩ := h.look hB hc
  have Hw := Lib.hid (rwhy_ok hB ⟨cv, nv, tv, bs, vs, h⟩ (i : Int) 0)
  rw [show R.why (i : Int) 0 = 0 from rwhy_at (kk := 0) (by decide) hc hcut] at Hw
  have y0 := q.h0
  have y1 := q.hi
  have b1 : (i : Int) < (bs.length : Int) := by have := q.lt; omega
  have y2 : w.cell? ⟨b, 9, none⟩ = some (.bool true) := by rw [cell_blk q.blk, ← hcl]; rfl
  obtain ⟨ao2, cp2, hv⟩ := row_slice q.r0
  have y3 : w.cell? ⟨b, 3, none⟩ = some (.slice ao2 (c.W 0).length cp2) := by rw [cell_blk q.blk, ← hv]; rfl
  have y4 : w.cell? ⟨b, 5, none⟩ = some (.int .i64 (c.P 0 : Int)) := by rw [cell_blk q.blk]; rfl
  have f2 := frozen_blk q.blk 5
  have hp1 := hok.p 0
  have hp2 := hok.w 0
  have hz0 : wrap64 (((c.W 0).length : Int) - (c.P 0 : Int)) = ((c.W 0).length : Int) - (c.P 0 : Int) := rsub_wrap hp2 hp1
  have hz : (IntKind.i64.wrap ((c.P 0 : Int) + (mm : Int))) = ((c.P 0 + mm : Nat) : Int) := by
    first | (rw [IntKind.wrap_i64]; omega) | (rw [IntKind.wrap_i64]; unfold wrap64; omega) | (unfold wrap64; omega)
  have b2 : (mm : Int) < wrap64 (((c.W 0).length : Int) - (c.P 0 : Int)) := by rw [hz0]; omega
  have b3 : ¬ ((mm : Int) < 0) := by omega
  have b4 : ((wrap64 ((c.P 0 : Int) + (mm : Int))) == ((c.W 0).length : Int)) = false := by
    rw [show (wrap64 ((c.P 0 : Int) + (mm : Int))) = ((c.P 0 + mm : Nat) : Int) by unfold wrap64; omega]
    rw [beq_eq_false_iff_ne]; omega
  have Hr := Lib.hid (show wrap64 (((c.W 0).length : Int) - (c.P 0 : Int)) = (((c.W 0).length - c.P 0 : Nat) : Int) by rw [hz0]; omega)
  have hset := set_blk q.blk 5 (.int .i64 (IntKind.i64.wrap ((c.P 0 : Int) + (mm : Int))))
  have Hfin := Lib.hid (RefI.turn hB h hb hc (c.passed 0 mm) rfl (w2 := (w.setCell ⟨b, 5, none⟩ (.int .i64 (IntKind.i64.wrap ((c.P 0 : Int) + (mm : Int)))))) (((Mod.refl (fun g => g = b) w).setCell ⟨b, 5, none⟩ (.int .i64 (IntKind.i64.wrap ((c.P 0 : Int) + (mm : Int)))) (fun _ => rfl))) (by
    unfold RC.passed
    rw [if_neg (fun q => by have := q.2; omega)]
    first | (rw [hset, hz]; rfl) | (rw [set_blk hset, hz]; rfl)))
  clear h hB hc hb q hv hok hmm hset hz hz0 hp1 hp2 hcl
  go_enter Try.func29, Try.ntmps29
  go_wp2_with fail
  refine Hw.out.mono ?_
  rintro e w1 ⟨rfl, hw⟩
  obtain rfl := hw.symm
  clear hw Hw
  go_wp2
  go_quiet (fail)
  go_wp2
  go_region_law (fail)
  all_goals go_wp2
  all_goals go_quiet (fail)
  all_goals go_wp2
  all_goals go_ret2
  all_goals exact ⟨rfl, Hfin.out.later ⟨rfl, rfl, rfl, Nat.le_refl _, fun _ _ => rfl⟩⟩


set_option maxHeartbeats 2000000 in
theorem rpass_ok0C (hB : Bg w0 w It) (h : RefIs It r rb R) {i : Nat} {c : RC} (hc : R.cs[i]? = some c) (hcut : c.cut = false) (hok : c.Ok) (hcl : c.C 0 = false) (mm : Nat) (hmm : (c.W 0).length - c.P 0 ≤ mm) :
    Calls Try.prog 29 #[.pointer (some ⟨rb, 0, none⟩), .int .i64 (i : Int), .int .i64 0, .int .i64 (mm : Int)] w fun e w' => e = .returned (.tuple #[.int .i64 (((c.W 0).length - c.P 0) : Nat), .int .i64 0]) ∧ RPost w0 w It r rb { R with cs := R.cs.set i (c.passed 0 ((c.W 0).length - c.P 0)) } w' := by
  obtain ⟨cv, nv, tv, bs, vs, h⟩ := h
  obtain ⟨b, g, cc, hb, q⟩ := h.look hB hc
  have Hw := Lib.hid (rwhy_ok hB ⟨cv, nv, tv, bs, vs, h⟩ (i : Int) 0)
  rw [show R.why (i : Int) 0 = 0 from rwhy_at (kk := 0) (by decide) hc hcut] at Hw
  have y0 := q.h0
  have y1 := q.hi
  have b1 : (i : Int) < (bs.length : Int) := by have := q.lt; omega
  have y2 : w.cell? ⟨b, 9, none⟩ = some (.bool false) := by rw [cell_blk q.blk, ← hcl]; rfl
  obtain ⟨ao2, cp2, hv⟩ := row_slice q.r0
  have y3 : w.cell? ⟨b, 3, none⟩ = some (.slice ao2 (c.W 0).length cp2) := by rw [cell_blk q.blk, ← hv]; rfl
  have y4 : w.cell? ⟨b, 5, none⟩ = some (.int .i64 (c.P 0 : Int)) := by rw [cell_blk q.blk]; rfl
  have f2 := frozen_blk q.blk 5
  have hp1 := hok.p 0
  have hp2 := hok.w 0
  have hz0 : wrap64 (((c.W 0).length : Int) - (c.P 0 : Int)) = ((c.W 0).length : Int) - (c.P 0 : Int) := rsub_wrap hp2 hp1
  have hz : (IntKind.i64.wrap ((c.P 0 : Int) + wrap64 (((c.W 0).length : Int) - (c.P 0 : Int)))) = ((c.P 0 + ((c.W 0).length - c.P 0) : Nat) : Int) := by
    first | (rw [IntKind.wrap_i64]; omega) | (rw [IntKind.wrap_i64]; unfold wrap64; omega) | (unfold wrap64; omega)
  have b2 : wrap64 (((c.W 0).length : Int) - (c.P 0 : Int)) ≤ (mm : Int) := by rw [hz0]; omega
  have b3 : ¬ ((mm : Int) < 0) := by omega
  have Hr := Lib.hid (show wrap64 (((c.W 0).length : Int) - (c.P 0 : Int)) = (((c.W 0).length - c.P 0 : Nat) : Int) by rw [hz0]; omega)
  have hset := set_blk q.blk 5 (.int .i64 (IntKind.i64.wrap ((c.P 0 : Int) + wrap64 (((c.W 0).length : Int) - (c.P 0 : Int)))))
  have Hfin := Lib.hid (RefI.turn hB h hb hc (c.passed 0 ((c.W 0).length - c.P 0)) rfl (w2 := (w.setCell ⟨b, 5, none⟩ (.int .i64 (IntKind.i64.wrap ((c.P 0 : Int) + wrap64 (((c.W 0).length : Int) - (c.P 0 : Int))))))) (((Mod.refl (fun g => g = b) w).setCell ⟨b, 5, none⟩ (.int .i64 (IntKind.i64.wrap ((c.P 0 : Int) + wrap64 (((c.W 0).length : Int) - (c.P 0 : Int))))) (fun _ => rfl))) (by
    unfold RC.passed
    rw [if_neg (fun q => by rw [hcl] at q; cases q.1)]
    first | (rw [hset, hz]; rfl) | (rw [set_blk hset, hz]; rfl)))
  clear h hB hc hb q hv hok hmm hset hz hz0 hp1 hp2 hcl
  go_enter Try.func29, Try.ntmps29
  go_wp2_with fail
  refine Hw.out.mono ?_
  rintro e w1 ⟨rfl, hw⟩
  obtain rfl := hw.symm
  clear hw Hw
  go_wp2
  go_quiet (fail)
  go_wp2
  go_region_law (fail)
  all_goals go_wp2
  all_goals go_quiet (fail)
  all_goals go_wp2
  all_goals go_ret2
  all_goals exact ⟨congrArg (fun z => Ending.returned (.tuple #[.int .i64 z, .int .i64 0])) Hr.out, Hfin.out.later ⟨rfl, rfl, rfl, Nat.le_refl _, fun _ _ => rfl⟩⟩


set_option maxHeartbeats 2000000 in
theorem rpass_ok0D (hB : Bg w0 w It) (h : RefIs It r rb R) {i : Nat} {c : RC} (hc : R.cs[i]? = some c) (hcut : c.cut = false) (hok : c.Ok) (hcl : c.C 0 = true) (mm : Nat) (hmm : (c.W 0).length - c.P 0 ≤ mm) :
    Calls Try.prog 29 #[.pointer (some ⟨rb, 0, none⟩), .int .i64 (i : Int), .int .i64 0, .int .i64 (mm : Int)] w fun e w' => e = .returned (.tuple #[.int .i64 (((c.W 0).length - c.P 0) : Nat), .int .i64 0]) ∧ RPost w0 w It r rb { R with cs := R.cs.set i (c.passed 0 ((c.W 0).length - c.P 0)) } w' := by
  obtain ⟨cv, nv, tv, bs, vs, h⟩ := h
  obtain ⟨b, g, cc, hb, q⟩ := h.look hB hc
  have Hw := Lib.hid (rwhy_ok hB ⟨cv, nv, tv, bs, vs, h⟩ (i : Int) 0)
  rw [show R.why (i : Int) 0 = 0 from rwhy_at (kk := 0) (by decide) hc hcut] at Hw
  have y0 := q.h0
  have y1 := q.hi
  have b1 : (i : Int) < (bs.length : Int) := by have := q.lt; omega
  have y2 : w.cell? ⟨b, 9, none⟩ = some (.bool true) := by rw [cell_blk q.blk, ← hcl]; rfl
  obtain ⟨ao2, cp2, hv⟩ := row_slice q.r0
  have y3 : w.cell? ⟨b, 3, none⟩ = some (.slice ao2 (c.W 0).length cp2) := by rw [cell_blk q.blk, ← hv]; rfl
  have y4 : w.cell? ⟨b, 5, none⟩ = some (.int .i64 (c.P 0 : Int)) := by rw [cell_blk q.blk]; rfl
  have f2 := frozen_blk q.blk 5
  have f3 := frozen_blk q.blk 11
  have y6 : w.cell? ⟨b, 11, none⟩ = some (.bool (c.E 0)) := by rw [cell_blk q.blk]; rfl
  have hp1 := hok.p 0
  have hp2 := hok.w 0
  have hz0 : wrap64 (((c.W 0).length : Int) - (c.P 0 : Int)) = ((c.W 0).length : Int) - (c.P 0 : Int) := rsub_wrap hp2 hp1
  have hz : (wrap64 ((c.P 0 : Int) + wrap64 (((c.W 0).length : Int) - (c.P 0 : Int)))) = ((c.P 0 + ((c.W 0).length - c.P 0) : Nat) : Int) := by
    first | (rw [IntKind.wrap_i64]; omega) | (rw [IntKind.wrap_i64]; unfold wrap64; omega) | (unfold wrap64; omega)
  have b2 : wrap64 (((c.W 0).length : Int) - (c.P 0 : Int)) ≤ (mm : Int) := by rw [hz0]; omega
  have b3 : ¬ ((mm : Int) < 0) := by omega
  have b4 : ((wrap64 ((c.P 0 : Int) + wrap64 (((c.W 0).length : Int) - (c.P 0 : Int)))) == ((c.W 0).length : Int)) = true := by
    rw [show (wrap64 ((c.P 0 : Int) + wrap64 (((c.W 0).length : Int) - (c.P 0 : Int)))) = ((c.P 0 + ((c.W 0).length - c.P 0) : Nat) : Int) by unfold wrap64; omega]
    rw [beq_iff_eq]; omega
  have Hr := Lib.hid (show wrap64 (((c.W 0).length : Int) - (c.P 0 : Int)) = (((c.W 0).length - c.P 0 : Nat) : Int) by rw [hz0]; omega)
  have hset := set_blk q.blk 5 (.int .i64 (wrap64 ((c.P 0 : Int) + wrap64 (((c.W 0).length : Int) - (c.P 0 : Int)))))
  have Hfin := Lib.hid (RefI.turn hB h hb hc (c.passed 0 ((c.W 0).length - c.P 0)) rfl (w2 := (w.setCell ⟨b, 5, none⟩ (.int .i64 (wrap64 ((c.P 0 : Int) + wrap64 (((c.W 0).length : Int) - (c.P 0 : Int)))))).setCell ⟨b, 11, none⟩ (.bool true)) (((Mod.refl (fun g => g = b) w).setCell ⟨b, 5, none⟩ (.int .i64 (wrap64 ((c.P 0 : Int) + wrap64 (((c.W 0).length : Int) - (c.P 0 : Int))))) (fun _ => rfl)).setCell ⟨b, 11, none⟩ (.bool true) (fun _ => rfl)) (by
    unfold RC.passed
    rw [if_pos ⟨hcl, by omega⟩]
    first | (rw [hset, hz]; rfl) | (rw [set_blk hset, hz]; rfl)))
  clear h hB hc hb q hv hok hmm hset hz hz0 hp1 hp2 hcl
  go_enter Try.func29, Try.ntmps29
  go_wp2_with fail
  refine Hw.out.mono ?_
  rintro e w1 ⟨rfl, hw⟩
  obtain rfl := hw.symm
  clear hw Hw
  go_wp2
  go_quiet (fail)
  go_wp2
  go_region_law (fail)
  all_goals go_wp2
  all_goals go_quiet (fail)
  all_goals go_wp2
  all_goals go_ret2
  all_goals exact ⟨congrArg (fun z => Ending.returned (.tuple #[.int .i64 z, .int .i64 0])) Hr.out, Hfin.out.later ⟨rfl, rfl, rfl, Nat.le_refl _, fun _ _ => rfl⟩⟩


set_option maxHeartbeats 2000000 in
theorem rpass_ok1A (hB : Bg w0 w It) (h : RefIs It r rb R) {i : Nat} {c : RC} (hc : R.cs[i]? = some c) (hcut : c.cut = false) (hok : c.Ok) (hcl : c.C 1 = false) (mm : Nat) (hmm : mm < (c.W 1).length - c.P 1) :
    Calls Try.prog 29 #[.pointer (some ⟨rb, 0, none⟩), .int .i64 (i : Int), .int .i64 1, .int .i64 (mm : Int)] w fun e w' => e = .returned (.tuple #[.int .i64 (mm : Nat), .int .i64 0]) ∧ RPost w0 w It r rb { R with cs := R.cs.set i (c.passed 1 mm) } w' := by
  obtain ⟨cv, nv, tv, bs, vs, h⟩ := h
  obtain ⟨b, g, cc, hb, q⟩ := h.look hB hc
  have Hw := Lib.hid (rwhy_ok hB ⟨cv, nv, tv, bs, vs, h⟩ (i : Int) 1)
  rw [show R.why (i : Int) 1 = 0 from rwhy_at (kk := 1) (by decide) hc hcut] at Hw
  have y0 := q.h0
  have y1 := q.hi
  have b1 : (i : Int) < (bs.length : Int) := by have := q.lt; omega
  have y2 : w.cell? ⟨b, 10, none⟩ = some (.bool false) := by rw [cell_blk q.blk, ← hcl]; rfl
  obtain ⟨ao2, cp2, hv⟩ := row_slice q.r1
  have y3 : w.cell? ⟨b, 4, none⟩ = some (.slice ao2 (c.W 1).length cp2) := by rw [cell_blk q.blk, ← hv]; rfl
  have y4 : w.cell? ⟨b, 6, none⟩ = some (.int .i64 (c.P 1 : Int)) := by rw [cell_blk q.blk]; rfl
  have f2 := frozen_blk q.blk 6
  have hp1 := hok.p 1
  have hp2 := hok.w 1
  have hz0 : wrap64 (((c.W 1).length : Int) - (c.P 1 : Int)) = ((c.W 1).length : Int) - (c.P 1 : Int) := rsub_wrap hp2 hp1
  have hz : (IntKind.i64.wrap ((c.P 1 : Int) + (mm : Int))) = ((c.P 1 + mm : Nat) : Int) := by
    first | (rw [IntKind.wrap_i64]; omega) | (rw [IntKind.wrap_i64]; unfold wrap64; omega) | (unfold wrap64; omega)
  have b2 : (mm : Int) < wrap64 (((c.W 1).length : Int) - (c.P 1 : Int)) := by rw [hz0]; omega
  have b3 : ¬ ((mm : Int) < 0) := by omega
  have Hr := Lib.hid (show wrap64 (((c.W 1).length : Int) - (c.P 1 : Int)) = (((c.W 1).length - c.P 1 : Nat) : Int) by rw [hz0]; omega)
  have hset := set_blk q.blk 6 (.int .i64 (IntKind.i64.wrap ((c.P 1 : Int) + (mm : Int))))
  have Hfin := Lib.hid (RefI.turn hB h hb hc (c.passed 1 mm) rfl (w2 := (w.setCell ⟨b, 6, none⟩ (.int .i64 (IntKind.i64.wrap ((c.P 1 : Int) + (mm : Int)))))) (((Mod.refl (fun g => g = b) w).setCell ⟨b, 6, none⟩ (.int .i64 (IntKind.i64.wrap ((c.P 1 : Int) + (mm : Int)))) (fun _ => rfl))) (by
    unfold RC.passed
    rw [if_neg (fun q => by rw [hcl] at q; cases q.1)]
    first | (rw [hset, hz]; rfl) | (rw [set_blk hset, hz]; rfl)))
  clear h hB hc hb q hv hok hmm hset hz hz0 hp1 hp2 hcl
  go_enter Try.func29, Try.ntmps29
  go_wp2_with fail
  refine Hw.out.mono ?_
  rintro e w1 ⟨rfl, hw⟩
  obtain rfl := hw.symm
  clear hw Hw
  go_wp2
  go_quiet (fail)
  go_wp2
  go_region_law (fail)
  all_goals go_wp2
  all_goals go_quiet (fail)
  all_goals go_wp2
  all_goals go_ret2
  all_goals exact ⟨rfl, Hfin.out.later ⟨rfl, rfl, rfl, Nat.le_refl _, fun _ _ => rfl⟩⟩


set_option maxHeartbeats 2000000 in
theorem rpass_ok1B (hB : Bg w0 w It) (h : RefIs It r rb R) {i : Nat} {c : RC} (hc : R.cs[i]? = some c) (hcut : c.cut = false) (hok : c.Ok) (hcl : c.C 1 = true) (mm : Nat) (hmm : mm < (c.W 1).length - c.P 1) :
    Calls Try.prog 29 #[.pointer (some ⟨rb, 0, none⟩), .int .i64 (i : Int), .int .i64 1, .int .i64 (mm : Int)] w fun e w' => e = .returned (.tuple #[.int .i64 (mm : Nat), .int .i64 0]) ∧ RPost w0 w It r rb { R with cs := R.cs.set i (c.passed 1 mm) } w' := by
  obtain ⟨cv, nv, tv, bs, vs, h⟩ := h
  obtain ⟨b, g, cc, hb, q⟩ := h.look hB hc
  have Hw := Lib.hid (rwhy_ok hB ⟨cv, nv, tv, bs, vs, h⟩ (i : Int) 1)
  rw [show R.why (i : Int) 1 = 0 from rwhy_at (kk := 1) (by decide) hc hcut] at Hw
  have y0 := q.h0
  have y1 := q.hi
  have b1 : (i : Int) < (bs.length : Int) := by have := q.lt; omega
  have y2 : w.cell? ⟨b, 10, none⟩ = some (.bool true) := by rw [cell_blk q.blk, ← hcl]; rfl
  obtain ⟨ao2, cp2, hv⟩ := row_slice q.r1
  have y3 : w.cell? ⟨b, 4, none⟩ = some (.slice ao2 (c.W 1).length cp2) := by rw [cell_blk q.blk, ← hv]; rfl
  have y4 : w.cell? ⟨b, 6, none⟩ = some (.int .i64 (c.P 1 : Int)) := by rw [cell_blk q.blk]; rfl
  have f2 := frozen_blk q.blk 6
  have hp1 := hok.p 1
  have hp2 := hok.w 1
  have hz0 : wrap64 (((c.W 1).length : Int) - (c.P 1 : Int)) = ((c.W 1).length : Int) - (c.P 1 : Int) := rsub_wrap hp2 hp1
  have hz : (IntKind.i64.wrap ((c.P 1 : Int) + (mm : Int))) = ((c.P 1 + mm : Nat) : Int) := by
    first | (rw [IntKind.wrap_i64]; omega) | (rw [IntKind.wrap_i64]; unfold wrap64; omega) | (unfold wrap64; omega)
  have b2 : (mm : Int) < wrap64 (((c.W 1).length : Int) - (c.P 1 : Int)) := by rw [hz0]; omega
  have b3 : ¬ ((mm : Int) < 0) := by omega
  have b4 : ((wrap64 ((c.P 1 : Int) + (mm : Int))) == ((c.W 1).length : Int)) = false := by
    rw [show (wrap64 ((c.P 1 : Int) + (mm : Int))) = ((c.P 1 + mm : Nat) : Int) by unfold wrap64; omega]
    rw [beq_eq_false_iff_ne]; omega
  have Hr := Lib.hid (show wrap64 (((c.W 1).length : Int) - (c.P 1 : Int)) = (((c.W 1).length - c.P 1 : Nat) : Int) by rw [hz0]; omega)
  have hset := set_blk q.blk 6 (.int .i64 (IntKind.i64.wrap ((c.P 1 : Int) + (mm : Int))))
  have Hfin := Lib.hid (RefI.turn hB h hb hc (c.passed 1 mm) rfl (w2 := (w.setCell ⟨b, 6, none⟩ (.int .i64 (IntKind.i64.wrap ((c.P 1 : Int) + (mm : Int)))))) (((Mod.refl (fun g => g = b) w).setCell ⟨b, 6, none⟩ (.int .i64 (IntKind.i64.wrap ((c.P 1 : Int) + (mm : Int)))) (fun _ => rfl))) (by
    unfold RC.passed
    rw [if_neg (fun q => by have := q.2; omega)]
    first | (rw [hset, hz]; rfl) | (rw [set_blk hset, hz]; rfl)))
  clear h hB hc hb q hv hok hmm hset hz hz0 hp1 hp2 hcl
  go_enter Try.func29, Try.ntmps29
  go_wp2_with fail
  refine Hw.out.mono ?_
  rintro e w1 ⟨rfl, hw⟩
  obtain rfl := hw.symm
  clear hw Hw
  go_wp2
  go_quiet (fail)
  go_wp2
  go_region_law (fail)
  all_goals go_wp2
  all_goals go_quiet (fail)
  all_goals go_wp2
  all_goals go_ret2
  all_goals exact ⟨rfl, Hfin.out.later ⟨rfl, rfl, rfl, Nat.le_refl _, fun _ _ => rfl⟩⟩


set_option maxHeartbeats 2000000 in
theorem rpass_ok1C (hB : Bg w0 w It) (h : RefIs It r rb R) {i : Nat} {c : RC} (hc : R.cs[i]? = some c) (hcut : c.cut = false) (hok : c.Ok) (hcl : c.C 1 = false) (mm : Nat) (hmm : (c.W 1).length - c.P 1 ≤ mm) :
    Calls Try.prog 29 #[.pointer (some ⟨rb, 0, none⟩), .int .i64 (i : Int), .int .i64 1, .int .i64 (mm : Int)] w fun e w' => e = .returned (.tuple #[.int .i64 (((c.W 1).length - c.P 1) : Nat), .int .i64 0]) ∧ RPost w0 w It r rb { R with cs := R.cs.set i (c.passed 1 ((c.W 1).length - c.P 1)) } w' := by
  obtain ⟨cv, nv, tv, bs, vs, h⟩ := h
  obtain ⟨b, g, cc, hb, q⟩ := h.look hB hc
  have Hw := Lib.hid (rwhy_ok hB ⟨cv, nv, tv, bs, vs, h⟩ (i : Int) 1)
  rw [show R.why (i : Int) 1 = 0 from rwhy_at (kk := 1) (by decide) hc hcut] at Hw
  have y0 := q.h0
  have y1 := q.hi
  have b1 : (i : Int) < (bs.length : Int) := by have := q.lt; omega
  have y2 : w.cell? ⟨b, 10, none⟩ = some (.bool false) := by rw [cell_blk q.blk, ← hcl]; rfl
  obtain ⟨ao2, cp2, hv⟩ := row_slice q.r1
  have y3 : w.cell? ⟨b, 4, none⟩ = some (.slice ao2 (c.W 1).length cp2) := by rw [cell_blk q.blk, ← hv]; rfl
  have y4 : w.cell? ⟨b, 6, none⟩ = some (.int .i64 (c.P 1 : Int)) := by rw [cell_blk q.blk]; rfl
  have f2 := frozen_blk q.blk 6
  have hp1 := hok.p 1
  have hp2 := hok.w 1
  have hz0 : wrap64 (((c.W 1).length : Int) - (c.P 1 : Int)) = ((c.W 1).length : Int) - (c.P 1 : Int) := rsub_wrap hp2 hp1
  have hz : (IntKind.i64.wrap ((c.P 1 : Int) + wrap64 (((c.W 1).length : Int) - (c.P 1 : Int)))) = ((c.P 1 + ((c.W 1).length - c.P 1) : Nat) : Int) := by
    first | (rw [IntKind.wrap_i64]; omega) | (rw [IntKind.wrap_i64]; unfold wrap64; omega) | (unfold wrap64; omega)
  have b2 : wrap64 (((c.W 1).length : Int) - (c.P 1 : Int)) ≤ (mm : Int) := by rw [hz0]; omega
  have b3 : ¬ ((mm : Int) < 0) := by omega
  have Hr := Lib.hid (show wrap64 (((c.W 1).length : Int) - (c.P 1 : Int)) = (((c.W 1).length - c.P 1 : Nat) : Int) by rw [hz0]; omega)
  have hset := set_blk q.blk 6 (.int .i64 (IntKind.i64.wrap ((c.P 1 : Int) + wrap64 (((c.W 1).length : Int) - (c.P 1 : Int)))))
  have Hfin := Lib.hid (RefI.turn hB h hb hc (c.passed 1 ((c.W 1).length - c.P 1)) rfl (w2 := (w.setCell ⟨b, 6, none⟩ (.int .i64 (IntKind.i64.wrap ((c.P 1 : Int) + wrap64 (((c.W 1).length : Int) - (c.P 1 : Int))))))) (((Mod.refl (fun g => g = b) w).setCell ⟨b, 6, none⟩ (.int .i64 (IntKind.i64.wrap ((c.P 1 : Int) + wrap64 (((c.W 1).length : Int) - (c.P 1 : Int))))) (fun _ => rfl))) (by
    unfold RC.passed
    rw [if_neg (fun q => by rw [hcl] at q; cases q.1)]
    first | (rw [hset, hz]; rfl) | (rw [set_blk hset, hz]; rfl)))
  clear h hB hc hb q hv hok hmm hset hz hz0 hp1 hp2 hcl
  go_enter Try.func29, Try.ntmps29
  go_wp2_with fail
  refine Hw.out.mono ?_
  rintro e w1 ⟨rfl, hw⟩
  obtain rfl := hw.symm
  clear hw Hw
  go_wp2
  go_quiet (fail)
  go_wp2
  go_region_law (fail)
  all_goals go_wp2
  all_goals go_quiet (fail)
  all_goals go_wp2
  all_goals go_ret2
  all_goals exact ⟨congrArg (fun z => Ending.returned (.tuple #[.int .i64 z, .int .i64 0])) Hr.out, Hfin.out.later ⟨rfl, rfl, rfl, Nat.le_refl _, fun _ _ => rfl⟩⟩


set_option maxHeartbeats 2000000 in
theorem rpass_ok1D (hB : Bg w0 w It) (h : RefIs It r rb R) {i : Nat} {c : RC} (hc : R.cs[i]? = some c) (hcut : c.cut = false) (hok : c.Ok) (hcl : c.C 1 = true) (mm : Nat) (hmm : (c.W 1).length - c.P 1 ≤ mm) :
    Calls Try.prog 29 #[.pointer (some ⟨rb, 0, none⟩), .int .i64 (i : Int), .int .i64 1, .int .i64 (mm : Int)] w fun e w' => e = .returned (.tuple #[.int .i64 (((c.W 1).length - c.P 1) : Nat), .int .i64 0]) ∧ RPost w0 w It r rb { R with cs := R.cs.set i (c.passed 1 ((c.W 1).length - c.P 1)) } w' := by
  obtain ⟨cv, nv, tv, bs, vs, h⟩ := h
  obtain ⟨b, g, cc, hb, q⟩ := h.look hB hc
  have Hw := Lib.hid (rwhy_ok hB ⟨cv, nv, tv, bs, vs, h⟩ (i : Int) 1)
  rw [show R.why (i : Int) 1 = 0 from rwhy_at (kk := 1) (by decide) hc hcut] at Hw
  have y0 := q.h0
  have y1 := q.hi
  have b1 : (i : Int) < (bs.length : Int) := by have := q.lt; omega
  have y2 : w.cell? ⟨b, 10, none⟩ = some (.bool true) := by rw [cell_blk q.blk, ← hcl]; rfl
  obtain ⟨ao2, cp2, hv⟩ := row_slice q.r1
  have y3 : w.cell? ⟨b, 4, none⟩ = some (.slice ao2 (c.W 1).length cp2) := by rw [cell_blk q.blk, ← hv]; rfl
  have y4 : w.cell? ⟨b, 6, none⟩ = some (.int .i64 (c.P 1 : Int)) := by rw [cell_blk q.blk]; rfl
  have f2 := frozen_blk q.blk 6
  have f3 := frozen_blk q.blk 12
  have y6 : w.cell? ⟨b, 12, none⟩ = some (.bool (c.E 1)) := by rw [cell_blk q.blk]; rfl
  have hp1 := hok.p 1
  have hp2 := hok.w 1
  have hz0 : wrap64 (((c.W 1).length : Int) - (c.P 1 : Int)) = ((c.W 1).length : Int) - (c.P 1 : Int) := rsub_wrap hp2 hp1
  have hz : (wrap64 ((c.P 1 : Int) + wrap64 (((c.W 1).length : Int) - (c.P 1 : Int)))) = ((c.P 1 + ((c.W 1).length - c.P 1) : Nat) : Int) := by
    first | (rw [IntKind.wrap_i64]; omega) | (rw [IntKind.wrap_i64]; unfold wrap64; omega) | (unfold wrap64; omega)
  have b2 : wrap64 (((c.W 1).length : Int) - (c.P 1 : Int)) ≤ (mm : Int) := by rw [hz0]; omega
  have b3 : ¬ ((mm : Int) < 0) := by omega
  have b4 : ((wrap64 ((c.P 1 : Int) + wrap64 (((c.W 1).length : Int) - (c.P 1 : Int)))) == ((c.W 1).length : Int)) = true := by
    rw [show (wrap64 ((c.P 1 : Int) + wrap64 (((c.W 1).length : Int) - (c.P 1 : Int)))) = ((c.P 1 + ((c.W 1).length - c.P 1) : Nat) : Int) by unfold wrap64; omega]
    rw [beq_iff_eq]; omega
  have Hr := Lib.hid (show wrap64 (((c.W 1).length : Int) - (c.P 1 : Int)) = (((c.W 1).length - c.P 1 : Nat) : Int) by rw [hz0]; omega)
  have hset := set_blk q.blk 6 (.int .i64 (wrap64 ((c.P 1 : Int) + wrap64 (((c.W 1).length : Int) - (c.P 1 : Int)))))
  have Hfin := Lib.hid (RefI.turn hB h hb hc (c.passed 1 ((c.W 1).length - c.P 1)) rfl (w2 := (w.setCell ⟨b, 6, none⟩ (.int .i64 (wrap64 ((c.P 1 : Int) + wrap64 (((c.W 1).length : Int) - (c.P 1 : Int)))))).setCell ⟨b, 12, none⟩ (.bool true)) (((Mod.refl (fun g => g = b) w).setCell ⟨b, 6, none⟩ (.int .i64 (wrap64 ((c.P 1 : Int) + wrap64 (((c.W 1).length : Int) - (c.P 1 : Int))))) (fun _ => rfl)).setCell ⟨b, 12, none⟩ (.bool true) (fun _ => rfl)) (by
    unfold RC.passed
    rw [if_pos ⟨hcl, by omega⟩]
    first | (rw [hset, hz]; rfl) | (rw [set_blk hset, hz]; rfl)))
  clear h hB hc hb q hv hok hmm hset hz hz0 hp1 hp2 hcl
  go_enter Try.func29, Try.ntmps29
  go_wp2_with fail
  refine Hw.out.mono ?_
  rintro e w1 ⟨rfl, hw⟩
  obtain rfl := hw.symm
  clear hw Hw
  go_wp2
  go_quiet (fail)
  go_wp2
  go_region_law (fail)
  all_goals go_wp2
  all_goals go_quiet (fail)
  all_goals go_wp2
  all_goals go_ret2
  all_goals exact ⟨congrArg (fun z => Ending.returned (.tuple #[.int .i64 z, .int .i64 0])) Hr.out, Hfin.out.later ⟨rfl, rfl, rfl, Nat.le_refl _, fun _ _ => rfl⟩⟩

end

end Go.Proofs.Ytibijonjjkknoaa
