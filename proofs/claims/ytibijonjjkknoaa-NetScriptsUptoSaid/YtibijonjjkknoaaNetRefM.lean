/-
The reference's calls upon one connection.
-/
import Derived.Test.YtibijonjjkknoaaNetRef
set_option linter.unusedVariables false
set_option linter.unusedSimpArgs false
namespace Go.Proofs.Ytibijonjjkknoaa
open Go Go.RowKit

/-- Numbers and lengths are in order. -/
structure RC.Ok (c : RC) : Prop where
  p : ∀ k, c.P k ≤ (c.W k).length
  q : ∀ k, c.Q k ≤ c.P k
  w : ∀ k, (c.W k).length ≤ 70368744177664

theorem rwhy_zero {R : RS} {i k : Int} (hw : R.why i k = 0) : ∃ (j kk : Nat) (c : RC), (j : Int) = i ∧ (kk : Int) = k ∧ kk < 2 ∧ R.cs[j]? = some c ∧ c.cut = false := by
  unfold RS.why at hw
  by_cases h1 : i < 0 ∨ (R.cs.length : Int) ≤ i ∨ k < 0 ∨ 1 < k
  · rw [if_pos h1] at hw; cases hw
  · rw [if_neg h1] at hw
    have hi : i.toNat < R.cs.length := by omega
    obtain ⟨c, hc⟩ : ∃ c, R.cs[i.toNat]? = some c := ⟨_, List.getElem?_eq_getElem hi⟩
    rw [hc] at hw
    refine ⟨i.toNat, k.toNat, c, by omega, by omega, by omega, hc, ?_⟩
    cases hcut : c.cut with
    | false => rfl
    | true => simp [hcut] at hw

theorem rwhy_at {R : RS} {j kk : Nat} {c : RC} (hk : kk < 2) (hc : R.cs[j]? = some c) (hcut : c.cut = false) : R.why (j : Int) (kk : Int) = 0 := by
  have hj := (List.getElem?_eq_some_iff.1 hc).1
  unfold RS.why
  rw [if_neg (by omega), show ((j : Int)).toNat = j from rfl, hc]
  simp [hcut]

/-- What 'why' answers where there is nothing to be done. -/
def RBad (np : Option Addr) (i k : Int) (w : World) (y : Int) : Prop :=
  (y == 0) = false ∧ Calls Try.prog 32 #[.pointer np, .int .i64 i, .int .i64 k] w fun e w' => e = .returned (.int .i64 y) ∧ w' = w

section
variable {w0 w : World} {It : Nat → Item} {r rb : Nat} {R : RS}

theorem rbad_nil (w : World) (i k : Int) : RBad none i k w 1 := ⟨rfl, rwhy_nil w i k⟩
theorem rbad_ok (hB : Bg w0 w It) (h : RefIs It r rb R) {i k : Int} (hw : R.why i k ≠ 0) : RBad (some ⟨rb, 0, none⟩) i k w (R.why i k) := ⟨by simpa using hw, rwhy_ok hB h i k⟩

theorem rsub_wrap {a b : Nat} (h : a ≤ 70368744177664) (hb : b ≤ a) : wrap64 ((a : Int) - (b : Int)) = (a : Int) - (b : Int) := by unfold wrap64; omega


set_option maxHeartbeats 400000 in
theorem runder_bad {np : Option Addr} {i k y : Int} {w : World} (h : RBad np i k w y) :
    Calls Try.prog 18 #[.pointer np, .int .i64 i, .int .i64 k] w fun e w' => e = .returned (.int .i64 0) ∧ w' = w := by
  obtain ⟨hy, h⟩ := h
  have hy2 : (y != 0) = true := by simp at hy ⊢; exact hy
  have H := Lib.hid h
  clear h
  go_enter Try.func18, Try.ntmps18
  go_wp2_with fail
  refine H.out.mono ?_
  rintro e w1 ⟨rfl, hw⟩
  obtain rfl := hw.symm
  clear hw H
  go_wp2
  go_ret
  exact ⟨rfl, rfl⟩

set_option maxHeartbeats 400000 in
theorem rclose_bad {np : Option Addr} {i k y : Int} {w : World} (h : RBad np i k w y) :
    Calls Try.prog 28 #[.pointer np, .int .i64 i, .int .i64 k] w fun e w' => e = .returned (.int .i64 y) ∧ w' = w := by
  obtain ⟨hy, h⟩ := h
  have hy2 : (y != 0) = true := by simp at hy ⊢; exact hy
  have H := Lib.hid h
  clear h
  go_enter Try.func28, Try.ntmps28
  go_wp2_with fail
  refine H.out.mono ?_
  rintro e w1 ⟨rfl, hw⟩
  obtain rfl := hw.symm
  clear hw H
  go_wp2
  go_ret
  exact ⟨rfl, rfl⟩

set_option maxHeartbeats 400000 in
theorem rwrite_bad {np : Option Addr} {i k y : Int} {w : World} (h : RBad np i k w y) (ao : Option Addr) (len cp : Nat) :
    Calls Try.prog 27 #[.pointer np, .int .i64 i, .int .i64 k, .slice ao len cp] w fun e w' => e = .returned (.int .i64 y) ∧ w' = w := by
  obtain ⟨hy, h⟩ := h
  have hy2 : (y != 0) = true := by simp at hy ⊢; exact hy
  have H := Lib.hid h
  clear h
  go_enter Try.func27, Try.ntmps27
  go_wp2_with fail
  refine H.out.mono ?_
  rintro e w1 ⟨rfl, hw⟩
  obtain rfl := hw.symm
  clear hw H
  go_wp2
  go_ret
  exact ⟨rfl, rfl⟩

set_option maxHeartbeats 400000 in
theorem rread_bad {np : Option Addr} {i k y : Int} {w : World} (h : RBad np i k w y) :
    Calls Try.prog 30 #[.pointer np, .int .i64 i, .int .i64 k] w fun e w' => e = .returned (.tuple #[.slice none 0 0, .bool false, .int .i64 y]) ∧ w' = w := by
  obtain ⟨hy, h⟩ := h
  have hy2 : (y != 0) = true := by simp at hy ⊢; exact hy
  have H := Lib.hid h
  clear h
  go_enter Try.func30, Try.ntmps30
  go_wp2_with fail
  refine H.out.mono ?_
  rintro e w1 ⟨rfl, hw⟩
  obtain rfl := hw.symm
  clear hw H
  go_wp2
  go_ret3
  exact ⟨rfl, rfl⟩

set_option maxHeartbeats 400000 in
theorem rcut_bad {np : Option Addr} {i y : Int} {w : World} (h : RBad np i 0 w y) :
    Calls Try.prog 31 #[.pointer np, .int .i64 i] w fun e w' => e = .returned (.int .i64 y) ∧ w' = w := by
  obtain ⟨hy, h⟩ := h
  have hy2 : (y != 0) = true := by simp at hy ⊢; exact hy
  have H := Lib.hid h
  clear h
  go_enter Try.func31, Try.ntmps31
  go_wp2_with fail
  refine H.out.mono ?_
  rintro e w1 ⟨rfl, hw⟩
  obtain rfl := hw.symm
  clear hw H
  go_wp2
  go_ret
  exact ⟨rfl, rfl⟩

set_option maxHeartbeats 400000 in
theorem rpass_arg (w : World) (rb : Nat) (i k most : Int) (hm : most < 0) :
    Calls Try.prog 29 #[.pointer (some ⟨rb, 0, none⟩), .int .i64 i, .int .i64 k, .int .i64 most] w fun e w' => e = .returned (.tuple #[.int .i64 0, .int .i64 2]) ∧ w' = w := by
  go_enter Try.func29, Try.ntmps29
  go_wp2
  go_ret2
  exact ⟨rfl, rfl⟩

set_option maxHeartbeats 400000 in
theorem rpass_bad {np : Option Addr} {i k y most : Int} {w : World} (h : RBad np i k w y) (hm : np = none ∨ 0 ≤ most) :
    Calls Try.prog 29 #[.pointer np, .int .i64 i, .int .i64 k, .int .i64 most] w fun e w' => e = .returned (.tuple #[.int .i64 0, .int .i64 y]) ∧ w' = w := by
  obtain ⟨hy, h⟩ := h
  have hy2 : (y != 0) = true := by simp at hy ⊢; exact hy
  have H := Lib.hid h
  clear h
  cases np with
  | none =>
    go_enter Try.func29, Try.ntmps29
    go_wp2_with fail
    refine H.out.mono ?_
    rintro e w1 ⟨rfl, hw⟩
    obtain rfl := hw.symm
    clear hw H
    go_wp2
    go_ret2
    exact ⟨rfl, rfl⟩
  | some ad =>
    have hm2 : 0 ≤ most := hm.resolve_left (by simp)
    go_enter Try.func29, Try.ntmps29
    go_wp2_with fail
    refine H.out.mono ?_
    rintro e w1 ⟨rfl, hw⟩
    obtain rfl := hw.symm
    clear hw H
    go_wp2
    go_ret2
    exact ⟨rfl, rfl⟩

set_option maxHeartbeats 1000000 in
theorem runder_ok0 (hB : Bg w0 w It) (h : RefIs It r rb R) {i : Nat} {c : RC} (hc : R.cs[i]? = some c) (hcut : c.cut = false) (hok : c.Ok) :
    Calls Try.prog 18 #[.pointer (some ⟨rb, 0, none⟩), .int .i64 (i : Int), .int .i64 0] w fun e w' => e = .returned (.int .i64 (((c.W 0).length : Int) - (c.P 0 : Int))) ∧ Below w.heap.size w w' := by
  obtain ⟨cv, nv, tv, bs, vs, h⟩ := h
  obtain ⟨b, g, cc, hb, q⟩ := h.look hB hc
  have Hw := Lib.hid (rwhy_ok hB ⟨cv, nv, tv, bs, vs, h⟩ (i : Int) 0)
  rw [show R.why (i : Int) 0 = 0 from rwhy_at (kk := 0) (by decide) hc hcut] at Hw
  have y0 := q.h0
  have y1 := q.hi
  have b1 : (i : Int) < (bs.length : Int) := by have := q.lt; omega
  obtain ⟨ao, cp, hv⟩ := row_slice q.r0
  have y2 : w.cell? ⟨b, 3, none⟩ = some (.slice ao (c.W 0).length cp) := by rw [cell_blk q.blk, ← hv]; rfl
  have y3 : w.cell? ⟨b, 5, none⟩ = some (.int .i64 (c.P 0 : Int)) := by rw [cell_blk q.blk]; rfl
  have Hs := Lib.hid (rsub_wrap (hok.w 0) (hok.p 0))
  clear h hB hc hb q hv hok
  go_enter Try.func18, Try.ntmps18
  go_wp2_with fail
  refine Hw.out.mono ?_
  rintro e w1 ⟨rfl, hw⟩
  obtain rfl := hw.symm
  clear hw Hw
  go_wp2
  go_quiet (fail)
  go_wp2
  go_ret
  exact ⟨congrArg (fun z => Ending.returned (.int .i64 z)) Hs.out, (Mod.refl (fun _ => False) w).drewN nq |>.below (Nat.le_refl _) (fun _ f => f.elim)⟩

set_option maxHeartbeats 1000000 in
theorem rclose_ok0 (hB : Bg w0 w It) (h : RefIs It r rb R) {i : Nat} {c : RC} (hc : R.cs[i]? = some c) (hcut : c.cut = false) (hcl : c.C 0 = false) :
    Calls Try.prog 28 #[.pointer (some ⟨rb, 0, none⟩), .int .i64 (i : Int), .int .i64 0] w fun e w' => e = .returned (.int .i64 0) ∧ RPost w0 w It r rb { R with cs := R.cs.set i { c with C := setf c.C 0 true } } w' := by
  obtain ⟨cv, nv, tv, bs, vs, h⟩ := h
  obtain ⟨b, g, cc, hb, q⟩ := h.look hB hc
  have Hw := Lib.hid (rwhy_ok hB ⟨cv, nv, tv, bs, vs, h⟩ (i : Int) 0)
  rw [show R.why (i : Int) 0 = 0 from rwhy_at (kk := 0) (by decide) hc hcut] at Hw
  have y0 := q.h0
  have y1 := q.hi
  have b1 : (i : Int) < (bs.length : Int) := by have := q.lt; omega
  have y2 : w.cell? ⟨b, 9, none⟩ = some (.bool false) := by rw [cell_blk q.blk, ← hcl]; rfl
  have f2 := frozen_blk q.blk 9
  have hset := set_blk q.blk 9 (.bool true)
  obtain ⟨q4, q5, q6⟩ := h.cn i b c hb hc
  have hBo := hB.obj (ix r (4 + 3 * i)) q4 ((Mod.refl (fun g => g = b) w).setCell ⟨b, 9, none⟩ (.bool true) (fun _ => rfl)) (o' := RC.obj { c with C := setf c.C 0 true } (vs i 0) (vs i 1)) (by rw [hset]; rfl)
  have Hfin := Lib.hid (RPost.put (R' := { R with cs := R.cs.set i { c with C := setf c.C 0 true } }) hBo (h.setConn hb { c with C := setf c.C 0 true } (vs i 0) (vs i 1) (upd_same _ _ _) (by rw [upd_ne _ _ (ix_ne (by omega))]; exact q5) (by rw [upd_ne _ _ (ix_ne (by omega))]; exact q6) (fun j h1 h2 h3 => upd_ne _ _ (ix_ne h1))) (by rw [q4]; exact (Mod.refl (fun g => g = b) w).setCell ⟨b, 9, none⟩ (.bool true) (fun _ => rfl)))
  clear h hB hc hb q q4 q5 q6 hset hBo
  go_enter Try.func28, Try.ntmps28
  go_wp2_with fail
  refine Hw.out.mono ?_
  rintro e w1 ⟨rfl, hw⟩
  obtain rfl := hw.symm
  clear hw Hw
  go_wp2
  go_ret
  exact ⟨rfl, Hfin.out⟩

set_option maxHeartbeats 1000000 in
theorem rclose_ended0 (hB : Bg w0 w It) (h : RefIs It r rb R) {i : Nat} {c : RC} (hc : R.cs[i]? = some c) (hcut : c.cut = false) (hcl : c.C 0 = true) :
    Calls Try.prog 28 #[.pointer (some ⟨rb, 0, none⟩), .int .i64 (i : Int), .int .i64 0] w fun e w' => e = .returned (.int .i64 42) ∧ w' = w := by
  obtain ⟨cv, nv, tv, bs, vs, h⟩ := h
  obtain ⟨b, g, cc, hb, q⟩ := h.look hB hc
  have Hw := Lib.hid (rwhy_ok hB ⟨cv, nv, tv, bs, vs, h⟩ (i : Int) 0)
  rw [show R.why (i : Int) 0 = 0 from rwhy_at (kk := 0) (by decide) hc hcut] at Hw
  have y0 := q.h0
  have y1 := q.hi
  have b1 : (i : Int) < (bs.length : Int) := by have := q.lt; omega
  have y2 : w.cell? ⟨b, 9, none⟩ = some (.bool true) := by rw [cell_blk q.blk, ← hcl]; rfl
  clear h hB hc hb q
  go_enter Try.func28, Try.ntmps28
  go_wp2_with fail
  refine Hw.out.mono ?_
  rintro e w1 ⟨rfl, hw⟩
  obtain rfl := hw.symm
  clear hw Hw
  go_wp2
  go_ret
  exact ⟨rfl, rfl⟩

set_option maxHeartbeats 1000000 in
theorem rwrite_ended0 (hB : Bg w0 w It) (h : RefIs It r rb R) {i : Nat} {c : RC} (hc : R.cs[i]? = some c) (hcut : c.cut = false) (hcl : c.C 0 = true) (ao : Option Addr) (len cp : Nat) :
    Calls Try.prog 27 #[.pointer (some ⟨rb, 0, none⟩), .int .i64 (i : Int), .int .i64 0, .slice ao len cp] w fun e w' => e = .returned (.int .i64 42) ∧ w' = w := by
  obtain ⟨cv, nv, tv, bs, vs, h⟩ := h
  obtain ⟨b, g, cc, hb, q⟩ := h.look hB hc
  have Hw := Lib.hid (rwhy_ok hB ⟨cv, nv, tv, bs, vs, h⟩ (i : Int) 0)
  rw [show R.why (i : Int) 0 = 0 from rwhy_at (kk := 0) (by decide) hc hcut] at Hw
  have y0 := q.h0
  have y1 := q.hi
  have b1 : (i : Int) < (bs.length : Int) := by have := q.lt; omega
  have y2 : w.cell? ⟨b, 9, none⟩ = some (.bool true) := by rw [cell_blk q.blk, ← hcl]; rfl
  clear h hB hc hb q
  go_enter Try.func27, Try.ntmps27
  go_wp2_with fail
  refine Hw.out.mono ?_
  rintro e w1 ⟨rfl, hw⟩
  obtain rfl := hw.symm
  clear hw Hw
  go_wp2
  go_ret
  exact ⟨rfl, rfl⟩


set_option maxHeartbeats 1000000 in
theorem runder_ok1 (hB : Bg w0 w It) (h : RefIs It r rb R) {i : Nat} {c : RC} (hc : R.cs[i]? = some c) (hcut : c.cut = false) (hok : c.Ok) :
    Calls Try.prog 18 #[.pointer (some ⟨rb, 0, none⟩), .int .i64 (i : Int), .int .i64 1] w fun e w' => e = .returned (.int .i64 (((c.W 1).length : Int) - (c.P 1 : Int))) ∧ Below w.heap.size w w' := by
  obtain ⟨cv, nv, tv, bs, vs, h⟩ := h
  obtain ⟨b, g, cc, hb, q⟩ := h.look hB hc
  have Hw := Lib.hid (rwhy_ok hB ⟨cv, nv, tv, bs, vs, h⟩ (i : Int) 1)
  rw [show R.why (i : Int) 1 = 0 from rwhy_at (kk := 1) (by decide) hc hcut] at Hw
  have y0 := q.h0
  have y1 := q.hi
  have b1 : (i : Int) < (bs.length : Int) := by have := q.lt; omega
  obtain ⟨ao, cp, hv⟩ := row_slice q.r1
  have y2 : w.cell? ⟨b, 4, none⟩ = some (.slice ao (c.W 1).length cp) := by rw [cell_blk q.blk, ← hv]; rfl
  have y3 : w.cell? ⟨b, 6, none⟩ = some (.int .i64 (c.P 1 : Int)) := by rw [cell_blk q.blk]; rfl
  have Hs := Lib.hid (rsub_wrap (hok.w 1) (hok.p 1))
  clear h hB hc hb q hv hok
  go_enter Try.func18, Try.ntmps18
  go_wp2_with fail
  refine Hw.out.mono ?_
  rintro e w1 ⟨rfl, hw⟩
  obtain rfl := hw.symm
  clear hw Hw
  go_wp2
  go_quiet (fail)
  go_wp2
  go_ret
  exact ⟨congrArg (fun z => Ending.returned (.int .i64 z)) Hs.out, (Mod.refl (fun _ => False) w).drewN nq |>.below (Nat.le_refl _) (fun _ f => f.elim)⟩

set_option maxHeartbeats 1000000 in
theorem rclose_ok1 (hB : Bg w0 w It) (h : RefIs It r rb R) {i : Nat} {c : RC} (hc : R.cs[i]? = some c) (hcut : c.cut = false) (hcl : c.C 1 = false) :
    Calls Try.prog 28 #[.pointer (some ⟨rb, 0, none⟩), .int .i64 (i : Int), .int .i64 1] w fun e w' => e = .returned (.int .i64 0) ∧ RPost w0 w It r rb { R with cs := R.cs.set i { c with C := setf c.C 1 true } } w' := by
  obtain ⟨cv, nv, tv, bs, vs, h⟩ := h
  obtain ⟨b, g, cc, hb, q⟩ := h.look hB hc
  have Hw := Lib.hid (rwhy_ok hB ⟨cv, nv, tv, bs, vs, h⟩ (i : Int) 1)
  rw [show R.why (i : Int) 1 = 0 from rwhy_at (kk := 1) (by decide) hc hcut] at Hw
  have y0 := q.h0
  have y1 := q.hi
  have b1 : (i : Int) < (bs.length : Int) := by have := q.lt; omega
  have y2 : w.cell? ⟨b, 10, none⟩ = some (.bool false) := by rw [cell_blk q.blk, ← hcl]; rfl
  have f2 := frozen_blk q.blk 10
  have hset := set_blk q.blk 10 (.bool true)
  obtain ⟨q4, q5, q6⟩ := h.cn i b c hb hc
  have hBo := hB.obj (ix r (4 + 3 * i)) q4 ((Mod.refl (fun g => g = b) w).setCell ⟨b, 10, none⟩ (.bool true) (fun _ => rfl)) (o' := RC.obj { c with C := setf c.C 1 true } (vs i 0) (vs i 1)) (by rw [hset]; rfl)
  have Hfin := Lib.hid (RPost.put (R' := { R with cs := R.cs.set i { c with C := setf c.C 1 true } }) hBo (h.setConn hb { c with C := setf c.C 1 true } (vs i 0) (vs i 1) (upd_same _ _ _) (by rw [upd_ne _ _ (ix_ne (by omega))]; exact q5) (by rw [upd_ne _ _ (ix_ne (by omega))]; exact q6) (fun j h1 h2 h3 => upd_ne _ _ (ix_ne h1))) (by rw [q4]; exact (Mod.refl (fun g => g = b) w).setCell ⟨b, 10, none⟩ (.bool true) (fun _ => rfl)))
  clear h hB hc hb q q4 q5 q6 hset hBo
  go_enter Try.func28, Try.ntmps28
  go_wp2_with fail
  refine Hw.out.mono ?_
  rintro e w1 ⟨rfl, hw⟩
  obtain rfl := hw.symm
  clear hw Hw
  go_wp2
  go_ret
  exact ⟨rfl, Hfin.out⟩

set_option maxHeartbeats 1000000 in
theorem rclose_ended1 (hB : Bg w0 w It) (h : RefIs It r rb R) {i : Nat} {c : RC} (hc : R.cs[i]? = some c) (hcut : c.cut = false) (hcl : c.C 1 = true) :
    Calls Try.prog 28 #[.pointer (some ⟨rb, 0, none⟩), .int .i64 (i : Int), .int .i64 1] w fun e w' => e = .returned (.int .i64 42) ∧ w' = w := by
  obtain ⟨cv, nv, tv, bs, vs, h⟩ := h
  obtain ⟨b, g, cc, hb, q⟩ := h.look hB hc
  have Hw := Lib.hid (rwhy_ok hB ⟨cv, nv, tv, bs, vs, h⟩ (i : Int) 1)
  rw [show R.why (i : Int) 1 = 0 from rwhy_at (kk := 1) (by decide) hc hcut] at Hw
  have y0 := q.h0
  have y1 := q.hi
  have b1 : (i : Int) < (bs.length : Int) := by have := q.lt; omega
  have y2 : w.cell? ⟨b, 10, none⟩ = some (.bool true) := by rw [cell_blk q.blk, ← hcl]; rfl
  clear h hB hc hb q
  go_enter Try.func28, Try.ntmps28
  go_wp2_with fail
  refine Hw.out.mono ?_
  rintro e w1 ⟨rfl, hw⟩
  obtain rfl := hw.symm
  clear hw Hw
  go_wp2
  go_ret
  exact ⟨rfl, rfl⟩

set_option maxHeartbeats 1000000 in
theorem rwrite_ended1 (hB : Bg w0 w It) (h : RefIs It r rb R) {i : Nat} {c : RC} (hc : R.cs[i]? = some c) (hcut : c.cut = false) (hcl : c.C 1 = true) (ao : Option Addr) (len cp : Nat) :
    Calls Try.prog 27 #[.pointer (some ⟨rb, 0, none⟩), .int .i64 (i : Int), .int .i64 1, .slice ao len cp] w fun e w' => e = .returned (.int .i64 42) ∧ w' = w := by
  obtain ⟨cv, nv, tv, bs, vs, h⟩ := h
  obtain ⟨b, g, cc, hb, q⟩ := h.look hB hc
  have Hw := Lib.hid (rwhy_ok hB ⟨cv, nv, tv, bs, vs, h⟩ (i : Int) 1)
  rw [show R.why (i : Int) 1 = 0 from rwhy_at (kk := 1) (by decide) hc hcut] at Hw
  have y0 := q.h0
  have y1 := q.hi
  have b1 : (i : Int) < (bs.length : Int) := by have := q.lt; omega
  have y2 : w.cell? ⟨b, 10, none⟩ = some (.bool true) := by rw [cell_blk q.blk, ← hcl]; rfl
  clear h hB hc hb q
  go_enter Try.func27, Try.ntmps27
  go_wp2_with fail
  refine Hw.out.mono ?_
  rintro e w1 ⟨rfl, hw⟩
  obtain rfl := hw.symm
  clear hw Hw
  go_wp2
  go_ret
  exact ⟨rfl, rfl⟩


set_option maxHeartbeats 1000000 in
theorem rcut_ok (hB : Bg w0 w It) (h : RefIs It r rb R) {i : Nat} {c : RC} (hc : R.cs[i]? = some c) (hcut : c.cut = false) :
    Calls Try.prog 31 #[.pointer (some ⟨rb, 0, none⟩), .int .i64 (i : Int)] w fun e w' => e = .returned (.int .i64 0) ∧ RPost w0 w It r rb { R with cs := R.cs.set i { c with cut := true } } w' := by
  obtain ⟨cv, nv, tv, bs, vs, h⟩ := h
  obtain ⟨b, g, cc, hb, q⟩ := h.look hB hc
  have Hw := Lib.hid (rwhy_ok hB ⟨cv, nv, tv, bs, vs, h⟩ (i : Int) 0)
  rw [show R.why (i : Int) 0 = 0 from rwhy_at (kk := 0) (by decide) hc hcut] at Hw
  have y0 := q.h0
  have y1 := q.hi
  have b1 : (i : Int) < (bs.length : Int) := by have := q.lt; omega
  have y2 : w.cell? ⟨b, 2, none⟩ = some (.bool false) := by rw [cell_blk q.blk, ← hcut]; rfl
  have f2 := frozen_blk q.blk 2
  have hset := set_blk q.blk 2 (.bool true)
  obtain ⟨q4, q5, q6⟩ := h.cn i b c hb hc
  have hBo := hB.obj (ix r (4 + 3 * i)) q4 ((Mod.refl (fun g => g = b) w).setCell ⟨b, 2, none⟩ (.bool true) (fun _ => rfl)) (o' := RC.obj { c with cut := true } (vs i 0) (vs i 1)) (by rw [hset]; rfl)
  have Hfin := Lib.hid (RPost.put (R' := { R with cs := R.cs.set i { c with cut := true } }) hBo (h.setConn hb { c with cut := true } (vs i 0) (vs i 1) (upd_same _ _ _) (by rw [upd_ne _ _ (ix_ne (by omega))]; exact q5) (by rw [upd_ne _ _ (ix_ne (by omega))]; exact q6) (fun j h1 h2 h3 => upd_ne _ _ (ix_ne h1))) (by rw [q4]; exact (Mod.refl (fun g => g = b) w).setCell ⟨b, 2, none⟩ (.bool true) (fun _ => rfl)))
  clear h hB hc hb q q4 q5 q6 hset hBo
  go_enter Try.func31, Try.ntmps31
  go_wp2_with fail
  refine Hw.out.mono ?_
  rintro e w1 ⟨rfl, hw⟩
  obtain rfl := hw.symm
  clear hw Hw
  go_wp2
  go_ret
  exact ⟨rfl, Hfin.out⟩

end

end Go.Proofs.Ytibijonjjkknoaa
