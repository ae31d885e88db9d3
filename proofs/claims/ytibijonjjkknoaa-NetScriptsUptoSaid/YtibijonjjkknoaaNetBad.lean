/-
What the functions of package net answer where there is no such connection or side, or where it is cut; and of a nil net.
-/
import Derived.Test.YtibijonjjkknoaaNetClose
set_option linter.unusedVariables false
set_option linter.unusedSimpArgs false
namespace Go.Proofs.Ytibijonjjkknoaa
open Go Go.RowKit

/-- Why there is nothing to be done at connection i, side k; 0: there is. -/
def St.why (S : St) (i k : Int) : Int :=
  if i < 0 ∨ (S.cs.length : Int) ≤ i ∨ k < 0 ∨ 1 < k then 2 else match S.cs[i.toNat]? with | some c => if c.cut then 40 else 0 | none => 0

/-- .. of a net that may be nil: its answer, the world as it was. -/
def OfBad (np : Option Addr) (i k : Int) (w : World) (y : Int) : Prop :=
  (y == 0) = false ∧ Calls Try.prog 20 #[.pointer np, .int .i64 i, .int .i64 k] w fun e w' =>
    e = .returned (.tuple #[.pointer none, .pointer none, .pointer none, .int .i64 y]) ∧ w = w'

theorem ofBad_nil (i k : Int) (w : World) : OfBad none i k w 1 := ⟨rfl, of_nil i k w⟩

theorem ofBad_why {B : Nat} {w : World} {L : Lab} {n : Nat} {S : St} (h : NetIs B w L n S) (hs : S.cs.length ≤ maxLen) (i k : Int) (hw : S.why i k ≠ 0) : OfBad (some ⟨n, 0, none⟩) i k w (S.why i k) := by
  refine ⟨by simpa using hw, ?_⟩
  unfold St.why at hw ⊢
  by_cases h1 : i < 0 ∨ (S.cs.length : Int) ≤ i ∨ k < 0 ∨ 1 < k
  · rw [if_pos h1]; exact of_arg h i k h1
  · rw [if_neg h1] at hw ⊢
    have hi : i.toNat < S.cs.length := by omega
    obtain ⟨c, hc⟩ : ∃ c, S.cs[i.toNat]? = some c := ⟨_, List.getElem?_eq_getElem hi⟩
    rw [hc] at hw ⊢
    cases hcut : c.cut with
    | false => simp [hcut] at hw
    | true =>
      have := of_cut h hs i.toNat k c hc hcut (by omega)
      rw [show ((i.toNat : Nat) : Int) = i by omega] at this
      simpa [hcut] using this

/-- Where there is something to be done there is a connection that is not cut. -/
theorem why_ok {S : St} {i k : Int} (hw : S.why i k = 0) : ∃ (j : Nat) (c : Cn), (j : Int) = i ∧ S.cs[j]? = some c ∧ c.cut = false ∧ (k = 0 ∨ k = 1) := by
  unfold St.why at hw
  by_cases h1 : i < 0 ∨ (S.cs.length : Int) ≤ i ∨ k < 0 ∨ 1 < k
  · rw [if_pos h1] at hw; cases hw
  · rw [if_neg h1] at hw
    have hi : i.toNat < S.cs.length := by omega
    obtain ⟨c, hc⟩ : ∃ c, S.cs[i.toNat]? = some c := ⟨_, List.getElem?_eq_getElem hi⟩
    rw [hc] at hw
    refine ⟨i.toNat, c, by omega, hc, ?_, by omega⟩
    cases hcut : c.cut with
    | false => rfl
    | true => simp [hcut] at hw

set_option maxHeartbeats 400000 in
theorem write_bad {np : Option Addr} {i k y : Int} {w : World} (h : OfBad np i k w y) (ao : Option Addr) (len cp : Nat) :
    Calls Try.prog 10 #[.pointer np, .int .i64 i, .int .i64 k, .slice ao len cp] w fun e w' => e = .returned (.int .i64 y) ∧ w = w' := by
  obtain ⟨hy, h⟩ := h
  have hy2 : (y != 0) = true := by simp at hy ⊢; exact hy
  have H := Lib.hid h
  clear h
  go_enter Try.func10, Try.ntmps10
  go_wp2_with fail
  refine H.out.mono ?_
  rintro e w' ⟨rfl, rfl⟩
  go_wp2
  go_ret
  exact ⟨rfl, rfl⟩

set_option maxHeartbeats 400000 in
theorem close_bad {np : Option Addr} {i k y : Int} {w : World} (h : OfBad np i k w y)  :
    Calls Try.prog 14 #[.pointer np, .int .i64 i, .int .i64 k] w fun e w' => e = .returned (.int .i64 y) ∧ w = w' := by
  obtain ⟨hy, h⟩ := h
  have hy2 : (y != 0) = true := by simp at hy ⊢; exact hy
  have H := Lib.hid h
  clear h
  go_enter Try.func14, Try.ntmps14
  go_wp2_with fail
  refine H.out.mono ?_
  rintro e w' ⟨rfl, rfl⟩
  go_wp2
  go_ret
  exact ⟨rfl, rfl⟩

set_option maxHeartbeats 400000 in
theorem read_bad {np : Option Addr} {i k y : Int} {w : World} (h : OfBad np i k w y)  :
    Calls Try.prog 12 #[.pointer np, .int .i64 i, .int .i64 k] w fun e w' => e = .returned (.tuple #[.slice none 0 0, .bool false, .int .i64 y]) ∧ w = w' := by
  obtain ⟨hy, h⟩ := h
  have hy2 : (y != 0) = true := by simp at hy ⊢; exact hy
  have H := Lib.hid h
  clear h
  go_enter Try.func12, Try.ntmps12
  go_wp2_with fail
  refine H.out.mono ?_
  rintro e w' ⟨rfl, rfl⟩
  go_wp2
  go_ret3
  exact ⟨rfl, rfl⟩

set_option maxHeartbeats 400000 in
theorem cut_bad {np : Option Addr} {i k y : Int} {w : World} (h : OfBad np i 0 w y)  :
    Calls Try.prog 15 #[.pointer np, .int .i64 i] w fun e w' => e = .returned (.int .i64 y) ∧ w = w' := by
  obtain ⟨hy, h⟩ := h
  have hy2 : (y != 0) = true := by simp at hy ⊢; exact hy
  have H := Lib.hid h
  clear h
  go_enter Try.func15, Try.ntmps15
  go_wp2_with fail
  refine H.out.mono ?_
  rintro e w' ⟨rfl, rfl⟩
  go_wp2
  go_ret
  exact ⟨rfl, rfl⟩

set_option maxHeartbeats 400000 in
theorem under_bad {np : Option Addr} {i k y : Int} {w : World} (h : OfBad np i k w y)  :
    Calls Try.prog 16 #[.pointer np, .int .i64 i, .int .i64 k] w fun e w' => e = .returned (.int .i64 0) ∧ w = w' := by
  obtain ⟨hy, h⟩ := h
  have hy2 : (y != 0) = true := by simp at hy ⊢; exact hy
  have H := Lib.hid h
  clear h
  go_enter Try.func16, Try.ntmps16
  go_wp2_with fail
  refine H.out.mono ?_
  rintro e w' ⟨rfl, rfl⟩
  go_wp2
  go_ret
  exact ⟨rfl, rfl⟩

set_option maxHeartbeats 400000 in
theorem pass_bad {np : Option Addr} {i k y : Int} {w : World} (h : OfBad np i k w y) (most : Int) (hm : 0 ≤ most) :
    Calls Try.prog 11 #[.pointer np, .int .i64 i, .int .i64 k, .int .i64 most] w fun e w' => e = .returned (.tuple #[.int .i64 0, .int .i64 y]) ∧ w = w' := by
  obtain ⟨hy, h⟩ := h
  have hy2 : (y != 0) = true := by simp at hy ⊢; exact hy
  have H := Lib.hid h
  clear h
  cases np
  all_goals
    go_enter Try.func11, Try.ntmps11
    go_wp2_with fail
    refine H.out.mono ?_
    rintro e w' ⟨rfl, rfl⟩
    go_wp2
    go_ret2
    exact ⟨rfl, rfl⟩

end Go.Proofs.Ytibijonjjkknoaa
