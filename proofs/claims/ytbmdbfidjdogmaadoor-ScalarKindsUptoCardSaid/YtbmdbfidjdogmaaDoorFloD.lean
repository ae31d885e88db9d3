/-
A number scaled by a power of ten, and the guess at it: bounds. Plain laws, no program.
-/
import Derived.Test.YtbmdbfidjdogmaaDoorFloC
set_option linter.unusedVariables false
set_option linter.unusedSimpArgs false
namespace Go.Proofs.YtbmdbfidjdogmaaDoor
open Go Ieee

/-- A number with a power of ten, as both packages reckon it. -/
def scW (m : Nat) (k : Int) : Nat :=
  if 0 ≤ k then (floatBits .mul .f64 (floatOfInt .f64 (m : Int)) (tenW k.toNat)).getD 0 else (floatBits .quo .f64 (floatOfInt .f64 (m : Int)) (tenW (-k).toNat)).getD 0

theorem ten_pos {k : Nat} (h : k < 23) : 0 < FV (tenW k) := by
  rw [(tenW_ok k h).2.1]
  exact Nat.mul_pos (Nat.pow_pos (by decide)) (Nat.two_pow_pos _)

theorem sc_mul {m : Nat} {k : Int} (hm : m < 1000000000000000) (h0 : 0 ≤ k) (hk : k ≤ 22) : floatBits .mul .f64 (floatOfInt .f64 (m : Int)) (tenW k.toNat) = some (scW m k) ∧ scW m k ≤ INF := by
  obtain ⟨r, h1, h2⟩ := mul_some (Nat.le_of_lt (ofU_FV (show m < 9007199254740992 by omega)).1) (tenW_ok k.toNat (by omega)).1 (ten_pos (by omega))
  unfold scW
  rw [if_pos h0, h1]
  exact ⟨rfl, h2⟩

theorem sc_div {m : Nat} {k : Int} (hm : m < 1000000000000000) (h0 : ¬ 0 ≤ k) (hk : -22 ≤ k) : floatBits .quo .f64 (floatOfInt .f64 (m : Int)) (tenW (-k).toNat) = some (scW m k) ∧ scW m k ≤ INF := by
  obtain ⟨r, h1, h2⟩ := div_some (Nat.le_of_lt (ofU_FV (show m < 9007199254740992 by omega)).1) (tenW_ok (-k).toNat (by omega)).1 (ten_pos (by omega))
  unfold scW
  rw [if_neg h0, h1]
  exact ⟨rfl, h2⟩

theorem ten_le {k : Nat} (h : k < 23) : 10 ^ k ≤ 2 ^ 74 := Nat.le_trans (Nat.pow_le_pow_right (by decide) (show k ≤ 22 by omega)) (by decide)

theorem pw {a b : Nat} (h : a ≤ b) : 2 ^ a ≤ 2 ^ b := Nat.pow_le_pow_right (by decide) h

theorem U_facts {U : Nat} (h : U = 2 ^ kU) : 2 ^ 52 ≤ U ∧ 2 ^ 250 ≤ U ∧ 0 < U := by
  obtain ⟨V, hV, h1, h2, h3⟩ := exU
  rw [← hV] at h
  rw [h]
  exact ⟨h1, h2, h3⟩

/-- How near it is. -/
theorem sc_near {U : Nat} (hUe : U = 2 ^ kU) {m : Nat} {k : Int} (hm0 : 1 ≤ m) (hm : m < 1000000000000000) (hk1 : -22 ≤ k) (hk2 : k ≤ 22) :
    scW m k < INF ∧ FV (scW m k) * 10 ^ (-k).toNat * 1152921504606846976 ≤ m * 10 ^ k.toNat * U * 1152921504606847169 ∧ m * 10 ^ k.toNat * U * 1152921504606846783 ≤ FV (scW m k) * 10 ^ (-k).toNat * 1152921504606846976 := by
  obtain ⟨u52, u250, hU⟩ := U_facts hUe
  obtain ⟨a1, a2⟩ := ofU_FV (show m < 9007199254740992 by omega)
  rw [← hUe] at a2
  have hm50 : m ≤ 2 ^ 50 := Nat.le_trans (Nat.le_of_lt hm) (by decide)
  by_cases h0 : 0 ≤ k
  · obtain ⟨b1, b2, _⟩ := tenW_ok k.toNat (by omega)
    rw [← hUe] at b2
    have e0 : (-k).toNat = 0 := by omega
    have ht := ten_le (show k.toNat < 23 by omega)
    have ht0 : 0 < 10 ^ k.toNat := Nat.pow_pos (by decide)
    obtain ⟨g1, g2⟩ := sc_mul hm h0 hk2
    rw [e0, Nat.pow_zero, Nat.mul_one]
    generalize 10 ^ k.toNat = N at *
    have hX : FV (floatOfInt .f64 (m : Int)) * FV (tenW k.toNat) = m * N * U * U := by rw [a2, b2]; ac_rfl
    have hmt : 1 ≤ m * N := Nat.mul_pos hm0 ht0
    have hmt2 : m * N ≤ 2 ^ 250 := Nat.le_trans (Nat.mul_le_mul hm50 ht) (by decide)
    have lo : U * 2 ^ 52 ≤ m * N * U * U := by
      rw [Nat.mul_assoc]
      exact Nat.le_trans (Nat.mul_le_mul_left _ u52) (Nat.le_mul_of_pos_left _ hmt)
    have hi : m * N * U * U ≤ U * U * 2 ^ 250 := by
      rw [Nat.mul_assoc, Nat.mul_comm]
      exact Nat.mul_le_mul_left _ hmt2
    obtain ⟨r, h1, h2, h3, h4⟩ := mul_nearU hUe a1 b1 (by rw [hX]; exact lo) (by rw [hX]; exact hi)
    obtain rfl := Option.some.inj (g1.symm.trans h1)
    rw [hX] at h3 h4
    generalize m * N * U = A at *
    refine ⟨h2, ?_, ?_⟩
    · have := Nat.le_of_mul_le_mul_right (show FV (scW m k) * 9007199254740992 * U ≤ A * 9007199254740993 * U by rw [Nat.mul_right_comm, Nat.mul_right_comm A]; exact h3) hU
      exact ratio _ _ 9007199254740992 9007199254740993 _ _ (by decide) this (by decide +kernel)
    · have := Nat.le_of_mul_le_mul_right (show A * 9007199254740991 * U ≤ FV (scW m k) * 9007199254740992 * U by rw [Nat.mul_right_comm, Nat.mul_right_comm (FV (scW m k))]; exact h4) hU
      exact ratio _ _ 9007199254740991 9007199254740992 _ _ (by decide) this (by decide +kernel)
  · obtain ⟨b1, b2, _⟩ := tenW_ok (-k).toNat (by omega)
    rw [← hUe] at b2
    have e0 : k.toNat = 0 := by omega
    have ht := ten_le (show (-k).toNat < 23 by omega)
    have ht0 : 0 < 10 ^ (-k).toNat := Nat.pow_pos (by decide)
    have hb0 := ten_pos (show (-k).toNat < 23 by omega)
    obtain ⟨g1, g2⟩ := sc_div hm h0 hk1
    rw [e0, Nat.pow_zero, Nat.mul_one]
    generalize 10 ^ (-k).toNat = N at *
    have lo : N * U * 2 ^ 54 ≤ m * U * U := by
      rw [Nat.mul_right_comm]
      refine Nat.mul_le_mul_right _ ?_
      refine Nat.le_trans (Nat.mul_le_mul_right _ ht) ?_
      refine Nat.le_trans (show 2 ^ 74 * 2 ^ 54 ≤ 2 ^ 250 by decide) ?_
      exact Nat.le_trans u250 (Nat.le_mul_of_pos_left _ hm0)
    have hi : m * U * U ≤ N * U * (U * 2 ^ 250) := by
      have h1 : m ≤ N * 2 ^ 250 := Nat.le_trans hm50 (Nat.le_trans (by decide) (Nat.le_mul_of_pos_left _ ht0))
      have h2 := Nat.mul_le_mul_right (U * U) h1
      have e1 : m * (U * U) = m * U * U := (Nat.mul_assoc ..).symm
      have e2 : ∀ z : Nat, N * z * (U * U) = N * U * (U * z) := fun z => by ac_rfl
      rw [e1, e2] at h2
      exact h2
    obtain ⟨r, h1, h2, h3, h4⟩ := div_nearU hUe a1 b1 hb0 (by rw [a2, b2]; exact lo) (by rw [a2, b2]; exact hi)
    obtain rfl := Option.some.inj (g1.symm.trans h1)
    rw [a2, b2] at h3 h4
    have e3 : ∀ z x : Nat, x * N * z * U = x * (N * U) * z := fun z x => by ac_rfl
    have e4 : ∀ z : Nat, m * U * z * U = m * U * U * z := fun z => by ac_rfl
    refine ⟨h2, ?_, ?_⟩
    · refine Nat.le_of_mul_le_mul_right ?_ hU
      rw [e3, e4]
      exact h3
    · refine Nat.le_of_mul_le_mul_right ?_ hU
      rw [e3, e4]
      exact h4

/-- Greater numbers come to greater doubles. -/
theorem sc_mono {m m' : Nat} {k : Int} (hm0 : 1 ≤ m) (hlt : m < m') (hm : m' < 1000000000000000) (hk1 : -22 ≤ k) (hk2 : k ≤ 22) : FV (scW m k) < FV (scW m' k) := by
  obtain ⟨U, hUe, _, _, hU⟩ := exU
  obtain ⟨_, h1, _⟩ := sc_near hUe hm0 (by omega) hk1 hk2
  obtain ⟨_, _, h2⟩ := sc_near hUe (show 1 ≤ m' by omega) hm hk1 hk2
  have hN : 0 < 10 ^ k.toNat * U := Nat.mul_pos (Nat.pow_pos (by decide)) hU
  rw [Nat.mul_assoc m] at h1
  rw [Nat.mul_assoc m'] at h2
  generalize 10 ^ k.toNat * U = N at *
  have h3 : m * N * 1152921504606847169 < m' * N * 1152921504606846783 := by
    rw [Nat.mul_right_comm, Nat.mul_right_comm m']
    exact Nat.mul_lt_mul_of_pos_right (by omega) hN
  have h4 := Nat.lt_of_le_of_lt h1 (Nat.lt_of_lt_of_le h3 h2)
  rw [Nat.mul_assoc, Nat.mul_assoc (FV (scW m' k))] at h4
  exact Nat.lt_of_mul_lt_mul_right h4

end Go.Proofs.YtbmdbfidjdogmaaDoor
