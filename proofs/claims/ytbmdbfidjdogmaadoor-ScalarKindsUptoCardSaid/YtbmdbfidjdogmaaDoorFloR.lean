/-
Rounding to a whole number as package math does it on the bits. Plain laws, no program.
-/
import Derived.Test.YtbmdbfidjdogmaaDoorFloE
import Derived.Laws.Bits64b
set_option linter.unusedVariables false
set_option linter.unusedSimpArgs false
namespace Go.Proofs.YtbmdbfidjdogmaaDoor
open Go Ieee

theorem andNot_mask (a s : Nat) (ha : a < 18446744073709551616) (hs : s ≤ 52) : bits .andNot .u64 (a : Int) ((2 ^ s - 1 : Nat) : Int) = ((a / 2 ^ s * 2 ^ s : Nat) : Int) := by
  have e : (BitVec.ofInt 64 (a : Int) &&& ~~~ BitVec.ofInt 64 ((2 ^ s - 1 : Nat) : Int)).toNat = a / 2 ^ s * 2 ^ s := by
    rw [BitVec.ofInt_natCast, BitVec.ofInt_natCast]
    apply Nat.eq_of_testBit_eq
    intro i
    rw [BitVec.testBit_toNat, BitVec.getLsbD_and, BitVec.getLsbD_not, BitVec.getLsbD_ofNat, BitVec.getLsbD_ofNat, Nat.testBit_two_pow_sub_one, ← Nat.shiftRight_eq_div_pow, ← Nat.shiftLeft_eq, Nat.testBit_shiftLeft, Nat.testBit_shiftRight]
    by_cases h64 : i < 64
    · by_cases hi : i < s
      · simp [h64, hi]
        intro h
        omega
      · have e1 : s + (i - s) = i := by omega
        have e2 : s ≤ i := by omega
        rw [e1]
        simp [h64, hi, e2]
    · have : a.testBit i = false := Nat.testBit_lt_two_pow (Nat.lt_of_lt_of_le ha (by
        have : 2 ^ 64 ≤ 2 ^ i := Nat.pow_le_pow_right (by decide) (by omega)
        omega))
      have e2 : s ≤ i := by omega
      have e1 : s + (i - s) = i := by omega
      rw [e1]
      simp [h64, this]
  show IntKind.u64.wrap ((BitVec.ofInt 64 (a : Int) &&& ~~~ BitVec.ofInt 64 ((2 ^ s - 1 : Nat) : Int)).toNat : Int) = _
  rw [e, IntKind.wrap_u64]
  have := Nat.div_mul_le_self a (2 ^ s)
  omega

theorem half_shift : ∀ d, d < 52 → (2251799813685248 : Int) / 2 ^ d = ((2 ^ (51 - d) : Nat) : Int) := by decide +kernel
theorem mask_shift : ∀ d, d < 52 → (4503599627370495 : Int) / 2 ^ d = ((2 ^ (52 - d) - 1 : Nat) : Int) := by decide +kernel

theorem dbl (k : Nat) (h : 1 ≤ k) : 2 * 2 ^ (k - 1) = 2 ^ k := by
  obtain ⟨j, rfl⟩ : ∃ j, k = j + 1 := ⟨k - 1, by omega⟩
  rw [Nat.add_sub_cancel, Nat.pow_succ, Nat.mul_comm]

/-- What math.Round makes of a double below 2^52. -/
def roundW (b : Nat) : Nat :=
  if b / 4503599627370496 < 1023 then (if b / 4503599627370496 = 1022 then 4607182418800017408 else 0)
  else (b + 2 ^ (1074 - b / 4503599627370496)) / 2 ^ (1075 - b / 4503599627370496) * 2 ^ (1075 - b / 4503599627370496)

theorem FV_one : FV 4607182418800017408 = 2 ^ kU := by decide +kernel

theorem FV_zero : FV 0 = 0 := rfl

theorem FV_exp {b e : Nat} (he : e = b / 4503599627370496) (h1 : 1 ≤ e) : ∃ kept, 4503599627370496 ≤ kept ∧ kept < 9007199254740992 ∧ b = (e - 1) * 4503599627370496 + kept ∧ FV b = kept * 2 ^ (e - 1) := by
  refine ⟨4503599627370496 + b % 4503599627370496, by omega, by omega, by omega, ?_⟩
  unfold FV
  rw [if_neg (by omega), ← he]

/-- It is the whole number next to it. -/
theorem round_ok {U : Nat} (hUe : U = 2 ^ kU) {b : Nat} (hb : b / 4503599627370496 < 1075) : roundW b < INF ∧ FV (roundW b) = (2 * FV b + U) / (2 * U) * U := by
  obtain ⟨_, _, hU⟩ := U_facts hUe
  have hk := kU_eq
  obtain ⟨e, he⟩ : ∃ e, e = b / 4503599627370496 := ⟨_, rfl⟩
  unfold roundW
  rw [← he] at hb ⊢
  by_cases h1 : e < 1023
  · rw [if_pos h1]
    by_cases h2 : e = 1022
    · rw [if_pos h2, FV_one, ← hUe]
      obtain ⟨kept, k1, k2, _, k3⟩ := FV_exp he (by omega)
      have e1 : 2 ^ 53 * 2 ^ (e - 1) = U := by rw [hUe]; exact pow_split (by omega)
      have e2 : 2 * FV b < 2 * U ∧ U ≤ 2 * FV b := by
        rw [k3, ← e1]
        generalize 2 ^ (e - 1) = z at *
        have a1 : kept * z ≤ 9007199254740991 * z := Nat.mul_le_mul_right _ (by omega)
        have a2 : 4503599627370496 * z ≤ kept * z := Nat.mul_le_mul_right _ k1
        generalize kept * z = y at *
        have hz : 0 < z := by
          rcases Nat.eq_zero_or_pos z with h | h
          · rw [h] at e1; omega
          · exact h
        constructor <;> omega
      have e3 : (2 * FV b + U) / (2 * U) = 1 := by
        rw [Nat.div_eq_iff (by omega)]
        omega
      rw [e3, Nat.one_mul]
      exact ⟨by decide, rfl⟩
    · rw [if_neg h2]
      have e2 : 2 * FV b < U := by
        by_cases h0 : 1 ≤ e
        · obtain ⟨kept, k1, k2, _, k3⟩ := FV_exp he h0
          have e1 : 2 ^ 53 * 2 ^ (e - 1) ≤ 2 ^ (kU - 1) := by
            rw [← Nat.pow_add]
            exact Nat.pow_le_pow_right (by decide) (by omega)
          have e4 : 2 * 2 ^ (kU - 1) = U := (dbl kU (by omega)).trans hUe.symm
          rw [k3]
          have hz : 0 < 2 ^ (e - 1) := Nat.two_pow_pos _
          generalize 2 ^ (e - 1) = z at *
          have a1 : kept * z ≤ 9007199254740991 * z := Nat.mul_le_mul_right _ (by omega)
          generalize kept * z = y at *
          omega
        · have hlt : b < 4503599627370496 := by omega
          have : FV b = b := by unfold FV; rw [if_pos hlt]
          rw [this]
          have : 2 ^ 53 ≤ 2 ^ kU := Nat.pow_le_pow_right (by decide) (by omega)
          rw [← hUe] at this
          omega
      have e3 : (2 * FV b + U) / (2 * U) = 0 := Nat.div_eq_of_lt (by omega)
      rw [e3, Nat.zero_mul]
      exact ⟨by decide, FV_zero⟩
  · rw [if_neg h1]
    obtain ⟨kept, k1, k2, k0, k3⟩ := FV_exp he (by omega)
    obtain ⟨s, hs⟩ : ∃ s, s = 1075 - e := ⟨_, rfl⟩
    rw [← hs, show 1074 - e = s - 1 by omega]
    have hs1 : 1 ≤ s := by omega
    have hS : 0 < 2 ^ s := Nat.two_pow_pos _
    have hhalf : 2 * 2 ^ (s - 1) = 2 ^ s := dbl s hs1
    have h52 : 2 ^ (52 - s) * 2 ^ s = 4503599627370496 := pow_split (c := 52) (by omega)
    have hUs : 2 ^ s * 2 ^ (e - 1) = U := by rw [hUe]; exact pow_split (by omega)
    have hz : 0 < 2 ^ (e - 1) := Nat.two_pow_pos _
    obtain ⟨n, hn⟩ : ∃ n, n = (kept + 2 ^ (s - 1)) / 2 ^ s := ⟨_, rfl⟩
    have hr : (b + 2 ^ (s - 1)) / 2 ^ s * 2 ^ s = (e - 1) * 4503599627370496 + n * 2 ^ s := by
      rw [k0, hn, ← h52]
      have : (e - 1) * (2 ^ (52 - s) * 2 ^ s) + kept + 2 ^ (s - 1) = kept + 2 ^ (s - 1) + (e - 1) * 2 ^ (52 - s) * 2 ^ s := by
        rw [← Nat.mul_assoc]; omega
      rw [this, Nat.add_mul_div_right _ _ hS, Nat.add_mul, Nat.mul_assoc]
      omega
    have hlo : 4503599627370496 ≤ n * 2 ^ s := by
      rw [← h52]
      refine Nat.mul_le_mul_right _ ?_
      rw [hn, Nat.le_div_iff_mul_le hS, h52]
      omega
    have hhi : n * 2 ^ s ≤ 9007199254740992 := by
      have q : n < 2 * 2 ^ (52 - s) + 1 := by
        rw [hn, Nat.div_lt_iff_lt_mul hS, Nat.add_mul, Nat.mul_assoc, h52]
        omega
      have q2 : n ≤ 2 * 2 ^ (52 - s) := by omega
      have := Nat.mul_le_mul_right (2 ^ s) q2
      rw [Nat.mul_assoc, h52] at this
      exact this
    rw [hr, FV_mk _ _ hlo hhi]
    refine ⟨by unfold INF; omega, ?_⟩
    have hm : (2 * FV b + U) / (2 * U) = n := by
      rw [k3, ← hUs, hn]
      have q1 : 2 * (kept * 2 ^ (e - 1)) + 2 ^ s * 2 ^ (e - 1) = (kept + 2 ^ (s - 1)) * (2 * 2 ^ (e - 1)) := by
        rw [← hhalf, Nat.add_mul]
        have : 2 * (kept * 2 ^ (e - 1)) = kept * (2 * 2 ^ (e - 1)) := by ac_rfl
        rw [this]
        congr 1
        ac_rfl
      have q2 : 2 * (2 ^ s * 2 ^ (e - 1)) = 2 ^ s * (2 * 2 ^ (e - 1)) := by ac_rfl
      rw [q1, q2, Nat.mul_div_mul_right _ _ (by omega)]
    rw [hm, ← hUs]
    ac_rfl

end Go.Proofs.YtbmdbfidjdogmaaDoor
