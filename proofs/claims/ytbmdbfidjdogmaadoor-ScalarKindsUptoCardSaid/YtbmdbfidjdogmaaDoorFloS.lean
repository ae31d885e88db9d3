/-
What Decimal answers, and that it is one answer alone. Plain laws, no program.
-/
import Derived.Test.YtbmdbfidjdogmaaDoorFloR
set_option linter.unusedVariables false
set_option linter.unusedSimpArgs false
namespace Go.Proofs.YtbmdbfidjdogmaaDoor
open Go Ieee

/-- What Decimal answers of a double above nought. -/
def Dec (x : Nat) (M : Nat) (k : Int) (er : Int) : Prop :=
  (er = 0 ∧ -22 ≤ k ∧ k ≤ 22 ∧ Sol x k M ∧ ∀ k', k < k' → k' ≤ 22 → ∀ M', ¬ Sol x k' M') ∨ (er = 2 ∧ M = 0 ∧ k = 0 ∧ ∀ k', -22 ≤ k' → k' ≤ 22 → ∀ M', ¬ Sol x k' M')

theorem Dec.unique {x M M' : Nat} {k k' er er' : Int} (h : Dec x M k er) (h' : Dec x M' k' er') : M = M' ∧ k = k' ∧ er = er' := by
  rcases h with ⟨rfl, a1, a2, a3, a4⟩ | ⟨rfl, rfl, rfl, a4⟩
  · rcases h' with ⟨rfl, b1, b2, b3, b4⟩ | ⟨rfl, rfl, rfl, b4⟩
    · rcases Int.lt_trichotomy k k' with q | rfl | q
      · exact absurd b3 (a4 k' q b2 M')
      · exact ⟨Sol.unique a1 a2 a3 b3, rfl, rfl⟩
      · exact absurd a3 (b4 k q a2 M)
    · exact absurd a3 (b4 k a1 a2 M)
  · rcases h' with ⟨rfl, b1, b2, b3, b4⟩ | ⟨rfl, rfl, rfl, b4⟩
    · exact absurd b3 (a4 k' b1 b2 M')
    · exact ⟨rfl, rfl, rfl⟩

/-- Twice 10^15, as a double. -/
abbrev MOST2 : Nat := 4835858800541171712

theorem FV_most : MOST2 < INF ∧ FV MOST2 = 2000000000000000 * 2 ^ kU := by decide +kernel
theorem FV_max : FV 9218868437227405311 = 9007199254740991 * 2 ^ (kU + 971) := by decide +kernel

theorem FV_le_max {x : Nat} (hx : x < INF) : FV x ≤ FV 9218868437227405311 := by
  rw [FV_max]
  have hk := kU_eq
  unfold INF at hx
  by_cases h : 1 ≤ x / 4503599627370496
  · obtain ⟨kept, k1, k2, k0, k3⟩ := FV_exp rfl h
    rw [k3]
    exact Nat.mul_le_mul (by omega) (Nat.pow_le_pow_right (by decide) (by omega))
  · have : FV x = x := by unfold FV; rw [if_pos (by omega)]
    rw [this]
    exact Nat.le_trans (show x ≤ 9007199254740991 by omega) (Nat.le_mul_of_pos_right _ (Nat.two_pow_pos _))

theorem bound_up {F A U : Nat} (h : F * KK ≤ A * 1152921504606847492) (hA : A ≤ 1000000000000000 * U) : F ≤ 2000000000000000 * U := by
  refine Nat.le_of_mul_le_mul_right (Nat.le_trans h ?_) (show 0 < KK by decide)
  refine Nat.le_trans (Nat.mul_le_mul_right _ hA) ?_
  rw [Nat.mul_right_comm, Nat.mul_right_comm 2000000000000000]
  exact Nat.mul_le_mul_right _ (by decide)

/-- Where there is a solution at or below this power the guess is not too great. -/
theorem Sol.not_most {U : Nat} (hUe : U = 2 ^ kU) {x M : Nat} {k kk : Int} (h : Sol x k M) (hx : x < INF) (hk1 : -22 ≤ k) (hkk : k ≤ kk) (hk2 : kk ≤ 22) {g1 G : Nat} (hg : Guess x kk.toNat (-kk).toNat g1 G) :
    G < INF ∧ FV G ≤ 2000000000000000 * U := by
  obtain ⟨h1, h2, _⟩ := h.guess hUe hx hk1 hkk hk2 hg
  exact ⟨h1, bound_up h2 (Nat.mul_le_mul_right _ (Nat.le_of_lt h.2.1))⟩

theorem e1032 (A : Nat) : A * 1032 = 2 * (A * 516) := by omega
theorem lin_up (f a c u : Nat) (h : f ≤ a + c) (e3 : 2 * c < u) : 2 * f < 2 * a + u := by omega
theorem lin_dn (f a b c u : Nat) (h2 : b ≤ f) (e2 : a = b + c) (e3 : 2 * c < u) : 2 * a ≤ 2 * f + u := by omega

theorem near_half {F A U : Nat} (hU : 0 < U) (h : F * KK ≤ A * 1152921504606847492) (h2 : A * 1152921504606846460 ≤ F * KK) (hA : A ≤ 1000000000000000 * U) : 2 * F < 2 * A + U ∧ 2 * A ≤ 2 * F + U := by
  have e1 : A * 1152921504606847492 = A * KK + A * 516 := by rw [← Nat.mul_add]
  have e2 : A * KK = A * 1152921504606846460 + A * 516 := by rw [← Nat.mul_add]
  have e3 : A * 1032 < U * KK := by
    refine Nat.lt_of_le_of_lt (Nat.mul_le_mul_right _ hA) ?_
    rw [Nat.mul_right_comm, Nat.mul_comm U]
    exact Nat.mul_lt_mul_of_pos_right (by decide) hU
  rw [e1032] at e3
  constructor
  · refine Nat.lt_of_mul_lt_mul_right (a := KK) ?_
    rw [Nat.add_mul, Nat.mul_assoc, Nat.mul_assoc]
    rw [e1] at h
    exact lin_up _ _ _ _ h e3
  · refine Nat.le_of_mul_le_mul_right (c := KK) ?_ (by decide)
    rw [Nat.add_mul, Nat.mul_assoc, Nat.mul_assoc]
    exact lin_dn _ _ _ _ _ h2 e2 e3

/-- .. and rounds to it. -/
theorem Sol.rounds {U : Nat} (hUe : U = 2 ^ kU) {x M : Nat} {k : Int} (h : Sol x k M) (hx : x < INF) (hk1 : -22 ≤ k) (hk2 : k ≤ 22) {g1 G : Nat} (hg : Guess x k.toNat (-k).toNat g1 G) : (2 * FV G + U) / (2 * U) = M := by
  obtain ⟨_, _, hU⟩ := U_facts hUe
  obtain ⟨_, h2, h3⟩ := h.guess hUe hx hk1 (Int.le_refl k) hk2 hg
  obtain ⟨a1, a2⟩ := near_half hU h2 (h3 rfl) (Nat.mul_le_mul_right _ (Nat.le_of_lt h.2.1))
  have e1 : M * (2 * U) = 2 * (M * U) := by ac_rfl
  rw [Nat.div_eq_iff (by omega)]
  rw [e1]
  generalize M * U = A at *
  omega

/-- The guess as an integer. -/
theorem guess_int {U : Nat} (hUe : U = 2 ^ kU) {G : Nat} (hG : G < INF) (hm : FV G ≤ 2000000000000000 * U) :
    G / 4503599627370496 < 1075 ∧ floatToIntVal .f64 (roundW G) .u64 = some (((2 * FV G + U) / (2 * U) : Nat) : Int) ∧ (2 * FV G + U) / (2 * U) ≤ 3000000000000000 := by
  obtain ⟨_, _, hU⟩ := U_facts hUe
  have hk := kU_eq
  have h1 : G / 4503599627370496 < 1075 := by
    rcases Nat.lt_or_ge (G / 4503599627370496) 1075 with h | h
    · exact h
    · obtain ⟨kept, k1, k2, k0, k3⟩ := FV_exp (b := G) rfl (by omega)
      have h5 : 2 ^ kU ≤ 2 ^ (G / 4503599627370496 - 1) := Nat.pow_le_pow_right (by decide) (by omega)
      rw [← hUe] at h5
      have h6 : 4503599627370496 * U ≤ FV G := by rw [k3]; exact Nat.mul_le_mul k1 h5
      have h7 : 4503599627370496 * U ≤ 2000000000000000 * U := Nat.le_trans h6 hm
      have := Nat.le_of_mul_le_mul_right h7 hU
      omega
  obtain ⟨r1, r2⟩ := round_ok hUe h1
  have hn : (2 * FV G + U) / (2 * U) ≤ 3000000000000000 := by
    have : (2 * FV G + U) / (2 * U) < 3000000000000001 := by
      rw [Nat.div_lt_iff_lt_mul (by omega)]
      generalize FV G = F at *
      omega
    omega
  refine ⟨h1, ?_, hn⟩
  unfold floatToIntVal
  rw [toInt_FV r1, r2, ← hUe, Nat.mul_div_cancel _ hU]
  generalize (2 * FV G + U) / (2 * U) = n at *
  have hr : IntKind.u64.min ≤ (n : Int) ∧ (n : Int) ≤ IntKind.u64.max := by
    have e1 : IntKind.u64.min = 0 := by decide
    have e2 : IntKind.u64.max = 18446744073709551615 := by decide +kernel
    rw [e1, e2]
    omega
  show (if IntKind.u64.min ≤ (n : Int) ∧ (n : Int) ≤ IntKind.u64.max then some (n : Int) else none) = _
  rw [if_pos hr]

/-- Too great a guess, an infinity too. -/
theorem gt_most {G : Nat} (hG : G ≤ INF) {U : Nat} (hUe : U = 2 ^ kU) : (FloatKind.f64.format.order G MOST2 == some .gt) = decide (¬ (G < INF ∧ FV G ≤ 2000000000000000 * U)) := by
  rcases Nat.lt_or_eq_of_le hG with h | rfl
  · rw [gt_FV h FV_most.1, FV_most.2, ← hUe]
    congr 1
    simp only [eq_iff_iff]
    constructor
    · rintro q ⟨_, q2⟩
      omega
    · intro q
      rcases Nat.lt_or_ge (2000000000000000 * U) (FV G) with q2 | q2
      · exact q2
      · exact absurd ⟨h, q2⟩ q
  · have : ¬ (INF < INF ∧ FV INF ≤ 2000000000000000 * U) := fun q => absurd q.1 (Nat.lt_irrefl _)
    rw [decide_eq_true this]
    decide +kernel

end Go.Proofs.YtbmdbfidjdogmaaDoor
