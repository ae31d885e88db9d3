/-
A number multiplied by ten again and again, as a double: whether it comes to 10^15 is known. A real's sign by comparisons. Plain laws.
-/
import Derived.Test.YtbmdbfidjdogmaaDoorFloQ
import Derived.Test.YtbmdbfidjdogmaaDoorScaEq
import Derived.Test.YtbmdbfidjdogmaaDoorScaText
set_option linter.unusedVariables false
set_option linter.unusedSimpArgs false
namespace Go.Proofs.YtbmdbfidjdogmaaDoor
open Go Go.RowKit

abbrev TENW : Nat := 4621819117588971520
abbrev E15W : Nat := 4831355200913801216

def longW (M : Nat) : Nat → Nat
  | 0 => floatOfInt .f64 (M : Int)
  | i + 1 => (floatBits .mul .f64 (longW M i) TENW).getD 0

theorem FV_ten : TENW < INF ∧ FV TENW = 10 * 2 ^ kU := by decide +kernel
theorem FV_e15 : E15W < INF ∧ FV E15W = 1000000000000000 * 2 ^ kU := by decide +kernel

theorem up_step {F R Z : Nat} (h : R * 9007199254740992 ≤ F * 10 * 9007199254740993) (hF : F ≤ Z) : R ≤ Z * 32 := by omega
theorem dn_step {F R Z : Nat} (h : F * 10 * 9007199254740991 ≤ R * 9007199254740992) (hF : Z ≤ F) : Z ≤ R := by omega

theorem strip_le {a b c d U : Nat} (hU : 0 < U) (h : a * U * c ≤ b * (10 * U) * d) : a * c ≤ b * 10 * d := by
  refine Nat.le_of_mul_le_mul_right (c := U) ?_ hU
  have e1 : a * c * U = a * U * c := by ac_rfl
  have e2 : b * 10 * d * U = b * (10 * U) * d := by ac_rfl
  rw [e1, e2]; exact h

theorem strip_ge {a b c d U : Nat} (hU : 0 < U) (h : b * (10 * U) * d ≤ a * U * c) : b * 10 * d ≤ a * c := by
  refine Nat.le_of_mul_le_mul_right (c := U) ?_ hU
  have e1 : a * c * U = a * U * c := by ac_rfl
  have e2 : b * 10 * d * U = b * (10 * U) * d := by ac_rfl
  rw [e1, e2]; exact h

theorem big_low {A U R : Nat} (hA : 9007199254740992 ≤ A * 10) (h : A * U * 10 * 9007199254740991 ≤ R * 9007199254740992) : 1000000000000000 * U ≤ R := by
  have h1 : 9007199254740992 * U ≤ A * 10 * U := Nat.mul_le_mul_right _ hA
  have e : A * 10 * U = A * U * 10 := by ac_rfl
  rw [e] at h1
  generalize A * U * 10 = X at *
  omega

structure LongI (M : Nat) (U : Nat) (i : Nat) : Prop where
  fin : longW M i < INF
  small : M * 10 ^ i < 1000000000000000 → FV (longW M i) = M * 10 ^ i * U
  big : 1000000000000000 ≤ M * 10 ^ i → 1000000000000000 * U ≤ FV (longW M i)
  lo : U ≤ FV (longW M i)
  hi : FV (longW M i) ≤ 1000000000000000 * 32 ^ i * U

theorem long_step {M U i : Nat} (hUe : U = 2 ^ kU) (h1 : 1 ≤ M) (hi : i ≤ 23) (h : LongI M U i) : LongI M U (i + 1) ∧ floatBits .mul .f64 (longW M i) TENW = some (longW M (i + 1)) := by
  obtain ⟨u52, u250, hU⟩ := U_facts hUe
  obtain ⟨t1, t2⟩ := FV_ten
  rw [← hUe] at t2
  obtain ⟨f1, f2, f3, f4, f5⟩ := h
  have lo : U * 2 ^ 52 ≤ FV (longW M i) * FV TENW := by
    rw [t2]
    exact Nat.mul_le_mul f4 (Nat.le_trans u52 (Nat.le_mul_of_pos_left _ (by decide)))
  have hib : FV (longW M i) * FV TENW ≤ U * U * 2 ^ 250 := by
    rw [t2]
    refine Nat.le_trans (Nat.mul_le_mul_right _ f5) ?_
    have e : 1000000000000000 * 32 ^ i * U * (10 * U) = U * U * (1000000000000000 * 32 ^ i * 10) := by ac_rfl
    rw [e]
    refine Nat.mul_le_mul_left _ ?_
    have : 32 ^ i ≤ 32 ^ 23 := Nat.pow_le_pow_right (by decide) hi
    exact Nat.le_trans (Nat.mul_le_mul_right _ (Nat.mul_le_mul_left _ this)) (by decide +kernel)
  obtain ⟨r, r1, r2, r3, r4⟩ := mul_nearU hUe f1 t1 lo hib
  have hr : longW M (i + 1) = r := by
    show (floatBits .mul .f64 (longW M i) TENW).getD 0 = r
    rw [r1]; rfl
  rw [t2] at r3 r4
  have r3' := strip_le hU r3
  have r4' := strip_ge hU r4
  refine ⟨⟨by rw [hr]; exact r2, ?_, ?_, ?_, ?_⟩, by rw [hr]; exact r1⟩
  · intro hs
    rw [hr]
    rw [Nat.pow_succ, ← Nat.mul_assoc] at hs ⊢
    have hs1 : M * 10 ^ i < 1000000000000000 := by omega
    have hA1 : 1 ≤ M * 10 ^ i := Nat.mul_pos h1 (Nat.pow_pos (by decide))
    have hf := f2 hs1
    have hm := mul_int f1 t1 (by rw [← hUe]; exact hf) (by rw [← hUe]; exact t2) hA1 (by decide) (Nat.lt_of_lt_of_le hs (by decide))
    obtain rfl := Option.some.inj (r1.symm.trans hm)
    rw [(ofU_FV (Nat.lt_trans hs (by decide))).2, ← hUe]
  · intro hb
    rw [hr]
    rw [Nat.pow_succ, ← Nat.mul_assoc] at hb
    by_cases hs1 : M * 10 ^ i < 1000000000000000
    · have hA1 : 1 ≤ M * 10 ^ i := Nat.mul_pos h1 (Nat.pow_pos (by decide))
      have hf := f2 hs1
      by_cases h53 : M * 10 ^ i * 10 < 9007199254740992
      · have hm := mul_int f1 t1 (by rw [← hUe]; exact hf) (by rw [← hUe]; exact t2) hA1 (by decide) (Nat.lt_of_lt_of_le h53 (by decide))
        obtain rfl := Option.some.inj (r1.symm.trans hm)
        rw [(ofU_FV h53).2, ← hUe]
        exact Nat.mul_le_mul_right _ hb
      · rw [hf] at r4'
        exact big_low (by omega) r4'
    · exact dn_step r4' (f3 (by omega))
  · rw [hr]
    exact dn_step r4' f4
  · rw [hr]
    have := up_step r3' f5
    rw [Nat.pow_succ, ← Nat.mul_assoc, Nat.mul_right_comm _ 32 U]
    exact this

theorem long_inv {M U : Nat} (hUe : U = 2 ^ kU) (h1 : 1 ≤ M) (h2 : M < 1000000000000000) : ∀ i, i ≤ 24 → LongI M U i := by
  intro i
  induction i with
  | zero =>
    intro _
    obtain ⟨_, _, hU⟩ := U_facts hUe
    obtain ⟨a, b⟩ := ofU_FV (show M < 9007199254740992 by omega)
    rw [← hUe] at b
    refine ⟨a, fun _ => ?_, fun h => ?_, ?_, ?_⟩
    · show FV (floatOfInt .f64 (M : Int)) = _
      rw [b, Nat.pow_zero, Nat.mul_one]
    · rw [Nat.pow_zero, Nat.mul_one] at h; omega
    · show U ≤ FV (floatOfInt .f64 (M : Int))
      rw [b]; exact Nat.le_mul_of_pos_left _ h1
    · show FV (floatOfInt .f64 (M : Int)) ≤ _
      rw [b, Nat.pow_zero, Nat.mul_one]; exact Nat.mul_le_mul_right _ (Nat.le_of_lt h2)
  | succ i ih =>
    intro hi
    exact (long_step hUe h1 (by omega) (ih (by omega))).1

theorem long_mul {M i : Nat} (h1 : 1 ≤ M) (h2 : M < 1000000000000000) (hi : i ≤ 23) : floatBits .mul .f64 (longW M i) TENW = some (longW M (i + 1)) := by
  obtain ⟨U, hUe, _⟩ := exU
  exact (long_step hUe h1 hi (long_inv hUe h1 h2 i (by omega))).2

theorem low_digits : ∀ u : Nat, 1 ≤ u → 10 ^ (Lib.nDigits u - 1) ≤ u := by
  intro u
  induction u using Nat.strongRecOn with
  | _ u ih =>
    intro h1
    by_cases h : u < 10
    · rw [Lib.nDigits_small h]; exact h1
    · have := ih (u / 10) (by omega) (by omega)
      have hp := Lib.nDigits_pos (u / 10)
      rw [Lib.nDigits_big h, show Lib.nDigits (u / 10) + 1 - 1 = (Lib.nDigits (u / 10) - 1) + 1 by omega, Nat.pow_succ]
      omega

theorem digits_iff {M : Nat} (h1 : 1 ≤ M) (j : Nat) : M * 10 ^ j < 1000000000000000 ↔ Lib.nDigits M + j ≤ 15 := by
  have hlo := low_digits M h1
  have hhi := Lib.lt_pow_nDigits M
  have hp := Lib.nDigits_pos M
  have h15 : (1000000000000000 : Nat) = 10 ^ 15 := by decide
  rw [h15]
  constructor
  · intro h
    have h2 := Nat.lt_of_le_of_lt (Nat.mul_le_mul_right (10 ^ j) hlo) h
    rw [← Nat.pow_add] at h2
    have := (Nat.pow_lt_pow_iff_right (by decide : 1 < 10)).1 h2
    omega
  · intro h
    have h2 := Nat.mul_lt_mul_of_pos_right hhi (Nat.pow_pos (n := j) (by decide : 0 < 10))
    rw [← Nat.pow_add] at h2
    exact Nat.lt_of_lt_of_le h2 (Nat.pow_le_pow_right (by decide) h)

/-- Whether the double comes to 10^15. -/
theorem long_ge {M : Nat} (h1 : 1 ≤ M) (h2 : M < 1000000000000000) (i : Nat) (hi : i ≤ 24) : longW M i < INF ∧ (FV E15W ≤ FV (longW M i) ↔ ¬ (Lib.nDigits M + i ≤ 15)) := by
  obtain ⟨U, hUe, _, _, hU⟩ := exU
  obtain ⟨f1, f2, f3, f4, f5⟩ := long_inv hUe h1 h2 i hi
  rw [← digits_iff h1, FV_e15.2, ← hUe]
  refine ⟨f1, fun h q => ?_, fun h => f3 (by omega)⟩
  rw [f2 q] at h
  have := Nat.le_of_mul_le_mul_right h hU
  omega

/-- A double below nought, read. -/
theorem read_neg (r : Nat) (h : r < INF) : ∃ mag up : Nat, Ieee.double.read (9223372036854775808 + r) = .number true mag ((up : Int) - 1074) ∧ FV r = mag * 2 ^ up := by
  obtain ⟨mag, up, h1, h2⟩ := read_pos r h
  refine ⟨mag, up, ?_, h2⟩
  unfold INF at h
  unfold Ieee.Format.read at h1 ⊢
  rw [c_sign, c_bin, c_inf] at h1 ⊢
  have e1 : (9223372036854775808 + r) % 9223372036854775808 = r % 9223372036854775808 := by omega
  have e2 : ((9223372036854775808 + r) / 9223372036854775808 % 2 == 1) = true := by
    have : (9223372036854775808 + r) / 9223372036854775808 = 1 := by omega
    rw [this]; rfl
  rw [e1, e2]
  dsimp only at h1 ⊢
  split at h1
  · rename_i hc
    rw [if_pos hc]
    simp only [Ieee.Datum.number.injEq] at h1 ⊢
    exact ⟨trivial, h1.2.1, h1.2.2⟩
  · rename_i hc
    rw [if_neg hc]
    split at h1
    · rename_i hc2
      rw [if_pos hc2]
      simp only [Ieee.Datum.number.injEq] at h1 ⊢
      exact ⟨trivial, h1.2.1, h1.2.2⟩
    · rename_i hc2
      split at h1 <;> cases h1

theorem read_zero : Ieee.double.read 0 = .number false 0 (-1074) := by decide +kernel

theorem below_sgn {x : Nat} (hx : x < 18446744073709551616) (h : absW x ≤ INF) : belowF x = sgnF x := by
  unfold absW at h
  unfold belowF sgnF
  by_cases hs : 9223372036854775808 ≤ x
  · rw [if_pos hs, negW_eq hs hx] at h
    rw [decide_eq_true hs]
    obtain ⟨y, rfl⟩ : ∃ y, x = 9223372036854775808 + y := ⟨x - 9223372036854775808, by omega⟩
    rw [Nat.add_sub_cancel_left] at h
    rcases Nat.lt_or_eq_of_le h with hl | rfl
    · by_cases h0 : y = 0
      · subst h0
        decide +kernel
      · obtain ⟨mag, up, h1, h2⟩ := read_neg y hl
        have hpos := FV_pos (show 0 < y by omega)
        have hlt : (FloatKind.f64.format.order (9223372036854775808 + y) 0 == some .lt) = true := by
          show (Ieee.double.order _ 0 == some .lt) = true
          unfold Ieee.Format.order
          rw [h1, read_zero]
          show (some (compare (Ieee.signed true mag _) (Ieee.signed false 0 _)) == some Ordering.lt) = true
          have hm : 0 < mag := by
            rcases Nat.eq_zero_or_pos mag with q | q
            · rw [q, Nat.zero_mul] at h2; omega
            · exact q
          unfold Ieee.signed
          rw [if_pos rfl, if_neg (by decide), Nat.shiftLeft_eq, Nat.shiftLeft_eq, Nat.zero_mul]
          have : 0 < mag * 2 ^ ((up : Int) - 1074 - min ((up : Int) - 1074) (-1074)).toNat := Nat.mul_pos hm (Nat.two_pow_pos _)
          have hc : compare (-((mag * 2 ^ ((up : Int) - 1074 - min ((up : Int) - 1074) (-1074)).toNat : Nat) : Int)) ((0 : Nat) : Int) = .lt := by
            rw [Int.compare_eq_lt]
            omega
          rw [hc]
          rfl
        rw [hlt, Bool.true_or]
    · decide +kernel
  · rw [if_neg hs] at h
    rw [decide_eq_false hs]
    rcases Nat.lt_or_eq_of_le h with hl | rfl
    · have h1 : (FloatKind.f64.format.order x 0 == some .lt) = false := by
        rw [lt_FV hl (by decide), FV_zero, decide_eq_false (by omega)]
      rw [h1, Bool.false_or]
      by_cases h0 : x = 0
      · subst h0
        decide +kernel
      · have h2 : (FloatKind.f64.format.order x 0 == some .eq) = false := by
          rw [eq_FV hl (by decide), FV_zero, decide_eq_false]
          have := FV_pos (show 0 < x by omega)
          omega
        rw [h2, Bool.false_and]
    · decide +kernel

/-- What is no number is not equal to anything. -/
theorem eq_num {x y : Nat} (hx : x < 18446744073709551616) (h : eqF x y = true) : absW x ≤ INF := by
  rcases Nat.lt_or_ge INF (absW x) with q | q
  · exfalso
    have hr : ∃ s f, Ieee.double.read x = .nan s f := by
      unfold Ieee.Format.read
      rw [c_sign, c_bin, c_inf]
      unfold absW at q
      unfold INF at *
      by_cases hs : 9223372036854775808 ≤ x
      · rw [if_pos hs, negW_eq hs hx] at q
        have e1 : x % 9223372036854775808 = x - 9223372036854775808 := by omega
        dsimp only
        rw [e1, if_neg (by omega), if_neg (by omega), if_neg (by omega)]
        exact ⟨_, _, rfl⟩
      · rw [if_neg hs] at q
        have e1 : x % 9223372036854775808 = x := by omega
        dsimp only
        rw [e1, if_neg (by omega), if_neg (by omega), if_neg (by omega)]
        exact ⟨_, _, rfl⟩
    obtain ⟨s, f, hr⟩ := hr
    unfold eqF at h
    have h' : (Ieee.double.order x y == some .eq) = true := h
    unfold Ieee.Format.order at h'
    rw [hr] at h'
    cases h'
  · exact q

theorem order_sym_eq {x y : Nat} (h : eqF x y = true) : eqF y x = true := by
  unfold eqF at *
  have h' : (Ieee.double.order x y == some .eq) = true := h
  show (Ieee.double.order y x == some .eq) = true
  unfold Ieee.Format.order at *
  generalize Ieee.double.read x = a at *
  generalize Ieee.double.read y = b at *
  cases a with
  | nan s f => cases h'
  | infinity s =>
    cases b with
    | nan t g => cases h'
    | infinity t => cases s <;> cases t <;> first | rfl | cases h'
    | number t n j => cases s <;> cases h'
  | number s m i =>
    cases b with
    | nan t g => cases h'
    | infinity t => cases t <;> cases h'
    | number t n j =>
      have h2 : (compare (Ieee.signed s m (i - min i j).toNat) (Ieee.signed t n (j - min i j).toNat)) = .eq := by
        simpa [Ieee.Datum.order] using h'
      rw [Int.compare_eq_eq] at h2
      show (some (compare (Ieee.signed t n (j - min j i).toNat) (Ieee.signed s m (i - min j i).toNat)) == some Ordering.eq) = true
      rw [Int.min_comm j i, ← h2]
      simp

/-- Both Sames answer alike. -/
theorem same_eq {a b : Val} (ha : a.real < 18446744073709551616) (hb : b.real < 18446744073709551616) : sameG sgnF a b = sameG belowF a b := by
  unfold sameG
  have key : (eqF a.real b.real && (sgnF a.real == sgnF b.real)) = (eqF a.real b.real && (belowF a.real == belowF b.real)) := by
    cases h : eqF a.real b.real with
    | false => rfl
    | true =>
      rw [below_sgn ha (eq_num ha h), below_sgn hb (eq_num hb (order_sym_eq h))]
  rw [key]

end Go.Proofs.YtbmdbfidjdogmaaDoor
