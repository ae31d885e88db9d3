/-
Comparisons, conversions, the powers of ten, and numbers scaled by them. Plain laws, no program.
-/
import Derived.Test.YthpflfcgnaichaaDoorFloB
import Derived.WalkLawsBesides
set_option linter.unusedVariables false
set_option linter.unusedSimpArgs false
namespace Go.Proofs.YthpflfcgnaichaaDoor
open Go Ieee

theorem cmp3 (x y k : Nat) (hk : 0 < k) : compare ((x : Nat) : Int) ((y : Nat) : Int) = compare (x * k) (y * k) := by
  rcases Nat.lt_trichotomy x y with h | h | h
  · have h2 : x * k < y * k := Nat.mul_lt_mul_of_pos_right h hk
    rw [Int.compare_eq_lt.2 (by omega), Nat.compare_eq_lt.2 h2]
  · subst h
    rw [Int.compare_eq_eq.2 rfl, Nat.compare_eq_eq.2 rfl]
  · have h2 : y * k < x * k := Nat.mul_lt_mul_of_pos_right h hk
    rw [Int.compare_eq_gt.2 (by omega), Nat.compare_eq_gt.2 h2]

theorem order_FV {a b : Nat} (ha : a < INF) (hb : b < INF) : double.order a b = some (compare (FV a) (FV b)) := by
  obtain ⟨m, ua, hra, hva⟩ := read_pos a ha
  obtain ⟨n, ub, hrb, hvb⟩ := read_pos b hb
  unfold Format.order
  rw [hra, hrb]
  show some (compare (signed false m ((ua : Int) - 1074 - min ((ua : Int) - 1074) ((ub : Int) - 1074)).toNat) (signed false n ((ub : Int) - 1074 - min ((ua : Int) - 1074) ((ub : Int) - 1074)).toNat)) = _
  have e1 : ((ua : Int) - 1074 - min ((ua : Int) - 1074) ((ub : Int) - 1074)).toNat = ua - min ua ub := by omega
  have e2 : ((ub : Int) - 1074 - min ((ua : Int) - 1074) ((ub : Int) - 1074)).toNat = ub - min ua ub := by omega
  rw [e1, e2]
  have s1 : ∀ x k : Nat, signed false x k = ((x * 2 ^ k : Nat) : Int) := fun x k => by unfold signed; rw [if_neg (by decide), Nat.shiftLeft_eq]
  rw [s1, s1, cmp3 _ _ (2 ^ min ua ub) (Nat.two_pow_pos _), Nat.mul_assoc, Nat.mul_assoc, pow_split (show ua - min ua ub + min ua ub = ua by omega), pow_split (show ub - min ua ub + min ua ub = ub by omega), hva, hvb]

theorem eq_FV {a b : Nat} (ha : a < INF) (hb : b < INF) : (FloatKind.f64.format.order a b == some .eq) = decide (FV a = FV b) := by
  rw [fmt64, order_FV ha hb]
  rcases Nat.lt_trichotomy (FV a) (FV b) with h | h | h
  · rw [Nat.compare_eq_lt.2 h, decide_eq_false (by omega)]; rfl
  · rw [Nat.compare_eq_eq.2 h, decide_eq_true h]; rfl
  · rw [Nat.compare_eq_gt.2 h, decide_eq_false (by omega)]; rfl

theorem lt_FV {a b : Nat} (ha : a < INF) (hb : b < INF) : (FloatKind.f64.format.order a b == some .lt) = decide (FV a < FV b) := by
  rw [fmt64, order_FV ha hb]
  rcases Nat.lt_trichotomy (FV a) (FV b) with h | h | h
  · rw [Nat.compare_eq_lt.2 h, decide_eq_true h]; rfl
  · rw [Nat.compare_eq_eq.2 h, decide_eq_false (by omega)]; rfl
  · rw [Nat.compare_eq_gt.2 h, decide_eq_false (by omega)]; rfl

theorem gt_FV {a b : Nat} (ha : a < INF) (hb : b < INF) : (FloatKind.f64.format.order a b == some .gt) = decide (FV b < FV a) := by
  rw [fmt64, order_FV ha hb]
  rcases Nat.lt_trichotomy (FV a) (FV b) with h | h | h
  · rw [Nat.compare_eq_lt.2 h, decide_eq_false (by omega)]; rfl
  · rw [Nat.compare_eq_eq.2 h, decide_eq_false (by omega)]; rfl
  · rw [Nat.compare_eq_gt.2 h, decide_eq_true h]; rfl

/-- A double made an integer. -/
theorem toInt_FV {r : Nat} (h : r < INF) : (FloatKind.f64.decode r).toInt .zero = some ((FV r / 2 ^ kU : Nat) : Int) := by
  have hk := kU_eq
  obtain ⟨m, up, hr, hv⟩ := read_pos r h
  have hd : FloatKind.f64.decode r = .number false m ((up : Int) - 1074) := hr
  rw [hd]
  show some (signed false (Toward.zero.cut false (m <<< ((up : Int) - 1074).toNat) (-((up : Int) - 1074)).toNat) 0) = _
  have s1 : ∀ x k : Nat, signed false x k = ((x * 2 ^ k : Nat) : Int) := fun x k => by unfold signed; rw [if_neg (by decide), Nat.shiftLeft_eq]
  have hc : ∀ n d : Nat, Toward.zero.cut false n d = n / 2 ^ d := by
    intro n d
    unfold Toward.cut
    simp only [Nat.one_shiftLeft, Bool.toNat_false, Nat.add_zero]
    by_cases hd : d ≤ n.log2 + 2
    · rw [Nat.min_eq_left hd]
    · rw [Nat.min_eq_right (by omega)]
      have h1 : n < 2 ^ (n.log2 + 1) := Nat.lt_log2_self
      have h2 : 2 ^ (n.log2 + 1) ≤ 2 ^ (n.log2 + 2) := Nat.pow_le_pow_right (by decide) (by omega)
      have h3 : 2 ^ (n.log2 + 1) ≤ 2 ^ d := Nat.pow_le_pow_right (by decide) (by omega)
      rw [Nat.div_eq_of_lt (Nat.lt_of_lt_of_le h1 h2), Nat.div_eq_of_lt (Nat.lt_of_lt_of_le h1 h3)]
  rw [hc, s1, Nat.shiftLeft_eq, Nat.pow_zero, Nat.mul_one, hv]
  congr 2
  by_cases hu : kU ≤ up
  · have e1 : ((up : Int) - 1074).toNat = up - kU := by omega
    have e2 : (-((up : Int) - 1074)).toNat = 0 := by omega
    rw [e1, e2, Nat.pow_zero, Nat.div_one, ← pow_split (show up - kU + kU = up by omega), ← Nat.mul_assoc, Nat.mul_div_cancel _ (Nat.two_pow_pos _)]
  · have e1 : ((up : Int) - 1074).toNat = 0 := by omega
    have e2 : (-((up : Int) - 1074)).toNat = kU - up := by omega
    rw [e1, e2, Nat.pow_zero, Nat.mul_one, ← pow_split (show kU - up + up = kU by omega), Nat.mul_div_mul_right _ _ (Nat.two_pow_pos _)]

/-- A number below 2^53 is a double itself. -/
theorem ofU_FV {m : Nat} (h : m < 9007199254740992) : floatOfInt .f64 (m : Int) < INF ∧ FV (floatOfInt .f64 (m : Int)) = m * 2 ^ kU := by
  have hk := kU_eq
  have e : floatOfInt .f64 (m : Int) = double.nearest false m 0 := by
    show double.nearest (decide ((m : Int) < 0)) m 0 = _
    rw [decide_eq_false (by omega)]
  rw [e]
  by_cases h0 : m = 0
  · subst h0
    have : double.nearest false 0 0 = 0 := by
      unfold Format.nearest
      rw [if_pos rfl, word_false]
    rw [this]
    exact ⟨by decide, by unfold FV; rw [if_pos (by decide), Nat.zero_mul]⟩
  · have lo : 2 ^ (kU - 1022) ≤ m * 2 ^ kU := Nat.le_trans (Nat.pow_le_pow_right (by decide) (by omega)) (Nat.le_mul_of_pos_left _ (by omega))
    have hi : m * 2 ^ kU < 2 ^ (kU + 1023) := by
      have h1 : m * 2 ^ kU < 2 ^ 53 * 2 ^ kU := Nat.mul_lt_mul_of_pos_right h (Nat.two_pow_pos _)
      rw [← Nat.pow_add] at h1
      exact Nat.lt_of_lt_of_le h1 (Nat.pow_le_pow_right (by decide) (by omega))
    obtain ⟨h1, _, _, h4⟩ := nearest_near m 0 kU kU (by omega) (by omega) lo hi
    have h5 := h4 h
    rw [show kU - 1074 = 0 by omega, Nat.pow_zero, Nat.mul_one] at h5
    exact ⟨h1, h5⟩

/-- The powers of ten as both packages make them. -/
def tenW : Nat → Nat
  | 0 => 4607182418800017408
  | k + 1 => (floatBits .mul .f64 (tenW k) 4621819117588971520).getD 0

theorem tenW_ok : ∀ k, k < 23 → tenW k < INF ∧ FV (tenW k) = 10 ^ k * 2 ^ kU ∧ (floatBits .mul .f64 (tenW k) 4621819117588971520 = some (tenW (k + 1))) := by
  decide +kernel

end Go.Proofs.YthpflfcgnaichaaDoor
