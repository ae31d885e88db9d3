/-
Products, quotients, comparisons and conversions of doubles that are not below nought, by their magnitudes. Plain laws, no program.
-/
import Derived.Test.YthpflfcgnaichaaDoorFlo
set_option linter.unusedVariables false
set_option linter.unusedSimpArgs false
namespace Go.Proofs.YthpflfcgnaichaaDoor
open Go Ieee

/-- 2^1074 units are one. -/
def kU : Nat := 1074
theorem kU_eq : kU = 1074 := rfl

theorem fmt64 : FloatKind.f64.format = double := rfl

theorem mul_eq {a b m ua n ub : Nat} (ha : double.read a = .number false m ((ua : Int) - 1074)) (hb : double.read b = .number false n ((ub : Int) - 1074)) :
    floatBits .mul .f64 a b = some (double.nearest false (m * n) (((ua + ub : Nat) : Int) - (kU + kU : Nat))) := by
  have hk := kU_eq
  show double.mul a b = _
  unfold Format.mul
  rw [ha, hb]
  show some (double.nearest (false ^^ false) (m * n) ((ua : Int) - 1074 + ((ub : Int) - 1074))) = _
  have e : (ua : Int) - 1074 + ((ub : Int) - 1074) = ((ua + ub : Nat) : Int) - (kU + kU : Nat) := by omega
  rw [e]
  rfl

/-- A product of two magnitudes. -/
theorem mul_near {a b : Nat} (ha : a < INF) (hb : b < INF) (lo : 2 ^ (kU + 52) ≤ FV a * FV b) (hi : FV a * FV b < 2 ^ (kU + kU + 1023)) :
    ∃ r, floatBits .mul .f64 a b = some r ∧ r < INF ∧ FV r * 2 ^ kU * 9007199254740992 ≤ FV a * FV b * 9007199254740993 ∧ FV a * FV b * 9007199254740991 ≤ FV r * 2 ^ kU * 9007199254740992 := by
  have hk := kU_eq
  obtain ⟨m, ua, hra, hva⟩ := read_pos a ha
  obtain ⟨n, ub, hrb, hvb⟩ := read_pos b hb
  have e : FV a * FV b = m * n * 2 ^ (ua + ub) := by rw [hva, hvb, Nat.pow_add, Nat.mul_mul_mul_comm]
  rw [e] at lo hi ⊢
  obtain ⟨h1, h2, h3, _⟩ := nearest_near (m * n) _ (kU + kU) (ua + ub) rfl (by omega) (by rw [show kU + kU - 1022 = kU + 52 by omega]; exact lo) hi
  rw [show kU + kU - 1074 = kU by omega] at h2 h3
  exact ⟨_, mul_eq hra hrb, h1, h2, h3⟩

/-- It is always a number or an infinity. -/
theorem mul_some {a b : Nat} (ha : a ≤ INF) (hb : b < INF) (hb0 : 0 < FV b) : ∃ r, floatBits .mul .f64 a b = some r ∧ r ≤ INF := by
  obtain ⟨n, ub, hrb, hvb⟩ := read_pos b hb
  rcases Nat.lt_or_eq_of_le ha with h | rfl
  · obtain ⟨m, ua, hra, hva⟩ := read_pos a h
    exact ⟨_, mul_eq hra hrb, nearest_le _ _⟩
  · have hn : n ≠ 0 := by rintro rfl; rw [Nat.zero_mul] at hvb; omega
    refine ⟨INF, ?_, Nat.le_refl _⟩
    show double.mul INF b = _
    unfold Format.mul
    rw [read_inf, hrb]
    show (if n = 0 then none else some (Datum.infinity (false ^^ false))).map double.write = _
    rw [if_neg hn]
    show some (double.word false double.infRung) = _
    rw [word_false, c_inf]

theorem alg1 (R U W n s Z m c c1 e e1 : Nat) (hW : 0 < W) (h1 : R * (U * W) * c ≤ s * Z * c1) (h2 : s * n * e1 ≤ e * (m * W)) : R * (n * U) * (c * e1) ≤ m * Z * (e * c1) := by
  refine Nat.le_of_mul_le_mul_right ?_ hW
  have q1 := Nat.mul_le_mul_right (n * e1) h1
  have q2 := Nat.mul_le_mul_right (Z * c1) h2
  have r1 : R * (n * U) * (c * e1) * W = R * (U * W) * c * (n * e1) := by ac_rfl
  have r2 : s * Z * c1 * (n * e1) = s * n * e1 * (Z * c1) := by ac_rfl
  have r3 : e * (m * W) * (Z * c1) = m * Z * (e * c1) * W := by ac_rfl
  rw [r1, ← r3]
  exact Nat.le_trans q1 (r2 ▸ q2)

theorem alg2 (R U W n s Z m c c0 e e2 : Nat) (hW : 0 < W) (h1 : s * Z * c0 ≤ R * (U * W) * c) (h2 : e * (m * W) ≤ s * n * e2) : m * Z * (e * c0) ≤ R * (n * U) * (c * e2) := by
  refine Nat.le_of_mul_le_mul_right ?_ hW
  have q1 := Nat.mul_le_mul_right (n * e2) h1
  have q2 := Nat.mul_le_mul_right (Z * c0) h2
  have r1 : R * (n * U) * (c * e2) * W = R * (U * W) * c * (n * e2) := by ac_rfl
  have r2 : s * Z * c0 * (n * e2) = s * n * e2 * (Z * c0) := by ac_rfl
  have r3 : e * (m * W) * (Z * c0) = m * Z * (e * c0) * W := by ac_rfl
  rw [r1, ← r3]
  exact Nat.le_trans (r2 ▸ q2) q1

theorem div_eq {a b m ua n ub : Nat} (ha : double.read a = .number false m ((ua : Int) - 1074)) (hb : double.read b = .number false n ((ub : Int) - 1074)) (hn : n ≠ 0) :
    floatBits .quo .f64 a b = some (double.nearest false (2 * (m <<< (54 + n.log2 - m.log2) / n) + (m <<< (54 + n.log2 - m.log2) % n != 0).toNat) (((ua + kU : Nat) : Int) - ((ub + (54 + n.log2 - m.log2) + kU + 1 : Nat) : Int))) := by
  have hk := kU_eq
  show double.div a b = _
  unfold Format.div
  rw [ha, hb]
  unfold Datum.quotient
  dsimp only
  rw [if_neg hn]
  show some (double.nearest (false ^^ false) (2 * (m <<< (54 + n.log2 - m.log2) / n) + (m <<< (54 + n.log2 - m.log2) % n != 0).toNat) ((ua : Int) - 1074 - ((ub : Int) - 1074) - ((54 + n.log2 - m.log2 : Nat) : Int) - 1)) = _
  have e : (ua : Int) - 1074 - ((ub : Int) - 1074) - ((54 + n.log2 - m.log2 : Nat) : Int) - 1 = ((ua + kU : Nat) : Int) - ((ub + (54 + n.log2 - m.log2) + kU + 1 : Nat) : Int) := by omega
  rw [e]
  rfl

theorem div_some {a b : Nat} (ha : a ≤ INF) (hb : b < INF) (hb0 : 0 < FV b) : ∃ r, floatBits .quo .f64 a b = some r ∧ r ≤ INF := by
  obtain ⟨n, ub, hrb, hvb⟩ := read_pos b hb
  have hn : n ≠ 0 := by rintro rfl; rw [Nat.zero_mul] at hvb; omega
  rcases Nat.lt_or_eq_of_le ha with h | rfl
  · obtain ⟨m, ua, hra, hva⟩ := read_pos a h
    exact ⟨_, div_eq hra hrb hn, nearest_le _ _⟩
  · refine ⟨INF, ?_, Nat.le_refl _⟩
    show double.div INF b = _
    unfold Format.div
    rw [read_inf, hrb]
    show some (double.word (false ^^ false) double.infRung) = _
    show some (double.word false double.infRung) = _
    rw [word_false, c_inf]

theorem p4 (n a b c : Nat) : 4 * (n * 2 ^ a * 2 ^ b * 2 ^ c) = 2 ^ (2 + a + b + c) * n := by
  rw [Nat.pow_add, Nat.pow_add, Nat.pow_add, show (2 : Nat) ^ 2 = 4 from rfl]
  ac_rfl

theorem eadd (u k m : Nat) : 2 + u + (k + 1016) + m = u + k + 1018 + m := by omega

theorem num0 (x y n e e1 : Nat) (he : e = e1 + 1) (h1 : x ≤ y + n) (h2 : n * e ≤ x) : x * e1 ≤ e * y := by
  subst he
  have h := Nat.mul_le_mul_right (e1 + 1) h1
  rw [Nat.add_mul, Nat.mul_succ x] at h
  rw [Nat.mul_comm (e1 + 1) y]
  generalize n * (e1 + 1) = p at *
  generalize y * (e1 + 1) = q at *
  omega

theorem num00 (x y n e e2 : Nat) (he : e2 = e + 1) (h1 : y ≤ x + n) (h2 : n * e ≤ x) : e * y ≤ x * e2 := by
  subst he
  have h := Nat.mul_le_mul_right e h1
  rw [Nat.add_mul] at h
  rw [Nat.mul_succ, Nat.mul_comm e y]
  generalize n * e = p at *
  generalize y * e = q at *
  omega

/-- Bounds with another denominator. -/
theorem ratio (Y A p q K K1 : Nat) (hp : 0 < p) (h : Y * p ≤ A * q) (hk : K * q ≤ K1 * p) : Y * K ≤ A * K1 := by
  refine Nat.le_of_mul_le_mul_right ?_ hp
  have q1 := Nat.mul_le_mul_right K h
  have q2 := Nat.mul_le_mul_left A hk
  have r1 : Y * K * p = Y * p * K := by ac_rfl
  have r2 : A * q * K = A * (K * q) := by ac_rfl
  have r3 : A * (K1 * p) = A * K1 * p := by ac_rfl
  rw [r1, ← r3]
  exact Nat.le_trans q1 (r2 ▸ q2)

/-- A quotient of two magnitudes. -/
theorem div_near {a b : Nat} (ha : a < INF) (hb : b < INF) (hb0 : 0 < FV b) (lo : FV b * 2 ^ 54 ≤ FV a * 2 ^ kU) (hi : FV a * 2 ^ kU ≤ FV b * 2 ^ (kU + 1016)) :
    ∃ r, floatBits .quo .f64 a b = some r ∧ r < INF ∧ FV r * FV b * 1152921504606846976 ≤ FV a * 2 ^ kU * 1152921504606847169 ∧ FV a * 2 ^ kU * 1152921504606846783 ≤ FV r * FV b * 1152921504606846976 := by
  have hk := kU_eq
  obtain ⟨m, ua, hra, hva⟩ := read_pos a ha
  obtain ⟨n, ub, hrb, hvb⟩ := read_pos b hb
  have hn : n ≠ 0 := by rintro rfl; rw [Nat.zero_mul] at hvb; omega
  have hm : m ≠ 0 := by
    rintro rfl
    rw [hva, Nat.zero_mul, Nat.zero_mul] at lo
    have := Nat.mul_pos hb0 (Nat.two_pow_pos 54)
    omega
  have heq := div_eq hra hrb hn
  obtain ⟨more, hmore⟩ : ∃ more, more = 54 + n.log2 - m.log2 := ⟨_, rfl⟩
  rw [← hmore, Nat.shiftLeft_eq] at heq
  obtain ⟨d, hd⟩ : ∃ d, d = m * 2 ^ more := ⟨_, rfl⟩
  rw [← hd] at heq
  obtain ⟨s, hs⟩ : ∃ s, s = 2 * (d / n) + (d % n != 0).toNat := ⟨_, rfl⟩
  rw [← hs] at heq
  have hn0 : 0 < n := Nat.pos_of_ne_zero hn
  have hdm := Nat.div_add_mod d n
  have hml := Nat.mod_lt d hn0
  -- the dividend has digits enough
  have hbig : n * 2 ^ 53 ≤ d := by
    have h1 : 2 ^ m.log2 ≤ m := Nat.log2_self_le hm
    have h2 : n < 2 ^ (n.log2 + 1) := Nat.lt_log2_self
    have h3 : 2 ^ m.log2 * 2 ^ more ≤ d := by rw [hd]; exact Nat.mul_le_mul_right _ h1
    rw [← Nat.pow_add] at h3
    have h4 : 2 ^ (n.log2 + 54) ≤ 2 ^ (m.log2 + more) := Nat.pow_le_pow_right (by decide) (by omega)
    have h5 : n * 2 ^ 53 ≤ 2 ^ (n.log2 + 1) * 2 ^ 53 := Nat.mul_le_mul_right _ (Nat.le_of_lt h2)
    rw [pow_split (show n.log2 + 1 + 53 = n.log2 + 54 by omega)] at h5
    exact Nat.le_trans h5 (Nat.le_trans h4 h3)
  have hq : 2 ^ 53 ≤ d / n := (Nat.le_div_iff_mul_le hn0).2 (by rw [Nat.mul_comm]; exact hbig)
  have hs54 : 2 ^ 54 ≤ s := by rw [hs]; omega
  have hsn : s * n ≤ 2 * d + n ∧ 2 * d ≤ s * n + n := by
    rw [hs, Nat.add_mul, Nat.mul_assoc, Nat.mul_comm (d / n) n]
    by_cases h0 : d % n = 0
    · have e0 : (d % n != 0).toNat = 0 := by simp [h0]
      rw [e0, Nat.zero_mul]; omega
    · have e0 : (d % n != 0).toNat = 1 := by simp [h0]
      rw [e0, Nat.one_mul]; omega
  have hnd : n ≤ d := Nat.le_trans (Nat.le_mul_of_pos_right n (Nat.two_pow_pos 53)) hbig
  have hs54n : n * 18014398509481984 ≤ s * n := by
    have := Nat.mul_le_mul_right n hs54
    rw [Nat.mul_comm n]
    exact this
  have h2d : 2 * d = m * 2 ^ (more + 1) := by rw [hd, Nat.pow_succ]; ac_rfl
  -- the two bounds of 'nearest'
  have hX : ∀ k, s * n * 2 ^ k = s * 2 ^ k * n := fun k => Nat.mul_right_comm ..
  have ha1 : FV a * 2 ^ kU = m * 2 ^ (ua + kU) := by rw [hva, Nat.mul_assoc, ← Nat.pow_add]
  have hda : d * 2 ^ (ua + kU) = FV a * 2 ^ kU * 2 ^ more := by rw [ha1, hd, Nat.mul_right_comm]
  have blo : 2 ^ (ub + more + kU + 1 - 1022) ≤ s * 2 ^ (ua + kU) := by
    have h1 : d * 2 ^ (ua + kU) ≤ s * n * 2 ^ (ua + kU) := Nat.mul_le_mul_right _ (by omega)
    have h2 : FV b * 2 ^ 54 * 2 ^ more ≤ FV a * 2 ^ kU * 2 ^ more := Nat.mul_le_mul_right _ lo
    have h3 : FV b * 2 ^ 54 * 2 ^ more = 2 ^ (ub + 54 + more) * n := by
      rw [hvb, Nat.mul_assoc, Nat.mul_assoc, ← Nat.pow_add, ← Nat.pow_add, Nat.mul_comm, Nat.add_assoc]
    rw [hda, hX] at h1
    rw [h3] at h2
    have h4 := Nat.le_of_mul_le_mul_right (Nat.le_trans h2 h1) hn0
    exact Nat.le_trans (Nat.pow_le_pow_right (by decide) (by omega)) h4
  have bhi : s * 2 ^ (ua + kU) < 2 ^ (ub + more + kU + 1 + 1023) := by
    have h1 : s * n * 2 ^ (ua + kU) ≤ 4 * d * 2 ^ (ua + kU) := Nat.mul_le_mul_right _ (by omega)
    have h2 : FV a * 2 ^ kU * 2 ^ more ≤ FV b * 2 ^ (kU + 1016) * 2 ^ more := Nat.mul_le_mul_right _ hi
    have h3 : 4 * (FV b * 2 ^ (kU + 1016) * 2 ^ more) = 2 ^ (ub + kU + 1018 + more) * n := by
      rw [hvb, p4, eadd]
    rw [Nat.mul_assoc 4, hda, hX] at h1
    have h4 : s * 2 ^ (ua + kU) * n ≤ 2 ^ (ub + kU + 1018 + more) * n := by
      rw [← h3]; exact Nat.le_trans h1 (Nat.mul_le_mul_left 4 h2)
    have h5 := Nat.le_of_mul_le_mul_right h4 hn0
    exact Nat.lt_of_le_of_lt h5 (Nat.pow_lt_pow_right (by decide) (by omega))
  obtain ⟨n1, n2, n3, _⟩ := nearest_near s _ (ub + more + kU + 1) (ua + kU) rfl (by omega) blo bhi
  have eT : 2 ^ (ub + more + kU + 1 - 1074) = 2 ^ ub * 2 ^ (more + 1) := (pow_split (by omega)).symm
  rw [eT] at n2 n3
  have hW : 0 < 2 ^ (more + 1) := Nat.two_pow_pos _
  have v1 := num0 (s * n) (2 * d) n 18014398509481984 18014398509481983 rfl hsn.1 hs54n
  have v2 := num00 (s * n) (2 * d) n 18014398509481984 18014398509481985 rfl hsn.2 hs54n
  rw [h2d] at v1 v2
  have u1 := alg1 _ _ _ n s _ m _ _ _ _ hW n2 v1
  have u2 := alg2 _ _ _ n s _ m _ _ _ _ hW n3 v2
  rw [← hvb, ← ha1] at u1 u2
  exact ⟨_, heq, n1, ratio _ _ (9007199254740992 * 18014398509481983) (18014398509481984 * 9007199254740993) 1152921504606846976 1152921504606847169 (by decide +kernel) u1 (by decide +kernel),
    ratio _ _ (18014398509481984 * 9007199254740991) (9007199254740992 * 18014398509481985) 1152921504606846783 1152921504606846976 (by decide +kernel) u2 (by decide +kernel)⟩

theorem pw250 (k : Nat) : 2 ^ (k + 250) < 2 ^ (k + 1023) := Nat.pow_lt_pow_right (by decide) (by omega)
theorem pw1016 (k : Nat) : 2 ^ (k + 250) ≤ 2 ^ (k + 1016) := Nat.pow_le_pow_right (by decide) (by omega)

/-- The same, with a name for 2^1074. -/
theorem mul_nearU {U : Nat} (hU : U = 2 ^ kU) {a b : Nat} (ha : a < INF) (hb : b < INF) (lo : U * 2 ^ 52 ≤ FV a * FV b) (hi : FV a * FV b ≤ U * U * 2 ^ 250) :
    ∃ r, floatBits .mul .f64 a b = some r ∧ r < INF ∧ FV r * U * 9007199254740992 ≤ FV a * FV b * 9007199254740993 ∧ FV a * FV b * 9007199254740991 ≤ FV r * U * 9007199254740992 := by
  have lo' : 2 ^ (kU + 52) ≤ FV a * FV b := by rw [Nat.pow_add, ← hU]; exact lo
  have hi' : FV a * FV b ≤ 2 ^ (kU + kU + 250) := by rw [Nat.pow_add, Nat.pow_add, ← hU]; exact hi
  have hi2 : FV a * FV b < 2 ^ (kU + kU + 1023) := Nat.lt_of_le_of_lt hi' (pw250 (kU + kU))
  rw [hU]
  exact mul_near ha hb lo' hi2

theorem div_nearU {U : Nat} (hU : U = 2 ^ kU) {a b : Nat} (ha : a < INF) (hb : b < INF) (hb0 : 0 < FV b) (lo : FV b * 2 ^ 54 ≤ FV a * U) (hi : FV a * U ≤ FV b * (U * 2 ^ 250)) :
    ∃ r, floatBits .quo .f64 a b = some r ∧ r < INF ∧ FV r * FV b * 1152921504606846976 ≤ FV a * U * 1152921504606847169 ∧ FV a * U * 1152921504606846783 ≤ FV r * FV b * 1152921504606846976 := by
  have hi' : FV a * 2 ^ kU ≤ FV b * 2 ^ (kU + 250) := by rw [Nat.pow_add, ← hU]; exact hi
  have hi2 : FV a * 2 ^ kU ≤ FV b * 2 ^ (kU + 1016) := Nat.le_trans hi' (Nat.mul_le_mul_left _ (pw1016 kU))
  rw [hU] at lo ⊢
  exact div_near ha hb hb0 lo hi2

theorem exU : ∃ U : Nat, U = 2 ^ kU ∧ 2 ^ 52 ≤ U ∧ 2 ^ 250 ≤ U ∧ 0 < U :=
  ⟨_, rfl, Nat.pow_le_pow_right (by decide) (by unfold kU; decide), Nat.pow_le_pow_right (by decide) (by unfold kU; decide), Nat.two_pow_pos _⟩

end Go.Proofs.YthpflfcgnaichaaDoor
