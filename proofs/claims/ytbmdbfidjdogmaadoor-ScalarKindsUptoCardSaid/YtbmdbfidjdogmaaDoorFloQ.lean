/-
A product and a quotient of doubles depend on the number alone that they come to: the rounding told by a ratio. Plain laws, no program.
-/
import Derived.Test.YtbmdbfidjdogmaaDoorFloS
set_option linter.unusedVariables false
set_option linter.unusedSimpArgs false
namespace Go.Proofs.YtbmdbfidjdogmaaDoor
open Go Ieee

/-- 'a / b' to the nearest whole number, between two the even one. -/
def rhe (a b : Nat) : Nat := a / b + (decide (b < 2 * (a % b)) || (b == 2 * (a % b) && a / b % 2 == 1)).toNat

theorem cut_rhe (n d : Nat) (hd : d ≤ n.log2 + 2) : Toward.even.cut false n d = rhe n (2 ^ d) := by
  have hmin : min d (n.log2 + 2) = d := Nat.min_eq_left hd
  unfold Toward.cut rhe
  simp only [hmin, Nat.one_shiftLeft]

theorem rhe_scale (a b c : Nat) (hc : 0 < c) : rhe (a * c) (b * c) = rhe a b := by
  unfold rhe
  rw [Nat.mul_div_mul_right _ _ hc, Nat.mul_mod_mul_right]
  have e1 : decide (b * c < 2 * (a % b * c)) = decide (b < 2 * (a % b)) := by
    rw [← Nat.mul_assoc]
    congr 1
    simp only [eq_iff_iff]
    exact Nat.mul_lt_mul_right hc
  have e2 : (b * c == 2 * (a % b * c)) = (b == 2 * (a % b)) := by
    rw [← Nat.mul_assoc, Bool.eq_iff_iff, beq_iff_eq, beq_iff_eq]
    exact Nat.mul_left_inj (Nat.pos_iff_ne_zero.1 hc)
  rw [e1, e2]

theorem rhe_cross {a b a' b' : Nat} (hb : 0 < b) (hb' : 0 < b') (h : a * b' = a' * b) : rhe a b = rhe a' b' := by
  rw [← rhe_scale a b b' hb', ← rhe_scale a' b' b hb, h, Nat.mul_comm b b']

theorem mk_word {a b x y : Nat} (h1 : a = b) (h2 : x = y) : a * 4503599627370496 + x = b * 4503599627370496 + y := by rw [h1, h2]

theorem alg3 (A B A' B' c pg pg' pT pT' : Nat) (h : A * B' * pT' = A' * B * pT) (hgp : pg * pT' = pg' * pT) : A * c * (B' * pg') * pT' = A' * c * (B * pg) * pT' := by
  calc A * c * (B' * pg') * pT' = A * B' * pT' * (c * pg') := by ac_rfl
    _ = A' * B * pT * (c * pg') := by rw [h]
    _ = A' * c * B * (pg' * pT) := by ac_rfl
    _ = A' * c * B * (pg * pT') := by rw [hgp]
    _ = A' * c * (B * pg) * pT' := by ac_rfl

theorem alg4 (D m n c s pub pua U pg pgq : Nat) (hD : D = m * s) (h : pg * (pub * s) = pgq * (pua * U)) : D * c * (n * pub * pg) = m * pua * U * c * (n * pgq) := by
  calc D * c * (n * pub * pg) = m * c * n * (pg * (pub * s)) := by rw [hD]; ac_rfl
    _ = m * c * n * (pgq * (pua * U)) := by rw [h]
    _ = m * pua * U * c * (n * pgq) := by ac_rfl

theorem alg5 (n pg pub s X : Nat) (h1 : n * pub * pg ≤ X) : n * (pg * (pub * s)) ≤ X * s := by
  calc n * (pg * (pub * s)) = n * pub * pg * s := by ac_rfl
    _ ≤ _ := Nat.mul_le_mul_right _ h1

theorem alg6 (n pg pub s X : Nat) (hs : 0 < s) (h1 : X < n * pub * pg) : X * s < n * (pg * (pub * s)) := by
  calc X * s < n * pub * pg * s := Nat.mul_lt_mul_of_pos_right h1 hs
    _ = _ := by ac_rfl

theorem alg7 (n q a U m s D : Nat) (hD : D = m * s) (r1 : n * q ≤ D) : n * (q * (a * U)) ≤ m * a * U * s := by
  calc n * (q * (a * U)) = n * q * (a * U) := by ac_rfl
    _ ≤ D * (a * U) := Nat.mul_le_mul_right _ r1
    _ = _ := by rw [hD]; ac_rfl

theorem alg8 (n q a U m s D : Nat) (hD : D = m * s) (ha : 0 < a * U) (r1 : D < n * q) : m * a * U * s < n * (q * (a * U)) := by
  calc m * a * U * s = D * (a * U) := by rw [hD]; ac_rfl
    _ < n * q * (a * U) := Nat.mul_lt_mul_of_pos_right r1 ha
    _ = _ := by ac_rfl

theorem alg9 (m t U : Nat) : m * U * (t * U) = m * t * (U * U) := by ac_rfl
theorem alg10 (N U : Nat) : N * (U * U) * 1 * U = N * U * 1 * (U * U) := by ac_rfl
theorem alg11 (m U N : Nat) : m * U * U * N * U = m * U * (N * U) * U := by ac_rfl

theorem lt_mul_cases {n x y : Nat} (hn : 0 < n) : n * x < n * y ↔ x < y := Nat.mul_lt_mul_left hn

theorem rhe_sticky (D n G : Nat) (hn : 0 < n) (hG : 0 < G) (he : G % 2 = 0) : rhe (2 * (D / n) + (D % n != 0).toNat) (2 * G) = rhe D (n * G) := by
  obtain ⟨q, hq⟩ : ∃ q, q = D / n := ⟨_, rfl⟩
  obtain ⟨r, hr⟩ : ∃ r, r = D % n := ⟨_, rfl⟩
  have hD : D = n * q + r := by rw [hq, hr]; exact (Nat.div_add_mod D n).symm
  have hrn : r < n := by rw [hr]; exact Nat.mod_lt _ hn
  rw [← hq, ← hr]
  clear hq hr
  obtain ⟨a, ha⟩ : ∃ a, a = q / G := ⟨_, rfl⟩
  obtain ⟨b, hb⟩ : ∃ b, b = q % G := ⟨_, rfl⟩
  have hqe : q = G * a + b := by rw [ha, hb]; exact (Nat.div_add_mod q G).symm
  have hbG : b < G := by rw [hb]; exact Nat.mod_lt _ hG
  clear ha hb
  obtain ⟨H, rfl⟩ : ∃ H, G = 2 * H := ⟨G / 2, by omega⟩
  have hst : (r != 0).toNat ≤ 1 := by cases (r != 0) <;> decide
  obtain ⟨s, hs⟩ : ∃ s, s = (r != 0).toNat := ⟨_, rfl⟩
  have hs0 : s = 0 ↔ r = 0 := by
    rw [hs]
    by_cases h : r = 0
    · simp [h]
    · have : (r != 0) = true := bne_iff_ne.2 h
      rw [this]; simp [h]
  rw [← hs]
  rw [← hs] at hst
  clear hs
  have h1 : n * b + r < n * (2 * H) := by
    have : n * (b + 1) ≤ n * (2 * H) := Nat.mul_le_mul_left _ hbG
    rw [Nat.mul_add, Nat.mul_one] at this
    omega
  have e1 : D = n * (2 * H) * a + (n * b + r) := by
    rw [hD, hqe, Nat.mul_add, Nat.mul_assoc n, Nat.add_assoc]
  have e2 : 2 * q + s = 2 * (2 * H) * a + (2 * b + s) := by
    rw [hqe, Nat.mul_add, ← Nat.mul_assoc 2 (2 * H) a, Nat.add_assoc]
  have h2 : 2 * b + s < 2 * (2 * H) := by omega
  unfold rhe
  have d1 : D / (n * (2 * H)) = a := by
    rw [e1, Nat.mul_add_div (by omega), Nat.div_eq_of_lt h1, Nat.add_zero]
  have m1 : D % (n * (2 * H)) = n * b + r := by
    rw [e1, Nat.mul_add_mod, Nat.mod_eq_of_lt h1]
  have d2 : (2 * q + s) / (2 * (2 * H)) = a := by
    rw [e2, Nat.mul_add_div (by omega), Nat.div_eq_of_lt h2, Nat.add_zero]
  have m2 : (2 * q + s) % (2 * (2 * H)) = 2 * b + s := by
    rw [e2, Nat.mul_add_mod, Nat.mod_eq_of_lt h2]
  rw [d1, m1, d2, m2]
  have c0 : n * (2 * H) = 2 * (n * H) := by rw [Nat.mul_left_comm]
  have hHb : H ≤ b → n * H ≤ n * b := fun h => Nat.mul_le_mul_left _ h
  have hbH : b < H → n * b + n ≤ n * H := fun h => by
    have : n * (b + 1) ≤ n * H := Nat.mul_le_mul_left _ h
    rw [Nat.mul_add, Nat.mul_one] at this
    exact this
  have hHb2 : H < b → n * H + n ≤ n * b := fun h => by
    have : n * (H + 1) ≤ n * b := Nat.mul_le_mul_left _ h
    rw [Nat.mul_add, Nat.mul_one] at this
    exact this
  have hHe : H = b → n * H = n * b := fun h => by rw [h]
  rw [c0]
  have t1 : decide (2 * (2 * H) < 2 * (2 * b + s)) = decide (2 * (n * H) < 2 * (n * b + r)) := by
    congr 1
    simp only [eq_iff_iff]
    rcases Nat.lt_trichotomy b H with h | h | h
    · have := hbH h
      constructor <;> intro <;> omega
    · have := hHe h.symm
      constructor <;> intro <;> omega
    · have := hHb2 h
      constructor <;> intro <;> omega
  have t2 : (2 * (2 * H) == 2 * (2 * b + s)) = (2 * (n * H) == 2 * (n * b + r)) := by
    rw [Bool.eq_iff_iff, beq_iff_eq, beq_iff_eq]
    rcases Nat.lt_trichotomy b H with h | h | h
    · have := hbH h
      constructor <;> intro <;> omega
    · have := hHe h.symm
      constructor <;> intro <;> omega
    · have := hHb2 h
      constructor <;> intro <;> omega
  rw [t1, t2]

/-- The word of the number 'A / (B * 2^T)', which lies at 2^(g-T). -/
def rung (A B T g : Nat) : Nat := (g + 1022 - T) * 4503599627370496 + rhe (A * 4503599627370496) (B * 2 ^ g)

theorem nearest_rhe (mag : Nat) (place : Int) (T P g : Nat) (hP : place = (P : Int) - T) (hT : 1074 ≤ T) (hg1 : 2 ^ g ≤ mag) (hg2 : mag < 2 ^ (g + 1)) (lo : T ≤ P + g + 1022) (hi : P + g < T + 1023) :
    double.nearest false mag place = (P + g + 1022 - T) * 4503599627370496 + rhe (mag * 4503599627370496) (2 ^ g) := by
  have hm : mag ≠ 0 := by
    rintro rfl
    have := Nat.two_pow_pos g
    omega
  have hgd : mag.log2 = g := (Nat.log2_eq_iff hm).2 ⟨hg1, hg2⟩
  have hlast : max (place + (mag.log2 : Int) - (double.fractionBits : Int)) double.leastPlace = (P : Int) - T + g - 52 := by
    rw [c_frac, c_least, hgd, hP]; omega
  obtain ⟨L, hL⟩ : ∃ L, L = P + g + 1022 - T := ⟨_, rfl⟩
  have hLz : ((P : Int) - T + g - 52 - double.leastPlace).toNat = L := by rw [c_least]; omega
  have hnear : ∀ kept, Toward.even.cut false (mag <<< (place - ((P : Int) - T + g - 52)).toNat) (((P : Int) - T + g - 52) - place).toNat = kept → kept ≤ 9007199254740992 → double.nearest false mag place = L * 4503599627370496 + kept := by
    intro kept hk hk2
    unfold Format.nearest
    rw [if_neg hm]
    dsimp only
    rw [hlast, hLz, hk, c_bin, c_inf, word_false]
    exact Nat.min_eq_left (by unfold INF; omega)
  rw [← hL]
  by_cases hg : g ≤ 52
  · have s1 : (place - ((P : Int) - T + g - 52)).toNat = 52 - g := by omega
    have s2 : (((P : Int) - T + g - 52) - place).toNat = 0 := by omega
    have hkept : Toward.even.cut false (mag <<< (52 - g)) 0 = mag * 2 ^ (52 - g) := by rw [cut_zero_drop, Nat.shiftLeft_eq]
    have k2 : mag * 2 ^ (52 - g) ≤ 9007199254740992 := by
      have : 2 ^ (g + 1) * 2 ^ (52 - g) = 2 ^ 53 := pow_split (by omega)
      have h := Nat.mul_le_mul_right (2 ^ (52 - g)) (Nat.le_of_lt hg2)
      omega
    have k3 : rhe (mag * 4503599627370496) (2 ^ g) = mag * 2 ^ (52 - g) := by
      have : (2 : Nat) ^ (52 - g) * 2 ^ g = 4503599627370496 := pow_split (c := 52) (by omega)
      rw [← this, ← Nat.mul_assoc]
      have := rhe_scale (mag * 2 ^ (52 - g)) 1 (2 ^ g) (Nat.two_pow_pos _)
      rw [Nat.one_mul] at this
      rw [this]
      unfold rhe
      simp [Nat.mod_one]
    rw [k3]
    exact hnear _ (by rw [s1, s2]; exact hkept) k2
  · have s1 : (place - ((P : Int) - T + g - 52)).toNat = 0 := by omega
    have s2 : (((P : Int) - T + g - 52) - place).toNat = g - 52 := by omega
    have hk : Toward.even.cut false mag (g - 52) = rhe mag (2 ^ (g - 52)) := cut_rhe _ _ (by omega)
    obtain ⟨c1, c2⟩ := cut_even mag (g - 52) (by omega)
    rw [hk] at c1 c2
    have k3 : rhe (mag * 4503599627370496) (2 ^ g) = rhe mag (2 ^ (g - 52)) := by
      have : (2 : Nat) ^ (g - 52) * 4503599627370496 = 2 ^ g := pow_split (b := 52) (by omega)
      rw [← this]
      exact rhe_scale _ _ _ (by decide)
    rw [k3]
    have e2 : 2 ^ (g - 52) * 9007199254740992 = 2 ^ (g + 1) := pow_split (b := 53) (by omega)
    have hd : 0 < 2 ^ (g - 52) := Nat.two_pow_pos _
    have k2 : rhe mag (2 ^ (g - 52)) ≤ 9007199254740992 := by
      rcases Nat.lt_or_ge 9007199254740992 (rhe mag (2 ^ (g - 52))) with h | h
      · have := Nat.mul_le_mul_right (2 ^ (g - 52)) h
        have q : (9007199254740992).succ * 2 ^ (g - 52) = 2 ^ (g + 1) + 2 ^ (g - 52) := by rw [← e2]; omega
        omega
      · exact h
    exact hnear _ (by rw [s1, s2]; simpa using hk) k2

theorem pow_eq_of {A B g g' : Nat} (h1 : B * 2 ^ g ≤ A) (h2 : A < B * 2 ^ (g + 1)) (h3 : B * 2 ^ g' ≤ A) (h4 : A < B * 2 ^ (g' + 1)) : g = g' := by
  have a := Nat.lt_of_mul_lt_mul_left (Nat.lt_of_le_of_lt h1 h4)
  have b := Nat.lt_of_mul_lt_mul_left (Nat.lt_of_le_of_lt h3 h2)
  have a' := lt_of_pow_lt a
  have b' := lt_of_pow_lt b
  omega

/-- One number, told by two ratios, has one word. -/
theorem rung_cross {A B T g A' B' T' g' : Nat} (hB : 0 < B) (hB' : 0 < B') (h1 : B * 2 ^ g ≤ A) (h2 : A < B * 2 ^ (g + 1)) (h1' : B' * 2 ^ g' ≤ A') (h2' : A' < B' * 2 ^ (g' + 1))
    (h : A * B' * 2 ^ T' = A' * B * 2 ^ T) : rung A B T g = rung A' B' T' g' := by
  have hp : ∀ n, 0 < 2 ^ n := Nat.two_pow_pos
  have hg : g + T' = g' + T := by
    refine pow_eq_of (A := A * B' * 2 ^ T') (B := B * B') ?_ ?_ ?_ ?_
    · have := Nat.mul_le_mul_right (B' * 2 ^ T') h1
      rw [Nat.pow_add]
      calc _ = B * 2 ^ g * (B' * 2 ^ T') := by ac_rfl
        _ ≤ A * (B' * 2 ^ T') := this
        _ = _ := by ac_rfl
    · have := Nat.mul_lt_mul_of_pos_right h2 (Nat.mul_pos hB' (hp T'))
      rw [Nat.add_right_comm, Nat.pow_add _ _ T']
      calc _ = A * (B' * 2 ^ T') := by ac_rfl
        _ < B * 2 ^ (g + 1) * (B' * 2 ^ T') := this
        _ = _ := by ac_rfl
    · rw [h]
      have := Nat.mul_le_mul_right (B * 2 ^ T) h1'
      rw [Nat.pow_add]
      calc _ = B' * 2 ^ g' * (B * 2 ^ T) := by ac_rfl
        _ ≤ A' * (B * 2 ^ T) := this
        _ = _ := by ac_rfl
    · rw [h]
      have := Nat.mul_lt_mul_of_pos_right h2' (Nat.mul_pos hB (hp T))
      rw [Nat.add_right_comm, Nat.pow_add _ _ T]
      calc _ = A' * (B * 2 ^ T) := by ac_rfl
        _ < B' * 2 ^ (g' + 1) * (B * 2 ^ T) := this
        _ = _ := by ac_rfl
  unfold rung
  have e1 : g + 1022 - T = g' + 1022 - T' := by omega
  refine mk_word e1 ?_
  refine rhe_cross (Nat.mul_pos hB (hp g)) (Nat.mul_pos hB' (hp g')) ?_
  refine Nat.eq_of_mul_eq_mul_right (hp T') ?_
  have hgp : (2 : Nat) ^ g * 2 ^ T' = 2 ^ g' * 2 ^ T := by rw [← Nat.pow_add, ← Nat.pow_add, hg]
  exact alg3 _ _ _ _ _ _ _ _ _ h hgp

theorem pow_at (n : Nat) (h : 0 < n) : ∃ g, 2 ^ g ≤ n ∧ n < 2 ^ (g + 1) := ⟨n.log2, Nat.log2_self_le (by omega), Nat.lt_log2_self⟩

theorem ratio_at {A B : Nat} (hB : 0 < B) (h : B ≤ A) : ∃ g, B * 2 ^ g ≤ A ∧ A < B * 2 ^ (g + 1) := by
  have hq : 0 < A / B := Nat.div_pos h hB
  obtain ⟨g, h1, h2⟩ := pow_at _ hq
  refine ⟨g, ?_, ?_⟩
  · rw [Nat.mul_comm]; exact (Nat.le_div_iff_mul_le hB).1 h1
  · rw [Nat.mul_comm]; exact (Nat.div_lt_iff_lt_mul hB).1 h2

theorem mul_rung {a b g : Nat} (ha : a < INF) (hb : b < INF) (h1 : 2 ^ g ≤ FV a * FV b) (h2 : FV a * FV b < 2 ^ (g + 1)) (lo : kU + kU ≤ g + 1022) (hi : g < kU + kU + 1023) :
    floatBits .mul .f64 a b = some (rung (FV a * FV b) 1 (kU + kU) g) := by
  have hk := kU_eq
  obtain ⟨m, ua, hra, hva⟩ := read_pos a ha
  obtain ⟨n, ub, hrb, hvb⟩ := read_pos b hb
  have e : FV a * FV b = m * n * 2 ^ (ua + ub) := by rw [hva, hvb, Nat.pow_add, Nat.mul_mul_mul_comm]
  rw [e] at h1 h2 ⊢
  have hmn : 0 < m * n := by
    rcases Nat.eq_zero_or_pos (m * n) with q | q
    · rw [q, Nat.zero_mul] at h1; have := Nat.two_pow_pos g; omega
    · exact q
  obtain ⟨gm, g1, g2⟩ := pow_at _ hmn
  have hP := Nat.two_pow_pos (ua + ub)
  have hgg : g = gm + (ua + ub) := by
    refine pow_eq_of (A := m * n * 2 ^ (ua + ub)) (B := 1) (by rw [Nat.one_mul]; exact h1) (by rw [Nat.one_mul]; exact h2) ?_ ?_
    · rw [Nat.one_mul, Nat.pow_add 2 gm]; exact Nat.mul_le_mul_right _ g1
    · rw [Nat.one_mul, Nat.add_right_comm, Nat.pow_add 2 (gm + 1)]; exact Nat.mul_lt_mul_of_pos_right g2 hP
  rw [mul_eq hra hrb, nearest_rhe (m * n) _ (kU + kU) (ua + ub) gm rfl (by omega) g1 g2 (by omega) (by omega)]
  unfold rung
  refine congrArg some (mk_word (by omega) ?_)
  rw [Nat.one_mul, hgg, Nat.pow_add 2 gm, Nat.mul_right_comm (m * n)]
  exact (rhe_scale _ _ _ hP).symm

theorem log_sub {m n : Nat} (hm : m.log2 ≤ 53) : m.log2 + (54 + n.log2 - m.log2) = 54 + n.log2 := by omega

theorem div_rung {a b g : Nat} (ha : a < INF) (hb : b < INF) (hb0 : 0 < FV b) (h1 : FV b * 2 ^ g ≤ FV a * 2 ^ kU) (h2 : FV a * 2 ^ kU < FV b * 2 ^ (g + 1)) (lo : kU ≤ g + 1022) (hi : g < kU + 1023) :
    floatBits .quo .f64 a b = some (rung (FV a * 2 ^ kU) (FV b) kU g) := by
  have hk := kU_eq
  obtain ⟨m, ua, hra, hva⟩ := read_pos a ha
  obtain ⟨n, ub, hrb, hvb⟩ := read_pos b hb
  have hn : n ≠ 0 := by rintro rfl; rw [Nat.zero_mul] at hvb; omega
  have hn0 : 0 < n := by omega
  have hm53 : m < 9007199254740992 := by
    have := hra
    unfold Format.read at this
    rw [c_sign, c_bin, c_inf] at this
    dsimp only at this
    split at this
    · simp only [Datum.number.injEq] at this
      omega
    · split at this
      · simp only [Datum.number.injEq] at this
        omega
      · split at this <;> cases this
  have hm0 : m ≠ 0 := by
    rintro rfl
    rw [hva, Nat.zero_mul, Nat.zero_mul] at h1
    have := Nat.mul_pos hb0 (Nat.two_pow_pos g)
    omega
  have hml : m.log2 ≤ 53 := by
    have : 2 ^ m.log2 < 2 ^ 53 := Nat.lt_of_le_of_lt (Nat.log2_self_le hm0) hm53
    exact Nat.le_of_lt (lt_of_pow_lt this)
  rw [div_eq hra hrb hn]
  have hls := log_sub (n := n) hml
  obtain ⟨s, hs⟩ : ∃ s, s = 54 + n.log2 - m.log2 := ⟨_, rfl⟩
  rw [← hs] at hls ⊢
  obtain ⟨D, hD⟩ : ∃ D, D = m <<< s := ⟨_, rfl⟩
  rw [← hD]
  rw [Nat.shiftLeft_eq] at hD
  have hDn : 2 ^ 53 ≤ D / n := by
    rw [Nat.le_div_iff_mul_le hn0]
    have e1 : 2 ^ (54 + n.log2) ≤ D := by
      rw [hD, ← hls, Nat.pow_add]
      exact Nat.mul_le_mul_right _ (Nat.log2_self_le hm0)
    have e2 : n < 2 ^ (n.log2 + 1) := Nat.lt_log2_self
    have e3 : 2 ^ 53 * n ≤ 2 ^ 53 * 2 ^ (n.log2 + 1) := Nat.mul_le_mul_left _ (Nat.le_of_lt e2)
    rw [← Nat.pow_add] at e3
    refine Nat.le_trans e3 ?_
    rw [show 53 + (n.log2 + 1) = 54 + n.log2 by omega]
    exact e1
  obtain ⟨gq, q1, q2⟩ := pow_at (D / n) (by omega)
  have hgq : 53 ≤ gq := by
    have : 2 ^ 53 < 2 ^ (gq + 1) := Nat.lt_of_le_of_lt hDn q2
    have := lt_of_pow_lt this
    omega
  have r1 : n * 2 ^ gq ≤ D := by rw [Nat.mul_comm]; exact (Nat.le_div_iff_mul_le hn0).1 q1
  have r2 : D < n * 2 ^ (gq + 1) := by rw [Nat.mul_comm]; exact (Nat.div_lt_iff_lt_mul hn0).1 q2
  have hp : ∀ n, 0 < 2 ^ n := Nat.two_pow_pos
  rw [hva, hvb] at h1 h2 ⊢
  have hg : g + (ub + s) = gq + (ua + kU) := by
    refine pow_eq_of (A := m * 2 ^ ua * 2 ^ kU * 2 ^ s) (B := n) ?_ ?_ ?_ ?_
    · rw [Nat.pow_add 2 g, Nat.pow_add 2 ub]
      exact alg5 _ _ _ _ _ h1
    · rw [Nat.add_right_comm, Nat.pow_add 2 (g + 1), Nat.pow_add 2 ub]
      exact alg6 _ _ _ _ _ (hp s) h2
    · rw [Nat.pow_add 2 gq, Nat.pow_add 2 ua]
      exact alg7 _ _ _ _ _ _ D hD r1
    · rw [Nat.add_right_comm, Nat.pow_add 2 (gq + 1), Nat.pow_add 2 ua]
      exact alg8 _ _ _ _ _ _ D hD (Nat.mul_pos (hp _) (hp _)) r2
  obtain ⟨S, hS⟩ : ∃ S, S = 2 * (D / n) + (D % n != 0).toNat := ⟨_, rfl⟩
  have hst : (D % n != 0).toNat ≤ 1 := by cases (D % n != 0) <;> decide
  have s1 : 2 ^ (gq + 1) ≤ S := by rw [hS, Nat.pow_succ]; omega
  have s2 : S < 2 ^ (gq + 1 + 1) := by rw [hS, Nat.pow_succ _ (gq + 1)]; omega
  have hstick : rhe S (2 * 2 ^ (gq - 52)) = rhe D (n * 2 ^ (gq - 52)) := by
    rw [hS]
    refine rhe_sticky D n _ hn0 (hp _) ?_
    rw [show gq - 52 = (gq - 53) + 1 by omega, Nat.pow_succ]
    omega
  rw [← hS]
  rw [nearest_rhe S _ (ub + s + kU + 1) (ua + kU) (gq + 1) (by omega) (by omega) s1 s2 (by omega) (by omega)]
  unfold rung
  refine congrArg some (mk_word (by omega) ?_)
  have e0 : (2 : Nat) ^ (gq - 52) * 4503599627370496 = 2 ^ gq := pow_split (b := 52) (by omega)
  have e1 : (2 : Nat) ^ (gq + 1) = 2 * 2 ^ (gq - 52) * 4503599627370496 := by
    rw [Nat.mul_assoc, e0, Nat.pow_succ, Nat.mul_comm]
  rw [e1, rhe_scale _ _ _ (by decide), hstick, ← rhe_scale D _ 4503599627370496 (by decide)]
  have e2 : n * 2 ^ (gq - 52) * 4503599627370496 = n * 2 ^ gq := by
    rw [Nat.mul_assoc, e0]
  rw [e2]
  refine rhe_cross (Nat.mul_pos hn0 (hp _)) (Nat.mul_pos (Nat.mul_pos hn0 (hp _)) (hp _)) ?_
  have hgp : (2 : Nat) ^ g * (2 ^ ub * 2 ^ s) = 2 ^ gq * (2 ^ ua * 2 ^ kU) := by rw [← Nat.pow_add, ← Nat.pow_add, ← Nat.pow_add, ← Nat.pow_add, hg]
  exact alg4 _ _ _ _ _ _ _ _ _ _ hD hgp

/-- The number 'm * 10^k' by a ratio over units. -/
theorem sc_rung {m : Nat} {k : Int} (hm0 : 1 ≤ m) (hm : m < 1000000000000000) (hk1 : -22 ≤ k) (hk2 : k ≤ 22) :
    ∃ g, 10 ^ (-k).toNat * 2 ^ g ≤ m * 10 ^ k.toNat * 2 ^ kU ∧ m * 10 ^ k.toNat * 2 ^ kU < 10 ^ (-k).toNat * 2 ^ (g + 1) ∧ scW m k = rung (m * 10 ^ k.toNat * 2 ^ kU) (10 ^ (-k).toNat) kU g := by
  have hk := kU_eq
  obtain ⟨a1, a2⟩ := ofU_FV (show m < 9007199254740992 by omega)
  have hm50 : m ≤ 2 ^ 50 := Nat.le_trans (Nat.le_of_lt hm) (by decide)
  have hp : ∀ n, 0 < 2 ^ n := Nat.two_pow_pos
  have hten : ∀ j, 0 < 10 ^ j := fun j => Nat.pow_pos (by decide)
  by_cases h0 : 0 ≤ k
  · obtain ⟨b1, b2, _⟩ := tenW_ok k.toNat (by omega)
    have e0 : (-k).toNat = 0 := by omega
    have ht := ten_le (show k.toNat < 23 by omega)
    obtain ⟨g1, g2⟩ := sc_mul hm h0 hk2
    rw [e0, Nat.pow_zero]
    have hN : 1 ≤ m * 10 ^ k.toNat := Nat.mul_pos hm0 (hten _)
    have hN2 : m * 10 ^ k.toNat ≤ 2 ^ 124 := Nat.le_trans (Nat.mul_le_mul hm50 ht) (by decide)
    have hX : FV (floatOfInt .f64 (m : Int)) * FV (tenW k.toNat) = m * 10 ^ k.toNat * 2 ^ (kU + kU) := by rw [a2, b2, Nat.pow_add 2 kU]; exact alg9 _ _ _
    generalize m * 10 ^ k.toNat = N at *
    obtain ⟨n, n1, n2⟩ := pow_at N hN
    have hn : n ≤ 124 := Nat.le_of_lt_succ (lt_of_pow_lt (Nat.lt_of_le_of_lt (Nat.le_trans n1 hN2) (Nat.pow_lt_pow_right (by decide) (by omega))))
    have q1 : 2 ^ (n + (kU + kU)) ≤ N * 2 ^ (kU + kU) := by rw [Nat.pow_add]; exact Nat.mul_le_mul_right _ n1
    have q2 : N * 2 ^ (kU + kU) < 2 ^ (n + (kU + kU) + 1) := by rw [Nat.add_right_comm, Nat.pow_add _ (n + 1)]; exact Nat.mul_lt_mul_of_pos_right n2 (hp _)
    have p1 : 1 * 2 ^ (n + kU) ≤ N * 2 ^ kU := by rw [Nat.one_mul, Nat.pow_add]; exact Nat.mul_le_mul_right _ n1
    have p2 : N * 2 ^ kU < 1 * 2 ^ (n + kU + 1) := by rw [Nat.one_mul, Nat.add_right_comm, Nat.pow_add _ (n + 1)]; exact Nat.mul_lt_mul_of_pos_right n2 (hp _)
    refine ⟨n + kU, p1, p2, ?_⟩
    have h := mul_rung a1 b1 (by rw [hX]; exact q1) (by rw [hX]; exact q2) (by omega) (by omega)
    rw [Option.some.inj (g1.symm.trans h), hX]
    refine rung_cross (by decide) (by decide) (by rw [Nat.one_mul]; exact q1) (by rw [Nat.one_mul]; exact q2) p1 p2 ?_
    rw [Nat.pow_add 2 kU]
    exact alg10 _ _
  · obtain ⟨b1, b2, _⟩ := tenW_ok (-k).toNat (by omega)
    have e0 : k.toNat = 0 := by omega
    have ht := ten_le (show (-k).toNat < 23 by omega)
    have hb0 := ten_pos (show (-k).toNat < 23 by omega)
    obtain ⟨g1, g2⟩ := sc_div hm h0 hk1
    rw [e0, Nat.pow_zero, Nat.mul_one]
    have hN := hten (-k).toNat
    generalize 10 ^ (-k).toNat = N at *
    have hNU : N ≤ m * 2 ^ kU := by
      refine Nat.le_trans ht ?_
      refine Nat.le_trans (Nat.pow_le_pow_right (by decide) (show 74 ≤ kU by omega)) ?_
      exact Nat.le_mul_of_pos_left _ hm0
    obtain ⟨g, p1, p2⟩ := ratio_at hN hNU
    refine ⟨g, p1, p2, ?_⟩
    have gl : kU ≤ g + 1022 := by
      have a : 2 ^ kU < 2 ^ (g + 75) := by
        have b1 : 2 ^ kU ≤ m * 2 ^ kU := Nat.le_mul_of_pos_left _ hm0
        have b2 : N * 2 ^ (g + 1) ≤ 2 ^ 74 * 2 ^ (g + 1) := Nat.mul_le_mul_right _ ht
        rw [← Nat.pow_add, show 74 + (g + 1) = g + 75 by omega] at b2
        exact Nat.lt_of_le_of_lt b1 (Nat.lt_of_lt_of_le p2 b2)
      have := lt_of_pow_lt a
      clear a p1 p2 hNU ht
      omega
    have gh : g < kU + 1023 := by
      have a : 2 ^ g < 2 ^ (kU + 51) := by
        have b1 : 2 ^ g ≤ N * 2 ^ g := Nat.le_mul_of_pos_left _ hN
        have b2 : m * 2 ^ kU ≤ 2 ^ 50 * 2 ^ kU := Nat.mul_le_mul_right _ hm50
        rw [← Nat.pow_add] at b2
        have b3 : 2 ^ (50 + kU) < 2 ^ (kU + 51) := Nat.pow_lt_pow_right (by decide) (by omega)
        exact Nat.lt_of_le_of_lt (Nat.le_trans b1 (Nat.le_trans p1 b2)) b3
      exact Nat.lt_of_lt_of_le (lt_of_pow_lt a) (Nat.add_le_add_left (by decide) kU)
    have h := div_rung a1 b1 hb0 (by rw [a2, b2, Nat.mul_right_comm]; exact Nat.mul_le_mul_right _ p1) (by rw [a2, b2, Nat.mul_right_comm N]; exact Nat.mul_lt_mul_of_pos_right p2 (hp _)) gl gh
    rw [Option.some.inj (g1.symm.trans h), a2, b2]
    refine rung_cross (Nat.mul_pos hN (hp _)) hN ?_ ?_ p1 p2 ?_
    · rw [Nat.mul_right_comm]; exact Nat.mul_le_mul_right _ p1
    · rw [Nat.mul_right_comm N]; exact Nat.mul_lt_mul_of_pos_right p2 (hp _)
    · exact alg11 _ _ _

/-- Ten times as much of one power is as much of the next. -/
theorem sc_ten {m : Nat} {k : Int} (hm0 : 1 ≤ m) (hm : m * 10 < 1000000000000000) (hk1 : -22 ≤ k) (hk2 : k + 1 ≤ 22) : scW (m * 10) k = scW m (k + 1) := by
  obtain ⟨g, a1, a2, a3⟩ := sc_rung (m := m * 10) (k := k) (by omega) hm hk1 (by omega)
  obtain ⟨g', b1, b2, b3⟩ := sc_rung (m := m) (k := k + 1) hm0 (by omega) (by omega) hk2
  rw [a3, b3]
  have hten : ∀ j, 0 < 10 ^ j := fun j => Nat.pow_pos (by decide)
  refine rung_cross (hten _) (hten _) a1 a2 b1 b2 ?_
  by_cases h0 : 0 ≤ k
  · have e1 : (k + 1).toNat = k.toNat + 1 := by omega
    have e2 : (-k).toNat = 0 := by omega
    have e3 : (-(k + 1)).toNat = 0 := by omega
    rw [e1, e2, e3, Nat.pow_succ 10]
    refine congrArg (fun z => z * 2 ^ kU * 10 ^ 0 * 2 ^ kU) ?_
    ac_rfl
  · have e1 : (-k).toNat = (-(k + 1)).toNat + 1 := by omega
    have e2 : k.toNat = 0 := by omega
    have e3 : (k + 1).toNat = 0 := by omega
    rw [e1, e2, e3, Nat.pow_succ 10]
    generalize 10 ^ (-(k + 1)).toNat = N
    generalize (2 : Nat) ^ kU = V
    show m * 10 * 1 * V * N * V = m * 1 * V * (N * 10) * V
    ac_rfl

/-- A whole number as a double, by the same ratio. -/
theorem int_rung {n : Nat} (h1 : 1 ≤ n) (h2 : n < 2 ^ 124) : ∃ g, 1 * 2 ^ g ≤ n * 2 ^ kU ∧ n * 2 ^ kU < 1 * 2 ^ (g + 1) ∧ floatOfInt .f64 (n : Int) = rung (n * 2 ^ kU) 1 kU g := by
  have hk := kU_eq
  have e : floatOfInt .f64 (n : Int) = double.nearest false n 0 := by
    show double.nearest (decide ((n : Int) < 0)) n 0 = _
    rw [decide_eq_false (by omega)]
  obtain ⟨g, g1, g2⟩ := pow_at n h1
  have hg : g ≤ 124 := Nat.le_of_lt (lt_of_pow_lt (Nat.lt_of_le_of_lt g1 h2))
  have p1 : 1 * 2 ^ (g + kU) ≤ n * 2 ^ kU := by rw [Nat.one_mul, Nat.pow_add]; exact Nat.mul_le_mul_right _ g1
  have p2 : n * 2 ^ kU < 1 * 2 ^ (g + kU + 1) := by rw [Nat.one_mul, Nat.add_right_comm, Nat.pow_add _ (g + 1)]; exact Nat.mul_lt_mul_of_pos_right g2 (Nat.two_pow_pos _)
  refine ⟨g + kU, p1, p2, ?_⟩
  rw [e, nearest_rhe n 0 kU kU g (by omega) (by omega) g1 g2 (by omega) (by omega)]
  unfold rung
  refine mk_word (by omega) ?_
  rw [Nat.one_mul, Nat.pow_add 2 g, Nat.mul_right_comm]
  exact (rhe_scale _ _ _ (Nat.two_pow_pos _)).symm

/-- A whole number of tens is itself. -/
theorem sc_int {m : Nat} {k : Int} (hm0 : 1 ≤ m) (hm : m < 1000000000000000) (h0 : 0 ≤ k) (hk2 : k ≤ 22) : scW m k = floatOfInt .f64 ((m * 10 ^ k.toNat : Nat) : Int) := by
  obtain ⟨g, a1, a2, a3⟩ := sc_rung hm0 hm (by omega) hk2
  have hm50 : m < 2 ^ 50 := Nat.lt_of_lt_of_le hm (by decide)
  have hN2 : m * 10 ^ k.toNat < 2 ^ 124 := Nat.lt_of_le_of_lt (Nat.mul_le_mul_left _ (ten_le (show k.toNat < 23 by omega))) (by rw [show 2 ^ 124 = 2 ^ 50 * 2 ^ 74 from rfl]; exact Nat.mul_lt_mul_of_pos_right hm50 (by decide))
  obtain ⟨g', b1, b2, b3⟩ := int_rung (n := m * 10 ^ k.toNat) (Nat.mul_pos hm0 (Nat.pow_pos (by decide))) hN2
  rw [a3, b3]
  have e2 : (-k).toNat = 0 := by omega
  rw [e2, Nat.pow_zero] at a1 a2 ⊢
  exact rung_cross (by decide) (by decide) a1 a2 b1 b2 rfl

/-- A product of two whole numbers that are doubles. -/
theorem mul_int {a b A B : Nat} (ha : a < INF) (hb : b < INF) (hA : FV a = A * 2 ^ kU) (hB : FV b = B * 2 ^ kU) (h1 : 1 ≤ A) (h2 : 1 ≤ B) (h : A * B < 2 ^ 124) : floatBits .mul .f64 a b = some (floatOfInt .f64 ((A * B : Nat) : Int)) := by
  have hk := kU_eq
  obtain ⟨g', b1, b2, b3⟩ := int_rung (n := A * B) (Nat.mul_pos h1 h2) h
  have hX : FV a * FV b = A * B * 2 ^ (kU + kU) := by rw [hA, hB, Nat.pow_add 2 kU]; exact alg9 _ _ _
  obtain ⟨n, n1, n2⟩ := pow_at (A * B) (Nat.mul_pos h1 h2)
  have hn : n ≤ 124 := Nat.le_of_lt (lt_of_pow_lt (Nat.lt_of_le_of_lt n1 h))
  have q1 : 2 ^ (n + (kU + kU)) ≤ A * B * 2 ^ (kU + kU) := by rw [Nat.pow_add]; exact Nat.mul_le_mul_right _ n1
  have q2 : A * B * 2 ^ (kU + kU) < 2 ^ (n + (kU + kU) + 1) := by rw [Nat.add_right_comm, Nat.pow_add _ (n + 1)]; exact Nat.mul_lt_mul_of_pos_right n2 (Nat.two_pow_pos _)
  rw [mul_rung ha hb (by rw [hX]; exact q1) (by rw [hX]; exact q2) (by omega) (by omega), hX, b3]
  refine congrArg some (rung_cross (by decide) (by decide) (by rw [Nat.one_mul]; exact q1) (by rw [Nat.one_mul]; exact q2) b1 b2 ?_)
  rw [Nat.pow_add 2 kU]
  exact alg10 _ _

/-- A finite double is its magnitude's alone. -/
theorem FV_inj {a b : Nat} (h : FV a = FV b) : a = b := by
  have key : ∀ x y : Nat, x / 4503599627370496 < y / 4503599627370496 → FV x < FV y := by
    intro x y hxy
    obtain ⟨kept, k1, k2, k0, k3⟩ := FV_exp (b := y) rfl (by omega)
    rw [k3]
    have hlow : 4503599627370496 * 2 ^ (y / 4503599627370496 - 1) ≤ kept * 2 ^ (y / 4503599627370496 - 1) := Nat.mul_le_mul_right _ k1
    refine Nat.lt_of_lt_of_le ?_ hlow
    by_cases hx : 1 ≤ x / 4503599627370496
    · obtain ⟨c, c1, c2, c0, c3⟩ := FV_exp (b := x) rfl hx
      rw [c3]
      have hp := Nat.two_pow_pos (x / 4503599627370496 - 1)
      refine Nat.lt_of_lt_of_le (Nat.mul_lt_mul_of_pos_right c2 hp) ?_
      have e : 9007199254740992 * 2 ^ (x / 4503599627370496 - 1) = 4503599627370496 * 2 ^ (x / 4503599627370496) := by
        rw [show x / 4503599627370496 = (x / 4503599627370496 - 1) + 1 by omega, Nat.pow_succ, Nat.add_sub_cancel]
        omega
      rw [e]
      exact Nat.mul_le_mul_left _ (Nat.pow_le_pow_right (by decide) (by omega))
    · have : FV x = x := by unfold FV; rw [if_pos (by omega)]
      rw [this]
      have hp := Nat.two_pow_pos (y / 4503599627370496 - 1)
      refine Nat.lt_of_lt_of_le (show x < 4503599627370496 by omega) ?_
      exact Nat.le_mul_of_pos_right _ hp
  rcases Nat.lt_trichotomy (a / 4503599627370496) (b / 4503599627370496) with q | q | q
  · have := key _ _ q; omega
  · by_cases hx : 1 ≤ a / 4503599627370496
    · obtain ⟨c, c1, c2, c0, c3⟩ := FV_exp (b := a) rfl hx
      obtain ⟨d, d1, d2, d0, d3⟩ := FV_exp (b := b) rfl (by omega)
      rw [c3, d3, q] at h
      have := Nat.eq_of_mul_eq_mul_right (Nat.two_pow_pos _) h
      omega
    · have h1 : FV a = a := by unfold FV; rw [if_pos (by omega)]
      have h2 : FV b = b := by unfold FV; rw [if_pos (by omega)]
      omega
  · have := key _ _ q; omega

end Go.Proofs.YtbmdbfidjdogmaaDoor
