/-
What rounding to the nearest double gives: products and quotients, with a bound on their error. Plain laws, no program.
-/
import Derived.Laws.FloatArith
set_option linter.unusedVariables false
set_option linter.unusedSimpArgs false
namespace Go.Proofs.YthpflfcgnaichaaDoor
open Go Ieee

/-- The magnitude of a rung, in units of 2^-1074. -/
def FV (r : Nat) : Nat := if r < 4503599627370496 then r else (4503599627370496 + r % 4503599627370496) * 2 ^ (r / 4503599627370496 - 1)

/-- The rung of infinity. -/
abbrev INF : Nat := 9218868437227405312

theorem c_sign : double.signWeight = 9223372036854775808 := by decide +kernel
theorem c_bin : double.binade = 4503599627370496 := by decide +kernel
theorem c_inf : double.infRung = INF := by decide +kernel
theorem c_least : double.leastPlace = -1074 := by decide +kernel
theorem c_frac : double.fractionBits = 52 := rfl

theorem read_pos (r : Nat) (h : r < INF) : ∃ mag up : Nat, double.read r = .number false mag ((up : Int) - 1074) ∧ FV r = mag * 2 ^ up := by
  unfold INF at h
  have h1 : (r / 9223372036854775808 % 2 == 1) = false := by
    have : r / 9223372036854775808 = 0 := Nat.div_eq_of_lt (by omega)
    rw [this]; rfl
  have h2 : r % 9223372036854775808 = r := Nat.mod_eq_of_lt (by omega)
  unfold Format.read FV
  simp only [c_sign, c_bin, c_inf, c_least, h1, h2, INF]
  by_cases hb : r < 4503599627370496
  · rw [if_pos hb, if_pos hb]
    exact ⟨r, 0, by simp, by simp⟩
  · rw [if_neg hb, if_neg hb, if_pos h]
    exact ⟨_, r / 4503599627370496 - 1, by simp only [Datum.number.injEq, true_and]; omega, rfl⟩

theorem read_inf : double.read INF = .infinity false := by decide +kernel

theorem word_false (r : Nat) : double.word false r = r := by
  unfold Format.word
  rw [if_neg (by decide)]

theorem re_two (y z c d : Nat) (h : 2 * c = d) : 2 * y * c * z = y * z * d := by
  subst h
  simp only [Nat.mul_assoc, Nat.mul_comm, Nat.mul_left_comm]

theorem FV_mk (L kept : Nat) (h1 : 4503599627370496 ≤ kept) (h2 : kept ≤ 9007199254740992) : FV (L * 4503599627370496 + kept) = kept * 2 ^ L := by
  unfold FV
  rw [if_neg (by omega)]
  by_cases h : kept = 9007199254740992
  · subst h
    have e1 : (L * 4503599627370496 + 9007199254740992) % 4503599627370496 = 0 := by omega
    have e2 : (L * 4503599627370496 + 9007199254740992) / 4503599627370496 - 1 = L + 1 := by omega
    rw [e1, e2, Nat.pow_succ]
    omega
  · have e1 : (L * 4503599627370496 + kept) % 4503599627370496 = kept - 4503599627370496 := by omega
    have e2 : (L * 4503599627370496 + kept) / 4503599627370496 - 1 = L := by omega
    rw [e1, e2]
    have e3 : 4503599627370496 + (kept - 4503599627370496) = kept := by omega
    rw [e3]

theorem pow_split {a b c : Nat} (h : a + b = c) : 2 ^ a * 2 ^ b = 2 ^ c := by rw [← h, Nat.pow_add]

theorem lt_of_pow_lt {a b : Nat} (h : 2 ^ a < 2 ^ b) : a < b := (Nat.pow_lt_pow_iff_right (by decide : 1 < 2)).1 h
theorem le_of_pow_le {a b : Nat} (h : 2 ^ a ≤ 2 ^ b) : a ≤ b := (Nat.pow_le_pow_iff_right (by decide : 1 < 2)).1 h

/-- 'n / 2^d' to the nearest: the error is half a unit at the most. -/
theorem cut_even (n d : Nat) (hd : d ≤ n.log2 + 2) : 2 * (Toward.even.cut false n d * 2 ^ d) ≤ 2 * n + 2 ^ d ∧ 2 * n ≤ 2 * (Toward.even.cut false n d * 2 ^ d) + 2 ^ d := by
  have hmin : min d (n.log2 + 2) = d := Nat.min_eq_left hd
  unfold Toward.cut
  simp only [hmin, Nat.one_shiftLeft]
  have hg : 0 < 2 ^ d := Nat.two_pow_pos _
  generalize 2 ^ d = g at *
  have h1 := Nat.div_add_mod n g
  have h2 := Nat.mod_lt n hg
  generalize n / g = q at *
  generalize n % g = s at *
  have e : ∀ b : Bool, (q + b.toNat) * g = g * q + b.toNat * g := fun b => by rw [Nat.add_mul, Nat.mul_comm q g]
  rw [e]
  by_cases hlt : g < 2 * s
  · have : (decide (g < 2 * s) || (g == 2 * s && q % 2 == 1)) = true := by simp [hlt]
    rw [this]
    simp only [Bool.toNat_true]
    omega
  · by_cases heq : g = 2 * s
    · cases hb : (decide (g < 2 * s) || (g == 2 * s && q % 2 == 1)) with
      | true => simp only [Bool.toNat_true]; omega
      | false => simp only [Bool.toNat_false]; omega
    · have : (decide (g < 2 * s) || (g == 2 * s && q % 2 == 1)) = false := by simp [hlt, heq]
      rw [this]
      simp only [Bool.toNat_false]
      omega

theorem cut_zero_drop (n : Nat) : Toward.even.cut false n 0 = n := by
  have := cut_even n 0 (by omega)
  simp at this
  omega

/-- The nearest double of 'mag * 2^place', where that is a normal number and not too great. -/
theorem nearest_near (mag : Nat) (place : Int) (T P : Nat) (hP : place = (P : Int) - T) (hT : 1074 ≤ T) (lo : 2 ^ (T - 1022) ≤ mag * 2 ^ P) (hi : mag * 2 ^ P < 2 ^ (T + 1023)) :
    double.nearest false mag place < INF ∧ FV (double.nearest false mag place) * 2 ^ (T - 1074) * 9007199254740992 ≤ mag * 2 ^ P * 9007199254740993 ∧
      mag * 2 ^ P * 9007199254740991 ≤ FV (double.nearest false mag place) * 2 ^ (T - 1074) * 9007199254740992 ∧
      (mag < 9007199254740992 → FV (double.nearest false mag place) * 2 ^ (T - 1074) = mag * 2 ^ P) := by
  have hm : mag ≠ 0 := by
    rintro rfl
    have := Nat.two_pow_pos (T - 1022)
    omega
  obtain ⟨g, hgd⟩ : ∃ g, g = mag.log2 := ⟨_, rfl⟩
  have hg1 : 2 ^ g ≤ mag := by rw [hgd]; exact Nat.log2_self_le hm
  have hg2 : mag < 2 ^ (g + 1) := by rw [hgd]; exact Nat.lt_log2_self
  have hPpos : 0 < 2 ^ P := Nat.two_pow_pos _
  have ea : T - 1022 < g + 1 + P := lt_of_pow_lt (Nat.lt_of_le_of_lt lo (by rw [Nat.pow_add]; exact Nat.mul_lt_mul_of_pos_right hg2 hPpos))
  have eb : g + P < T + 1023 := lt_of_pow_lt (Nat.lt_of_le_of_lt (by rw [Nat.pow_add]; exact Nat.mul_le_mul_right _ hg1) hi)
  have hlast : max (place + (mag.log2 : Int) - (double.fractionBits : Int)) double.leastPlace = (P : Int) - T + g - 52 := by
    rw [c_frac, c_least, ← hgd, hP]; omega
  obtain ⟨L, hL⟩ : ∃ L, L = P + g + 1022 - T := ⟨_, rfl⟩
  have hLz : ((P : Int) - T + g - 52 - double.leastPlace).toNat = L := by rw [c_least]; omega
  have key : ∃ kept, 4503599627370496 ≤ kept ∧ kept ≤ 9007199254740992 ∧ double.nearest false mag place = L * 4503599627370496 + kept ∧
      kept * 2 ^ (P + g - 52) * 9007199254740992 ≤ mag * 2 ^ P * 9007199254740993 ∧ mag * 2 ^ P * 9007199254740991 ≤ kept * 2 ^ (P + g - 52) * 9007199254740992 ∧ (mag < 9007199254740992 → kept * 2 ^ (P + g - 52) = mag * 2 ^ P) := by
    have hnear : ∀ kept, Toward.even.cut false (mag <<< (place - ((P : Int) - T + g - 52)).toNat) (((P : Int) - T + g - 52) - place).toNat = kept → kept ≤ 9007199254740992 → double.nearest false mag place = L * 4503599627370496 + kept := by
      intro kept hk hk2
      unfold Format.nearest
      rw [if_neg hm]
      dsimp only
      rw [hlast, hLz, hk, c_bin, c_inf, word_false]
      exact Nat.min_eq_left (by unfold INF; omega)
    by_cases hg : g ≤ 52
    · have s1 : (place - ((P : Int) - T + g - 52)).toNat = 52 - g := by omega
      have s2 : (((P : Int) - T + g - 52) - place).toNat = 0 := by omega
      have hkept : Toward.even.cut false (mag <<< (52 - g)) 0 = mag * 2 ^ (52 - g) := by rw [cut_zero_drop, Nat.shiftLeft_eq]
      have k1 : 4503599627370496 ≤ mag * 2 ^ (52 - g) := by
        have : 2 ^ g * 2 ^ (52 - g) = 2 ^ 52 := pow_split (by omega)
        have h := Nat.mul_le_mul_right (2 ^ (52 - g)) hg1
        omega
      have k2 : mag * 2 ^ (52 - g) ≤ 9007199254740992 := by
        have : 2 ^ (g + 1) * 2 ^ (52 - g) = 2 ^ 53 := pow_split (by omega)
        have h := Nat.mul_le_mul_right (2 ^ (52 - g)) (Nat.le_of_lt hg2)
        omega
      have k3 : mag * 2 ^ (52 - g) * 2 ^ (P + g - 52) = mag * 2 ^ P := by
        rw [Nat.mul_assoc, pow_split (show 52 - g + (P + g - 52) = P by omega)]
      refine ⟨_, k1, k2, hnear _ (by rw [s1, s2]; exact hkept) k2, ?_, ?_, fun _ => k3⟩ <;> rw [k3] <;> omega
    · have s1 : (place - ((P : Int) - T + g - 52)).toNat = 0 := by omega
      have s2 : (((P : Int) - T + g - 52) - place).toNat = g - 52 := by omega
      obtain ⟨c1, c2⟩ := cut_even mag (g - 52) (by omega)
      generalize hk : Toward.even.cut false mag (g - 52) = kept at c1 c2
      have hd : 0 < 2 ^ (g - 52) := Nat.two_pow_pos _
      have e1 : 2 ^ (g - 52) * 4503599627370496 = 2 ^ g := pow_split (b := 52) (by omega)
      have e2 : 2 ^ (g - 52) * 9007199254740992 = 2 ^ (g + 1) := pow_split (b := 53) (by omega)
      have hPd : 2 ^ (P + g - 52) = 2 ^ (g - 52) * 2 ^ P := (pow_split (by omega)).symm
      have k1 : 4503599627370496 ≤ kept := by
        rcases Nat.lt_or_ge kept 4503599627370496 with h | h
        · have := Nat.mul_le_mul_right (2 ^ (g - 52)) (Nat.le_sub_one_of_lt h)
          have q : (4503599627370496 - 1) * 2 ^ (g - 52) + 2 ^ (g - 52) = 2 ^ g := by rw [← e1]; omega
          omega
        · exact h
      have k2 : kept ≤ 9007199254740992 := by
        rcases Nat.lt_or_ge 9007199254740992 kept with h | h
        · have := Nat.mul_le_mul_right (2 ^ (g - 52)) h
          have q : (9007199254740992).succ * 2 ^ (g - 52) = 2 ^ (g + 1) + 2 ^ (g - 52) := by rw [← e2]; omega
          omega
        · exact h
      refine ⟨kept, k1, k2, hnear _ (by rw [s1, s2]; simpa using hk) k2, ?_, ?_, fun hlt => ?_⟩
      · rw [hPd, ← Nat.mul_assoc]
        generalize kept * 2 ^ (g - 52) = y at *
        have hz : 2 * y * 4503599627370496 ≤ mag * 9007199254740993 := by omega
        have := Nat.mul_le_mul_right (2 ^ P) hz
        generalize 2 ^ P = z at *
        rw [re_two y z _ _ (show 2 * 4503599627370496 = 9007199254740992 from rfl), Nat.mul_right_comm mag] at this
        exact this
      · rw [hPd, ← Nat.mul_assoc]
        generalize kept * 2 ^ (g - 52) = y at *
        have hz : mag * 9007199254740991 ≤ y * 9007199254740992 := by omega
        have := Nat.mul_le_mul_right (2 ^ P) hz
        generalize 2 ^ P = z at *
        rw [Nat.mul_right_comm y, Nat.mul_right_comm mag] at this
        exact this
      · have : 2 ^ 53 ≤ 2 ^ g := Nat.pow_le_pow_right (by decide) (by omega)
        omega
  obtain ⟨kept, k1, k2, hr, h1, h2, h3⟩ := key
  rw [hr, FV_mk L kept k1 k2]
  have hex : 2 ^ L * 2 ^ (T - 1074) = 2 ^ (P + g - 52) := pow_split (by omega)
  rw [Nat.mul_assoc kept, hex]
  exact ⟨by unfold INF; omega, h1, h2, h3⟩

theorem nearest_le (mag : Nat) (place : Int) : double.nearest false mag place ≤ INF := by
  unfold Format.nearest
  split
  · rw [word_false]; exact Nat.zero_le _
  · dsimp only
    rw [c_inf, word_false]
    exact Nat.min_le_right _ _

end Go.Proofs.YthpflfcgnaichaaDoor
