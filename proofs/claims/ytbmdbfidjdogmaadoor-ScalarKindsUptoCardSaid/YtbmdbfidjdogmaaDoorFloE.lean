/-
The guess at a number that has a double as its value with a power of ten. Plain laws, no program.
-/
import Derived.Test.YtbmdbfidjdogmaaDoorFloD
set_option linter.unusedVariables false
set_option linter.unusedSimpArgs false
namespace Go.Proofs.YtbmdbfidjdogmaaDoor
open Go Ieee

abbrev KK : Nat := 1152921504606846976

theorem chain_up (A B C n m K a b c : Nat) (hK : 0 < K) (h1 : A * K ≤ B * n * a) (h2 : B * m * K ≤ C * b) (hk : K * (a * b) ≤ c * (K * K)) : A * m * K ≤ C * n * c := by
  refine ratio _ _ (K * K) (a * b) _ _ (Nat.mul_pos hK hK) ?_ hk
  have q1 := Nat.mul_le_mul_right (m * K) h1
  have q2 := Nat.mul_le_mul_right (n * a) h2
  have r1 : A * m * (K * K) = A * K * (m * K) := by ac_rfl
  have r2 : B * n * a * (m * K) = B * m * K * (n * a) := by ac_rfl
  have r3 : C * b * (n * a) = C * n * (a * b) := by ac_rfl
  rw [r1, ← r3]
  exact Nat.le_trans q1 (r2 ▸ q2)

theorem chain_down (A B C n m K a b c : Nat) (hab : 0 < a * b) (h1 : B * n * a ≤ A * K) (h2 : C * b ≤ B * m * K) (hk : c * (K * K) ≤ K * (a * b)) : C * n * c ≤ A * m * K := by
  refine ratio _ _ (a * b) (K * K) _ _ hab ?_ hk
  have q1 := Nat.mul_le_mul_right (m * K) h1
  have q2 := Nat.mul_le_mul_right (n * a) h2
  have r1 : C * n * (a * b) = C * b * (n * a) := by ac_rfl
  have r2 : B * n * a * (m * K) = B * m * K * (n * a) := by ac_rfl
  have r3 : A * K * (m * K) = A * m * (K * K) := by ac_rfl
  rw [r1, ← r3]
  exact Nat.le_trans q2 (r2 ▸ q1)

/-- The guess, as the program reckons it: x / 10^p * 10^q. -/
structure Guess (x p q g1 G : Nat) : Prop where
  quo : floatBits .quo .f64 x (tenW p) = some g1
  mul : floatBits .mul .f64 g1 (tenW q) = some G
  l1 : g1 ≤ INF
  l2 : G ≤ INF

theorem guess_ex {x p q : Nat} (hx : x < INF) (hp : p < 23) (hq : q < 23) : ∃ g1 G, Guess x p q g1 G := by
  obtain ⟨g1, h1, l1⟩ := div_some (Nat.le_of_lt hx) (tenW_ok p hp).1 (ten_pos hp)
  obtain ⟨G, h2, l2⟩ := mul_some l1 (tenW_ok q hq).1 (ten_pos hq)
  exact ⟨g1, G, h1, h2, l1, l2⟩

theorem guess_near {U : Nat} (hUe : U = 2 ^ kU) {x p q g1 G : Nat} (hg : Guess x p q g1 G) (hx : x < INF) (hp : p < 23) (hq : q < 23) (lo : U ≤ FV x * 2 ^ 100) (hi : FV x ≤ U * 2 ^ 130) :
    G < INF ∧ FV G * 10 ^ p * KK ≤ FV x * 10 ^ q * 1152921504606847298 ∧ FV x * 10 ^ q * 1152921504606846654 ≤ FV G * 10 ^ p * KK := by
  obtain ⟨u52, u250, hU⟩ := U_facts hUe
  obtain ⟨p1, p2, _⟩ := tenW_ok p hp
  obtain ⟨q1, q2, _⟩ := tenW_ok q hq
  rw [← hUe] at p2 q2
  have hpl := ten_le hp
  have hql := ten_le hq
  have hp0 : 0 < 10 ^ p := Nat.pow_pos (by decide)
  have hq0 : 0 < 10 ^ q := Nat.pow_pos (by decide)
  have hpp := ten_pos hp
  obtain ⟨hquo, hmul, l1, l2⟩ := hg
  generalize 10 ^ p = N at *
  generalize 10 ^ q = D at *
  have hx150 : 2 ^ 150 ≤ FV x := by
    have h1 : 2 ^ 150 * 2 ^ 100 ≤ FV x * 2 ^ 100 := Nat.le_trans (show 2 ^ 150 * 2 ^ 100 ≤ 2 ^ 250 by decide) (Nat.le_trans u250 lo)
    exact Nat.le_of_mul_le_mul_right h1 (by decide)
  have lo1 : N * U * 2 ^ 54 ≤ FV x * U := by
    rw [Nat.mul_right_comm]
    exact Nat.mul_le_mul_right _ (Nat.le_trans (Nat.mul_le_mul_right _ hpl) (Nat.le_trans (by decide) hx150))
  have hi1 : FV x * U ≤ N * U * (U * 2 ^ 250) := by
    have h1 : FV x ≤ N * (U * 2 ^ 250) := Nat.le_trans hi (Nat.le_trans (Nat.mul_le_mul_left U (by decide)) (Nat.le_mul_of_pos_left _ hp0))
    rw [Nat.mul_right_comm N]
    exact Nat.mul_le_mul_right _ h1
  obtain ⟨r, e1, b1, b2, b3⟩ := div_nearU hUe hx p1 hpp (by rw [p2]; exact lo1) (by rw [p2]; exact hi1)
  obtain rfl := Option.some.inj (hquo.symm.trans e1)
  rw [p2] at b2 b3
  have c2 : FV g1 * N * 1152921504606846976 ≤ FV x * 1152921504606847169 := by
    refine Nat.le_of_mul_le_mul_right ?_ hU
    have s1 : ∀ z : Nat, FV g1 * N * z * U = FV g1 * (N * U) * z := fun z => by ac_rfl
    rw [s1, Nat.mul_right_comm (FV x)]
    exact b2
  have c3 : FV x * 1152921504606846783 ≤ FV g1 * N * 1152921504606846976 := by
    refine Nat.le_of_mul_le_mul_right ?_ hU
    have s1 : ∀ z : Nat, FV g1 * N * z * U = FV g1 * (N * U) * z := fun z => by ac_rfl
    rw [s1, Nat.mul_right_comm (FV x)]
    exact b3
  have g52 : 2 ^ 52 ≤ FV g1 := by
    rcases Nat.lt_or_ge (FV g1) (2 ^ 52) with h | h
    · have h1 : FV g1 * N * 1152921504606846976 ≤ 2 ^ 52 * 2 ^ 74 * 1152921504606846976 := Nat.mul_le_mul_right _ (Nat.mul_le_mul (Nat.le_of_lt h) hpl)
      have h2 : 2 ^ 150 * 1152921504606846783 ≤ FV x * 1152921504606846783 := Nat.mul_le_mul_right _ hx150
      have h3 := Nat.le_trans h2 (Nat.le_trans c3 h1)
      exact absurd h3 (by decide)
    · exact h
  have gU : FV g1 * D ≤ U * 2 ^ 250 := by
    have h1 : FV g1 ≤ U * 2 ^ 131 := by
      have h2 : FV g1 * 1152921504606846976 ≤ U * 2 ^ 131 * 1152921504606846976 := by
        have h3 : FV g1 * 1152921504606846976 ≤ FV g1 * N * 1152921504606846976 := Nat.mul_le_mul_right _ (Nat.le_mul_of_pos_right _ hp0)
        have h4 : FV x * 1152921504606847169 ≤ U * 2 ^ 130 * 1152921504606847169 := Nat.mul_le_mul_right _ hi
        have h5 : U * 2 ^ 130 * 1152921504606847169 ≤ U * 2 ^ 131 * 1152921504606846976 := by
          rw [Nat.mul_assoc, Nat.mul_assoc]
          exact Nat.mul_le_mul_left _ (by decide)
        exact Nat.le_trans h3 (Nat.le_trans c2 (Nat.le_trans h4 h5))
      exact Nat.le_of_mul_le_mul_right h2 (by decide)
    refine Nat.le_trans (Nat.mul_le_mul h1 hql) ?_
    rw [Nat.mul_assoc]
    exact Nat.mul_le_mul_left _ (by decide)
  have hX : FV g1 * FV (tenW q) = FV g1 * D * U := by rw [q2, Nat.mul_assoc]
  have lo2 : U * 2 ^ 52 ≤ FV g1 * D * U := by
    rw [Nat.mul_comm]
    exact Nat.mul_le_mul_right _ (Nat.le_trans g52 (Nat.le_mul_of_pos_right _ hq0))
  have hi2 : FV g1 * D * U ≤ U * U * 2 ^ 250 := by
    rw [Nat.mul_right_comm U]
    exact Nat.mul_le_mul_right _ gU
  obtain ⟨r2, e2, d1, d2, d3⟩ := mul_nearU hUe b1 q1 (by rw [hX]; exact lo2) (by rw [hX]; exact hi2)
  obtain rfl := Option.some.inj (hmul.symm.trans e2)
  rw [hX] at d2 d3
  have f2 : FV G * 9007199254740992 ≤ FV g1 * D * 9007199254740993 := by
    refine Nat.le_of_mul_le_mul_right ?_ hU
    rw [Nat.mul_right_comm (FV G), Nat.mul_right_comm (FV g1 * D)]
    exact d2
  have f3 : FV g1 * D * 9007199254740991 ≤ FV G * 9007199254740992 := by
    refine Nat.le_of_mul_le_mul_right ?_ hU
    rw [Nat.mul_right_comm (FV G), Nat.mul_right_comm (FV g1 * D)]
    exact d3
  have f4 : FV G * 1152921504606846976 ≤ FV g1 * D * 1152921504606847104 := ratio _ _ 9007199254740992 9007199254740993 _ _ (by decide) f2 (by decide +kernel)
  have f5 : FV g1 * D * 1152921504606846848 ≤ FV G * 1152921504606846976 := ratio _ _ 9007199254740991 9007199254740992 _ _ (by decide) f3 (by decide +kernel)
  exact ⟨d1, chain_up (FV G) (FV g1) (FV x) D N 1152921504606846976 1152921504606847104 1152921504606847169 1152921504606847298 (by decide) f4 c2 (by decide +kernel),
    chain_down (FV G) (FV g1) (FV x) D N 1152921504606846976 1152921504606846848 1152921504606846783 1152921504606846654 (by decide) f5 c3 (by decide +kernel)⟩

/-- A number that has x as its value with 10^k. -/
def Sol (x : Nat) (k : Int) (M : Nat) : Prop := 1 ≤ M ∧ M < 1000000000000000 ∧ FV (scW M k) = FV x

theorem Sol.unique {x M M' : Nat} {k : Int} (hk1 : -22 ≤ k) (hk2 : k ≤ 22) (h : Sol x k M) (h' : Sol x k M') : M = M' := by
  rcases Nat.lt_trichotomy M M' with q | q | q
  · have := sc_mono h.1 q h'.2.1 hk1 hk2
    rw [h.2.2, h'.2.2] at this
    omega
  · exact q
  · have := sc_mono h'.1 q h.2.1 hk1 hk2
    rw [h.2.2, h'.2.2] at this
    omega

theorem Sol.guess {U : Nat} (hUe : U = 2 ^ kU) {x M : Nat} {k kk : Int} (h : Sol x k M) (hx : x < INF) (hk1 : -22 ≤ k) (hkk : k ≤ kk) (hk2 : kk ≤ 22) {g1 G : Nat} (hg : Guess x kk.toNat (-kk).toNat g1 G) :
    G < INF ∧ FV G * KK ≤ M * U * 1152921504606847492 ∧ (kk = k → M * U * 1152921504606846460 ≤ FV G * KK) := by
  obtain ⟨u52, u250, hU⟩ := U_facts hUe
  obtain ⟨m1, m2, m3⟩ := h
  obtain ⟨_, s1, s2⟩ := sc_near hUe m1 m2 hk1 (by omega)
  rw [m3] at s1 s2
  have hm50 : M ≤ 2 ^ 50 := Nat.le_trans (Nat.le_of_lt m2) (by decide)
  have n1 := ten_le (show k.toNat < 23 by omega)
  have n2 := ten_le (show (-k).toNat < 23 by omega)
  have z1 : 0 < 10 ^ k.toNat := Nat.pow_pos (by decide)
  have z2 : 0 < 10 ^ (-k).toNat := Nat.pow_pos (by decide)
  have z3 : 0 < 10 ^ kk.toNat := Nat.pow_pos (by decide)
  have z4 : 0 < 10 ^ (-kk).toNat := Nat.pow_pos (by decide)
  have hcross : 10 ^ k.toNat * 10 ^ (-kk).toNat ≤ 10 ^ kk.toNat * 10 ^ (-k).toNat := by
    rw [← Nat.pow_add, ← Nat.pow_add]
    exact Nat.pow_le_pow_right (by decide) (by omega)
  have lo : U ≤ FV x * 2 ^ 100 := by
    have h1 : U * 1152921504606846783 ≤ M * 10 ^ k.toNat * U * 1152921504606846783 := Nat.mul_le_mul_right _ (Nat.le_mul_of_pos_left _ (Nat.mul_pos m1 z1))
    have h2 : FV x * 10 ^ (-k).toNat * 1152921504606846976 ≤ FV x * 2 ^ 74 * 1152921504606846976 := Nat.mul_le_mul_right _ (Nat.mul_le_mul_left _ n2)
    have h3 : FV x * 2 ^ 74 * 1152921504606846976 ≤ FV x * 2 ^ 100 * 1152921504606846783 := by
      rw [Nat.mul_assoc, Nat.mul_assoc]
      exact Nat.mul_le_mul_left _ (by decide)
    exact Nat.le_of_mul_le_mul_right (Nat.le_trans h1 (Nat.le_trans s2 (Nat.le_trans h2 h3))) (by decide)
  have hi : FV x ≤ U * 2 ^ 130 := by
    have h1 : FV x * 1152921504606846976 ≤ FV x * 10 ^ (-k).toNat * 1152921504606846976 := Nat.mul_le_mul_right _ (Nat.le_mul_of_pos_right _ z2)
    have h2 : M * 10 ^ k.toNat * U * 1152921504606847169 ≤ U * 2 ^ 130 * 1152921504606846976 := by
      rw [Nat.mul_comm _ U, Nat.mul_assoc, Nat.mul_assoc U]
      refine Nat.mul_le_mul_left _ ?_
      exact Nat.le_trans (Nat.mul_le_mul_right _ (Nat.mul_le_mul hm50 n1)) (by decide)
    exact Nat.le_of_mul_le_mul_right (Nat.le_trans h1 (Nat.le_trans s1 h2)) (by decide)
  obtain ⟨g0, g2, g3⟩ := guess_near hUe hg hx (by omega) (by omega) lo hi
  refine ⟨g0, ?_, ?_⟩
  · have h1 := chain_up (FV G * 10 ^ kk.toNat) (FV x) (M * 10 ^ k.toNat * U) (10 ^ (-kk).toNat) (10 ^ (-k).toNat) 1152921504606846976 1152921504606847298 1152921504606847169 1152921504606847492 (by decide) g2 s1 (by decide +kernel)
    generalize 10 ^ k.toNat = P at *
    generalize 10 ^ (-k).toNat = P' at *
    generalize 10 ^ kk.toNat = R at *
    generalize 10 ^ (-kk).toNat = R' at *
    refine Nat.le_of_mul_le_mul_right ?_ (Nat.mul_pos z3 z2)
    have r1 : ∀ z : Nat, FV G * z * (R * P') = FV G * R * P' * z := fun z => by ac_rfl
    have r2 : ∀ z : Nat, M * P * U * R' * z = M * U * z * (P * R') := fun z => by ac_rfl
    rw [r1]
    refine Nat.le_trans h1 ?_
    rw [r2]
    exact Nat.mul_le_mul_left _ hcross
  · rintro rfl
    have h1 := chain_down (FV G * 10 ^ kk.toNat) (FV x) (M * 10 ^ kk.toNat * U) (10 ^ (-kk).toNat) (10 ^ (-kk).toNat) 1152921504606846976 1152921504606846654 1152921504606846783 1152921504606846460 (by decide) g3 s2 (by decide +kernel)
    generalize 10 ^ kk.toNat = R at *
    generalize 10 ^ (-kk).toNat = R' at *
    refine Nat.le_of_mul_le_mul_right ?_ (Nat.mul_pos z1 z2)
    have r1 : ∀ z : Nat, FV G * z * (R * R') = FV G * R * R' * z := fun z => by ac_rfl
    have r2 : ∀ z : Nat, M * R * U * R' * z = M * U * z * (R * R') := fun z => by ac_rfl
    rw [r1, ← r2]
    exact h1

end Go.Proofs.YtbmdbfidjdogmaaDoor
