/-
The walk of ScalarRises.
-/
import Derived.Test.YtbmdbfidjdogmaaDoorScaAwake
set_option linter.unusedVariables false
set_option linter.unusedSimpArgs false
namespace Go.Proofs.YtbmdbfidjdogmaaDoor
open Go Go.RowKit

def BitsPost (w : World) (e : Ending) (w' : World) : Prop := ∃ r : Int, e = .returned (.int .i64 r) ∧ w' = w

theorem half_lt {n f : Nat} (h : n < 2 ^ (f + 1)) : n / 2 < 2 ^ f := by
  rw [Nat.pow_succ] at h
  omega

set_option maxHeartbeats 1000000 in
theorem bits_walk (w : World) (n : Nat) (hn : n < 18446744073709551616) : Calls Tryd.prog 13 #[.int .u64 n] w fun e w' => BitsPost w e w' := by
  go_enter Tryd.func13, Tryd.ntmps13
  go_wp2
  go_loop [0, 3] (fun m k => ∃ (j f i : Nat), m = .int .u64 j ∧ k = .int .i64 i ∧ Hid (j < 2 ^ f ∧ i + f = 64 ∧ j ≤ n)) (fun m _ => (intOf m).toNat)
  case atStart => exact ⟨n, 64, 0, rfl, rfl, by omega, rfl, Nat.le_refl _⟩
  case round =>
    obtain ⟨j, f, i, rfl, rfl, hj⟩ := hrel
    have hi : i ≤ 64 := by have := hj.out; omega
    have hj64 : j < 18446744073709551616 := by have := hj.out; omega
    by_cases h0 : 0 < j
    · obtain ⟨f', rfl⟩ : ∃ f', f = f' + 1 := by
        cases f with
        | zero => have := hj.out; simp at this; omega
        | succ f' => exact ⟨f', rfl⟩
      have hlt := half_lt hj.out.1
      have hsum := hj.out.2.1
      have hle := hj.out.2.2
      obtain ⟨j2, hj2⟩ : ∃ j2 : Nat, j2 = j / 2 := ⟨_, rfl⟩
      have e1 : (j : Int) / 2 = (j2 : Int) := by omega
      have e2 : (j : Int).tdiv 2 = (j2 : Int) := by rw [Int.tdiv_eq_ediv_of_nonneg (by omega)]; exact e1
      have hres : Hid (j2 < 2 ^ f' ∧ i + 1 + f' = 64 ∧ j2 ≤ n) := Lib.hid ⟨by rw [hj2]; exact hlt, by omega, by omega⟩
      have hm : Hid (j2 < j) := Lib.hid (by omega)
      have hi2 : i ≤ 63 := by omega
      clear hlt hsum hle hj2
      go_wp2
      go_round
      case rel => exact ⟨j2, f', i + 1, rfl, by go_num, hres⟩
      case measure =>
        show ((j2 : Int)).toNat < ((j : Int)).toNat
        have := hm.out
        omega
    · go_wp2
      go_ret
      exact ⟨_, rfl, rfl⟩

/-- Greater numbers come to greater doubles, nought too. -/
theorem sc_lt {a b : Nat} {k : Int} (hab : a < b) (hb : b < 1000000000000000) (hk1 : -22 ≤ k) (hk2 : k ≤ 22) : (FloatKind.f64.format.order (scW a k) (scW b k) == some .lt) = true := by
  have ha : ¬ Bad a k := by unfold Bad; omega
  have hb' : ¬ Bad b k := by unfold Bad; omega
  rw [lt_FV (sc_fin ha) (sc_fin hb')]
  refine decide_eq_true ?_
  by_cases h0 : 1 ≤ a
  · exact sc_mono h0 hab hb hk1 hk2
  · have : a = 0 := by omega
    subst this
    rw [sc_zero hk1 hk2, FV_zero]
    obtain ⟨U, hUe, _, _, hU⟩ := exU
    obtain ⟨_, _, h3⟩ := sc_near hUe (show 1 ≤ b by omega) hb hk1 hk2
    rcases Nat.eq_zero_or_pos (FV (scW b k)) with q | q
    · rw [q, Nat.zero_mul, Nat.zero_mul] at h3
      have hp : 0 < b * 10 ^ k.toNat * U := Nat.mul_pos (Nat.mul_pos (by omega) (Nat.pow_pos (by decide))) hU
      omega
    · exact q

theorem sc_pos {b : Nat} {k : Int} (h0 : 1 ≤ b) (hb : b < 1000000000000000) (hk1 : -22 ≤ k) (hk2 : k ≤ 22) : 0 < FV (scW b k) := by
  have h := sc_lt (a := 0) h0 hb hk1 hk2
  rw [lt_FV (sc_fin (by unfold Bad; omega)) (sc_fin (by unfold Bad; omega)), decide_eq_true_eq, sc_zero hk1 hk2, FV_zero] at h
  exact h

theorem sc_eq {a : Nat} {k : Int} (hb : a < 1000000000000000) (hk1 : -22 ≤ k) (hk2 : k ≤ 22) : (FloatKind.f64.format.order (scW a k) (scW a k) != some .eq) = false := by
  have := self_eq (Nat.le_of_lt (sc_fin (show ¬ Bad a k by unfold Bad; omega)))
  rw [bne, this]; rfl

theorem sc_ten0 {a : Nat} {k : Int} (ha : a * 10 < 1000000000000000) (hk1 : -22 ≤ k) (hk2 : k + 1 ≤ 22) : scW a (k + 1) = scW (a * 10) k := by
  by_cases h0 : 1 ≤ a
  · exact (sc_ten h0 ha hk1 hk2).symm
  · have : a = 0 := by omega
    subst this
    rw [sc_zero (by omega) hk2, Nat.zero_mul, sc_zero hk1 (by omega)]

theorem sc_int0 {a : Nat} {k : Int} (ha : a < 1000000000000000) (h0 : 0 ≤ k) (hk2 : k ≤ 22) : floatOfInt .f64 ((a * 10 ^ k.toNat : Nat) : Int) = scW a k := by
  by_cases h1 : 1 ≤ a
  · exact (sc_int h1 ha h0 hk2).symm
  · have : a = 0 := by omega
    subst this
    rw [Nat.zero_mul, sc_zero (by omega) hk2]
    decide +kernel

theorem scaled_ok (w : World) {m : Nat} {k : Int} (hm : m < 1000000000000000) (hk1 : -22 ≤ k) (hk2 : k ≤ 22) : Calls Tryd.prog 12 #[.int .u64 m, .int .i64 k] w fun e w' => e = .returned (.tuple #[.float .f64 (scW m k), .int .i64 0]) ∧ w' = w := by
  have h := scaled_walk w m k
  have hb : ¬ Bad m k := by unfold Bad; omega
  unfold scR scE at h
  rw [if_neg hb, if_neg hb] at h
  exact h

set_option maxHeartbeats 4000000 in
set_option maxRecDepth 20000 in
theorem rises_walk (w : World) (a b : Nat) (k : Int) (ha : a < 18446744073709551616) (hb : b < 18446744073709551616) (hk1 : -9223372036854775808 ≤ k) (hk2 : k ≤ 9223372036854775807) (htab : Tab w) (hl : RangeLaid w) :
    Calls Tryd.prog 4 #[.int .u64 a, .int .u64 b, .int .i64 k] w fun e w' => e = .returned (.bool true) ∧ Below w.heap.size w w' := by
  have Haw := Lib.hid (awake_walk w htab hl)
  clear htab hl
  obtain ⟨A, hA⟩ : ∃ A : Nat, A = a % 1000000000000000 := ⟨_, rfl⟩
  obtain ⟨B, hB⟩ : ∃ B : Nat, B = b % 1000000000000000 := ⟨_, rfl⟩
  obtain ⟨K, hK⟩ : ∃ K : Int, K = k.tmod 23 := ⟨_, rfl⟩
  have hA15 : A < 1000000000000000 := by omega
  have hB15 : B < 1000000000000000 := by omega
  have hAi : (a : Int) % 1000000000000000 = (A : Int) := by omega
  have hBi : (b : Int) % 1000000000000000 = (B : Int) := by omega
  have hAi2 : (a : Int).tmod 1000000000000000 = (A : Int) := by rw [Int.tmod_eq_emod_of_nonneg (by omega)]; exact hAi
  have hBi2 : (b : Int).tmod 1000000000000000 = (B : Int) := by rw [Int.tmod_eq_emod_of_nonneg (by omega)]; exact hBi
  have hKi : k.tmod 23 = K := hK.symm
  have hKb : -22 ≤ K ∧ K ≤ 22 := by
    have h1 := Int.tmod_lt_of_pos k (show (0 : Int) < 23 by decide)
    have h2 : -23 < k.tmod 23 := by
      have h3 := Int.tmod_lt_of_pos (-k) (show (0 : Int) < 23 by decide)
      rw [Int.neg_tmod] at h3
      omega
    omega
  obtain ⟨K1, K2⟩ := hKb
  have Hx := Lib.hid (fun w => scaled_ok w hA15 K1 K2)
  have Hy := Lib.hid (fun w => scaled_ok w hB15 K1 K2)
  have HA := Lib.hid hA15
  have HB := Lib.hid hB15
  clear hA hB hK hA15 hB15
  go_enter Tryd.func4, Tryd.ntmps4
  go_wp2_with fail
  refine Haw.out.mono ?_
  rintro e w1 ⟨rfl, hbl⟩
  have Hbl := Lib.hid hbl
  clear hbl Haw
  go_wp2_with fail
  (with_reducible refine (Hx.out _).mono ?_)
  rintro e w2 ⟨rfl, hw⟩
  obtain rfl := hw.symm
  go_wp2_with fail
  (with_reducible refine (Hy.out _).mono ?_)
  rintro e w2 ⟨rfl, hw⟩
  obtain rfl := hw.symm
  clear Hx Hy hAi hBi hAi2 hBi2 hKi
  go_upto_region 8 with (fail)
  go_cut [66] from 40 (fun s66 wc' => s66 = .bool false ∧ wc' = w1)
  case first =>
    rcases Nat.lt_trichotomy A B with h | h | h
    · have t1 : decide (A < B) = true := decide_eq_true h
      have t2 := sc_lt h HB.out K1 K2
      have t3 : ((A : Int) == (B : Int)) = false := by simp; omega
      clear h
      generalize scW A K = x at *
      generalize scW B K = y at *
      go_wp2
      go_meet
      case rel => exact ⟨rfl, (by first | rfl | trivial)⟩
    · subst h
      have t1 : decide (A < A) = false := decide_eq_false (Nat.lt_irrefl _)
      have t2 := sc_eq HA.out K1 K2
      have t3 : ((A : Int) == (A : Int)) = true := by simp
      generalize scW A K = x at *
      go_wp2
      go_meet
      case rel => exact ⟨rfl, (by first | rfl | trivial)⟩
    · have t1 : decide (A < B) = false := decide_eq_false (by omega)
      have t3 : ((A : Int) == (B : Int)) = false := by simp; omega
      clear h
      generalize scW A K = x at *
      generalize scW B K = y at *
      go_wp2
      go_meet
      case rel => exact ⟨rfl, (by first | rfl | trivial)⟩
  case rest =>
    obtain ⟨rfl, hw⟩ := hcut
    obtain rfl := hw.symm
    obtain ⟨d, hd⟩ : ∃ d : Nat, d = A % 10 := ⟨_, rfl⟩
    have hdi : (A : Int) % 10 = (d : Int) := by omega
    have hdi2 : (A : Int).tmod 10 = (d : Int) := by rw [Int.tmod_eq_emod_of_nonneg (by omega)]; exact hdi
    obtain ⟨c1, hc1⟩ : ∃ c1 : Bool, c1 = decide (d = 0 ∧ K < 22) := ⟨_, rfl⟩
    have Hd := Lib.hid hd
    have Hc1 := Lib.hid hc1
    clear hd hc1
    go_upto_region 10 with (fail)
    go_cut [73] from 67 (fun s73 wc' => s73 = .bool c1 ∧ wc' = w1)
    case first =>
      by_cases h0 : d = 0
      · subst h0
        by_cases hk : K < 22
        · have e : c1 = true := by rw [Hc1.out]; exact decide_eq_true ⟨rfl, hk⟩
          subst e
          go_wp2
          go_meet
          case rel => exact ⟨rfl, (by first | rfl | trivial)⟩
        · have e : c1 = false := by rw [Hc1.out]; exact decide_eq_false (fun q => hk q.2)
          subst e
          go_wp2
          go_meet
          case rel => exact ⟨rfl, (by first | rfl | trivial)⟩
      · have t0 : ((d : Int) == 0) = false := by simp; omega
        have e : c1 = false := by rw [Hc1.out]; exact decide_eq_false (fun q => h0 q.1)
        subst e
        clear h0
        go_wp2
        go_meet
        case rel => exact ⟨rfl, (by first | rfl | trivial)⟩
    case rest =>
      obtain ⟨rfl, hw⟩ := hcut
      obtain rfl := hw.symm
      clear hdi hdi2
      go_upto_if 73 with (fail)
      go_cut [11, 12] from 74 (fun s11 s12 wc' => wc' = w1)
      case first =>
        cases c1 with
        | false =>
          go_wp2
          go_meet
          case rel => trivial
        | true =>
          obtain ⟨h0, hk⟩ := of_decide_eq_true Hc1.out.symm
          obtain ⟨A2, hA2⟩ : ∃ A2 : Nat, A2 = A / 10 := ⟨_, rfl⟩
          have hAA : A = A2 * 10 := by have := Hd.out; omega
          have e1 : (A : Int) / 10 = (A2 : Int) := by omega
          have e2 : (A : Int).tdiv 10 = (A2 : Int) := by rw [Int.tdiv_eq_ediv_of_nonneg (by omega)]; exact e1
          have hA15 := HA.out
          have hlt : A2 < 1000000000000000 := by omega
          have hz : scW A2 (K + 1) = scW A K := by
            rw [hAA]
            exact sc_ten0 (by omega) K1 (by omega)
          have hs := fun w => scaled_ok w hlt (show -22 ≤ K + 1 by omega) (show K + 1 ≤ 22 by omega)
          rw [hz] at hs
          have Hs := Lib.hid hs
          have t1 := sc_eq hA15 K1 K2
          clear hs hz hAA hA2 hA15
          generalize scW A K = x at *
          go_wp2_with fail
          (with_reducible refine (Hs.out _).mono ?_)
          rintro e w2 ⟨rfl, hw⟩
          obtain rfl := hw.symm
          clear Hs
          go_wp2
          go_meet
          case rel => trivial
      case rest =>
        obtain rfl := hcut.symm
        clear Hd Hc1
        obtain ⟨c2, hc2⟩ : ∃ c2 : Bool, c2 = decide (0 ≤ K ∧ K ≤ 3) := ⟨_, rfl⟩
        have Hc2 := Lib.hid hc2
        clear hc2
        go_upto_region 14 with (fail)
        go_cut [94] from 89 (fun s94 wc' => s94 = .bool c2 ∧ wc' = w1)
        case first =>
          by_cases h0 : 0 ≤ K
          · by_cases h3 : K ≤ 3
            · have e : c2 = true := by rw [Hc2.out]; exact decide_eq_true ⟨h0, h3⟩
              subst e
              go_wp2
              go_meet
              case rel => exact ⟨rfl, (by first | rfl | trivial)⟩
            · have e : c2 = false := by rw [Hc2.out]; exact decide_eq_false (fun q => h3 q.2)
              subst e
              go_wp2
              go_meet
              case rel => exact ⟨rfl, (by first | rfl | trivial)⟩
          · have e : c2 = false := by rw [Hc2.out]; exact decide_eq_false (fun q => h0 q.1)
            subst e
            go_wp2
            go_meet
            case rel => exact ⟨rfl, (by first | rfl | trivial)⟩
        case rest =>
          obtain ⟨rfl, hw⟩ := hcut
          obtain rfl := hw.symm
          go_upto_if 94 with (fail)
          go_cut [13, 14] from 95 (fun s13 s14 wc' => wc' = w1)
          case first =>
            cases c2 with
            | false =>
              go_wp2
              go_meet
              case rel => trivial
            | true =>
              obtain ⟨h0, h3⟩ := of_decide_eq_true Hc2.out.symm
              obtain ⟨n, rfl⟩ : ∃ n : Nat, K = (n : Int) := ⟨K.toNat, by omega⟩
              have hn3 : n ≤ 3 := by omega
              have hfl := sc_int0 HA.out h0 K2
              rw [show ((n : Int)).toNat = n by omega] at hfl
              have Hfl := Lib.hid hfl
              have t1 := sc_eq HA.out K1 K2
              clear hfl
              generalize scW A (n : Int) = x at *
              go_wp2
              go_loop [13, 14] (fun m i => ∃ (j nj : Nat), i = .int .i64 j ∧ m = .int .u64 nj ∧ Hid (j ≤ n ∧ nj = A * 10 ^ j)) (fun _ i => n + 1 - (intOf i).toNat)
              case atStart => exact ⟨0, A, rfl, rfl, Nat.zero_le _, by rw [Nat.pow_zero, Nat.mul_one]⟩
              case round =>
                obtain ⟨j, nj, rfl, rfl, hj⟩ := hrel
                have hb : nj < 1000000000000000000 := by
                  rw [hj.out.2]
                  have h1 : 10 ^ j ≤ 10 ^ 3 := Nat.pow_le_pow_right (by decide) (by have := hj.out.1; omega)
                  have h2 := Nat.mul_le_mul (Nat.le_of_lt HA.out) h1
                  have h3 : A * 10 ^ j < 1000000000000000 * 10 ^ 3 := by
                    have h4 : A * 10 ^ j ≤ A * 10 ^ 3 := Nat.mul_le_mul_left _ h1
                    have h5 : A * 10 ^ 3 < 1000000000000000 * 10 ^ 3 := Nat.mul_lt_mul_of_pos_right HA.out (by decide)
                    omega
                  omega
                by_cases hlt : j < n
                · obtain ⟨nk, hnk⟩ : ∃ nk : Nat, nk = nj * 10 := ⟨_, rfl⟩
                  have hmul : IntKind.u64.wrap ((nj : Int) * 10) = (nk : Int) := by rw [IntKind.wrap_u64]; omega
                  have hmul2 : (nj : Int) * 10 = (nk : Int) := by omega
                  have Hnk := Lib.hid (show j + 1 ≤ n ∧ nk = A * 10 ^ (j + 1) from ⟨hlt, by rw [hnk, hj.out.2, Nat.pow_succ, Nat.mul_assoc]⟩)
                  clear hnk
                  go_wp2
                  go_round
                  case rel => exact ⟨j + 1, nk, by go_num, rfl, Hnk⟩
                  case measure =>
                    show n + 1 - ((j : Int) + 1).toNat < n + 1 - ((j : Int)).toNat
                    omega
                · have hjn : j = n := by have := hj.out.1; omega
                  have hfl2 : floatOfInt .f64 (nj : Int) = x := by rw [hj.out.2, hjn]; exact Hfl.out
                  have Hbits := Lib.hid (fun w => bits_walk w nj (by omega))
                  clear hj hjn Hfl
                  go_wp2_with fail
                  (with_reducible refine (Hbits.out _).mono ?_)
                  rintro e w2 ⟨r, rfl, hw⟩
                  obtain rfl := hw.symm
                  clear Hbits
                  by_cases hr : r ≤ 53
                  · go_wp2
                    go_meet
                    case rel => trivial
                  · go_wp2
                    go_meet
                    case rel => trivial
          case rest =>
            obtain rfl := hcut.symm
            clear Hc2
            by_cases hA0 : A = 0
            · subst hA0
              have hz : scW 0 K = 0 := sc_zero K1 K2
              have t1 : (FloatKind.f64.format.order 0 0 == some .eq) = true := by decide +kernel
              go_wp2
              go_ret
              exact ⟨rfl, Hbl.out⟩
            · have t0 : ((A : Int) == 0) = false := by simp; omega
              have hA1 : 1 ≤ A := by omega
              have hsol : Sol (scW A K) K A := ⟨hA1, HA.out, rfl⟩
              have Hsol := Lib.hid hsol
              have Hdc := Lib.hid (decimal_walk w1 (scW A K) (sc_fin (by unfold Bad; have := HA.out; omega)) (sc_pos hA1 HA.out K1 K2))
              have t2 := self_eq (Nat.le_of_lt (sc_fin (show ¬ Bad A K by unfold Bad; have := HA.out; omega)))
              clear hsol hA0
              generalize scW A K = x at *
              go_wp2_with fail
              refine Hdc.out.mono ?_
              rintro e w2 ⟨M, p, er, rfl, hw, hdec⟩
              obtain rfl := hw.symm
              clear Hdc
              rcases hdec with ⟨rfl, p1, p2, hs, hno⟩ | ⟨rfl, rfl, rfl, hno⟩
              · have hx : scW M p = x := FV_inj hs.2.2
                have hc := fun w => scaled_ok w hs.2.1 p1 p2
                rw [hx] at hc
                have Hc := Lib.hid hc
                have hKp : K ≤ p := by
                  rcases Int.lt_or_le p K with q | q
                  · exact absurd Hsol.out (hno K q K2 A)
                  · exact q
                obtain ⟨d, hd⟩ : ∃ d : Nat, d = M % 10 := ⟨_, rfl⟩
                have hdi : (M : Int) % 10 = (d : Int) := by omega
                have hdi2 : (M : Int).tmod 10 = (d : Int) := by rw [Int.tmod_eq_emod_of_nonneg (by omega)]; exact hdi
                have hor : d ≠ 0 ∨ p = 22 := by
                  by_cases h0 : d = 0
                  · by_cases h22 : p = 22
                    · exact .inr h22
                    · exfalso
                      have hM : M = M / 10 * 10 := by omega
                      have h1 := hs.1
                      have h2 := hs.2.1
                      refine hno (p + 1) (by omega) (by omega) (M / 10) ⟨by omega, by omega, ?_⟩
                      rw [← hx]
                      conv => rhs; rw [hM]
                      rw [sc_ten0 (by omega) p1 (by omega)]
                  · exact .inl h0
                have Hor := Lib.hid hor
                clear hs hno hx hc hd hor
                go_wp2_with fail
                (with_reducible refine (Hc.out _).mono ?_)
                rintro e w2 ⟨rfl, hw⟩
                obtain rfl := hw.symm
                clear Hc
                by_cases h0 : d = 0
                · have h22 : p = 22 := by rcases Hor.out with q | q; exact absurd h0 q; exact q
                  subst h0
                  subst h22
                  go_wp2
                  go_ret
                  exact ⟨rfl, Hbl.out⟩
                · have t3 : ((d : Int) != 0) = true := by simp; omega
                  clear h0
                  go_wp2
                  go_ret
                  exact ⟨rfl, Hbl.out⟩
              · exact absurd Hsol.out (hno K K1 K2 A)

end Go.Proofs.YtbmdbfidjdogmaaDoor
