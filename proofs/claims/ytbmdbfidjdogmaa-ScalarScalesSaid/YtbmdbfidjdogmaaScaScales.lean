/-
The walk of ScalarScales.
-/
import Derived.Test.YtbmdbfidjdogmaaScaRef
set_option linter.unusedVariables false
set_option linter.unusedSimpArgs false
namespace Go.Proofs.Ytbmdbfidjdogmaa
open Go Go.RowKit

theorem self_eq {r : Nat} (h : r ≤ INF) : (FloatKind.f64.format.order r r == some .eq) = true := by
  rcases Nat.lt_or_eq_of_le h with h | rfl
  · rw [eq_FV h h, decide_eq_true rfl]
  · decide +kernel

theorem scR_le (m : Nat) (k : Int) : scR m k ≤ INF := by
  unfold scR
  split
  · exact Nat.zero_le _
  · rename_i h
    unfold Bad at h
    by_cases h0 : 0 ≤ k
    · exact (sc_mul (by omega) h0 (by omega)).2
    · exact (sc_div (by omega) h0 (by omega)).2

/-- What is above nought is no greater than infinity. -/
theorem pos_le {x : Nat} (hx : x < 18446744073709551616) (h : (FloatKind.f64.format.order x 0 == some .gt) = true) : x ≤ INF := by
  rcases Nat.lt_or_ge INF x with hgt | hle
  · exfalso
    have h0 : Ieee.double.read 0 = .number false 0 (-1074) := by decide +kernel
    have h' : (Ieee.double.order x 0 == some .gt) = true := h
    unfold Ieee.Format.order at h'
    rw [h0] at h'
    unfold INF at hgt
    by_cases hs : x < 9223372036854775808
    · have h1 : x % 9223372036854775808 = x := Nat.mod_eq_of_lt hs
      have hr : ∃ n f, Ieee.double.read x = .nan n f := by
        unfold Ieee.Format.read
        simp only [c_sign, c_bin, c_inf, h1, INF]
        rw [if_neg (by omega), if_neg (by omega), if_neg (by omega)]
        exact ⟨_, _, rfl⟩
      obtain ⟨n, f, hr⟩ := hr
      rw [hr] at h'
      cases h'
    · have hneg : (x / 9223372036854775808 % 2 == 1) = true := by
        have : x / 9223372036854775808 = 1 := by omega
        rw [this]; rfl
      have hr : (∃ m p, Ieee.double.read x = .number true m p) ∨ Ieee.double.read x = .infinity true ∨ ∃ n f, Ieee.double.read x = .nan n f := by
        unfold Ieee.Format.read
        simp only [c_sign, c_bin, c_inf, hneg, INF]
        split
        · exact .inl ⟨_, _, rfl⟩
        · split
          · exact .inl ⟨_, _, rfl⟩
          · split
            · exact .inr (.inl rfl)
            · exact .inr (.inr ⟨_, _, rfl⟩)
      rcases hr with ⟨m, p, hr⟩ | hr | ⟨n, f, hr⟩
      · rw [hr] at h'
        have h2 : ∀ a b : Nat, (compare (Ieee.signed true m a) (Ieee.signed false 0 b) == .gt) = false := by
          intro a b
          unfold Ieee.signed
          rw [if_pos rfl, if_neg (by decide), Nat.zero_shiftLeft]
          generalize m <<< a = z
          rcases Nat.eq_zero_or_pos z with q | q
          · subst q; rfl
          · rw [Int.compare_eq_lt.2 (by omega)]; rfl
        have h3 : (compare (Ieee.signed true m (p - min p (-1074)).toNat) (Ieee.signed false 0 ((-1074) - min p (-1074)).toNat) == .gt) = true := h'
        rw [h2] at h3
        cases h3
      · rw [hr] at h'
        cases h'
      · rw [hr] at h'
        cases h'
  · exact hle

set_option maxHeartbeats 1000000 in
theorem scales_end (w : World) (m : Nat) (k : Int) (x : Nat) (M : Nat) (kk er : Int) (w1 w2 : World) (hg : Grown w w2)
    (h1 : Calls Try.prog 6 #[.float .f64 x] w fun e w' => e = .returned (.tuple #[.int .u64 M, .int .i64 kk, .int .i64 er]) ∧ w' = w1)
    (h2 : Calls Try.prog 7 #[.float .f64 x] w1 fun e w' => e = .returned (.tuple #[.int .u64 M, .int .i64 kk, .int .i64 er]) ∧ w' = w2) :
    Calls Try.prog 3 #[.int .u64 m, .int .i64 k, .float .f64 x] w fun e w' => e = .returned (.bool true) ∧ Grown w w' := by
  have H1 := Lib.hid h1
  have H2 := Lib.hid h2
  have Hg := Lib.hid hg
  have Hs := Lib.hid (scaled_walk w m k)
  have Hr := Lib.hid (refScaled_walk w m k)
  have heq := self_eq (scR_le m k)
  clear h1 h2 hg
  go_enter Try.func3, Try.ntmps3
  go_wp2_with fail
  refine Hs.out.mono ?_
  rintro e w3 ⟨rfl, hw⟩
  obtain rfl := hw.symm
  clear Hs
  go_wp2_with fail
  refine Hr.out.mono ?_
  rintro e w3 ⟨rfl, hw⟩
  obtain rfl := hw.symm
  clear Hr
  go_wp2_with fail
  refine H1.out.mono ?_
  rintro e w3 ⟨rfl, hw⟩
  obtain rfl := hw.symm
  clear H1
  go_wp2_with fail
  refine H2.out.mono ?_
  rintro e w3 ⟨rfl, hw⟩
  obtain rfl := hw.symm
  clear H2
  go_wp2
  go_ret
  exact ⟨rfl, Hg.out⟩

theorem scales_walk (w : World) (m : Nat) (k : Int) (x : Nat) (hx : x < 18446744073709551616) :
    Calls Try.prog 3 #[.int .u64 m, .int .i64 k, .float .f64 x] w fun e w' => e = .returned (.bool true) ∧ Grown w w' := by
  cases hpos : (FloatKind.f64.format.order x 0 == some .gt) with
  | false => exact scales_end w m k x 0 0 2 w w (Grown.refl w) (decimal_neg w x hpos) (refDecimal_neg w x hpos)
  | true =>
    rcases Nat.lt_or_eq_of_le (pos_le hx hpos) with hlt | rfl
    · have h0 : 0 < FV x := by
        rw [gt_FV hlt (by decide), FV_zero] at hpos
        exact of_decide_eq_true hpos
      have hd1 := decimal_walk w x hlt h0
      have hd2 := refDecimal_walk w x hlt h0
      obtain ⟨_, _, _, ⟨M, kk, er, _, _, hdec⟩, _⟩ := hd1 []
      refine scales_end w m k x M kk er w w (Grown.refl w) (hd1.mono ?_) (hd2.mono ?_)
      all_goals
        rintro e w' ⟨M', k', er', rfl, hw, hdec'⟩
        obtain ⟨rfl, rfl, rfl⟩ := hdec.unique hdec'
        exact ⟨rfl, hw⟩
    · exact scales_end w m k INF 0 0 2 w w.drew (Grown.drew (Grown.refl w)) (decimal_inf w) (refDecimal_inf w)

end Go.Proofs.Ytbmdbfidjdogmaa
