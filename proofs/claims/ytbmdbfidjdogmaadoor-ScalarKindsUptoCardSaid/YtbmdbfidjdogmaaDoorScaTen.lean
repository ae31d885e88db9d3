/-
The walks of ten and of both Scaled.
-/
import Derived.Test.YtbmdbfidjdogmaaDoorChecked
import Derived.Test.YtbmdbfidjdogmaaDoorFloE
import Derived.WalkKit
import Derived.ProofKit
import Derived.Lib.Hide
set_option linter.unusedVariables false
set_option linter.unusedSimpArgs false
namespace Go.Proofs.YtbmdbfidjdogmaaDoor
open Go Go.RowKit

theorem mul_run {a b r : Nat} (h : floatBits .mul .f64 a b = some r) : ∀ t w, (binOp .mul t (.float .f64 a) (.float .f64 b)).run Tryd.prog w = .ok (.float .f64 r) w := fun t w => run_float_arith w .mul t .f64 a b r h
theorem quo_run {a b r : Nat} (h : floatBits .quo .f64 a b = some r) : ∀ t w, (binOp .quo t (.float .f64 a) (.float .f64 b)).run Tryd.prog w = .ok (.float .f64 r) w := fun t w => run_float_arith w .quo t .f64 a b r h

set_option maxHeartbeats 1000000 in
theorem ten_walk (w : World) (k : Nat) (hk : k < 23) : Calls Tryd.prog 26 #[.int .i64 k] w fun e w' => e = .returned (.float .f64 (tenW k)) ∧ w' = w := by
  have Hk := Lib.hid hk
  go_enter Tryd.func26, Tryd.ntmps26
  go_wp2
  go_loop [3, 5] (fun x i => ∃ j : Nat, i = .int .i64 j ∧ j ≤ k ∧ x = .float .f64 (tenW j)) (fun _ i => k - (intOf i).toNat)
  case atStart => exact ⟨0, rfl, Nat.zero_le _, rfl⟩
  case round =>
    obtain ⟨j, rfl, hj, rfl⟩ := hrel
    by_cases hlt : j < k
    · have hop := mul_run (tenW_ok j (by have := Hk.out; omega)).2.2
      go_wp2
      go_round
      case rel => exact ⟨j + 1, by go_num, by omega, rfl⟩
      case measure => simp [intOf]; omega
    · obtain rfl : j = k := by omega
      go_wp2
      go_ret
      exact ⟨rfl, rfl⟩

/-- Can it not be scaled? -/
def Bad (m : Nat) (k : Int) : Prop := 1000000000000000 ≤ m ∨ k < -22 ∨ 22 < k

instance (m : Nat) (k : Int) : Decidable (Bad m k) := inferInstanceAs (Decidable (_ ∨ _ ∨ _))

/-- What both Scaled answer. -/
def scR (m : Nat) (k : Int) : Nat := if Bad m k then 0 else scW m k
def scE (m : Nat) (k : Int) : Int := if Bad m k then 2 else 0

set_option maxHeartbeats 1000000 in
theorem scaled_walk (w : World) (m : Nat) (k : Int) : Calls Tryd.prog 12 #[.int .u64 m, .int .i64 k] w fun e w' => e = .returned (.tuple #[.float .f64 (scR m k), .int .i64 (scE m k)]) ∧ w' = w := by
  unfold scR scE
  by_cases hb : Bad m k
  · rw [if_pos hb, if_pos hb]
    by_cases h1 : (1000000000000000 : Int) ≤ (m : Int)
    · clear hb
      go_enter Tryd.func12, Tryd.ntmps12
      go_wp2
      go_ret2
      exact ⟨rfl, rfl⟩
    · by_cases h2 : k < -22
      · clear hb
        go_enter Tryd.func12, Tryd.ntmps12
        go_wp2
        go_ret2
        exact ⟨rfl, rfl⟩
      · have h3 : 22 < k := by unfold Bad at hb; omega
        clear hb
        go_enter Tryd.func12, Tryd.ntmps12
        go_wp2
        go_ret2
        exact ⟨rfl, rfl⟩
  · rw [if_neg hb, if_neg hb]
    have h1 : ¬ (1000000000000000 : Int) ≤ (m : Int) := by unfold Bad at hb; omega
    have h2 : ¬ k < -22 := by unfold Bad at hb; omega
    have h3 : ¬ 22 < k := by unfold Bad at hb; omega
    have hm : m < 1000000000000000 := by omega
    by_cases h0 : 0 ≤ k
    · obtain ⟨kn, rfl⟩ : ∃ kn : Nat, k = (kn : Int) := ⟨k.toNat, by omega⟩
      have hop := mul_run (sc_mul hm h0 (by omega)).1
      have Ht := Lib.hid (ten_walk w kn (by omega))
      rw [show ((kn : Int)).toNat = kn by omega] at hop
      clear hb hm
      go_enter Tryd.func12, Tryd.ntmps12
      go_wp2_with fail
      refine Ht.out.mono ?_
      rintro e w' ⟨rfl, rfl⟩
      go_wp2
      go_ret2
      exact ⟨rfl, rfl⟩
    · obtain ⟨kn, hkn⟩ : ∃ kn : Nat, -k = (kn : Int) := ⟨(-k).toNat, by omega⟩
      have hop := quo_run (sc_div hm h0 (by omega)).1
      have Ht := Lib.hid (ten_walk w kn (by omega))
      rw [show (-k).toNat = kn by omega] at hop
      rw [← hkn] at Ht
      clear hb hm hkn
      go_enter Tryd.func12, Tryd.ntmps12
      go_wp2_with fail
      refine Ht.out.mono ?_
      rintro e w' ⟨rfl, rfl⟩
      go_wp2
      go_ret2
      exact ⟨rfl, rfl⟩

set_option maxHeartbeats 1000000 in
set_option maxRecDepth 20000 in
theorem refScaled_walk (w : World) (m : Nat) (k : Int) : Calls Tryd.prog 46 #[.int .u64 m, .int .i64 k] w fun e w' => e = .returned (.tuple #[.float .f64 (scR m k), .int .i64 (scE m k)]) ∧ w' = w := by
  unfold scR scE
  by_cases hb : Bad m k
  · rw [if_pos hb, if_pos hb]
    by_cases h1 : (1000000000000000 : Int) ≤ (m : Int)
    · clear hb
      go_enter Tryd.func46, Tryd.ntmps46
      go_wp2
      go_ret2
      exact ⟨rfl, rfl⟩
    · by_cases h2 : k < -22
      · clear hb
        go_enter Tryd.func46, Tryd.ntmps46
        go_wp2
        go_ret2
        exact ⟨rfl, rfl⟩
      · have h3 : 22 < k := by unfold Bad at hb; omega
        clear hb
        go_enter Tryd.func46, Tryd.ntmps46
        go_wp2
        go_ret2
        exact ⟨rfl, rfl⟩
  · rw [if_neg hb, if_neg hb]
    have h1 : ¬ (1000000000000000 : Int) ≤ (m : Int) := by unfold Bad at hb; omega
    have h2 : ¬ k < -22 := by unfold Bad at hb; omega
    have h3 : ¬ 22 < k := by unfold Bad at hb; omega
    have hm : m < 1000000000000000 := by omega
    by_cases h0 : 0 ≤ k
    · obtain ⟨kn, rfl⟩ : ∃ kn : Nat, k = (kn : Int) := ⟨k.toNat, by omega⟩
      have hop := Lib.hid (mul_run (sc_mul hm h0 (by omega)).1)
      clear hb hm
      go_enter Tryd.func46, Tryd.ntmps46
      go_wp2
      go_loopw [6, 8] (fun x i wr => ∃ j : Nat, i = .int .i64 j ∧ j ≤ kn ∧ x = .float .f64 (tenW j) ∧ w = wr) (fun _ i _ => kn - (intOf i).toNat)
      case atStart => exact ⟨0, rfl, Nat.zero_le _, rfl, rfl⟩
      case round =>
        obtain ⟨j, rfl, hj, rfl, rfl⟩ := hrel
        by_cases hlt : j < kn
        · have hop2 := mul_run (tenW_ok j (by omega)).2.2
          go_wp2
          go_roundw
          case rel => exact ⟨j + 1, by go_num, by omega, rfl, by first | rfl | trivial⟩
          case measure => simp [intOf]; omega
        · obtain rfl : j = kn := by omega
          go_wp2
          go_loopw [9] (fun i wr => i = .int .i64 j ∧ w = wr) (fun _ _ => 0)
          case atStart => exact ⟨rfl, rfl⟩
          case round =>
            obtain ⟨rfl, rfl⟩ := hrel
            have hop3 := hop.out
            rw [show ((j : Int)).toNat = j by omega] at hop3
            have hneg : ¬ (j : Int) < 0 := by omega
            clear hj hlt h0 h2 h3 h1
            go_wp2
            go_ret2
            exact ⟨rfl, rfl⟩
    · obtain ⟨kn, hkn⟩ : ∃ kn : Nat, k = -(kn : Int) := ⟨(-k).toNat, by omega⟩
      have hop := Lib.hid (quo_run (sc_div hm h0 (by omega)).1)
      subst hkn
      clear hb hm
      go_enter Tryd.func46, Tryd.ntmps46
      go_wp2
      go_loopw [8] (fun i wr => i = .int .i64 0 ∧ w = wr) (fun _ _ => 0)
      case atStart => exact ⟨rfl, rfl⟩
      case round =>
        obtain ⟨rfl, rfl⟩ := hrel
        have hneg : ¬ (0 : Int) < -(kn : Int) := by omega
        have hneg2 : -(kn : Int) < 0 := by omega
        have hk22 : kn ≤ 22 := by omega
        clear h0 h1 h2 h3
        go_wp2
        go_loopw [7, 9] (fun x i wr => ∃ j : Nat, i = .int .i64 (-(kn : Int) + (j : Int)) ∧ j ≤ kn ∧ x = .float .f64 (tenW j) ∧ w = wr) (fun _ i _ => (-(intOf i)).toNat)
        case atStart => exact ⟨0, by simp, Nat.zero_le _, rfl, rfl⟩
        case round =>
          obtain ⟨j, rfl, hj, rfl, rfl⟩ := hrel
          by_cases hlt : j < kn
          · have hop2 := mul_run (tenW_ok j (by omega)).2.2
            go_wp2
            go_roundw
            case rel => exact ⟨j + 1, by go_num, by omega, rfl, by first | rfl | trivial⟩
            case measure => simp [intOf]; omega
          · obtain rfl : j = kn := by omega
            have hop3 := hop.out
            rw [show (-(-(j : Int))).toNat = j by omega] at hop3
            go_wp2
            go_ret2
            exact ⟨rfl, rfl⟩

end Go.Proofs.YtbmdbfidjdogmaaDoor
