/-
The walks of math.IsInf and math.Round, where the program asks them.
-/
import Derived.Test.YtbmdbfidjdogmaaDoorScaTen
import Derived.Test.YtbmdbfidjdogmaaDoorFloR
import Derived.Laws.Externs
set_option linter.unusedVariables false
set_option linter.unusedSimpArgs false
namespace Go.Proofs.YtbmdbfidjdogmaaDoor
open Go Go.RowKit

theorem bits_run (b : Nat) (w : World) : (callFunc 48 #[.float .f64 b]).run Tryd.prog w = .ok (.value (.int .u64 (b : Int))) w := by
  rw [run_callFunc_extern Tryd.func48 (by kernel_rfl) (by kernel_rfl) (by kernel_rfl) (show Extern.find Tryd.f48 = some Extern.MathFloatBits.float64bits by kernel_rfl)]
  rfl

theorem frombits_run (b : Nat) (w : World) : (callFunc 37 #[.int .u64 (b : Int)]).run Tryd.prog w = .ok (.value (.float .f64 b)) w := by
  rw [run_callFunc_extern Tryd.func37 (by kernel_rfl) (by kernel_rfl) (by kernel_rfl) (show Extern.find Tryd.f37 = some Extern.MathFloatBits.float64frombits by kernel_rfl)]
  rfl

set_option maxHeartbeats 1000000 in
theorem isInf_walk (w : World) (x : Nat) (b : Bool) (hb : (FloatKind.f64.format.order x 9218868437227405311 == some .gt) = b) : Calls Tryd.prog 27 #[.float .f64 x, .int .i64 1] w fun e w' => e = .returned (.bool b) ∧ w' = w := by
  go_enter Tryd.func27, Tryd.ntmps27
  go_wp2
  go_ret
  exact ⟨rfl, rfl⟩

theorem one_word : ∀ w : World, (callFunc 37 #[.int .u64 4607182418800017408]).run Tryd.prog w = .ok (.value (.float .f64 4607182418800017408)) w := frombits_run 4607182418800017408
theorem zero_word : ∀ w : World, (callFunc 37 #[.int .u64 0]).run Tryd.prog w = .ok (.value (.float .f64 0)) w := frombits_run 0

set_option maxHeartbeats 1000000 in
theorem round_walk (w : World) (b : Nat) (hb : b / 4503599627370496 < 1075) : Calls Tryd.prog 29 #[.float .f64 b] w fun e w' => e = .returned (.float .f64 (roundW b)) ∧ w' = w := by
  obtain ⟨e, he⟩ : ∃ e, e = b / 4503599627370496 := ⟨_, rfl⟩
  have hlt : b < 4841369599423283200 := by omega
  have hE : bits BinOp.and IntKind.u64 ((b : Int) / 4503599627370496) 2047 = (e : Int) := by
    have e1 : (b : Int) / 4503599627370496 = (e : Int) := by omega
    have e2 : e &&& 2047 = e := by
      rw [show 2047 = 2 ^ 11 - 1 from rfl, Nat.and_two_pow_sub_one_eq_mod, Nat.mod_eq_of_lt (by omega)]
    rw [e1]
    have := bits_and_u64_nat e 2047 (by omega) (by decide)
    rw [e2] at this
    exact this
  have hZ : bits BinOp.and IntKind.u64 (b : Int) 9223372036854775808 = 0 := by
    have := bits_and_u64_nat b 9223372036854775808 (by omega) (by decide)
    have e2 : b &&& 9223372036854775808 = 0 := by
      apply Nat.eq_of_testBit_eq
      intro i
      rw [Nat.testBit_and, show 9223372036854775808 = 2 ^ 63 from rfl, Nat.testBit_two_pow, Nat.zero_testBit]
      by_cases hi : 63 = i
      · subst hi
        rw [Nat.testBit_lt_two_pow (by omega)]; rfl
      · simp [hi]
    rw [e2] at this
    exact this
  have hO : bits BinOp.or IntKind.u64 0 4607182418800017408 = 4607182418800017408 := by decide +kernel
  have hd1 := bits_run b
  unfold roundW
  rw [← he] at hb ⊢
  by_cases h1 : e < 1023
  · have n1 : (e : Int) < 1023 := by omega
    rw [if_pos h1]
    by_cases h2 : e = 1022
    · rw [if_pos h2]
      have n2 : ((e : Int) == 1022) = true := by simp [h2]
      have hd2 := one_word
      clear hlt he hb h1 h2
      go_enter Tryd.func29, Tryd.ntmps29
      go_wp2
      go_ret
      exact ⟨rfl, rfl⟩
    · rw [if_neg h2]
      have n2 : ((e : Int) == 1022) = false := by simp; omega
      have hd2 := zero_word
      clear hlt he hb h1 h2 hO
      go_enter Tryd.func29, Tryd.ntmps29
      go_wp2
      go_ret
      exact ⟨rfl, rfl⟩
  · rw [if_neg h1]
    have n1 : ¬ (e : Int) < 1023 := by omega
    have n2 : (e : Int) < 1075 := by omega
    have a1 := half_shift (e - 1023) (by omega)
    have a2 := mask_shift (e - 1023) (by omega)
    rw [show 51 - (e - 1023) = 1074 - e by omega] at a1
    rw [show 52 - (e - 1023) = 1075 - e by omega] at a2
    have hp : 2 ^ (1074 - e) ≤ 2 ^ 51 := Nat.pow_le_pow_right (by decide) (by omega)
    obtain ⟨c, hc⟩ : ∃ c, c = b + 2 ^ (1074 - e) := ⟨_, rfl⟩
    have hcb : c < 18446744073709551616 := by omega
    have hW : IntKind.u64.wrap ((b : Int) + 2251799813685248 / 2 ^ (e - 1023)) = (c : Int) := by
      rw [a1, IntKind.wrap_u64]
      omega
    have hA : bits BinOp.andNot IntKind.u64 (c : Int) (4503599627370495 / 2 ^ (e - 1023)) = ((c / 2 ^ (1075 - e) * 2 ^ (1075 - e) : Nat) : Int) := by
      rw [a2]
      exact andNot_mask c _ hcb (by omega)
    rw [← hc]
    have hd2 := frombits_run (c / 2 ^ (1075 - e) * 2 ^ (1075 - e))
    generalize c / 2 ^ (1075 - e) * 2 ^ (1075 - e) = r at *
    clear hlt he hb h1 hO hZ hc hcb hp a1 a2
    go_enter Tryd.func29, Tryd.ntmps29
    go_wp2
    go_ret
    exact ⟨rfl, rfl⟩

end Go.Proofs.YtbmdbfidjdogmaaDoor
