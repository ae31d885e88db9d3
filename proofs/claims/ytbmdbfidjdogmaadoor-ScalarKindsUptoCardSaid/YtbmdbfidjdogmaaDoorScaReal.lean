/-
A real's text: the program's walk.
-/
import Derived.Test.YtbmdbfidjdogmaaDoorScaFmt
import Derived.Test.YtbmdbfidjdogmaaDoorScaSame
import Derived.Test.YtbmdbfidjdogmaaDoorScaDec
import Derived.Test.YtbmdbfidjdogmaaDoorScaNum
import Derived.Lib.Repeat
set_option linter.unusedVariables false
set_option linter.unusedSimpArgs false
namespace Go.Proofs.YtbmdbfidjdogmaaDoor
open Go Go.RowKit

theorem self_eq {r : Nat} (h : r ≤ INF) : (FloatKind.f64.format.order r r == some .eq) = true := by
  rcases Nat.lt_or_eq_of_le h with h | rfl
  · rw [eq_FV h h, decide_eq_true rfl]
  · decide +kernel

theorem scR_le (m : Nat) (k : Int) : scR m k ≤ INF := by
  unfold scR
  split
  · exact Nat.zero_le _
  · rename_i h
    unfold Bad at h
    by_cases h0 : 0 ≤ k
    · exact (sc_mul (by omega) h0 (by omega)).2
    · exact (sc_div (by omega) h0 (by omega)).2

theorem nDigits_le : ∀ (k u : Nat), u < 10 ^ (k + 1) → Lib.nDigits u ≤ k + 1 := by
  intro k
  induction k with
  | zero => intro u h; rw [Lib.nDigits_small (by simpa using h)]; exact Nat.le_refl _
  | succ k ih =>
    intro u h
    by_cases hs : u < 10
    · rw [Lib.nDigits_small hs]; omega
    · rw [Lib.nDigits_big hs]
      have : u / 10 < 10 ^ (k + 1) := by
        rw [Nat.div_lt_iff_lt_mul (by decide)]
        rw [Nat.pow_succ] at h
        exact h
      have := ih _ this
      omega

/-- A number with a power of ten, as it is written. -/
def realT (M : Nat) (k : Int) : List UInt8 :=
  if 0 ≤ k then
    if (Lib.nDigits M : Int) + k + 1 ≤ 15 then Lib.decDigits M ++ List.replicate k.toNat 48 ++ [46, 48]
    else (Lib.decDigits M).take 1 ++ [46] ++ (if Lib.nDigits M = 1 then [48] else (Lib.decDigits M).drop 1) ++ [101] ++ Lib.decDigits (k + (Lib.nDigits M : Int) - 1).toNat
  else
    (List.replicate (1 - k - (Lib.nDigits M : Int)).toNat 48 ++ Lib.decDigits M).take ((max (1 - k) (Lib.nDigits M : Int)) + k).toNat ++ [46] ++
      (List.replicate (1 - k - (Lib.nDigits M : Int)).toNat 48 ++ Lib.decDigits M).drop ((max (1 - k) (Lib.nDigits M : Int)) + k).toNat

/-- A real without its sign. -/
def absW (x : Nat) : Nat := if 9223372036854775808 ≤ x then negW x else x
def signS (x : Nat) : ByteArray := if 9223372036854775808 ≤ x then ⟨#[45]⟩ else ⟨#[]⟩
def signL (x : Nat) : List UInt8 := if 9223372036854775808 ≤ x then [45] else []

theorem signS_list (x : Nat) : (signS x).data.toList = signL x := by
  unfold signS signL; split <;> rfl

theorem signS_size (x : Nat) : (signS x).size ≤ 1 := by
  unfold signS; split
  · exact Nat.le_refl _
  · exact Nat.zero_le _

theorem negW_eq {x : Nat} (h1 : 9223372036854775808 ≤ x) (h2 : x < 18446744073709551616) : negW x = x - 9223372036854775808 := by
  unfold negW Op.negFloat
  show x ^^^ 2 ^ 63 = x - 9223372036854775808
  have e : x = 2 ^ 63 + (x - 9223372036854775808) := by omega
  have hy : x - 9223372036854775808 < 2 ^ 63 := by omega
  generalize x - 9223372036854775808 = y at *
  subst e
  apply Nat.eq_of_testBit_eq
  intro i
  rw [Nat.testBit_xor, Nat.testBit_two_pow]
  by_cases hi : 63 = i
  · subst hi
    rw [Nat.testBit_lt_two_pow hy]
    rw [Nat.testBit_two_pow_add_eq, Nat.testBit_lt_two_pow hy]
    rfl
  · rcases Nat.lt_or_gt_of_ne hi with h | h
    · have h3 : y < 2 ^ i := Nat.lt_of_lt_of_le hy (Nat.pow_le_pow_right (by decide) (Nat.le_of_lt h))
      have h4 : 2 ^ 63 + y < 2 ^ i := by
        have : 2 ^ 64 ≤ 2 ^ i := Nat.pow_le_pow_right (by decide) h
        omega
      rw [Nat.testBit_lt_two_pow h3, Nat.testBit_lt_two_pow h4]
      simp [hi]
    · rw [Nat.testBit_two_pow_add_gt h]
      simp [hi]

theorem absW_lt {x : Nat} (h : x < 18446744073709551616) : absW x < 9223372036854775808 := by
  unfold absW
  split
  · rename_i h1
    rw [negW_eq h1 h]; omega
  · omega

set_option maxHeartbeats 1000000 in
theorem signbit_walk (w : World) (x : Nat) (hx : x < 18446744073709551616) : Calls Tryd.prog 35 #[.float .f64 x] w fun e w' => e = .returned (.bool (decide (9223372036854775808 ≤ x))) ∧ w' = w := by
  have hb := bits_run x
  by_cases h : 9223372036854775808 ≤ x
  · have h1 : IntKind.i64.wrap (x : Int) = (x : Int) - 18446744073709551616 := by rw [IntKind.wrap_i64]; omega
    have h2 : (x : Int) - 18446744073709551616 < 0 := by omega
    rw [decide_eq_true h]
    clear h hx
    go_enter Tryd.func35, Tryd.ntmps35
    go_wp2
    go_ret
    exact ⟨rfl, rfl⟩
  · have h1 : IntKind.i64.wrap (x : Int) = (x : Int) := by rw [IntKind.wrap_i64]; omega
    have h2 : ¬ (x : Int) < 0 := by omega
    rw [decide_eq_false h]
    clear h hx
    go_enter Tryd.func35, Tryd.ntmps35
    go_wp2
    go_ret
    exact ⟨rfl, rfl⟩

/-- A real's text, or the error. -/
def RealS (x : Nat) (l : List UInt8) (er : Int) : Prop :=
  (INF < absW x ∧ l = [46, 110, 97, 110] ∧ er = 0) ∨
  (absW x = INF ∧ l = signL x ++ [46, 105, 110, 102] ∧ er = 0) ∨
  (absW x = 0 ∧ l = signL x ++ [48, 46, 48] ∧ er = 0) ∨
  (absW x < INF ∧ 0 < absW x ∧ ∃ M k e, Dec (absW x) M k e ∧ (e = 2 ∧ l = [] ∧ er = 2 ∨ e = 0 ∧ l = signL x ++ realT M k ∧ er = 0))

def RealPost (x : Nat) (w : World) (e : Ending) (w' : World) : Prop :=
  ∃ (s : ByteArray) (er : Int), e = .returned (.tuple #[.string s, .int .i64 er]) ∧ Below w.heap.size w w' ∧ RealS x s.data.toList er

theorem nan_order {y : Nat} (h1 : INF < y) (h2 : y < 9223372036854775808) : FloatKind.f64.format.order y y = none := by
  have hr : ∃ f, Ieee.double.read y = .nan false f := by
    refine ⟨y - INF, ?_⟩
    unfold Ieee.Format.read
    rw [c_sign, c_bin, c_inf]
    have e1 : y % 9223372036854775808 = y := Nat.mod_eq_of_lt h2
    have e2 : (y / 9223372036854775808 % 2 == 1) = false := by
      have : y / 9223372036854775808 = 0 := Nat.div_eq_of_lt h2
      rw [this]; rfl
    unfold INF at *
    simp only [e1, e2]
    rw [if_neg (by omega), if_neg (by omega), if_neg (by omega)]
  obtain ⟨f, hf⟩ := hr
  show Ieee.double.order y y = none
  unfold Ieee.Format.order
  rw [hf]
  rfl

theorem FV_pos {y : Nat} (h : 0 < y) : 0 < FV y := by
  unfold FV
  split
  · exact h
  · exact Nat.mul_pos (by omega) (Nat.two_pow_pos _)

theorem max_gt {y : Nat} (h : y < INF) : (FloatKind.f64.format.order y 9218868437227405311 == some .gt) = false := by
  rw [gt_FV h (by decide), decide_eq_false (Nat.not_lt.2 (FV_le_max h))]

theorem Sol.bounds {x M : Nat} {k : Int} (h : Sol x k M) : 1 ≤ M ∧ Lib.nDigits M ≤ 15 :=
  ⟨h.1, nDigits_le 14 M h.2.1⟩

end Go.Proofs.YtbmdbfidjdogmaaDoor
