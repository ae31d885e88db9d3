/-
The walks of below, Same at two equal reals, and plain; and the law's walk.
-/
import Derived.Test.YtbmdbfidjdogmaaDoorScaRead
set_option linter.unusedVariables false
set_option linter.unusedSimpArgs false
namespace Go.Proofs.YtbmdbfidjdogmaaDoor
open Go Go.RowKit

theorem order_self (x : Nat) : FloatKind.f64.format.order x x = some .eq ∨ FloatKind.f64.format.order x x = none := by
  show Ieee.double.order x x = some .eq ∨ Ieee.double.order x x = none
  unfold Ieee.Format.order
  cases Ieee.double.read x with
  | nan s f => exact .inr rfl
  | infinity s => exact .inl (by cases s <;> rfl)
  | number s m i =>
    refine .inl ?_
    simp [Ieee.Datum.order, Int.compare_eq_eq]

/-- One by a nought. -/
theorem inv_zero {x : Nat} (h : (FloatKind.f64.format.order x 0 == some .eq) = true) : ∃ r, floatBits .quo .f64 4607182418800017408 x = some r := by
  have h' : (Ieee.double.order x 0 == some .eq) = true := h
  have e0 : Ieee.double.read 0 = .number false 0 (-1074) := by decide +kernel
  have e1 : Ieee.double.read 4607182418800017408 = .number false 4503599627370496 (-52) := by decide +kernel
  unfold Ieee.Format.order at h'
  rw [e0] at h'
  show ∃ r, Ieee.double.div 4607182418800017408 x = some r
  unfold Ieee.Format.div
  rw [e1]
  cases hr : Ieee.double.read x with
  | nan s f => rw [hr] at h'; cases h'
  | infinity s => rw [hr] at h'; cases s <;> cases h'
  | number s m i =>
    rw [hr] at h'
    by_cases hm : m = 0
    · refine ⟨Ieee.double.write (.infinity (false ^^ s)), ?_⟩
      simp [Ieee.Datum.quotient, hm]
    · exact ⟨_, by simp only [Ieee.Datum.quotient, if_neg hm, Option.map_some]; rfl⟩

/-- Does a real have the sign? -/
def belowF (x : Nat) : Bool :=
  (FloatKind.f64.format.order x 0 == some .lt) || ((FloatKind.f64.format.order x 0 == some .eq) && match floatBits .quo .f64 4607182418800017408 x with | some r => FloatKind.f64.format.order r 0 == some .lt | none => false)

set_option maxHeartbeats 1000000 in
theorem below_walk (w : World) (x : Nat) : Calls Tryd.prog 36 #[.float .f64 x] w fun e w' => e = .returned (.bool (belowF x)) ∧ w' = w := by
  cases h1 : (FloatKind.f64.format.order x 0 == some .lt) with
  | true =>
    have hb : belowF x = true := by unfold belowF; rw [h1]; rfl
    rw [hb]
    go_enter Tryd.func36, Tryd.ntmps36
    go_wp2
    go_ret
    exact ⟨rfl, rfl⟩
  | false =>
    cases h2 : (FloatKind.f64.format.order x 0 == some .eq) with
    | true =>
      obtain ⟨r, hr⟩ := inv_zero h2
      have hq := quo_run hr
      have hb : belowF x = (FloatKind.f64.format.order r 0 == some .lt) := by unfold belowF; rw [h1, h2, hr]; rfl
      rw [hb]
      clear hr hb
      go_enter Tryd.func36, Tryd.ntmps36
      go_wp2
      go_ret
      exact ⟨rfl, rfl⟩
    | false =>
      have hb : belowF x = false := by unfold belowF; rw [h1, h2]; rfl
      rw [hb]
      go_enter Tryd.func36, Tryd.ntmps36
      go_wp2
      go_ret
      exact ⟨rfl, rfl⟩

set_option maxHeartbeats 1000000 in
theorem same4_walk (w : World) (x : Nat) :
    Calls Tryd.prog 20 #[valV 4 false 0 x ⟨#[]⟩, valV 4 false 0 x ⟨#[]⟩] w fun e w' => e = .returned (.bool true) ∧ Below w.heap.size w w' := by
  have Hb := Lib.hid (fun w => below_walk w x)
  unfold valV
  cases h1 : (FloatKind.f64.format.order x x == some .eq) with
  | true =>
    have h2 : (FloatKind.f64.format.order x x != some .eq) = false := by rw [bne, h1]; rfl
    go_enter Tryd.func20, Tryd.ntmps20
    go_upto_region 11 with (fail)
    go_quiet (refine Calls.quiet_of_same (Hb.out _))
    go_wp2
    go_ret
    exact ⟨rfl, (((Below.refl _ w).alloc (Nat.le_refl _) _).alloc (by simp) _).trans ⟨rfl, rfl, rfl, Nat.le_refl _, fun _ _ => rfl⟩⟩
  | false =>
    have h2 : (FloatKind.f64.format.order x x != some .eq) = true := by rw [bne, h1]; rfl
    go_enter Tryd.func20, Tryd.ntmps20
    go_upto_region 11 with (fail)
    go_quiet (refine Calls.quiet_of_same (Hb.out _))
    go_wp2
    go_ret
    exact ⟨rfl, (((Below.refl _ w).alloc (Nat.le_refl _) _).alloc (by simp) _).trans ⟨rfl, rfl, rfl, Nat.le_refl _, fun _ _ => rfl⟩⟩

set_option maxHeartbeats 1000000 in
theorem plain_walk (w : World) (a : Val) :
    Calls Tryd.prog 8 #[a.v, a.v] w fun e w' => e = .returned (.bool true) ∧ Below w.heap.size w w' := by
  have Hs := Lib.hid (fun w => same4_walk w a.real)
  obtain ⟨kd, b, i, x, t⟩ := a
  unfold Val.v valV
  unfold valV at Hs
  dsimp only at Hs
  dsimp only
  have q1 : (kd == kd) = true := beq_self_eq_true kd
  have q2 : (b == b) = true := beq_self_eq_true b
  have q3 : (i == i) = true := beq_self_eq_true i
  have q4 : (t.toList == t.toList) = true := beq_self_eq_true t.toList
  go_enter Tryd.func8, Tryd.ntmps8
  go_wp2_with fail
  refine (Hs.out _).mono ?_
  rintro e w1 ⟨rfl, hb⟩
  have hB := (((Below.refl w.heap.size w).alloc (Nat.le_refl _) _).alloc (by simp) _).trans (hb.mono (by simp; omega))
  clear hb
  go_wp2
  go_ret
  exact ⟨rfl, hB⟩

set_option maxHeartbeats 1000000 in
theorem reads_walk (w : World) (s : ByteArray) (hmax : s.size ≤ 2097152) (quoted : Bool) (hv : RangeLaid w) :
    Calls Tryd.prog 3 #[.string s, .bool quoted] w fun e w' => e = .returned (.bool true) ∧ Below w.heap.size w w' := by
  have H1 := Lib.hid (show Calls Tryd.prog 9 #[.string s, .bool quoted] w fun e w1 => e = .returned (readS s quoted).v ∧ Below w.heap.size w w1 from read_walk w s hmax quoted hv)
  have H2 := Lib.hid (show ∀ w, Calls Tryd.prog 10 #[.string s, .bool quoted] w fun e w1 => e = .returned (readS s quoted).v ∧ Below w.heap.size w w1 from fun w => refRead_walk w s hmax quoted)
  have H3 := Lib.hid (fun w => plain_walk w (readS s quoted))
  clear hmax hv
  generalize readS s quoted = a at *
  go_enter Tryd.func3, Tryd.ntmps3
  go_wp2_with fail
  refine H1.out.mono ?_
  rintro e w1 ⟨rfl, hb1⟩
  go_wp2_with fail
  refine (H2.out _).mono ?_
  rintro e w2 ⟨rfl, hb2⟩
  go_wp2_with fail
  refine (H3.out _).mono ?_
  rintro e w3 ⟨rfl, hb3⟩
  have hB := (hb1.trans (hb2.mono hb1.size)).trans (hb3.mono (Nat.le_trans hb1.size hb2.size))
  clear hb1 hb2 hb3
  go_wp2
  go_ret
  exact ⟨rfl, hB⟩

end Go.Proofs.YtbmdbfidjdogmaaDoor
