/-
The walk of the reference's integer.
-/
import Derived.Test.YtbmdbfidjdogmaaDoorScaStrB
import Derived.Lib.Strings
set_option linter.unusedVariables false
set_option linter.unusedSimpArgs false
namespace Go.Proofs.YtbmdbfidjdogmaaDoor
open Go Go.RowKit

/-- The int that a text says. -/
def intR (l : List UInt8) : Option Int :=
  if wholeL (minusL l).1 = false then none
  else if (minusL l).2 = true then
    if (minusL l).1 = [48] then none
    else if numN (minusL l).1 ≤ 9223372036854775808 ∧ 0 < numN (minusL l).1 then some (-(numN (minusL l).1 : Int)) else none
  else if numN (minusL l).1 ≤ 9223372036854775807 then some (numN (minusL l).1 : Int) else none

def IntPost (s : ByteArray) (w : World) (e : Ending) (w' : World) : Prop :=
  ∃ (i : Int) (ok : Bool), e = .returned (.tuple #[.int .i64 i, .bool ok]) ∧ w' = w ∧ (ok = true ∧ intR s.data.toList = some i ∨ ok = false ∧ intR s.data.toList = none)

theorem whole_all {l : List UInt8} (h : wholeL l = true) : l.all isD = true := by
  unfold wholeL allD at h
  simp only [Bool.and_eq_true] at h
  exact h.1.2

set_option maxHeartbeats 1000000 in
theorem refInteger_walk (w : World) (s : ByteArray) (hmax : s.size ≤ maxLen) : Calls Tryd.prog 24 #[.string s] w fun e w' => IntPost s w e w' := by
  have Hm := Lib.hid (minus_walk w s hmax)
  go_enter Tryd.func24, Tryd.ntmps24
  go_wp2_with fail
  refine Hm.out.mono ?_
  rintro e w1 ⟨r, below, rfl, hw, hmin, hsz⟩
  obtain rfl := hw.symm
  clear Hm
  have hrmax : r.size ≤ maxLen := Nat.le_trans hsz hmax
  cases hwh : wholeL r.data.toList with
  | false =>
    have Hw := Lib.hid (whole_walk w r hrmax false hwh)
    have hres : IntPost s w (.returned (.tuple #[.int .i64 0, .bool false])) w := ⟨0, false, rfl, rfl, .inr ⟨rfl, by unfold intR; rw [hmin, if_pos hwh]⟩⟩
    clear hmin hwh
    go_wp2_with fail
    refine Hw.out.mono ?_
    rintro e w1 ⟨rfl, hw⟩
    obtain rfl := hw.symm
    go_wp2
    go_ret2
    exact hres
  | true =>
    have Hw := Lib.hid (whole_walk w r hrmax true hwh)
    have hall := whole_all hwh
    cases below with
    | true =>
      by_cases h48 : r.data.toList = [48]
      · have hq : (r.toList == [48]) = true := by
          rw [Lib.toList_data, h48]; rfl
        have hres : IntPost s w (.returned (.tuple #[.int .i64 0, .bool false])) w := ⟨0, false, rfl, rfl, .inr ⟨rfl, by unfold intR; rw [hmin, if_neg (by simp [hwh]), if_pos rfl, if_pos h48]⟩⟩
        clear hmin hwh h48 hall hsz hrmax
        go_wp2_with fail
        refine Hw.out.mono ?_
        rintro e w1 ⟨rfl, hw⟩
        obtain rfl := hw.symm
        go_wp2
        go_ret2
        exact hres
      · have hq : (r.toList == [48]) = false := by
          rw [Lib.toList_data]
          exact beq_eq_false_iff_ne.2 h48
        cases hok : decide (numN r.data.toList ≤ 9223372036854775808) with
        | false =>
          have Hn := Lib.hid (number_walk w r hrmax 9223372036854775808 (by decide) (Nat.le_refl _) hall 0 false hok rfl)
          have hres : ∀ i : Int, IntPost s w (.returned (.tuple #[.int .i64 i, .bool false])) w := fun i => ⟨i, false, rfl, rfl, .inr ⟨rfl, by
            unfold intR
            rw [hmin, if_neg (by simp [hwh]), if_pos rfl, if_neg h48, if_neg (fun q => of_decide_eq_false hok q.1)]⟩⟩
          clear hmin hwh h48 hall hsz hrmax hok
          go_wp2_with fail
          refine Hw.out.mono ?_
          rintro e w1 ⟨rfl, hw⟩
          obtain rfl := hw.symm
          go_wp2_with fail
          refine Hn.out.mono ?_
          rintro e w1 ⟨rfl, hw⟩
          obtain rfl := hw.symm
          clear Hn Hw
          go_wp2
          go_ret2
          exact hres _
        | true =>
          obtain ⟨n, hn⟩ : ∃ n, n = numN r.data.toList := ⟨_, rfl⟩
          have Hn := Lib.hid (number_walk w r hrmax 9223372036854775808 (by decide) (Nat.le_refl _) hall n true hok (by rw [if_pos rfl, hn]))
          have hle := of_decide_eq_true hok
          rw [← hn] at hle
          by_cases hpos : 0 < n
          · have hres : IntPost s w (.returned (.tuple #[.int .i64 (-((n - 1 : Nat) : Int) - 1), .bool true])) w := ⟨_, true, rfl, rfl, .inl ⟨rfl, by
              unfold intR
              rw [hmin, if_neg (by simp [hwh]), if_pos rfl, if_neg h48, ← hn, if_pos ⟨hle, hpos⟩]
              congr 1
              omega⟩⟩
            have hp2 : decide (0 < n) = true := decide_eq_true hpos
            have hs1 : IntKind.u64.wrap ((n : Int) - 1) = ((n - 1 : Nat) : Int) := by rw [IntKind.wrap_u64]; omega
            clear hmin hwh h48 hall hsz hrmax hok hn
            go_wp2_with fail
            refine Hw.out.mono ?_
            rintro e w1 ⟨rfl, hw⟩
            obtain rfl := hw.symm
            go_wp2_with fail
            refine Hn.out.mono ?_
            rintro e w1 ⟨rfl, hw⟩
            obtain rfl := hw.symm
            clear Hn Hw
            go_wp2
            go_ret2
            exact hres
          · have hres : ∀ i : Int, IntPost s w (.returned (.tuple #[.int .i64 i, .bool false])) w := fun i => ⟨i, false, rfl, rfl, .inr ⟨rfl, by
              unfold intR
              rw [hmin, if_neg (by simp [hwh]), if_pos rfl, if_neg h48, ← hn, if_neg (fun q => hpos q.2)]⟩⟩
            have hp2 : decide (0 < n) = false := decide_eq_false hpos
            clear hmin hwh h48 hall hsz hrmax hok hn hle
            go_wp2_with fail
            refine Hw.out.mono ?_
            rintro e w1 ⟨rfl, hw⟩
            obtain rfl := hw.symm
            go_wp2_with fail
            refine Hn.out.mono ?_
            rintro e w1 ⟨rfl, hw⟩
            obtain rfl := hw.symm
            clear Hn Hw
            go_wp2
            go_ret2
            exact hres _
    | false =>
      cases hok : decide (numN r.data.toList ≤ 9223372036854775807) with
      | false =>
        have Hn := Lib.hid (number_walk w r hrmax 9223372036854775807 (by decide) (by decide) hall 0 false hok rfl)
        have hres : ∀ i : Int, IntPost s w (.returned (.tuple #[.int .i64 i, .bool false])) w := fun i => ⟨i, false, rfl, rfl, .inr ⟨rfl, by
          unfold intR
          rw [hmin, if_neg (by simp [hwh]), if_neg (by simp), if_neg (of_decide_eq_false hok)]⟩⟩
        clear hmin hwh hall hsz hrmax hok
        go_wp2_with fail
        refine Hw.out.mono ?_
        rintro e w1 ⟨rfl, hw⟩
        obtain rfl := hw.symm
        go_wp2_with fail
        refine Hn.out.mono ?_
        rintro e w1 ⟨rfl, hw⟩
        obtain rfl := hw.symm
        clear Hn Hw
        go_wp2
        go_ret2
        exact hres _
      | true =>
        obtain ⟨n, hn⟩ : ∃ n, n = numN r.data.toList := ⟨_, rfl⟩
        have Hn := Lib.hid (number_walk w r hrmax 9223372036854775807 (by decide) (by decide) hall n true hok (by rw [if_pos rfl, hn]))
        have hle := of_decide_eq_true hok
        rw [← hn] at hle
        have hres : IntPost s w (.returned (.tuple #[.int .i64 (n : Int), .bool true])) w := ⟨_, true, rfl, rfl, .inl ⟨rfl, by
          unfold intR
          rw [hmin, if_neg (by simp [hwh]), if_neg (by simp), ← hn, if_pos hle]⟩⟩
        clear hmin hwh hall hsz hrmax hok hn
        go_wp2_with fail
        refine Hw.out.mono ?_
        rintro e w1 ⟨rfl, hw⟩
        obtain rfl := hw.symm
        go_wp2_with fail
        refine Hn.out.mono ?_
        rintro e w1 ⟨rfl, hw⟩
        obtain rfl := hw.symm
        clear Hn Hw
        go_wp2
        go_ret2
        exact hres

end Go.Proofs.YtbmdbfidjdogmaaDoor
