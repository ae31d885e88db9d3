/-
The walks of near and of least.
-/
import Derived.Test.YtbmdbfidjdogmaaDoorScaRound
set_option linter.unusedVariables false
set_option linter.unusedSimpArgs false
namespace Go.Proofs.YtbmdbfidjdogmaaDoor
open Go Go.RowKit

theorem scE_bad {m : Nat} {k : Int} (h : Bad m k) : scE m k = 2 := if_pos h
theorem scE_ok {m : Nat} {k : Int} (h : ¬ Bad m k) : scE m k = 0 := if_neg h
theorem scR_ok {m : Nat} {k : Int} (h : ¬ Bad m k) : scR m k = scW m k := if_neg h

/-- What near answers: a number that has x as its value; or there is none near the guess. -/
def NearPost (x : Nat) (k : Int) (g : Nat) (w : World) (e : Ending) (w' : World) : Prop :=
  ∃ (M : Nat) (ok : Bool), e = .returned (.tuple #[.int .u64 M, .bool ok]) ∧ w' = w ∧ ((ok = true ∧ Sol x k M) ∨ (ok = false ∧ ∀ M, Sol x k M → ¬ (g ≤ M + 2 ∧ M ≤ g + 2)))

set_option maxHeartbeats 1000000 in
theorem near_walk (w : World) (x : Nat) (hx : x < INF) (k : Int) (hk1 : -22 ≤ k) (hk2 : k ≤ 22) (g : Nat) (hg : g ≤ 3000000000000000) :
    Calls Tryd.prog 28 #[.float .f64 x, .int .i64 k, .int .u64 g] w fun e w' => NearPost x k g w e w' := by
  have Hx := Lib.hid hx
  have Hk1 := Lib.hid hk1
  have Hk2 := Lib.hid hk2
  have Hg := Lib.hid hg
  clear hx hk1 hk2
  obtain ⟨fr, hfr⟩ : ∃ fr : Nat, fr = if 3 < g then g - 2 else 1 := ⟨_, rfl⟩
  have Hfr := Lib.hid hfr
  have hwrap : IntKind.u64.wrap ((g : Int) + 2) = ((g + 2 : Nat) : Int) := by rw [IntKind.wrap_u64]; omega
  have hwin : ∀ M, Sol x k M → g ≤ M + 2 → fr ≤ M := by
    intro M hM hgM
    have := hM.1
    rw [hfr]
    split <;> omega
  have Hwin := Lib.hid hwin
  have hfr1 : 1 ≤ fr ∧ fr ≤ g + 3 := by rw [hfr]; split <;> omega
  have Hfr1 := Lib.hid hfr1
  clear hwin hfr1
  by_cases h3 : 3 < g
  · have hd : decide ((3 : Int) < (g : Int)) = true := by simp; omega
    have hst : (if 3 < g then (g : Int) - 2 else 1) = (fr : Int) := by rw [hfr]; split <;> omega
    have Hst := Lib.hid hst
    clear hfr hst
    go_enter Tryd.func28, Tryd.ntmps28
    go_wp2
    go_loopw [9] (fun i wr => ∃ m : Nat, i = .int .u64 m ∧ w = wr ∧ Hid (fr ≤ m ∧ m ≤ g + 3 ∧ ∀ M, fr ≤ M → M < m → ¬ Sol x k M)) (fun i _ => g + 3 - (intOf i).toNat)
    case atStart =>
      refine ⟨fr, ?_, rfl, Nat.le_refl _, Hfr1.out.2, fun M h1 h2 => absurd h1 (by omega)⟩
      have := Hst.out
      rw [if_pos h3] at this
      rw [← this]
    case round =>
      obtain ⟨m, rfl, rfl, hm⟩ := hrel
      by_cases hlt : m ≤ g + 2
      · have hle : (m : Int) ≤ (g : Int) + 2 := by omega
        have Hs := Lib.hid (scaled_walk w m k)
        have Hlt := Lib.hid hlt
        clear hlt
        go_wp2_with fail
        refine Hs.out.mono ?_
        rintro e w' ⟨rfl, rfl⟩
        clear Hs
        by_cases hbad : Bad m k
        · have hE : (scE m k == 0) = false := by rw [scE_bad hbad]; rfl
          have hns : ¬ Sol x k m := by
            rintro ⟨_, q, _⟩
            have := Hk1.out
            have := Hk2.out
            rcases hbad with h | h | h <;> omega
          have Hns := Lib.hid hns
          have hnw : IntKind.u64.wrap ((m : Int) + 1) = ((m + 1 : Nat) : Int) := by have := Hg.out; have := Hlt.out; rw [IntKind.wrap_u64]; omega
          clear hbad hns
          go_wp2
          go_roundw
          case rel =>
            refine ⟨m + 1, by first | rfl | (rw [hnw]) | (go_num), (by first | rfl | trivial), ?_⟩
            have q := hm.out
            have := Hlt.out
            refine ⟨by omega, by omega, fun M h1 h2 => ?_⟩
            rcases Nat.lt_or_ge M m with h | h
            · exact q.2.2 M h1 h
            · obtain rfl : M = m := by omega
              exact Hns.out
          case measure => have := Hlt.out; simp [intOf]; omega
        · have hE : (scE m k == 0) = true := by rw [scE_ok hbad]; rfl
          have hm1 : 1 ≤ m := Nat.le_trans Hfr1.out.1 hm.out.1
          have hml : m < 1000000000000000 := by unfold Bad at hbad; omega
          obtain ⟨U, hUe, _⟩ := exU
          have hlti := (sc_near hUe hm1 hml Hk1.out Hk2.out).1
          have hcmp := eq_FV hlti Hx.out
          rw [← scR_ok hbad] at hcmp
          by_cases hs : FV (scW m k) = FV x
          · have hsol : Sol x k m := ⟨hm1, hml, hs⟩
            rw [decide_eq_true (by rw [scR_ok hbad]; exact hs)] at hcmp
            have Hsol := Lib.hid hsol
            clear hs hsol hlti hml hm1 hbad hUe
            go_wp2
            go_ret2
            exact ⟨m, true, rfl, rfl, .inl ⟨rfl, Hsol.out⟩⟩
          · have hns : ¬ Sol x k m := fun h => hs h.2.2
            rw [decide_eq_false (by rw [scR_ok hbad]; exact hs)] at hcmp
            have Hns := Lib.hid hns
            have hnw : IntKind.u64.wrap ((m : Int) + 1) = ((m + 1 : Nat) : Int) := by have := Hg.out; have := Hlt.out; rw [IntKind.wrap_u64]; omega
            clear hs hns hlti hml hm1 hbad hUe
            go_wp2
            go_roundw
            case rel =>
              refine ⟨m + 1, by first | rfl | (rw [hnw]) | (go_num), (by first | rfl | trivial), ?_⟩
              have q := hm.out
              have := Hlt.out
              refine ⟨by omega, by omega, fun M h1 h2 => ?_⟩
              rcases Nat.lt_or_ge M m with h | h
              · exact q.2.2 M h1 h
              · obtain rfl : M = m := by omega
                exact Hns.out
            case measure => have := Hlt.out; simp [intOf]; omega
      · have hle : ¬ (m : Int) ≤ (g : Int) + 2 := by omega
        have Hlt := Lib.hid hlt
        clear hlt
        go_wp2
        go_ret2
        refine ⟨0, false, rfl, rfl, .inr ⟨rfl, fun M hM hw => ?_⟩⟩
        have := Hlt.out
        exact hm.out.2.2 M (Hwin.out M hM hw.1) (by omega) hM

  · have hd : decide ((3 : Int) < (g : Int)) = false := by simp; omega
    have hst : (if 3 < g then (g : Int) - 2 else 1) = (fr : Int) := by rw [hfr]; split <;> omega
    have Hst := Lib.hid hst
    clear hfr hst
    go_enter Tryd.func28, Tryd.ntmps28
    go_wp2
    go_loopw [9] (fun i wr => ∃ m : Nat, i = .int .u64 m ∧ w = wr ∧ Hid (fr ≤ m ∧ m ≤ g + 3 ∧ ∀ M, fr ≤ M → M < m → ¬ Sol x k M)) (fun i _ => g + 3 - (intOf i).toNat)
    case atStart =>
      refine ⟨fr, ?_, rfl, Nat.le_refl _, Hfr1.out.2, fun M h1 h2 => absurd h1 (by omega)⟩
      have := Hst.out
      rw [if_neg h3] at this
      rw [← this]
    case round =>
      obtain ⟨m, rfl, rfl, hm⟩ := hrel
      by_cases hlt : m ≤ g + 2
      · have hle : (m : Int) ≤ (g : Int) + 2 := by omega
        have Hs := Lib.hid (scaled_walk w m k)
        have Hlt := Lib.hid hlt
        clear hlt
        go_wp2_with fail
        refine Hs.out.mono ?_
        rintro e w' ⟨rfl, rfl⟩
        clear Hs
        by_cases hbad : Bad m k
        · have hE : (scE m k == 0) = false := by rw [scE_bad hbad]; rfl
          have hns : ¬ Sol x k m := by
            rintro ⟨_, q, _⟩
            have := Hk1.out
            have := Hk2.out
            rcases hbad with h | h | h <;> omega
          have Hns := Lib.hid hns
          have hnw : IntKind.u64.wrap ((m : Int) + 1) = ((m + 1 : Nat) : Int) := by have := Hg.out; have := Hlt.out; rw [IntKind.wrap_u64]; omega
          clear hbad hns
          go_wp2
          go_roundw
          case rel =>
            refine ⟨m + 1, by first | rfl | (rw [hnw]) | (go_num), (by first | rfl | trivial), ?_⟩
            have q := hm.out
            have := Hlt.out
            refine ⟨by omega, by omega, fun M h1 h2 => ?_⟩
            rcases Nat.lt_or_ge M m with h | h
            · exact q.2.2 M h1 h
            · obtain rfl : M = m := by omega
              exact Hns.out
          case measure => have := Hlt.out; simp [intOf]; omega
        · have hE : (scE m k == 0) = true := by rw [scE_ok hbad]; rfl
          have hm1 : 1 ≤ m := Nat.le_trans Hfr1.out.1 hm.out.1
          have hml : m < 1000000000000000 := by unfold Bad at hbad; omega
          obtain ⟨U, hUe, _⟩ := exU
          have hlti := (sc_near hUe hm1 hml Hk1.out Hk2.out).1
          have hcmp := eq_FV hlti Hx.out
          rw [← scR_ok hbad] at hcmp
          by_cases hs : FV (scW m k) = FV x
          · have hsol : Sol x k m := ⟨hm1, hml, hs⟩
            rw [decide_eq_true (by rw [scR_ok hbad]; exact hs)] at hcmp
            have Hsol := Lib.hid hsol
            clear hs hsol hlti hml hm1 hbad hUe
            go_wp2
            go_ret2
            exact ⟨m, true, rfl, rfl, .inl ⟨rfl, Hsol.out⟩⟩
          · have hns : ¬ Sol x k m := fun h => hs h.2.2
            rw [decide_eq_false (by rw [scR_ok hbad]; exact hs)] at hcmp
            have Hns := Lib.hid hns
            have hnw : IntKind.u64.wrap ((m : Int) + 1) = ((m + 1 : Nat) : Int) := by have := Hg.out; have := Hlt.out; rw [IntKind.wrap_u64]; omega
            clear hs hns hlti hml hm1 hbad hUe
            go_wp2
            go_roundw
            case rel =>
              refine ⟨m + 1, by first | rfl | (rw [hnw]) | (go_num), (by first | rfl | trivial), ?_⟩
              have q := hm.out
              have := Hlt.out
              refine ⟨by omega, by omega, fun M h1 h2 => ?_⟩
              rcases Nat.lt_or_ge M m with h | h
              · exact q.2.2 M h1 h
              · obtain rfl : M = m := by omega
                exact Hns.out
            case measure => have := Hlt.out; simp [intOf]; omega
      · have hle : ¬ (m : Int) ≤ (g : Int) + 2 := by omega
        have Hlt := Lib.hid hlt
        clear hlt
        go_wp2
        go_ret2
        refine ⟨0, false, rfl, rfl, .inr ⟨rfl, fun M hM hw => ?_⟩⟩
        have := Hlt.out
        exact hm.out.2.2 M (Hwin.out M hM hw.1) (by omega) hM

end Go.Proofs.YtbmdbfidjdogmaaDoor
