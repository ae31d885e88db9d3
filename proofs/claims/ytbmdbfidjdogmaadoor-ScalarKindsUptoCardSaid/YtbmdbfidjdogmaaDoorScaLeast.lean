/-
The walk of the reference's least.
-/
import Derived.Test.YtbmdbfidjdogmaaDoorScaNear
set_option linter.unusedVariables false
set_option linter.unusedSimpArgs false
namespace Go.Proofs.YtbmdbfidjdogmaaDoor
open Go Go.RowKit

/-- What least answers: the least number whose value is not below x; 0: there is none. -/
def LeastPost (x : Nat) (k : Int) (w : World) (e : Ending) (w' : World) : Prop :=
  ∃ L : Nat, e = .returned (.int .u64 L) ∧ w' = w ∧ ((L = 0 ∧ ∀ M, 1 ≤ M → M < 1000000000000000 → FV (scW M k) < FV x) ∨ (1 ≤ L ∧ L < 1000000000000000 ∧ (∀ M, 1 ≤ M → M < L → FV (scW M k) < FV x) ∧ FV x ≤ FV (scW L k)))

/-- Between what is known to be too small and what is known not to be. -/
def Between (x : Nat) (k : Int) (lo hi : Nat) : Prop :=
  1 ≤ lo ∧ lo ≤ hi ∧ hi ≤ 1000000000000000 ∧ (∀ M, 1 ≤ M → M < lo → FV (scW M k) < FV x) ∧ (∀ M, hi ≤ M → M < 1000000000000000 → FV x ≤ FV (scW M k))

set_option maxHeartbeats 1000000 in
theorem least_walk (w : World) (x : Nat) (hx : x < INF) (k : Int) (hk1 : -22 ≤ k) (hk2 : k ≤ 22) :
    Calls Tryd.prog 68 #[.float .f64 x, .int .i64 k] w fun e w' => LeastPost x k w e w' := by
  have Hx := Lib.hid hx
  have Hk1 := Lib.hid hk1
  have Hk2 := Lib.hid hk2
  clear hx hk1 hk2
  go_enter Tryd.func68, Tryd.ntmps68
  go_wp2
  go_loopw [5, 6] (fun lo hi wr => ∃ l h : Nat, lo = .int .u64 l ∧ hi = .int .u64 h ∧ w = wr ∧ Hid (Between x k l h)) (fun lo hi _ => (intOf hi).toNat - (intOf lo).toNat)
  case atStart => exact ⟨1, 1000000000000000, rfl, rfl, rfl, by omega, by omega, Nat.le_refl _, fun M h1 h2 => absurd h1 (by omega), fun M h1 h2 => absurd h1 (by omega)⟩
  case round =>
    obtain ⟨l, h, rfl, rfl, rfl, hB⟩ := hrel
    by_cases hlt : l < h
    · obtain ⟨mid, hmid⟩ : ∃ mid : Nat, mid = l + (h - l) / 2 := ⟨_, rfl⟩
      have hb := hB.out
      have hbad : ¬ Bad mid k := by
        have := hb.2.2.1
        have := Hk1.out
        have := Hk2.out
        unfold Bad
        omega
      have hm1 : 1 ≤ mid := by have := hb.1; omega
      have hml : mid < 1000000000000000 := by have := hb.2.2.1; omega
      obtain ⟨U, hUe, _⟩ := exU
      have hlti := (sc_near hUe hm1 hml Hk1.out Hk2.out).1
      have hcmp := lt_FV hlti Hx.out
      rw [← scR_ok hbad] at hcmp
      have Hs := Lib.hid (refScaled_walk w mid k)
      obtain ⟨d, hd⟩ : ∃ d : Nat, d = h - l := ⟨_, rfl⟩
      obtain ⟨c, hc⟩ : ∃ c : Nat, c = d / 2 := ⟨_, rfl⟩
      have hsub : IntKind.u64.wrap ((h : Int) - (l : Int)) = (d : Int) := by have := hb.2.2.1; rw [IntKind.wrap_u64]; omega
      have hquo : IntKind.u64.wrap ((d : Int) / 2) = (c : Int) := by have := hb.2.2.1; rw [IntKind.wrap_u64]; omega
      have hadd : IntKind.u64.wrap ((l : Int) + (c : Int)) = (mid : Int) := by have := hb.2.2.1; rw [IntKind.wrap_u64]; omega
      have hnext : IntKind.u64.wrap ((mid : Int) + 1) = ((mid + 1 : Nat) : Int) := by rw [IntKind.wrap_u64]; omega
      have Hnum := Lib.hid (show l ≤ mid ∧ mid < h by omega)
      have Hbad := Lib.hid hbad
      have Hml := Lib.hid hml
      have hltI : (l : Int) < (h : Int) := by omega
      clear hb hbad hm1 hlti hUe hmid hml hlt hd hc
      go_wp2_with fail
      refine Hs.out.mono ?_
      rintro e w' ⟨rfl, rfl⟩
      clear Hs
      by_cases hs : FV (scW mid k) < FV x
      · rw [decide_eq_true (by rw [scR_ok Hbad.out]; exact hs)] at hcmp
        have Hs := Lib.hid hs
        clear hs
        go_wp2
        go_roundw
        case rel =>
          refine ⟨mid + 1, h, rfl, rfl, (by first | rfl | trivial), ?_⟩
          have hb := hB.out
          have hb1 := hb.1
          have hn := Hnum.out
          have hm := Hml.out
          refine ⟨by omega, by omega, hb.2.2.1, fun M h1 h2 => ?_, hb.2.2.2.2⟩
          rcases Nat.lt_or_eq_of_le (show M ≤ mid by omega) with q | rfl
          · exact Nat.lt_trans (sc_mono h1 q hm Hk1.out Hk2.out) Hs.out
          · exact Hs.out
        case measure =>
          have h1 := Hnum.out
          simp [intOf, hnext]
          omega
      · rw [decide_eq_false (by rw [scR_ok Hbad.out]; exact hs)] at hcmp
        have Hs := Lib.hid hs
        clear hs
        go_wp2
        go_roundw
        case rel =>
          refine ⟨l, mid, rfl, rfl, (by first | rfl | trivial), ?_⟩
          have hb := hB.out
          have hb1 := hb.1
          have hn := Hnum.out
          have hm := Hml.out
          have hs := Hs.out
          refine ⟨by omega, by omega, by omega, hb.2.2.2.1, fun M h1 h2 => ?_⟩
          rcases Nat.lt_or_eq_of_le h1 with q | rfl
          · have := sc_mono (show 1 ≤ mid by omega) q h2 Hk1.out Hk2.out
            omega
          · omega
        case measure =>
          have h1 := Hnum.out
          simp [intOf, hnext]
          omega
    · have hltI : ¬ (l : Int) < (h : Int) := by omega
      have hlh : l = h := by have := hB.out.2.1; omega
      subst hlh
      clear hlt
      by_cases hl : l = 1000000000000000
      · have heq : ((l : Int) == 1000000000000000) = true := by simp [hl]
        have hres : LeastPost x k w (.returned (.int .u64 ((0 : Nat) : Int))) w := by
          have hb := hB.out
          exact ⟨0, rfl, rfl, .inl ⟨rfl, fun M h1 h2 => hb.2.2.2.1 M h1 (by omega)⟩⟩
        clear hl
        go_wp2
        go_ret
        exact hres
      · have heq : ((l : Int) == 1000000000000000) = false := by simp; omega
        have hres : LeastPost x k w (.returned (.int .u64 (l : Int))) w := by
          have hb := hB.out
          have := hb.2.2.1
          exact ⟨l, rfl, rfl, .inr ⟨hb.1, by omega, hb.2.2.2.1, hb.2.2.2.2 l (Nat.le_refl _) (by omega)⟩⟩
        clear hl
        go_wp2
        go_ret
        exact hres

end Go.Proofs.YtbmdbfidjdogmaaDoor
