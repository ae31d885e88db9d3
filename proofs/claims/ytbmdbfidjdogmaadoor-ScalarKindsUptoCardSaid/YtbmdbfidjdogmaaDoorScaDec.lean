/-
The walk of the program's Decimal, of a double above nought that is finite.
-/
import Derived.Test.YtbmdbfidjdogmaaDoorScaLeast
import Derived.Test.YtbmdbfidjdogmaaDoorFloS
set_option linter.unusedVariables false
set_option linter.unusedSimpArgs false
namespace Go.Proofs.YtbmdbfidjdogmaaDoor
open Go Go.RowKit

/-- What both Decimals answer. -/
def DecPost (x : Nat) (w : World) (e : Ending) (w' : World) : Prop :=
  ∃ (M : Nat) (k er : Int), e = .returned (.tuple #[.int .u64 M, .int .i64 k, .int .i64 er]) ∧ w' = w ∧ Dec x M k er

theorem dec_none {x : Nat} {w : World} (h : ∀ k', -22 ≤ k' → k' ≤ 22 → ∀ M', ¬ Sol x k' M') : DecPost x w (.returned (.tuple #[.int .u64 0, .int .i64 0, .int .i64 2])) w :=
  ⟨0, 0, 2, rfl, rfl, .inr ⟨rfl, rfl, rfl, h⟩⟩

theorem dec_some {x M : Nat} {k : Int} {w : World} (hk1 : -22 ≤ k) (hk2 : k ≤ 22) (h : Sol x k M) (hn : ∀ k', k < k' → k' ≤ 22 → ∀ M', ¬ Sol x k' M') : DecPost x w (.returned (.tuple #[.int .u64 M, .int .i64 k, .int .i64 0])) w :=
  ⟨M, k, 0, rfl, rfl, .inl ⟨rfl, hk1, hk2, h, hn⟩⟩

theorem conv_run {b : Nat} {n : Int} (h : floatToIntVal .f64 b .u64 = some n) : ∀ w, (convert 23 30 (.float .f64 b)).run Tryd.prog w = .ok (.int .u64 n) w := fun w =>
  run_convert_float_int w 23 30 .f64 .u64 b n (by kernel_rfl) Tryd.underlying30 h

set_option maxRecDepth 4000 in
set_option maxHeartbeats 1000000 in
theorem decimal_walk (w : World) (x : Nat) (hx : x < INF) (hx0 : 0 < FV x) : Calls Tryd.prog 14 #[.float .f64 x] w fun e w' => DecPost x w e w' := by
  have Hx := Lib.hid hx
  obtain ⟨U, hUe, -, -, -⟩ := exU
  have hpos : (FloatKind.f64.format.order x 0 == some .gt) = true := by
    rw [gt_FV hx (by decide), FV_zero, decide_eq_true hx0]
  have hinf : (FloatKind.f64.format.order x 9218868437227405311 == some .gt) = false := by
    rw [gt_FV hx (by decide), decide_eq_false (Nat.not_lt.2 (FV_le_max hx))]
  have Hinf := Lib.hid (isInf_walk w x _ hinf)
  have HUe := Lib.hid hUe
  clear hx hx0 hinf hUe
  go_enter Tryd.func14, Tryd.ntmps14
  go_wp2_with fail
  refine Hinf.out.mono ?_
  rintro e w' ⟨rfl, rfl⟩
  clear Hinf
  go_wp2
  go_loopw [5] (fun i wr => ∃ k : Int, i = .int .i64 k ∧ w' = wr ∧ Hid (-23 ≤ k ∧ k ≤ 22 ∧ ∀ k', k < k' → k' ≤ 22 → ∀ M', ¬ Sol x k' M')) (fun i _ => (intOf i + 23).toNat)
  case atStart => exact ⟨22, rfl, rfl, by omega, by omega, fun k' h1 h2 => absurd h1 (by omega)⟩
  case round =>
    obtain ⟨k, rfl, rfl, hk⟩ := hrel
    by_cases hlow : -22 ≤ k
    · rcases (show 0 < k ∨ k = 0 ∨ k < 0 by omega) with h0 | h0 | h0
      · obtain ⟨kn, rfl⟩ : ∃ kn : Nat, k = (kn : Int) := ⟨k.toNat, by omega⟩
        have hkb : kn ≤ 22 := by have := hk.out.2.1; omega
        have hkb2 : -(kn : Int) < 0 := by omega
        obtain ⟨g1, G, hg⟩ := guess_ex Hx.out (show kn < 23 by have := hk.out.2.1; omega) (show 0 < 23 by omega)
        have Hg := Lib.hid (show Guess x ((kn : Int)).toNat (-(kn : Int)).toNat g1 G by rw [show ((kn : Int)).toNat = kn by omega, show (-(kn : Int)).toNat = 0 by omega]; exact hg)
        have Ht1 := Lib.hid (ten_walk w' kn (by have := hk.out.2.1; omega))
        have Ht2 : Hid (Calls Tryd.prog 26 #[.int .i64 0] w' fun e w'' => e = .returned (.float .f64 (tenW 0)) ∧ w'' = w') := Lib.hid (ten_walk w' 0 (by decide))
        have hq := quo_run hg.quo
        have hm := mul_run hg.mul
        have hmost := gt_most hg.l2 HUe.out
        clear hg
        have Hlow := Lib.hid hlow
        go_wp2_with fail
        refine Ht1.out.mono ?_
        rintro e w1 ⟨rfl, hw1⟩
        obtain rfl := hw1.symm
        clear Ht1
        go_wp2_with fail
        refine Ht2.out.mono ?_
        rintro e w1 ⟨rfl, hw1⟩
        obtain rfl := hw1.symm
        clear Ht2
        by_cases hb : G < INF ∧ FV G ≤ 2000000000000000 * U
        · rw [decide_eq_false (fun h => h hb)] at hmost
          obtain ⟨r1, r2, r3⟩ := guess_int HUe.out hb.1 hb.2
          have hrnd : ∀ M', Sol x (kn : Int) M' → (2 * FV G + U) / (2 * U) = M' := fun M' hs => hs.rounds HUe.out Hx.out Hlow.out hk.out.2.1 Hg.out
          have Hrnd := Lib.hid hrnd
          generalize (2 * FV G + U) / (2 * U) = n at *
          have hcv := conv_run r2
          have Hr := Lib.hid (round_walk w' G r1)
          have Hn := Lib.hid (near_walk w' x Hx.out (kn : Int) Hlow.out hk.out.2.1 n r3)
          clear hb r1 r2 r3 hrnd
          go_wp2_with fail
          refine Hr.out.mono ?_
          rintro e w1 ⟨rfl, hw1⟩
          obtain rfl := hw1.symm
          clear Hr
          go_wp2_with fail
          refine Hn.out.mono ?_
          rintro e w1 ⟨M, ok, rfl, hw1, hcase⟩
          obtain rfl := hw1.symm
          have Hcase := Lib.hid hcase
          clear Hn hcase
          cases ok with
          | true =>
            go_wp2
            go_ret3
            rcases Hcase.out with ⟨_, hs⟩ | ⟨hno, _⟩
            · exact dec_some Hlow.out hk.out.2.1 hs hk.out.2.2
            · cases hno
          | false =>
            go_wp2
            go_roundw
            case rel =>
              refine ⟨(kn : Int) - 1, by first | rfl | go_num, (by first | rfl | trivial), ?_⟩
              have h1 := Hlow.out
              have h2 := hk.out
              refine ⟨by omega, by omega, fun k' q1 q2 M' hs => ?_⟩
              by_cases hkk : k' = (kn : Int)
              · subst hkk
                rcases Hcase.out with ⟨hno, _⟩ | ⟨_, hw⟩
                · cases hno
                · have := Hrnd.out M' hs
                  exact hw M' hs (by omega)
              · exact h2.2.2 k' (by omega) q2 M' hs
            case measure =>
              have h1 := Hlow.out
              simp [intOf] <;> omega
        · rw [decide_eq_true hb] at hmost
          have hres : DecPost x w' (.returned (.tuple #[.int .u64 0, .int .i64 0, .int .i64 2])) w' := dec_none (fun k' q1 q2 M' hs => by
            by_cases hkk : (kn : Int) < k'
            · exact hk.out.2.2 k' hkk q2 M' hs
            · exact hb (hs.not_most HUe.out Hx.out q1 (by omega) hk.out.2.1 Hg.out))
          clear hb
          go_wp2
          go_ret3
          exact hres
      · obtain rfl : k = 0 := by omega
        obtain ⟨g1, G, hg⟩ := guess_ex Hx.out (show 0 < 23 by omega) (show 0 < 23 by omega)
        have Hg := Lib.hid (show Guess x ((0 : Int)).toNat (-(0 : Int)).toNat g1 G from hg)
        have Ht1 : Hid (Calls Tryd.prog 26 #[.int .i64 0] w' fun e w'' => e = .returned (.float .f64 (tenW 0)) ∧ w'' = w') := Lib.hid (ten_walk w' 0 (by decide))
        have Ht2 := Ht1
        have hq := quo_run hg.quo
        have hm := mul_run hg.mul
        have hmost := gt_most hg.l2 HUe.out
        clear hg
        have Hlow := Lib.hid hlow
        go_wp2_with fail
        refine Ht1.out.mono ?_
        rintro e w1 ⟨rfl, hw1⟩
        obtain rfl := hw1.symm
        clear Ht1
        go_wp2_with fail
        refine Ht2.out.mono ?_
        rintro e w1 ⟨rfl, hw1⟩
        obtain rfl := hw1.symm
        clear Ht2
        by_cases hb : G < INF ∧ FV G ≤ 2000000000000000 * U
        · rw [decide_eq_false (fun h => h hb)] at hmost
          obtain ⟨r1, r2, r3⟩ := guess_int HUe.out hb.1 hb.2
          have hrnd : ∀ M', Sol x (0 : Int) M' → (2 * FV G + U) / (2 * U) = M' := fun M' hs => hs.rounds HUe.out Hx.out Hlow.out hk.out.2.1 Hg.out
          have Hrnd := Lib.hid hrnd
          generalize (2 * FV G + U) / (2 * U) = n at *
          have hcv := conv_run r2
          have Hr := Lib.hid (round_walk w' G r1)
          have Hn := Lib.hid (near_walk w' x Hx.out (0 : Int) Hlow.out hk.out.2.1 n r3)
          clear hb r1 r2 r3 hrnd
          go_wp2_with fail
          refine Hr.out.mono ?_
          rintro e w1 ⟨rfl, hw1⟩
          obtain rfl := hw1.symm
          clear Hr
          go_wp2_with fail
          refine Hn.out.mono ?_
          rintro e w1 ⟨M, ok, rfl, hw1, hcase⟩
          obtain rfl := hw1.symm
          have Hcase := Lib.hid hcase
          clear Hn hcase
          cases ok with
          | true =>
            go_wp2
            go_ret3
            rcases Hcase.out with ⟨_, hs⟩ | ⟨hno, _⟩
            · exact dec_some Hlow.out hk.out.2.1 hs hk.out.2.2
            · cases hno
          | false =>
            go_wp2
            go_roundw
            case rel =>
              refine ⟨(0 : Int) - 1, by first | rfl | go_num, (by first | rfl | trivial), ?_⟩
              have h1 := Hlow.out
              have h2 := hk.out
              refine ⟨by omega, by omega, fun k' q1 q2 M' hs => ?_⟩
              by_cases hkk : k' = (0 : Int)
              · subst hkk
                rcases Hcase.out with ⟨hno, _⟩ | ⟨_, hw⟩
                · cases hno
                · have := Hrnd.out M' hs
                  exact hw M' hs (by omega)
              · exact h2.2.2 k' (by omega) q2 M' hs
            case measure =>
              have h1 := Hlow.out
              simp [intOf] <;> omega
        · rw [decide_eq_true hb] at hmost
          have hres : DecPost x w' (.returned (.tuple #[.int .u64 0, .int .i64 0, .int .i64 2])) w' := dec_none (fun k' q1 q2 M' hs => by
            by_cases hkk : (0 : Int) < k'
            · exact hk.out.2.2 k' hkk q2 M' hs
            · exact hb (hs.not_most HUe.out Hx.out q1 (by omega) hk.out.2.1 Hg.out))
          clear hb
          go_wp2
          go_ret3
          exact hres
      · obtain ⟨kn, rfl⟩ : ∃ kn : Nat, k = -(kn : Int) := ⟨(-k).toNat, by omega⟩
        have hkb : kn ≤ 22 := by omega
        have hkb2 : 0 < kn := by omega
        obtain ⟨g1, G, hg⟩ := guess_ex Hx.out (show 0 < 23 by omega) (show kn < 23 by omega)
        have Hg := Lib.hid (show Guess x (-(kn : Int)).toNat (-(-(kn : Int))).toNat g1 G by rw [show (-(kn : Int)).toNat = 0 by omega, show (-(-(kn : Int))).toNat = kn by omega]; exact hg)
        have Ht1 : Hid (Calls Tryd.prog 26 #[.int .i64 0] w' fun e w'' => e = .returned (.float .f64 (tenW 0)) ∧ w'' = w') := Lib.hid (ten_walk w' 0 (by decide))
        have Ht2 := Lib.hid (ten_walk w' kn (by omega))
        have hneg : ¬ (0 : Int) ≤ -(kn : Int) := by omega
        have hneg2 : -(kn : Int) < 0 := by omega
        have hq := quo_run hg.quo
        have hm := mul_run hg.mul
        have hmost := gt_most hg.l2 HUe.out
        clear hg
        have Hlow := Lib.hid hlow
        go_wp2_with fail
        refine Ht1.out.mono ?_
        rintro e w1 ⟨rfl, hw1⟩
        obtain rfl := hw1.symm
        clear Ht1
        go_wp2_with fail
        refine Ht2.out.mono ?_
        rintro e w1 ⟨rfl, hw1⟩
        obtain rfl := hw1.symm
        clear Ht2
        by_cases hb : G < INF ∧ FV G ≤ 2000000000000000 * U
        · rw [decide_eq_false (fun h => h hb)] at hmost
          obtain ⟨r1, r2, r3⟩ := guess_int HUe.out hb.1 hb.2
          have hrnd : ∀ M', Sol x (-(kn : Int)) M' → (2 * FV G + U) / (2 * U) = M' := fun M' hs => hs.rounds HUe.out Hx.out Hlow.out hk.out.2.1 Hg.out
          have Hrnd := Lib.hid hrnd
          generalize (2 * FV G + U) / (2 * U) = n at *
          have hcv := conv_run r2
          have Hr := Lib.hid (round_walk w' G r1)
          have Hn := Lib.hid (near_walk w' x Hx.out (-(kn : Int)) Hlow.out hk.out.2.1 n r3)
          clear hb r1 r2 r3 hrnd
          go_wp2_with fail
          refine Hr.out.mono ?_
          rintro e w1 ⟨rfl, hw1⟩
          obtain rfl := hw1.symm
          clear Hr
          go_wp2_with fail
          refine Hn.out.mono ?_
          rintro e w1 ⟨M, ok, rfl, hw1, hcase⟩
          obtain rfl := hw1.symm
          have Hcase := Lib.hid hcase
          clear Hn hcase
          cases ok with
          | true =>
            go_wp2
            go_ret3
            rcases Hcase.out with ⟨_, hs⟩ | ⟨hno, _⟩
            · exact dec_some Hlow.out hk.out.2.1 hs hk.out.2.2
            · cases hno
          | false =>
            go_wp2
            go_roundw
            case rel =>
              refine ⟨(-(kn : Int)) - 1, by first | rfl | go_num, (by first | rfl | trivial), ?_⟩
              have h1 := Hlow.out
              have h2 := hk.out
              refine ⟨by omega, by omega, fun k' q1 q2 M' hs => ?_⟩
              by_cases hkk : k' = (-(kn : Int))
              · subst hkk
                rcases Hcase.out with ⟨hno, _⟩ | ⟨_, hw⟩
                · cases hno
                · have := Hrnd.out M' hs
                  exact hw M' hs (by omega)
              · exact h2.2.2 k' (by omega) q2 M' hs
            case measure =>
              have h1 := Hlow.out
              simp [intOf] <;> omega
        · rw [decide_eq_true hb] at hmost
          have hres : DecPost x w' (.returned (.tuple #[.int .u64 0, .int .i64 0, .int .i64 2])) w' := dec_none (fun k' q1 q2 M' hs => by
            by_cases hkk : (-(kn : Int)) < k'
            · exact hk.out.2.2 k' hkk q2 M' hs
            · exact hb (hs.not_most HUe.out Hx.out q1 (by omega) hk.out.2.1 Hg.out))
          clear hb
          go_wp2
          go_ret3
          exact hres
    · have hres : DecPost x w' (.returned (.tuple #[.int .u64 0, .int .i64 0, .int .i64 2])) w' := dec_none (fun k' q1 q2 M' hs => hk.out.2.2 k' (by omega) q2 M' hs)
      go_wp2
      go_ret3
      exact hres

end Go.Proofs.YtbmdbfidjdogmaaDoor
