/-
The walk of the reference's Decimal, of a double above nought that is finite; and what both Decimals answer to all others.
-/
import Derived.Test.YtbmdbfidjdogmaaDoorScaDec
set_option linter.unusedVariables false
set_option linter.unusedSimpArgs false
namespace Go.Proofs.YtbmdbfidjdogmaaDoor
open Go Go.RowKit

/-- x - x of a finite double. -/
theorem sub_self {x : Nat} (hx : x < INF) : floatBits .sub .f64 x x = some 0 := by
  obtain ⟨m, up, hr, _⟩ := read_pos x hx
  show Ieee.double.sub x x = some 0
  unfold Ieee.Format.sub
  rw [hr]
  show some (Ieee.double.write (Ieee.Datum.number (if Ieee.signed false m ((up : Int) - 1074 - min ((up : Int) - 1074) ((up : Int) - 1074)).toNat + Ieee.signed true m ((up : Int) - 1074 - min ((up : Int) - 1074) ((up : Int) - 1074)).toNat = 0 then (false && true) else decide (Ieee.signed false m ((up : Int) - 1074 - min ((up : Int) - 1074) ((up : Int) - 1074)).toNat + Ieee.signed true m ((up : Int) - 1074 - min ((up : Int) - 1074) ((up : Int) - 1074)).toNat < 0)) (Ieee.signed false m ((up : Int) - 1074 - min ((up : Int) - 1074) ((up : Int) - 1074)).toNat + Ieee.signed true m ((up : Int) - 1074 - min ((up : Int) - 1074) ((up : Int) - 1074)).toNat).natAbs (min ((up : Int) - 1074) ((up : Int) - 1074)))) = some 0
  have e : ∀ k, Ieee.signed false m k + Ieee.signed true m k = 0 := by
    intro k
    unfold Ieee.signed
    rw [if_neg (by decide), if_pos rfl]
    omega
  rw [e, if_pos rfl]
  show some (Ieee.double.nearest false 0 _) = some 0
  unfold Ieee.Format.nearest
  rw [if_pos rfl, word_false]

theorem sub_run {a b r : Nat} (h : floatBits .sub .f64 a b = some r) : ∀ t w, (binOp .sub t (.float .f64 a) (.float .f64 b)).run Tryd.prog w = .ok (.float .f64 r) w := fun t w => run_float_arith w .sub t .f64 a b r h

/-- Where least has told its number, that is the one solution, or there is none. -/
theorem least_sol {x L M : Nat} {k : Int} (hk1 : -22 ≤ k) (hk2 : k ≤ 22) (h1 : 1 ≤ L) (h2 : ∀ M, 1 ≤ M → M < L → FV (scW M k) < FV x) (h3 : FV x ≤ FV (scW L k)) (hs : Sol x k M) : FV (scW L k) = FV x := by
  obtain ⟨m1, m2, m3⟩ := hs
  rcases Nat.lt_trichotomy M L with q | rfl | q
  · have := h2 M m1 q
    omega
  · exact m3
  · have := sc_mono h1 q m2 hk1 hk2
    omega

set_option maxRecDepth 4000 in
set_option maxHeartbeats 1000000 in
theorem refDecimal_walk (w : World) (x : Nat) (hx : x < INF) (hx0 : 0 < FV x) : Calls Tryd.prog 54 #[.float .f64 x] w fun e w' => DecPost x w e w' := by
  have Hx := Lib.hid hx
  have hpos : (FloatKind.f64.format.order x 0 == some .gt) = true := by
    rw [gt_FV hx (by decide), FV_zero, decide_eq_true hx0]
  have hsub := sub_run (sub_self hx)
  have hz : (FloatKind.f64.format.order 0 0 != some .eq) = false := by decide +kernel
  clear hx hx0
  go_enter Tryd.func54, Tryd.ntmps54
  go_wp2
  go_loopw [5] (fun i wr => ∃ k : Int, i = .int .i64 k ∧ w = wr ∧ Hid (-23 ≤ k ∧ k ≤ 22 ∧ ∀ k', k < k' → k' ≤ 22 → ∀ M', ¬ Sol x k' M')) (fun i _ => (intOf i + 23).toNat)
  case atStart => exact ⟨22, rfl, rfl, by omega, by omega, fun k' h1 h2 => absurd h1 (by omega)⟩
  case round =>
    obtain ⟨k, rfl, rfl, hk⟩ := hrel
    have hkb := hk.out.2.1
    have hkb0 := hk.out.1
    by_cases hlow : -22 ≤ k
    · have Hlow := Lib.hid hlow
      have Hl := Lib.hid (least_walk w x Hx.out k hlow hkb)
      go_wp2_with fail
      refine Hl.out.mono ?_
      rintro e w1 ⟨L, rfl, hw1, hcase⟩
      obtain rfl := hw1.symm
      clear Hl
      have Hs := Lib.hid (refScaled_walk w L k)
      go_wp2_with fail
      refine Hs.out.mono ?_
      rintro e w1 ⟨rfl, hw1⟩
      obtain rfl := hw1.symm
      clear Hs
      rcases hcase with ⟨rfl, hno⟩ | ⟨c1, c2, c3, c4⟩
      · have Hno := Lib.hid hno
        clear hno
        go_wp2
        go_roundw
        case rel =>
          refine ⟨k - 1, by first | rfl | go_num, (by first | rfl | trivial), ?_⟩
          refine ⟨by omega, by omega, fun k' q1 q2 M' hs => ?_⟩
          by_cases hkk : k' = k
          · subst hkk
            have := Hno.out M' hs.1 hs.2.1
            rw [hs.2.2] at this
            omega
          · exact hk.out.2.2 k' (by omega) q2 M' hs
        case measure => simp [intOf] <;> omega
      · have hbad : ¬ Bad L k := by unfold Bad; omega
        obtain ⟨U, hUe, -, -, -⟩ := exU
        have hlti := (sc_near hUe c1 c2 hlow hkb).1
        have hcmp := eq_FV hlti Hx.out
        rw [← scR_ok hbad] at hcmp
        have hL0 : (0 : Int) < (L : Int) := by omega
        by_cases hs : FV (scW L k) = FV x
        · rw [decide_eq_true (by rw [scR_ok hbad]; exact hs)] at hcmp
          have hres := dec_some (w := w) hlow hkb ⟨c1, c2, hs⟩ hk.out.2.2
          clear c3 c4 hs c2 c1 hbad hUe hlti
          go_wp2
          go_ret3
          exact hres
        · rw [decide_eq_false (by rw [scR_ok hbad]; exact hs)] at hcmp
          have Hno := Lib.hid (show ∀ M', ¬ Sol x k M' from fun M' h => hs (least_sol hlow hkb c1 c3 c4 h))
          clear c3 c4 hs c2 c1 hbad hUe hlti
          go_wp2
          go_roundw
          case rel =>
            refine ⟨k - 1, by first | rfl | go_num, (by first | rfl | trivial), ?_⟩
            refine ⟨by omega, by omega, fun k' q1 q2 M' hs => ?_⟩
            by_cases hkk : k' = k
            · subst hkk
              exact Hno.out M' hs
            · exact hk.out.2.2 k' (by omega) q2 M' hs
          case measure => simp [intOf] <;> omega
    · have hres : DecPost x w (.returned (.tuple #[.int .u64 0, .int .i64 0, .int .i64 2])) w := dec_none (fun k' q1 q2 M' hs => hk.out.2.2 k' (by omega) q2 M' hs)
      go_wp2
      go_ret3
      exact hres

/-- .. of what is not above nought, or no number. -/
theorem decimal_neg (w : World) (x : Nat) (hpos : (FloatKind.f64.format.order x 0 == some .gt) = false) : Calls Tryd.prog 14 #[.float .f64 x] w fun e w' => e = .returned (.tuple #[.int .u64 0, .int .i64 0, .int .i64 2]) ∧ w' = w := by
  go_enter Tryd.func14, Tryd.ntmps14
  go_wp2
  go_ret3
  exact ⟨rfl, rfl⟩

theorem refDecimal_neg (w : World) (x : Nat) (hpos : (FloatKind.f64.format.order x 0 == some .gt) = false) : Calls Tryd.prog 54 #[.float .f64 x] w fun e w' => e = .returned (.tuple #[.int .u64 0, .int .i64 0, .int .i64 2]) ∧ w' = w := by
  go_enter Tryd.func54, Tryd.ntmps54
  go_wp2
  go_ret3
  exact ⟨rfl, rfl⟩

/-- .. of infinity. -/
theorem decimal_inf (w : World) : Calls Tryd.prog 14 #[.float .f64 INF] w fun e w' => e = .returned (.tuple #[.int .u64 0, .int .i64 0, .int .i64 2]) ∧ w' = w := by
  have hpos : (FloatKind.f64.format.order INF 0 == some .gt) = true := by decide +kernel
  have Hinf := Lib.hid (isInf_walk w INF true (by decide +kernel))
  generalize INF = x at *
  go_enter Tryd.func14, Tryd.ntmps14
  go_wp2_with fail
  refine Hinf.out.mono ?_
  rintro e w1 ⟨rfl, hw1⟩
  obtain rfl := hw1.symm
  clear Hinf
  go_wp2
  go_ret3
  exact ⟨rfl, rfl⟩

/-- The NaN that comes of taking infinity from infinity. -/
def nanW (w : World) : Nat := (Question.nanBits .f64 INF INF).cut (w.tape w.drawn (Question.nanBits .f64 INF INF))

theorem nan_run : ∀ t w, (binOp .sub t (.float .f64 INF) (.float .f64 INF)).run Tryd.prog w = .ok (.float .f64 (nanW w)) w.drew := by
  intro t w
  have h : FloatKind.f64.format.sub INF INF = none := by decide +kernel
  have hf : (Question.nanBits .f64 INF INF).forced = false := rfl
  simp [binOp, Op.floatArith, h, hf, nanW]

theorem nan_cmp (w : World) : (FloatKind.f64.format.order (nanW w) 0 != some .eq) = true := by
  have h : ∃ n f, Ieee.double.read (nanW w) = .nan n f := by
    unfold nanW Question.cut
    generalize w.tape w.drawn (Question.nanBits .f64 INF INF) = t
    obtain ⟨u, hu⟩ : ∃ u, u = t / 2 % (2 ^ 52 - 1) := ⟨_, rfl⟩
    have hu2 : u < 4503599627370495 := by rw [hu]; exact Nat.mod_lt _ (by decide)
    show ∃ n f, Ieee.double.read (t % 2 * 2 ^ 63 + 0x7ff0000000000000 + 1 + t / 2 % (2 ^ 52 - 1)) = .nan n f
    rw [← hu]
    have h1 : (t % 2 * 2 ^ 63 + 0x7ff0000000000000 + 1 + u) % 9223372036854775808 = 9218868437227405313 + u := by omega
    unfold Ieee.Format.read
    simp only [c_sign, c_bin, c_inf, h1, INF]
    rw [if_neg (by omega), if_neg (by omega), if_neg (by omega)]
    exact ⟨_, _, rfl⟩
  obtain ⟨n, f, hn⟩ := h
  show (Ieee.double.order (nanW w) 0 != some .eq) = true
  unfold Ieee.Format.order
  rw [hn]
  rfl

theorem refDecimal_inf (w : World) : Calls Tryd.prog 54 #[.float .f64 INF] w fun e w' => e = .returned (.tuple #[.int .u64 0, .int .i64 0, .int .i64 2]) ∧ w' = w.drew := by
  have hpos : (FloatKind.f64.format.order INF 0 == some .gt) = true := by decide +kernel
  have hsub := fun t => nan_run t w
  have hcmp := nan_cmp w
  generalize nanW w = nw at *
  generalize INF = x at *
  go_enter Tryd.func54, Tryd.ntmps54
  go_wp2
  go_ret3
  exact ⟨rfl, rfl⟩

end Go.Proofs.YtbmdbfidjdogmaaDoor
