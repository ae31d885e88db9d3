/-
The walk of the reference's real.
-/
import Derived.Test.YtbmdbfidjdogmaaDoorScaTold
import Derived.Test.YtbmdbfidjdogmaaDoorScaLong
import Derived.Test.YtbmdbfidjdogmaaDoorScaRef
import Derived.LoopTactic
import Derived.Deep.RegionHeld3
import Derived.StillTailTactics
set_option linter.unusedVariables false
set_option linter.unusedSimpArgs false
namespace Go.Proofs.YtbmdbfidjdogmaaDoor
open Go Go.RowKit

theorem self_num {x : Nat} (hx : x < 18446744073709551616) (h : absW x ≤ INF) : eqF x x = true := by
  rcases order_self x with q | q
  · unfold eqF; rw [q]; rfl
  · exfalso
    have hr : ∀ s f, Ieee.double.read x ≠ .nan s f := by
      intro s f hn
      unfold absW at h
      by_cases hs : 9223372036854775808 ≤ x
      · rw [if_pos hs, negW_eq hs hx] at h
        obtain ⟨y, rfl⟩ : ∃ y, x = 9223372036854775808 + y := ⟨x - 9223372036854775808, by omega⟩
        rw [Nat.add_sub_cancel_left] at h
        rcases Nat.lt_or_eq_of_le h with hl | rfl
        · obtain ⟨mag, up, h1, _⟩ := read_neg y hl
          rw [h1] at hn
          cases hn
        · have : Ieee.double.read (9223372036854775808 + INF) = .infinity true := by decide +kernel
          rw [this] at hn
          cases hn
      · rw [if_neg hs] at h
        rcases Nat.lt_or_eq_of_le h with hl | rfl
        · obtain ⟨mag, up, h1, _⟩ := read_pos x hl
          rw [h1] at hn
          cases hn
        · rw [read_inf] at hn
          cases hn
    have q' : Ieee.double.order x x = none := q
    unfold Ieee.Format.order at q'
    cases hc : Ieee.double.read x with
    | nan s f => exact hr s f hc
    | infinity s => rw [hc] at q'; cases q'
    | number s m i => rw [hc] at q'; cases q'

theorem b_first {w w1 : World} (h : Below w.heap.size w w1) : Below w.heap.size w w1.drew := ⟨h.os, h.tape, h.output, h.size, h.block⟩
theorem b_drewN {w w1 : World} (h : Below w.heap.size w w1) (n : Nat) : Below w.heap.size w (w1.drewN n) := ⟨h.os, h.tape, h.output, h.size, h.block⟩
theorem b_step {w w1 w2 : World} (h : Below w.heap.size w w1) (hb : Below w1.heap.size w1 w2) : Below w.heap.size w w2 := h.trans (hb.mono h.size)

set_option maxHeartbeats 1600000 in
set_option maxRecDepth 20000 in
theorem refReal_walk (w : World) (x : Nat) (hx : x < 18446744073709551616) :
    Calls Tryd.prog 34 #[.float .f64 x] w fun e w' => RealPost x w e w' := by
  by_cases hn : INF < absW x
  · have e1 : (FloatKind.f64.format.order x x != some .eq) = true := by
      cases h : eqF x x with
      | true => exact absurd (eq_num hx h) (Nat.not_le.2 hn)
      | false =>
        unfold eqF at h
        rw [bne, h]; rfl
    have hres : RealPost x w (.returned (.tuple #[.string ⟨#[46, 110, 97, 110]⟩, .int .i64 0])) w := ⟨_, _, rfl, Below.refl _ _, .inl ⟨hn, rfl, rfl⟩⟩
    have Hres := Lib.hid hres
    clear hn hx hres
    go_enter Tryd.func34, Tryd.ntmps34
    go_wp2
    go_ret2
    exact Hres.out
  · have hle : absW x ≤ INF := Nat.not_lt.1 hn
    have e1 : (FloatKind.f64.format.order x x != some .eq) = false := by
      have := self_num hx hle
      unfold eqF at this
      rw [bne, this]; rfl
    have hbs := below_sgn hx hle
    unfold sgnF at hbs
    obtain ⟨b, hb⟩ : ∃ b, b = decide (9223372036854775808 ≤ x) := ⟨_, rfl⟩
    have hbw := below_walk w x
    rw [hbs, ← hb] at hbw
    have Hsb := Lib.hid hbw
    have Hb := Lib.hid hb
    clear hbw hb hbs hn
    have Hy := Lib.hid (absW_lt hx)
    have Hle := Lib.hid hle
    have hng := neg_run x
    clear hx hle
    go_enter Tryd.func34, Tryd.ntmps34
    go_wp2_with fail
    refine Hsb.out.mono ?_
    rintro e w1 ⟨rfl, hw⟩
    obtain rfl := hw.symm
    clear Hsb e1
    go_upto_if 16 with (fail)
    go_cut [0, 4] from 15 (fun s0 s4 wc' => s0 = .float .f64 (absW x) ∧ s4 = .string (signS x) ∧ wc' = w)
    case first =>
      cases b with
      | true =>
        have h := of_decide_eq_true Hb.out.symm
        have h2 : absW x = negW x := if_pos h
        have h3 : signS x = ⟨#[45]⟩ := if_pos h
        clear h
        go_wp2
        go_meet
        case rel => exact ⟨by rw [h2], by rw [h3], (by first | rfl | trivial)⟩
      | false =>
        have h := of_decide_eq_false Hb.out.symm
        have h2 : absW x = x := if_neg h
        have h3 : signS x = ⟨#[]⟩ := if_neg h
        clear h
        go_wp2
        go_meet
        case rel => exact ⟨by rw [h2], by rw [h3], (by first | rfl | trivial)⟩
    case rest =>
      obtain ⟨rfl, rfl, hw⟩ := hcut
      obtain rfl := hw.symm
      have hsz := signS_size x
      have hsl := signS_list x
      have hR : ∀ (s : ByteArray) er w', Below w.heap.size w w' → RealS x s.data.toList er → RealPost x w (.returned (.tuple #[.string s, .int .i64 er])) w' := fun s er w' h1 h2 => ⟨s, er, rfl, h1, h2⟩
      unfold RealS at hR
      generalize signS x = sg at *
      generalize signL x = sl at *
      generalize hyy : absW x = y at *
      have HR := Lib.hid hR
      have Hsl := Lib.hid hsl
      clear hR hyy hng hsl
      rcases Nat.lt_or_eq_of_le Hle.out with hlt | hinf
      · have hsub := sub_run (sub_self hlt)
        have hz0 : (FloatKind.f64.format.order 0 0 != some .eq) = false := by decide +kernel
        by_cases h0 : y = 0
        · subst h0
          have e2 : (FloatKind.f64.format.order 0 0 == some .eq) = true := by decide +kernel
          have hc := cat_ok (a := sg) (b := ⟨#[48, 46, 48]⟩) (by omega) (by decide)
          clear hlt
          go_wp2
          go_ret2
          exact HR.out (sg ++ ⟨#[48, 46, 48]⟩) 0 w (Below.refl _ _) (.inr (.inr (.inl ⟨(by first | rfl | trivial), by rw [cat_list, Hsl.out], rfl⟩)))
        · have hpos : 0 < y := by omega
          have e2 : (FloatKind.f64.format.order y 0 == some .eq) = false := by
            rw [eq_FV hlt (by decide), FV_zero, decide_eq_false]
            have := FV_pos hpos
            omega
          have Hd := Lib.hid (refDecimal_walk w y hlt (FV_pos hpos))
          have Hc := Lib.hid (And.intro hlt hpos)
          clear h0 hpos hlt
          go_wp2_with fail
          refine Hd.out.mono ?_
          rintro e w1 ⟨M, k, er, rfl, hw, hdec⟩
          obtain rfl := hw.symm
          clear Hd
          rcases hdec with ⟨rfl, k1, k2, hsol, hno⟩ | ⟨rfl, rfl, rfl, hno⟩
          · have hdec : Dec y M k 0 := .inl ⟨rfl, k1, k2, hsol, hno⟩
            have Hdec := Lib.hid hdec
            obtain ⟨m1, m2⟩ := hsol.bounds
            have hM15 := hsol.2.1
            have hM64 : M < 18446744073709551616 := Nat.lt_trans hsol.2.1 (by decide)
            obtain ⟨ds, hds⟩ : ∃ ds : ByteArray, ds = ⟨(Lib.decDigits M).toArray⟩ := ⟨_, rfl⟩
            have Hf := Lib.hid (told_walk M hM64 w)
            rw [← hds] at Hf
            have hdl : ds.data.toList = Lib.decDigits M := by rw [hds]
            have hdn : ds.size = Lib.nDigits M := by rw [← size_list, hdl, Lib.decDigits_length]
            have d1 : 1 ≤ ds.size := by rw [hdn]; exact Lib.nDigits_pos M
            have d2 : ds.size ≤ 15 := by omega
            have hres : ∀ (s : ByteArray) w', Below w.heap.size w w' → s.data.toList = sl ++ realT M k → RealPost x w (.returned (.tuple #[.string s, .int .i64 0])) w' := fun s w' h1 h2 =>
              HR.out s 0 w' h1 (.inr (.inr (.inr ⟨Hc.out.1, Hc.out.2, M, k, 0, hdec, .inr ⟨rfl, h2, rfl⟩⟩)))
            have Hres := Lib.hid hres
            have Hdl := Lib.hid hdl
            have Hdn := Lib.hid hdn
            have HM := Lib.hid hM15
            clear hdec hno hsol hM64 hds hdl hdn hres HR Hdec m2 hM15 hsub hz0
            go_wp2_with fail
            refine Hf.out.mono ?_
            rintro e w1 ⟨rfl, hb1⟩
            clear Hf
            have Hb1 := Lib.hid hb1
            clear hb1
            by_cases h0 : 0 ≤ k
            · obtain ⟨kn, rfl⟩ : ∃ kn : Nat, k = (kn : Int) := ⟨k.toNat, by omega⟩
              have hkn : kn ≤ 22 := by omega
              go_wp2
              go_loop [9, 10] (fun l i => ∃ j : Nat, i = .int .i64 j ∧ l = .float .f64 (longW M j) ∧ Hid (j ≤ kn + 1)) (fun _ i => kn + 2 - (intOf i).toNat)
              case atStart => exact ⟨0, rfl, rfl, Nat.zero_le _⟩
              case round =>
                obtain ⟨j, rfl, rfl, hj⟩ := hrel
                by_cases hlt : j ≤ kn
                · have hm := mul_run (long_mul m1 HM.out (show j ≤ 23 by omega))
                  go_wp2
                  go_round
                  case rel => exact ⟨j + 1, by go_num, rfl, show j + 1 ≤ kn + 1 by omega⟩
                  case measure =>
                    show kn + 2 - ((j : Int) + 1).toNat < kn + 2 - ((j : Int)).toNat
                    omega
                · have hjk : j = kn + 1 := by have := hj.out; omega
                  subst hjk
                  obtain ⟨g1, g2⟩ := long_ge m1 HM.out (kn + 1) (by omega)
                  have Hb2 := Hb1
                  by_cases hs : Lib.nDigits M + (kn + 1) ≤ 15
                  · have q1 : (FloatKind.f64.format.order (longW M (kn + 1)) 4831355200913801216 == some .gt) = false := by
                      rw [gt_FV g1 FV_e15.1, decide_eq_false (fun q => g2.1 (Nat.le_of_lt q) hs)]
                    have q2 : (FloatKind.f64.format.order (longW M (kn + 1)) 4831355200913801216 == some .eq) = false := by
                      rw [eq_FV g1 FV_e15.1, decide_eq_false (fun q => g2.1 (Nat.le_of_eq q.symm) hs)]
                    have Hs := Lib.hid hs
                    clear g1 g2 hs
                    generalize longW M (kn + 1) = lw at *
                    go_wp2_with fail
                    go_loop [8, 11] (fun s i => ∃ (j : Nat) (sj : ByteArray), i = .int .i64 j ∧ s = .string sj ∧ Hid (j ≤ kn ∧ sj.data.toList = Lib.decDigits M ++ List.replicate j 48)) (fun _ i => kn + 1 - (intOf i).toNat)
                    case atStart => exact ⟨0, ds, rfl, rfl, Nat.zero_le _, by rw [Hdl.out]; simp⟩
                    case round =>
                      obtain ⟨j, sj, rfl, rfl, hj⟩ := hrel
                      have hsz2 : sj.size ≤ 40 := by
                        rw [← size_list, hj.out.2, List.length_append, List.length_replicate, Lib.decDigits_length, ← Hdn.out]
                        have := hj.out.1
                        omega
                      by_cases hlt : j < kn
                      · have hc := cat_ok (a := sj) (b := ⟨#[48]⟩) (by omega) (by decide)
                        go_wp2
                        go_round
                        case rel => exact ⟨j + 1, sj ++ ⟨#[48]⟩, by go_num, rfl, hlt, by rw [cat_list, hj.out.2, List.replicate_succ', List.append_assoc]⟩
                        case measure =>
                          show kn + 1 - ((j : Int) + 1).toNat < kn + 1 - ((j : Int)).toNat
                          omega
                      · have hjk : j = kn := by have := hj.out.1; omega
                        have Hjk := Lib.hid hjk
                        clear hjk
                        have c1 := cat_ok (a := sg) (b := sj) (by omega) (by omega)
                        have c2 := cat_ok (a := sg ++ sj) (b := ⟨#[46, 48]⟩) (by rw [cat_size]; omega) (by decide)
                        go_wp2
                        go_ret2
                        refine Hres.out _ _ Hb1.out ?_
                        rw [cat_list, cat_list, Hsl.out, hj.out.2, Hjk.out]
                        unfold realT
                        rw [if_pos (show (0 : Int) ≤ (kn : Int) by omega), if_pos (show (Lib.nDigits M : Int) + (kn : Int) + 1 ≤ 15 by have := Hs.out; omega)]
                        simp
                  · have hge : (FloatKind.f64.format.order (longW M (kn + 1)) 4831355200913801216 == some .gt) = true ∨ (FloatKind.f64.format.order (longW M (kn + 1)) 4831355200913801216 == some .eq) = true := by
                      have h := g2.2 hs
                      rw [gt_FV g1 FV_e15.1, eq_FV g1 FV_e15.1]
                      rcases Nat.lt_or_eq_of_le h with q | q
                      · exact .inl (decide_eq_true q)
                      · exact .inr (decide_eq_true q.symm)
                    have Hs := Lib.hid hs
                    clear g1 g2 hs
                    generalize longW M (kn + 1) = lw at *
                    by_cases hn1 : ds.size = 1
                    · have g1 : ((ds.size : Int) == 1) = true := by simp; omega
                      have Ht := Lib.hid (told_walk kn (by omega) w1)
                      obtain ⟨ps, hps⟩ : ∃ ps : ByteArray, ps = ⟨(Lib.decDigits kn).toArray⟩ := ⟨_, rfl⟩
                      rw [← hps] at Ht
                      have hpl : ps.data.toList = Lib.decDigits kn := by rw [hps]
                      have hpn : ps.size ≤ 2 := by rw [← size_list, hpl, Lib.decDigits_length]; exact nDigits_le 1 kn (by omega)
                      have c1 := cat_ok (a := sg) (b := ds) (by omega) (by omega)
                      have c2 := cat_ok (a := sg ++ ds) (b := ⟨#[46, 48, 101]⟩) (by rw [cat_size]; omega) (by decide)
                      have c3 := cat_ok (a := sg ++ ds ++ ⟨#[46, 48, 101]⟩) (b := ps) (by rw [cat_size, cat_size]; show _ + _ + 3 ≤ 1000; omega) (by omega)
                      have hlen1 : Lib.nDigits M = 1 := by rw [← Hdn.out, hn1]
                      have hfin : (sg ++ ds ++ ⟨#[46, 48, 101]⟩ ++ ps).data.toList = sl ++ realT M kn := by
                        rw [cat_list, cat_list, cat_list, Hsl.out, Hdl.out, hpl]
                        unfold realT
                        rw [if_pos (show (0 : Int) ≤ (kn : Int) by omega), if_neg (show ¬ (Lib.nDigits M : Int) + (kn : Int) + 1 ≤ 15 by have := Hs.out; omega), if_pos hlen1]
                        have e1 : ((kn : Int) + (Lib.nDigits M : Int) - 1).toNat = kn := by omega
                        have e2 : (Lib.decDigits M).take 1 = Lib.decDigits M := List.take_of_length_le (by rw [Lib.decDigits_length, hlen1]; exact Nat.le_refl _)
                        rw [e1, e2]
                        simp
                      have Hfin := Lib.hid hfin
                      clear hps hpl hlen1 hfin hn1
                      go_wp2_with fail
                      rotate_left
                      · exact absurd (show (FloatKind.f64.format.order lw 4831355200913801216 == some .gt) = false ∧ (FloatKind.f64.format.order lw 4831355200913801216 == some .eq) = false by assumption) (by rintro ⟨qa, qb⟩; rcases hge with h | h; (rw [qa] at h; cases h); (rw [qb] at h; cases h))
                      refine Ht.out.mono ?_
                      rintro e w2 ⟨rfl, hb2⟩
                      clear Ht
                      have Hb2 := Lib.hid hb2
                      clear hb2
                      go_wp2
                      go_ret2
                      exact Hres.out _ _ (Hb1.out.trans (Hb2.out.mono Hb1.out.size)) Hfin.out
                    · have g1 : ((ds.size : Int) == 1) = false := by simp; omega
                      obtain ⟨p, hp⟩ : ∃ p : Nat, p = kn + ds.size - 1 := ⟨_, rfl⟩
                      have hw1 : IntKind.i64.wrap ((kn : Int) + (ds.size : Int)) = (kn : Int) + (ds.size : Int) := by rw [IntKind.wrap_i64]; omega
                      have hw2 : IntKind.i64.wrap ((kn : Int) + (ds.size : Int) - 1) = (p : Int) := by rw [IntKind.wrap_i64]; omega
                      have hw3 : IntKind.u64.wrap (p : Int) = (p : Int) := by rw [IntKind.wrap_u64]; omega
                      have Ht := Lib.hid (fun w => told_walk p (by omega) w)
                      obtain ⟨ps, hps⟩ : ∃ ps : ByteArray, ps = ⟨(Lib.decDigits p).toArray⟩ := ⟨_, rfl⟩
                      rw [← hps] at Ht
                      have hpl : ps.data.toList = Lib.decDigits p := by rw [hps]
                      have hpn : ps.size ≤ 2 := by rw [← size_list, hpl, Lib.decDigits_length]; exact nDigits_le 1 p (by omega)
                      have x1 := ext_size ds 0 1
                      have x2 := ext_size ds 1 ds.size
                      have xl1 : (ds.extract 0 1).data.toList = (Lib.decDigits M).take 1 := by rw [ext_list, Hdl.out]; rfl
                      have xl2 : (ds.extract 1 ds.size).data.toList = (Lib.decDigits M).drop 1 := by rw [ext_from, Hdl.out]
                      have d1' : (1 : Int) ≤ (ds.size : Int) := by omega
                      have c1 := cat_ok (a := sg) (b := ds.extract 0 1) (by omega) (by omega)
                      have c2 := cat_ok (a := sg ++ ds.extract 0 1) (b := ⟨#[46]⟩) (by rw [cat_size]; omega) (by decide)
                      have c3 := cat_ok (a := sg ++ ds.extract 0 1 ++ ⟨#[46]⟩) (b := ds.extract 1 ds.size) (by rw [cat_size, cat_size]; show _ + _ + 1 ≤ 1000; omega) (by omega)
                      have c4 := cat_ok (a := sg ++ ds.extract 0 1 ++ ⟨#[46]⟩ ++ ds.extract 1 ds.size) (b := ⟨#[101]⟩) (by rw [cat_size, cat_size, cat_size]; show _ + _ + 1 + _ ≤ 1000; omega) (by decide)
                      have c5 := cat_ok (a := sg ++ ds.extract 0 1 ++ ⟨#[46]⟩ ++ ds.extract 1 ds.size ++ ⟨#[101]⟩) (b := ps) (by rw [cat_size, cat_size, cat_size, cat_size]; show _ + _ + 1 + _ + 1 ≤ 1000; omega) (by omega)
                      have hfin : (sg ++ ds.extract 0 1 ++ ⟨#[46]⟩ ++ ds.extract 1 ds.size ++ ⟨#[101]⟩ ++ ps).data.toList = sl ++ realT M kn := by
                        rw [cat_list, cat_list, cat_list, cat_list, cat_list, Hsl.out, xl1, xl2, hpl]
                        unfold realT
                        rw [if_pos (show (0 : Int) ≤ (kn : Int) by omega), if_neg (show ¬ (Lib.nDigits M : Int) + (kn : Int) + 1 ≤ 15 by have := Hs.out; omega), ← Hdn.out, if_neg hn1, hp]
                        have : (kn + ds.size - 1 : Nat) = ((kn : Int) + (ds.size : Int) - 1).toNat := by omega
                        rw [this]
                        simp
                      have Hfin := Lib.hid hfin
                      have a1 : ∀ w, (Op.stringOp .add sg (ds.extract 0 1)).run Tryd.prog w = .ok (.string (sg ++ ds.extract 0 1)) w := fun w => run_string_add_sum w _ _ c1
                      have a2 : ∀ w, (Op.stringOp .add (sg ++ ds.extract 0 1) ⟨#[46]⟩).run Tryd.prog w = .ok (.string (sg ++ ds.extract 0 1 ++ ⟨#[46]⟩)) w := fun w => run_string_add_sum w _ _ c2
                      have a3 : ∀ w, (Op.stringOp .add (sg ++ ds.extract 0 1 ++ ⟨#[46]⟩) (ds.extract 1 ds.size)).run Tryd.prog w = .ok (.string (sg ++ ds.extract 0 1 ++ ⟨#[46]⟩ ++ ds.extract 1 ds.size)) w := fun w => run_string_add_sum w _ _ c3
                      have a4 : ∀ w, (Op.stringOp .add (sg ++ ds.extract 0 1 ++ ⟨#[46]⟩ ++ ds.extract 1 ds.size) ⟨#[101]⟩).run Tryd.prog w = .ok (.string (sg ++ ds.extract 0 1 ++ ⟨#[46]⟩ ++ ds.extract 1 ds.size ++ ⟨#[101]⟩)) w := fun w => run_string_add_sum w _ _ c4
                      have a5 : ∀ w, (Op.stringOp .add (sg ++ ds.extract 0 1 ++ ⟨#[46]⟩ ++ ds.extract 1 ds.size ++ ⟨#[101]⟩) ps).run Tryd.prog w = .ok (.string (sg ++ ds.extract 0 1 ++ ⟨#[46]⟩ ++ ds.extract 1 ds.size ++ ⟨#[101]⟩ ++ ps)) w := fun w => run_string_add_sum w _ _ c5
                      clear hps hpl hfin hn1 xl1 xl2 hp c1 c2 c3 c4 c5
                      go_wp2_with fail
                      rotate_left
                      · exact absurd (show (FloatKind.f64.format.order lw 4831355200913801216 == some .gt) = false ∧ (FloatKind.f64.format.order lw 4831355200913801216 == some .eq) = false by assumption) (by rintro ⟨qa, qb⟩; rcases hge with h | h; (rw [qa] at h; cases h); (rw [qb] at h; cases h))
                      go_region_held3 (fun w' => Below w.heap.size w w') (first | exact b_first Hb1.out | (refine b_step ?_ hb; assumption) | assumption)
                        (first | (go_at_call 33; (with_reducible refine (Ht.out _).mono ?_); rintro e w' ⟨rfl, hb⟩))
                      all_goals go_wp2
                      all_goals go_ret2
                      all_goals exact Hres.out _ _ (by assumption) Hfin.out
            · have hk0 : k < 0 := by omega
              obtain ⟨z, hz⟩ : ∃ z, z = (1 - k - (ds.size : Int)).toNat := ⟨_, rfl⟩
              obtain ⟨q, hq⟩ : ∃ q, q = (max (1 - k) (ds.size : Int) + k).toNat := ⟨_, rfl⟩
              have Hz := Lib.hid hz
              have Hq := Lib.hid hq
              clear hz hq
              go_wp2
              go_loop [8] (fun s => ∃ (j : Nat) (sj : ByteArray), s = .string sj ∧ Hid (j ≤ z ∧ sj.data.toList = List.replicate j 48 ++ Lib.decDigits M)) (fun s => match s with | .string b => 100 - b.size | _ => 0)
              case atStart => exact ⟨0, ds, rfl, Nat.zero_le _, by rw [Hdl.out]; simp⟩
              case round =>
                obtain ⟨j, sj, rfl, hj⟩ := hrel
                have hsz2 : sj.size = j + ds.size := by
                  rw [← size_list, hj.out.2, List.length_append, List.length_replicate, Lib.decDigits_length, ← Hdn.out]
                have hz := Hz.out
                have hjz := hj.out.1
                have hs40 : sj.size ≤ 60 := by omega
                by_cases hlt : j < z
                · have t1 : (sj.size : Int) < 1 - k := by omega
                  have hc := cat_ok (a := ⟨#[48]⟩) (b := sj) (by decide) (by omega)
                  have Hsz2 := Lib.hid hsz2
                  have Hlt := Lib.hid hlt
                  clear hsz2 hz hjz hlt
                  go_wp2
                  go_round
                  case rel => exact ⟨j + 1, ⟨#[48]⟩ ++ sj, rfl, Hlt.out, by rw [cat_list, hj.out.2, List.replicate_succ]; rfl⟩
                  case measure =>
                    show 100 - (ByteArray.size (⟨#[48]⟩ ++ sj)) < 100 - sj.size
                    rw [cat_size]
                    show 100 - (1 + sj.size) < 100 - sj.size
                    omega
                · have hjz2 : j = z := by omega
                  have t1 : ¬ (sj.size : Int) < 1 - k := by omega
                  have hw2 : IntKind.i64.wrap ((sj.size : Int) + k) = (q : Int) := by rw [IntKind.wrap_i64, hsz2, Hq.out]; omega
                  have hq1 : q ≤ sj.size := by have := Hq.out; omega
                  have hq2 : (q : Int) ≤ (sj.size : Int) := by omega
                  have hq3 : (0 : Int) ≤ (q : Int) := by omega
                  have hSl : sj.data.toList = List.replicate z 48 ++ Lib.decDigits M := by rw [hj.out.2, hjz2]
                  have hfin : (sj.extract 0 q).data.toList = (List.replicate z 48 ++ Lib.decDigits M).take q ∧ (sj.extract q sj.size).data.toList = (List.replicate z 48 ++ Lib.decDigits M).drop q := by
                    rw [ext_list, ext_from, hSl]; exact ⟨rfl, rfl⟩
                  have x1 := ext_size sj 0 q
                  have x2 := ext_size sj q sj.size
                  have c1 := cat_ok (a := sg) (b := sj.extract 0 q) (by omega) (by omega)
                  have c2 := cat_ok (a := sg ++ sj.extract 0 q) (b := ⟨#[46]⟩) (by rw [cat_size]; omega) (by decide)
                  have c3 := cat_ok (a := sg ++ sj.extract 0 q ++ ⟨#[46]⟩) (b := sj.extract q sj.size) (by rw [cat_size, cat_size]; show _ + _ + 1 ≤ 1000; omega) (by omega)
                  have Hfin := Lib.hid hfin
                  clear hsz2 hz hjz hlt hjz2 hSl hfin hj
                  go_wp2
                  go_quiet (fail)
                  go_wp2
                  go_ret2
                  refine Hres.out _ _ (b_drewN Hb1.out _) ?_
                  rw [cat_list, cat_list, cat_list, Hsl.out, Hfin.out.1, Hfin.out.2]
                  unfold realT
                  rw [if_neg (show ¬ 0 ≤ k by omega), ← Hdn.out, ← Hz.out, ← Hq.out]
                  simp
          · have hdec : Dec y 0 0 2 := .inr ⟨rfl, rfl, rfl, hno⟩
            have Hdec := Lib.hid hdec
            clear hdec hno hsub hz0
            go_wp2
            go_ret2
            exact HR.out ⟨#[]⟩ 2 w (Below.refl _ _) (.inr (.inr (.inr ⟨Hc.out.1, Hc.out.2, 0, 0, 2, Hdec.out, .inl ⟨rfl, rfl, rfl⟩⟩)))
      · subst hinf
        have hsub := fun t => nan_run t w
        have hcmp := nan_cmp w
        generalize nanW w = nw at *
        have hc := cat_ok (a := sg) (b := ⟨#[46, 105, 110, 102]⟩) (by omega) (by decide)
        go_wp2
        go_ret2
        exact HR.out (sg ++ ⟨#[46, 105, 110, 102]⟩) 0 w.drew (show Below w.heap.size w w.drew from ⟨rfl, rfl, rfl, Nat.le_refl _, fun _ _ => rfl⟩) (.inr (.inl ⟨(by first | rfl | trivial), by rw [cat_list, Hsl.out], rfl⟩))

end Go.Proofs.YtbmdbfidjdogmaaDoor
