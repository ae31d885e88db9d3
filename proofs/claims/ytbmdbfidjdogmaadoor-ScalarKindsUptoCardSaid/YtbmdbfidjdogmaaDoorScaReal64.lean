/-
The walk of the program's real64.
-/
import Derived.Test.YtbmdbfidjdogmaaDoorScaReal
import Derived.Deep.Cut
import Derived.Outline
import Derived.Deep.QuietTactic
import Derived.BigQuiet
set_option linter.unusedVariables false
set_option linter.unusedSimpArgs false
namespace Go.Proofs.YtbmdbfidjdogmaaDoor
open Go Go.RowKit

abbrev Tab (w : World) : Prop := Lib.TabIs Tryd.prog w "internal/strconv.uint64pow10" .u64 Lib.pow10Tab

theorem cat_ok {a b : ByteArray} (ha : a.size ≤ 1000) (hb : b.size ≤ 1000) : a.size + b.size ≤ 9223372036854775807 := by omega

theorem cat_size (a b : ByteArray) : (a ++ b).size = a.size + b.size := by
  have h : (a ++ b).data.toList = a.data.toList ++ b.data.toList := ByteArray.toList_data_append
  rw [← size_list, h, List.length_append, size_list, size_list]

theorem cat_list (a b : ByteArray) : (a ++ b).data.toList = a.data.toList ++ b.data.toList := ByteArray.toList_data_append

theorem repeat_noughts (n : Nat) : Lib.repeatL [48] n = List.replicate n 48 := by
  induction n with
  | zero => rfl
  | succ n ih => rw [List.replicate_succ, Lib.repeatL, ih]; rfl

set_option maxHeartbeats 4000000 in
set_option maxRecDepth 20000 in
theorem real64_walk (w : World) (x : Nat) (hx : x < 18446744073709551616) (htab : Tab w) :
    Calls Tryd.prog 32 #[.float .f64 x] w fun e w' => RealPost x w e w' := by
  obtain ⟨b, hb⟩ : ∃ b, b = decide (9223372036854775808 ≤ x) := ⟨_, rfl⟩
  have hsb := signbit_walk w x hx
  rw [← hb] at hsb
  have Hsb := Lib.hid hsb
  have Hb := Lib.hid hb
  clear hsb hb
  have hy := absW_lt hx
  have Htab := Lib.hid htab
  have hng := neg_run x
  clear htab
  go_enter Tryd.func32, Tryd.ntmps32
  go_wp2_with fail
  refine Hsb.out.mono ?_
  rintro e w1 ⟨rfl, hw⟩
  obtain rfl := hw.symm
  clear Hsb
  go_upto_if 12 with (fail)
  go_cut [0, 4] from 11 (fun s0 s4 wc' => s0 = .float .f64 (absW x) ∧ s4 = .string (signS x) ∧ wc' = w)
  case first =>
    cases b with
    | true =>
      have h := of_decide_eq_true Hb.out.symm
      have h2 : absW x = negW x := if_pos h
      have h3 : signS x = ⟨#[45]⟩ := if_pos h
      clear h hx hy
      go_wp2
      go_meet
      case rel => exact ⟨by rw [h2], by rw [h3], (by first | rfl | trivial)⟩
    | false =>
      have h := of_decide_eq_false Hb.out.symm
      have h2 : absW x = x := if_neg h
      have h3 : signS x = ⟨#[]⟩ := if_neg h
      clear h hx hy
      go_wp2
      go_meet
      case rel => exact ⟨by rw [h2], by rw [h3], (by first | rfl | trivial)⟩
  case rest =>
    obtain ⟨rfl, rfl, hw⟩ := hcut
    obtain rfl := hw.symm
    have hsz := signS_size x
    have hsl := signS_list x
    have hR : ∀ (s : ByteArray) er w', Below w.heap.size w w' → RealS x s.data.toList er → RealPost x w (.returned (.tuple #[.string s, .int .i64 er])) w' := fun s er w' h1 h2 => ⟨s, er, rfl, h1, h2⟩
    unfold RealS at hR
    generalize signS x = sg at *
    generalize signL x = sl at *
    generalize hyy : absW x = y at *
    have HR := Lib.hid hR
    have Hsl := Lib.hid hsl
    clear hR hyy hng hx hsl
    rcases Nat.lt_trichotomy y INF with hlt | rfl | hgt
    · have e1 : (FloatKind.f64.format.order y y != some .eq) = false := by rw [bne, self_eq (Nat.le_of_lt hlt)]; rfl
      have Hi := Lib.hid (isInf_walk w y _ (max_gt hlt))
      by_cases h0 : y = 0
      · subst h0
        have e2 : (FloatKind.f64.format.order 0 0 == some .eq) = true := by decide +kernel
        have hc := cat_ok (a := sg) (b := ⟨#[48, 46, 48]⟩) (by omega) (by decide)
        clear hlt hy
        go_wp2_with fail
        refine Hi.out.mono ?_
        rintro e w1 ⟨rfl, hw⟩
        obtain rfl := hw.symm
        go_wp2
        go_ret2
        exact HR.out (sg ++ ⟨#[48, 46, 48]⟩) 0 w (Below.refl _ _) (.inr (.inr (.inl ⟨(by first | rfl | trivial), by rw [cat_list, Hsl.out], rfl⟩)))
      · have hpos : 0 < y := by omega
        have e2 : (FloatKind.f64.format.order y 0 == some .eq) = false := by
          rw [eq_FV hlt (by decide), FV_zero, decide_eq_false]
          have := FV_pos hpos
          omega
        have Hd := Lib.hid (decimal_walk w y hlt (FV_pos hpos))
        have Hc := Lib.hid (And.intro hlt hpos)
        clear h0 hpos hlt hy
        go_wp2_with fail
        refine Hi.out.mono ?_
        rintro e w1 ⟨rfl, hw⟩
        obtain rfl := hw.symm
        clear Hi
        go_wp2_with fail
        refine Hd.out.mono ?_
        rintro e w1 ⟨M, k, er, rfl, hw, hdec⟩
        obtain rfl := hw.symm
        clear Hd
        rcases hdec with ⟨rfl, k1, k2, hsol, hno⟩ | ⟨rfl, rfl, rfl, hno⟩
        · have hdec : Dec y M k 0 := .inl ⟨rfl, k1, k2, hsol, hno⟩
          have Hdec := Lib.hid hdec
          obtain ⟨m1, m2⟩ := hsol.bounds
          have hM64 : M < 18446744073709551616 := Nat.lt_trans hsol.2.1 (by decide)
          obtain ⟨ds, hds⟩ : ∃ ds : ByteArray, ds = ⟨(Lib.decDigits M).toArray⟩ := ⟨_, rfl⟩
          have Hf := Lib.hid (formatUint_walk M hM64 w Htab.out)
          rw [← hds] at Hf
          have hdl : ds.data.toList = Lib.decDigits M := by rw [hds]
          have hdn : ds.size = Lib.nDigits M := by rw [← size_list, hdl, Lib.decDigits_length]
          have d1 : 1 ≤ ds.size := by rw [hdn]; exact Lib.nDigits_pos M
          have d2 : ds.size ≤ 15 := by omega
          have hres : ∀ (s : ByteArray) w', Below w.heap.size w w' → s.data.toList = sl ++ realT M k → RealPost x w (.returned (.tuple #[.string s, .int .i64 0])) w' := fun s w' h1 h2 =>
            HR.out s 0 w' h1 (.inr (.inr (.inr ⟨Hc.out.1, Hc.out.2, M, k, 0, hdec, .inr ⟨rfl, h2, rfl⟩⟩)))
          have Hres := Lib.hid hres
          have Hdl := Lib.hid hdl
          have Hdn := Lib.hid hdn
          clear hdec hno hsol hM64 hds hdl hdn hres HR Hdec m2
          go_wp2_with fail
          refine Hf.out.mono ?_
          rintro e w1 ⟨rfl, hb1⟩
          clear Hf
          by_cases h0 : 0 ≤ k
          · obtain ⟨kn, rfl⟩ : ∃ kn : Nat, k = (kn : Int) := ⟨k.toNat, by omega⟩
            by_cases hs : (ds.size : Int) + (kn : Int) + 1 ≤ 15
            · have Hr := Lib.hid (Tryd.strings_Repeat ⟨#[48]⟩ kn w1 (by omega) (by show 1 * kn ≤ _; omega))
              obtain ⟨rs, hrs⟩ : ∃ rs : ByteArray, rs = ⟨(Lib.repeatL (⟨#[48]⟩ : ByteArray).data.toList kn).toArray⟩ := ⟨_, rfl⟩
              rw [← hrs] at Hr
              have hrl : rs.data.toList = List.replicate kn 48 := by rw [hrs]; exact repeat_noughts kn
              have hrn : rs.size ≤ 22 := by rw [← size_list, hrl, List.length_replicate]; omega
              have Hrl := Lib.hid hrl
              clear hrs hrl
              have c1 := cat_ok (a := sg) (b := ds) (by omega) (by omega)
              have c2 := cat_ok (a := sg ++ ds) (b := rs) (by rw [cat_size]; omega) (by omega)
              have c3 := cat_ok (a := sg ++ ds ++ rs) (b := ⟨#[46, 48]⟩) (by rw [cat_size, cat_size]; omega) (by decide)
              have Hs := Lib.hid hs
              have Hb1 := Lib.hid hb1
              clear hb1
              go_wp2_with fail
              refine Hr.out.mono ?_
              rintro e w2 ⟨rfl, hb2⟩
              clear Hr
              have Hb2 := Lib.hid hb2
              clear hb2
              go_wp2
              go_ret2
              refine Hres.out _ _ (Hb1.out.trans (Hb2.out.mono Hb1.out.size)) ?_
              rw [cat_list, cat_list, cat_list, Hsl.out, Hdl.out, Hrl.out]
              unfold realT
              rw [if_pos (by omega), if_pos (by rw [← Hdn.out]; exact Hs.out)]
              simp
            · obtain ⟨p, hp⟩ : ∃ p : Nat, p = kn + ds.size - 1 := ⟨_, rfl⟩
              have hpi : (kn : Int) + (ds.size : Int) - 1 = (p : Int) := by omega
              have hw1 : IntKind.i64.wrap ((kn : Int) + (ds.size : Int)) = (kn : Int) + (ds.size : Int) := by rw [IntKind.wrap_i64]; omega
              have hw2 : IntKind.i64.wrap ((kn : Int) + (ds.size : Int) - 1) = (p : Int) := by rw [IntKind.wrap_i64]; omega
              have hi := fun w1 => Tryd.strconv_Itoa_small p (by omega) w1
              obtain ⟨ps, hps⟩ : ∃ ps : ByteArray, ps = ⟨(Lib.decDigits p).toArray⟩ := ⟨_, rfl⟩
              rw [← hps] at hi
              have hpl : ps.data.toList = Lib.decDigits p := by rw [hps]
              have hpn : ps.size ≤ 2 := by rw [← size_list, hpl, Lib.decDigits_length]; exact nDigits_le 1 p (by omega)
              have Hi2 := Lib.hid hi
              have Hpl := Lib.hid hpl
              have Hp := Lib.hid hp
              have Hpi := Lib.hid hpi
              have x1 := ext_size ds 0 1
              have x2 := ext_size ds 1 ds.size
              have xl1 : (ds.extract 0 1).data.toList = (Lib.decDigits M).take 1 := by rw [ext_list, Hdl.out]; rfl
              have xl2 : (ds.extract 1 ds.size).data.toList = (Lib.decDigits M).drop 1 := by rw [ext_from, Hdl.out]
              have Hxl1 := Lib.hid xl1
              have Hxl2 := Lib.hid xl2
              have Hs := Lib.hid hs
              have Hb1 := Lib.hid hb1
              clear hi hps hpl hp hpi xl1 xl2 hb1
              have d1' : (1 : Int) ≤ (ds.size : Int) := by omega
              have hres2 : ∀ (rest : ByteArray), rest.data.toList = (if Lib.nDigits M = 1 then [48] else (Lib.decDigits M).drop 1) → (sg ++ ds.extract 0 1 ++ ⟨#[46]⟩ ++ rest ++ ⟨#[101]⟩ ++ ps).data.toList = sl ++ realT M kn := by
                intro rest hr
                rw [cat_list, cat_list, cat_list, cat_list, cat_list, Hsl.out, Hxl1.out, hr, Hpl.out]
                unfold realT
                rw [if_pos (show (0 : Int) ≤ (kn : Int) by omega), if_neg (show ¬ (Lib.nDigits M : Int) + (kn : Int) + 1 ≤ 15 by rw [← Hdn.out]; exact Hs.out), ← Hdn.out, Hp.out]
                have : (kn + ds.size - 1 : Nat) = ((kn : Int) + (ds.size : Int) - 1).toNat := by omega
                rw [this]
                simp
              have Hres2 := Lib.hid hres2
              clear hres2
              by_cases hn1 : ds.size = 1
              · have g1 : ((ds.size : Int) == 1) = true := by simp; omega
                have c1 := cat_ok (a := sg) (b := ds.extract 0 1) (by omega) (by omega)
                have c2 := cat_ok (a := sg ++ ds.extract 0 1) (b := ⟨#[46]⟩) (by rw [cat_size]; omega) (by decide)
                have c3 := cat_ok (a := sg ++ ds.extract 0 1 ++ ⟨#[46]⟩) (b := ⟨#[48]⟩) (by rw [cat_size, cat_size]; show _ + _ + 1 ≤ 1000; omega) (by decide)
                have c4 := cat_ok (a := sg ++ ds.extract 0 1 ++ ⟨#[46]⟩ ++ ⟨#[48]⟩) (b := ⟨#[101]⟩) (by rw [cat_size, cat_size, cat_size]; show _ + _ + 1 + 1 ≤ 1000; omega) (by decide)
                have c5 := cat_ok (a := sg ++ ds.extract 0 1 ++ ⟨#[46]⟩ ++ ⟨#[48]⟩ ++ ⟨#[101]⟩) (b := ps) (by rw [cat_size, cat_size, cat_size, cat_size]; show _ + _ + 1 + 1 + 1 ≤ 1000; omega) (by omega)
                have Hn1 := Lib.hid hn1
                clear hn1
                go_wp2_with fail
                go_quiet (exact Calls.quiet_of_same (Hi2.out _))
                clear Hi2
                go_wp2
                go_ret2
                refine Hres.out _ _ (Hb1.out.trans ⟨rfl, rfl, rfl, Nat.le_refl _, fun _ _ => rfl⟩) (Hres2.out _ ?_)
                rw [← Hdn.out, if_pos Hn1.out]
              · have g1 : ((ds.size : Int) == 1) = false := by simp; omega
                have c1 := cat_ok (a := sg) (b := ds.extract 0 1) (by omega) (by omega)
                have c2 := cat_ok (a := sg ++ ds.extract 0 1) (b := ⟨#[46]⟩) (by rw [cat_size]; omega) (by decide)
                have c3 := cat_ok (a := sg ++ ds.extract 0 1 ++ ⟨#[46]⟩) (b := ds.extract 1 ds.size) (by rw [cat_size, cat_size]; show _ + _ + 1 ≤ 1000; omega) (by omega)
                have c4 := cat_ok (a := sg ++ ds.extract 0 1 ++ ⟨#[46]⟩ ++ ds.extract 1 ds.size) (b := ⟨#[101]⟩) (by rw [cat_size, cat_size, cat_size]; show _ + _ + 1 + _ ≤ 1000; omega) (by decide)
                have c5 := cat_ok (a := sg ++ ds.extract 0 1 ++ ⟨#[46]⟩ ++ ds.extract 1 ds.size ++ ⟨#[101]⟩) (b := ps) (by rw [cat_size, cat_size, cat_size, cat_size]; show _ + _ + 1 + _ + 1 ≤ 1000; omega) (by omega)
                have Hn1 := Lib.hid hn1
                clear hn1
                go_wp2_with fail
                go_quiet (exact Calls.quiet_of_same (Hi2.out _))
                clear Hi2
                go_wp2
                go_ret2
                refine Hres.out _ _ (Hb1.out.trans ⟨rfl, rfl, rfl, Nat.le_refl _, fun _ _ => rfl⟩) (Hres2.out _ ?_)
                rw [← Hdn.out, if_neg Hn1.out, Hxl2.out]
          · have hk0 : k < 0 := by omega
            have hk1 : ¬ (0 ≤ k) := h0
            obtain ⟨z, hz⟩ : ∃ z, z = (1 - k - (ds.size : Int)).toNat := ⟨_, rfl⟩
            obtain ⟨q, hq⟩ : ∃ q, q = (max (1 - k) (ds.size : Int) + k).toNat := ⟨_, rfl⟩
            have Hr := Lib.hid (Tryd.strings_Repeat ⟨#[48]⟩ z w1 (by omega) (by show 1 * z ≤ _; omega))
            obtain ⟨rs, hrs⟩ : ∃ rs : ByteArray, rs = ⟨(Lib.repeatL (⟨#[48]⟩ : ByteArray).data.toList z).toArray⟩ := ⟨_, rfl⟩
            rw [← hrs] at Hr
            have hrl : rs.data.toList = List.replicate z 48 := by rw [hrs]; exact repeat_noughts z
            have hrz : rs.size = z := by rw [← size_list, hrl, List.length_replicate]
            have hrn : rs.size ≤ 22 := by omega
            have hz1 : (z : Int) = max (1 - k - (ds.size : Int)) 0 := by omega
            rw [hz1] at Hr
            have hw1 : IntKind.i64.wrap (1 - k - (ds.size : Int)) = 1 - k - (ds.size : Int) := by rw [IntKind.wrap_i64]; omega
            have hSs : (rs ++ ds).size = z + ds.size := by rw [cat_size, hrz]
            have c0 := cat_ok (a := rs) (b := ds) (by omega) (by omega)
            have hw2 : IntKind.i64.wrap (((rs ++ ds).size : Int) + k) = (q : Int) := by rw [IntKind.wrap_i64, hSs]; omega
            have hq1 : q ≤ (rs ++ ds).size := by omega
            have hq2 : (q : Int) ≤ ((rs ++ ds).size : Int) := by omega
            have hq3 : (0 : Int) ≤ (q : Int) := by omega
            have hS2 : (rs ++ ds).size ≤ 40 := by omega
            have hSl : (rs ++ ds).data.toList = List.replicate z 48 ++ Lib.decDigits M := by rw [cat_list, hrl, Hdl.out]
            have hfin : ((rs ++ ds).extract 0 q).data.toList = (List.replicate z 48 ++ Lib.decDigits M).take q ∧ ((rs ++ ds).extract q (rs ++ ds).size).data.toList = (List.replicate z 48 ++ Lib.decDigits M).drop q := by
              rw [ext_list, ext_from, hSl]; exact ⟨rfl, rfl⟩
            have x1 := ext_size (rs ++ ds) 0 q
            have x2 := ext_size (rs ++ ds) q (rs ++ ds).size
            have Hfin := Lib.hid hfin
            have Hz := Lib.hid hz
            have Hq := Lib.hid hq
            have Hb1 := Lib.hid hb1
            clear hrs hrl hrz hb1 hz1 hz hq hfin hSl hSs
            go_wp2_with fail
            refine Hr.out.mono ?_
            rintro e w2 ⟨rfl, hb2⟩
            clear Hr hw1
            have Hb2 := Lib.hid hb2
            clear hb2
            go_wp2
            generalize rs ++ ds = S at *
            have c1 := cat_ok (a := sg) (b := S.extract 0 q) (by omega) (by omega)
            have c2 := cat_ok (a := sg ++ S.extract 0 q) (b := ⟨#[46]⟩) (by rw [cat_size]; omega) (by decide)
            have c3 := cat_ok (a := sg ++ S.extract 0 q ++ ⟨#[46]⟩) (b := S.extract q S.size) (by rw [cat_size, cat_size]; show _ + _ + 1 ≤ 1000; omega) (by omega)
            go_quiet (fail)
            go_wp2
            go_ret2
            refine Hres.out _ _ ((Hb1.out.trans (Hb2.out.mono Hb1.out.size)).trans ⟨rfl, rfl, rfl, Nat.le_refl _, fun _ _ => rfl⟩) ?_
            rw [cat_list, cat_list, cat_list, Hsl.out, Hfin.out.1, Hfin.out.2]
            unfold realT
            rw [if_neg (show ¬ 0 ≤ k by omega), ← Hdn.out, ← Hz.out, ← Hq.out]
            simp
        · have hdec : Dec y 0 0 2 := .inr ⟨rfl, rfl, rfl, hno⟩
          have Hdec := Lib.hid hdec
          clear hdec hno
          go_wp2
          go_ret2
          exact HR.out ⟨#[]⟩ 2 w (Below.refl _ _) (.inr (.inr (.inr ⟨Hc.out.1, Hc.out.2, 0, 0, 2, Hdec.out, .inl ⟨rfl, rfl, rfl⟩⟩)))
    · have e1 : (FloatKind.f64.format.order INF INF != some .eq) = false := by decide +kernel
      have Hi := Lib.hid (isInf_walk w INF true (by decide +kernel))
      have hc := cat_ok (a := sg) (b := ⟨#[46, 105, 110, 102]⟩) (by omega) (by decide)
      clear hy
      go_wp2_with fail
      refine Hi.out.mono ?_
      rintro e w1 ⟨rfl, hw⟩
      obtain rfl := hw.symm
      go_wp2
      go_ret2
      exact HR.out (sg ++ ⟨#[46, 105, 110, 102]⟩) 0 w (Below.refl _ _) (.inr (.inl ⟨(by first | rfl | trivial), by rw [cat_list, Hsl.out], rfl⟩))
    · have e1 : (FloatKind.f64.format.order y y != some .eq) = true := by rw [nan_order hgt hy]; rfl
      have Hg := Lib.hid hgt
      clear hgt hy
      go_wp2
      go_ret2
      exact HR.out ⟨#[46, 110, 97, 110]⟩ 0 w (Below.refl _ _) (.inl ⟨Hg.out, rfl, rfl⟩)

end Go.Proofs.YtbmdbfidjdogmaaDoor
