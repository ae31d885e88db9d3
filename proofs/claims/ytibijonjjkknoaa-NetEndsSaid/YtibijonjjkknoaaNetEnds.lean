/-
The walk of NetEnds: a side's close arrives behind all that it wrote, and not ahead.
-/
import Derived.Test.YtibijonjjkknoaaNetClose
import Derived.Test.YtibijonjjkknoaaNetAwake
set_option linter.unusedVariables false
set_option linter.unusedSimpArgs false
namespace Go.Proofs.Ytibijonjjkknoaa
open Go Go.RowKit

def connE (s0 s1 : Sd) : Cn := ⟨nameA, true, false, s0, s1⟩

def stE (ps : List UInt8) (j : Nat) (q : List UInt8) (en : Bool) : St := St.mk [connE ⟨ps.drop j, [], true, false⟩ ⟨[], q, false, en⟩] (.map []) 0

theorem one_le : (1 : Nat) ≤ maxLen := by decide

/-- What Pass leaves. -/
theorem stE_pass (ps : List UInt8) (j m : Nat) (en : Bool) :
    ({ stE ps j [] en with cs := (stE ps j [] en).cs.set 0 ((connE ⟨ps.drop j, [], true, false⟩ ⟨[], [], false, en⟩).passed 0 m) } : St) = stE ps (j + m) ((ps.drop j).take m) (en || decide (ps.length - j ≤ m)) := by
  simp [stE, connE, Cn.passed, List.drop_drop]

theorem take_more (ps : List UInt8) (j m : Nat) : ps.take j ++ (ps.drop j).take m = ps.take (j + m) := by
  rw [List.take_add]

set_option maxRecDepth 100000 in
set_option maxHeartbeats 1600000 in
theorem netEnds_walk (w : World) (a0 a1 : Option Addr) (c0 c1 len1 : Nat) (ps : List UInt8) (zs : List Int) (hp : RdB w a0 c0 ps)
    (hpb : ∀ ad, a0 = some ad → ps ≠ [] → ad.block < w.heap.size) (l1 : len1 ≤ 9223372036854775807) (hc0 : ps.length ≤ 9223372036854775807)
    (hz : 0 < len1 → ∃ g off, a1 = some ⟨g, off, none⟩ ∧ g < w.heap.size ∧ ∀ j, j < len1 → w.cell? ⟨g, off + j, none⟩ = some (.int .i64 (zs.getD j 0))) :
    Calls Try.prog 4 #[.slice a0 ps.length c0, .slice a1 len1 c1] w fun e w' => e = .returned (.bool true) ∧ Below w.heap.size w w' := by
  have Hp := Lib.hid hp
  have Hpb := Lib.hid hpb
  have Hz := Lib.hid hz
  clear hp hpb hz
  go_enter Try.func4, Try.ntmps4
  go_wp2_with fail
  refine (awake_any w).mono ?_
  rintro e w1 ⟨rfl, hb1⟩
  have Hb1 := Lib.hid hb1
  have hs1 := hb1.size
  clear hb1
  go_wp2_with fail
  refine (new_any _ w.heap.size hs1).mono ?_
  rintro e w2 ⟨n, L2, rfl, h2, hm2, hl2⟩
  have hb2 : Below w.heap.size w w2 := Hb1.out.trans (hm2.below hs1 (fun _ f => f.elim))
  have H2 := Lib.hid (show Net1 w.heap.size w w2 L2 n St.new from ⟨h2, hb2, hb2.size⟩)
  clear h2 hm2 hl2 hb2
  go_wp2_with fail
  refine (dial_to H2.out (by decide) nameA (by decide) rfl 0 rfl (St.mk [connE Sd.zero Sd.zero] (.map []) 0) rfl).mono ?_
  rintro e w3 ⟨L3, rfl, h3⟩
  have H3 := Lib.hid h3
  clear h3
  by_cases hlong : 1048576 < ps.length
  · go_wp2_with fail
    refine (write_long H3.out one_le 0 0 rfl 0 (connE Sd.zero Sd.zero) rfl rfl (.inl rfl) rfl (by decide) _ _ _ (by omega) (by show 1048576 < 0 + ps.length; omega)).mono ?_
    rintro e w6 ⟨rfl, nq, rfl⟩
    have hb6 : Below w.heap.size w (w3.drewN nq) := below_drewN H3.out.below nq
    have Hb6 := Lib.hid hb6
    clear hb6
    have hor : decide (1048576 < (ps.length : Int)) = true := by simp; omega
    have Hor := Lib.hid hor
    clear hor
    go_wp2
    go_ret
    exact ⟨congrArg (fun b => Ending.returned (.bool b)) Hor.out, Hb6.out⟩
  · go_wp2_with fail
    refine (write_to H3.out one_le 0 0 rfl 0 (connE Sd.zero Sd.zero) rfl rfl (.inl rfl) rfl _ _ _ (Hp.out.below H3.out.below Hpb.out) (by show 0 + ps.length ≤ 1048576; omega) (St.mk [connE ⟨ps, [], false, false⟩ Sd.zero] (.map []) 0) rfl).mono ?_
    rintro e w4 ⟨L4, rfl, h4, _, _⟩
    have H4 := Lib.hid h4
    clear h4
    go_wp2_with fail
    refine (close_to H4.out one_le 0 0 rfl 0 _ rfl rfl (.inl rfl) rfl (stE ps 0 [] false) rfl).mono ?_
    rintro e w5 ⟨L5, rfl, h5, _, _⟩
    have H5 := Lib.hid h5
    clear h5
    go_wp2_with fail
    refine (close_ended H5.out one_le 0 0 rfl 0 _ rfl rfl (.inl rfl) rfl).mono ?_
    rintro e w6 ⟨rfl, n6, rfl⟩
    have H6 := Lib.hid (H5.out.drewN n6)
    go_wp2_with fail
    have h7 : Net1 w.heap.size w ((w5.alloc (.cells #[.int .u8 1] 5)).drewN n6) L5 n (stE ps 0 [] false) :=
      (H5.out.frame ((Mod.refl (fun _ => False) _).alloc _) (fun _ _ _ => id) (fun _ f => f.elim)).drewN n6
    have H7 := Lib.hid h7
    clear h7
    refine (write_ended H7.out one_le 0 0 rfl 0 _ rfl rfl (.inl rfl) rfl _ _ _).mono ?_
    rintro e w8 ⟨rfl, n8, rfl⟩
    have h8 : Net1 w.heap.size w ((w5.alloc (.cells #[.int .u8 1] 5)).drewN (n6 + n8)) L5 n (stE ps 0 [] false) :=
      (H5.out.frame ((Mod.refl (fun _ => False) _).alloc _) (fun _ _ _ => id) (fun _ f => f.elim)).drewN _
    have H8 := Lib.hid h8
    clear h8
    go_wp2_with fail
    go_loopw [8, 9] (fun got i wr => ∃ (j kk : Nat) (en : Bool) (L : Lab) (ag : Option Addr) (cg : Nat), i = .int .i64 kk ∧ kk ≤ len1 ∧ got = .slice ag j cg ∧ j ≤ ps.length ∧ Hid (Net1 w.heap.size w wr L n (stE ps j [] en)) ∧
        Hid (MyRow w.heap.size wr L (.slice ag j cg) (ps.take j)) ∧ Hid (en = true → j = ps.length)) (fun _ i _ => len1 - (intOf i).toNat)
    case atStart => exact ⟨0, 0, false, L5, none, 0, rfl, Nat.zero_le _, rfl, Nat.zero_le _, H8.out, MyRow.nil _ _ _, fun h => by cases h⟩
    case round =>
      obtain ⟨j, kk, en, L, ag, cg, rfl, hk, rfl, hj, hn, hmy, hen⟩ := hrel
      have hX : (ps.take j).length = j := by simp; omega
      obtain ⟨X, eX⟩ : ∃ X, X = ps.take j := ⟨_, rfl⟩
      have HX := Lib.hid (eX ▸ hX : X.length = j)
      have EX := Lib.hid eX
      have HmyX := Lib.hid (eX ▸ hmy.out : MyRow w.heap.size wr L (.slice ag j cg) X)
      clear hX eX hmy
      by_cases hlt : kk < len1
      · obtain ⟨g, off, ha1, hgb, hcz⟩ := Hz.out (by omega)
        subst ha1
        have hcell : wr.cell? ⟨g, off + kk, none⟩ = some (.int .i64 (zs.getD kk 0)) := (hn.out.below.cell (p := ⟨g, off + kk, none⟩) hgb).trans (hcz kk hlt)
        obtain ⟨z, hzz⟩ : ∃ z, z = zs.getD kk 0 := ⟨_, rfl⟩
        rw [← hzz] at hcell
        clear hzz hcz
        by_cases hneg : z < 0
        · go_wp2_with (go_at_call 11; refine (pass_arg _ _ _ _ _ hneg).mono ?_; rintro e wp ⟨rfl, rfl⟩)
          go_roundw
          case rel => exact ⟨j, kk + 1, en, L, ag, cg, by go_num, by omega, rfl, hj, hn, EX.out ▸ HmyX.out, hen⟩
          case measure => simp [intOf]; omega
        · have hpos : 0 ≤ z := by omega
          obtain ⟨m, hm⟩ : ∃ m, m = min z.toNat (ps.length - j) := ⟨_, rfl⟩
          have hmle : j + m ≤ ps.length := by omega
          have Hpl := Lib.hid (show passLen (connE ⟨ps.drop j, [], true, false⟩ ⟨[], [], false, en⟩) 0 z = m by simp [passLen, Cn.sd, connE, hm])
          obtain ⟨en', hen'⟩ : ∃ en', en' = (en || decide (ps.length - j ≤ m)) := ⟨_, rfl⟩
          have Hen' := Lib.hid hen'
          obtain ⟨Y, hY⟩ : ∃ Y, Y = (ps.drop j).take m := ⟨_, rfl⟩
          have HlY := Lib.hid (show Y.length = m by rw [hY]; simp; omega)
          have HY := Lib.hid hY
          have Hxy := Lib.hid (show X ++ Y = ps.take (j + m) by rw [EX.out, hY, take_more])
          have Hq := Lib.hid (show j + m = X.length + Y.length by rw [HX.out, HlY.out])
          have Hlen := Lib.hid (show X.length + Y.length ≤ 140737488355328 by rw [HX.out, HlY.out]; omega)
          clear hm hen' hY
          go_wp2_with fail
          refine (pass_to hn.out one_le 0 0 rfl 0 _ rfl rfl (.inl rfl) z hpos (by show 0 + (ps.drop j).length ≤ 140737488355328; simp; omega) m Hpl.out _ rfl (stE ps (j + m) Y en') (by rw [Hen'.out, HY.out]; exact stE_pass ps j m en)).mono ?_
          rintro e wa ⟨La, rfl, ha, hla, hma⟩
          have Mya := Lib.hid (HmyX.out.kept hla hma)
          have Ha := Lib.hid ha
          clear ha hla hma
          go_wp2_with fail
          refine (read_to Ha.out one_le 0 0 rfl 1 _ rfl rfl (.inr rfl) Y rfl m HlY.out en' rfl (stE ps (j + m) [] en') rfl).mono ?_
          rintro e wb ⟨aq, cq, Lb, rfl, hb, myq, hlb, hmb⟩
          have Myb := Lib.hid (Mya.out.kept hlb hmb)
          have Hb := Lib.hid hb
          have Myq := Lib.hid myq
          clear hb myq hlb hmb
          go_wp2_with (at_builtin; refine append_bytes rfl _ _ rfl (.slice ag j cg) X rfl Myb.out.own aq cq Y _ rfl HlY.out.symm (j + m) Hq.out (Myq.out.rd HlY.out) Hlen.out ?_)
          intro ag2 cg2 wc ownc grc newc
          have Hc := Lib.hid (Hb.out.grown Myb.out grc)
          have Myc := Lib.hid (show MyRow w.heap.size wc Lb (.slice ag2 (j + m) cg2) (X ++ Y) from Myb.out.grown Hb.out.le (fun g hg => Hb.out.lab_none hg) (by simpa using ownc) newc)
          clear ownc grc newc
          by_cases hjm : ps.length ≤ j + m
          · have he : en' = true := by rw [Hen'.out]; simp; right; omega
            subst he
            have hbq : ((j : Int) + (m : Int) == (ps.length : Int)) = true := by rw [beq_iff_eq]; omega
            go_wp2
            go_roundw
            case rel => exact ⟨j + m, kk + 1, true, Lb, ag2, cg2, by go_num, by omega, rfl, hmle, Hc.out, Hxy.out ▸ Myc.out, fun _ => by omega⟩
            case measure => simp [intOf]; omega
          · have he : en' = false := by
              rw [Hen'.out]
              cases hee : en with
              | false => simp; omega
              | true => have := hen.out hee; omega
            subst he
            have hbq : ((j : Int) + (m : Int) == (ps.length : Int)) = false := by rw [beq_eq_false_iff_ne]; omega
            go_wp2
            go_roundw
            case rel => exact ⟨j + m, kk + 1, false, Lb, ag2, cg2, by go_num, by omega, rfl, hmle, Hc.out, Hxy.out ▸ Myc.out, fun h => by cases h⟩
            case measure => simp [intOf]; omega
      · have hge : len1 ≤ kk := by omega
        have Hpl := Lib.hid (show passLen (connE ⟨ps.drop j, [], true, false⟩ ⟨[], [], false, en⟩) 0 ps.length = ps.length - j by simp [passLen, Cn.sd, connE])
        obtain ⟨Y, hY⟩ : ∃ Y, Y = ps.drop j := ⟨_, rfl⟩
        have HlY := Lib.hid (show Y.length = ps.length - j by rw [hY]; simp)
        have HY := Lib.hid hY
        have Hxy := Lib.hid (show X ++ Y = ps by rw [EX.out, hY, List.take_append_drop])
        have Hq := Lib.hid (show ps.length = X.length + Y.length by rw [HX.out, HlY.out]; omega)
        have Hlen := Lib.hid (show X.length + Y.length ≤ 140737488355328 by rw [HX.out, HlY.out]; omega)
        have HS := Lib.hid (show (stE ps (j + (ps.length - j)) ((ps.drop j).take (ps.length - j)) (en || decide (ps.length - j ≤ ps.length - j))) = stE ps ps.length Y true by
          rw [hY, List.take_of_length_le (by simp)]
          simp [show j + (ps.length - j) = ps.length by omega])
        clear hY
        go_wp2_with fail
        refine (pass_to hn.out one_le 0 0 rfl 0 _ rfl rfl (.inl rfl) ps.length (by omega) (by show 0 + (ps.drop j).length ≤ 140737488355328; simp; omega) (ps.length - j) Hpl.out _ rfl (stE ps ps.length Y true) ((stE_pass ps j (ps.length - j) en).trans HS.out)).mono ?_
        rintro e wa ⟨La, rfl, ha, hla, hma⟩
        have Mya := Lib.hid (HmyX.out.kept hla hma)
        have Ha := Lib.hid ha
        clear ha hla hma
        go_wp2_with fail
        refine (read_to Ha.out one_le 0 0 rfl 1 _ rfl rfl (.inr rfl) Y rfl (ps.length - j) HlY.out true rfl (stE ps ps.length [] true) rfl).mono ?_
        rintro e wb ⟨aq, cq, Lb, rfl, hb, myq, hlb, hmb⟩
        have Myb := Lib.hid (Mya.out.kept hlb hmb)
        have Hb := Lib.hid hb
        have Myq := Lib.hid myq
        clear hb myq hlb hmb
        go_wp2_with (at_builtin; refine append_bytes rfl _ _ rfl (.slice ag j cg) X rfl Myb.out.own aq cq Y _ rfl HlY.out.symm ps.length Hq.out (Myq.out.rd HlY.out) Hlen.out ?_)
        intro ag2 cg2 wc ownc grc newc
        have Hc := Lib.hid (Hb.out.grown Myb.out grc)
        have Myc := Lib.hid (show MyRow w.heap.size wc Lb (.slice ag2 ps.length cg2) (X ++ Y) from Myb.out.grown Hb.out.le (fun g hg => Hb.out.lab_none hg) (by simpa using ownc) newc)
        clear ownc grc newc
        go_wp2_with fail
        refine (read_to Hc.out one_le 0 0 rfl 0 _ rfl rfl (.inl rfl) [] rfl 0 rfl false rfl _ rfl).mono ?_
        rintro e wd ⟨ad, cd, Ld, rfl, hd, myd, hld, hmd⟩
        have Myd := Lib.hid (Myc.out.kept hld hmd)
        have Hd := Lib.hid hd
        clear hd myd hld hmd
        go_wp2_with fail
        refine (same_to wd ag2 a0 cg2 c0 ps.length ps.length ps ps (by have := Myd.out.rd (by rw [Hxy.out]); rwa [Hxy.out] at this) (Hp.out.below Hd.out.below Hpb.out) rfl rfl true (by simp)).mono ?_
        rintro e we ⟨rfl, ne, rfl⟩
        have Hbf := Lib.hid (show Below w.heap.size w (wd.drewN ne) from below_drewN Hd.out.below ne)
        go_wp2
        go_ret
        exact ⟨rfl, Hbf.out⟩

end Go.Proofs.Ytibijonjjkknoaa
