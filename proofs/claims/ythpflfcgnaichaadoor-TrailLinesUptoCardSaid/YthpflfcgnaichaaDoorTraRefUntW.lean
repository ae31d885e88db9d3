/-
The walk of the reference's untold.
-/
import Derived.Test.YthpflfcgnaichaaDoorTraRefUnt
import Derived.Deep.RegionHeld3
set_option linter.unusedVariables false
set_option linter.unusedSimpArgs false
namespace Go.Proofs.YthpflfcgnaichaaDoor
open Go Go.RowKit

/-- Append of one byte at a step of a region that draws. -/
theorem byteStep {w : World} {ops : Array Oper} {o : Oper} {a : Act} {K : Act → World → Prop} {Q : Exit → Act → World → Prop} {E : Prop} (hgd : o.guard = none) (s x : Operand)
    (ho : o.op = .call { callee := .builtin .append, args := #[s, x], argTypes := #[79, 79] })
    (v : Value) (l : List UInt8) (hs : a.eval s = v) (hown : w.ownsRow 0 5 1 v l.length (Lib.byteCells l)) (g : Nat) (c : UInt8) (hx : a.eval x = .slice (some ⟨g, 0, none⟩) 1 1)
    (hnew : w.cell? ⟨g, 0, none⟩ = some (.int .u8 (c.toNat : Int))) (hlen : l.length ≤ 1000000000)
    (h : ∀ v' w', w'.ownsRow 0 5 1 v' (l.length + 1) (Lib.byteCells l ++ [.int .u8 (c.toNat : Int)]) → w.grownBy w' v.ownBlock → (∀ g, v'.ownBlock = some g → v.ownBlock = some g ∨ w.heap.size ≤ g) →
      K (a.put o.dst v') w') : if Region.wanted o (yielded ops a.tmps) = true then Oper.wp Tryd.prog o a w K Q else E := by
  obtain ⟨i0, hi5, hz0, hz1, hz2⟩ := info_parts binfo
  refine step_append_sl w hgd s x 79 ho 5 i0 (.int .u8 0) 1 1 Tryd.underlying79 hi5 hz0 hz1 hz2 rfl (by decide) v l.length (Lib.byteCells l) hs hown (some ⟨g, 0, none⟩) 1 1 [.int .u8 (c.toNat : Int)] hx rfl
    (fun hn => by cases hn) (fun ad had => ?_) (fun u hu => by simp at hu; subst hu; rfl) (by unfold maxLen; omega) (by omega) h
  obtain rfl := Option.some.inj had
  intro j u hj
  cases j with
  | zero =>
    simp only [List.getElem?_cons_zero, Option.some.injEq] at hj
    subst hj
    exact hnew
  | succ j => simp at hj

theorem new_byte {W : World} {z : Int} {B : UInt8} (h : z = (B.toNat : Int)) : (W.alloc (.cells #[.int .u8 z] 5)).cell? ⟨W.heap.size, 0, none⟩ = some (.int .u8 (B.toNat : Int)) := by
  rw [World.cell?_alloc_new, h]
  rfl

/-- The read row, and its text, whatever is laid above. -/
theorem conv_later {wr w' : World} {v : Value} {l : List UInt8} (h : ByteRow wr 0 v l) (hb : Below wr.heap.size wr w') : (convert 79 9 v).run Tryd.prog w' = .ok (.string ⟨l.toArray⟩) w' ∧ Below wr.heap.size wr w' :=
  ⟨conv_row (B := 0) (ownsRow_frame h fun g hg => hb.block g (h.lt g hg).2), hb⟩

theorem conv_step {wr w1 w' : World} {v : Value} {l : List UInt8} (h : ByteRow wr 0 v l) (h1 : (convert 79 9 v).run Tryd.prog w1 = .ok (.string ⟨l.toArray⟩) w1 ∧ Below wr.heap.size wr w1) (hb : Below w1.heap.size w1 w') : (convert 79 9 v).run Tryd.prog w' = .ok (.string ⟨l.toArray⟩) w' ∧ Below wr.heap.size wr w' :=
  conv_later h (h1.2.trans (hb.mono h1.2.size))

set_option maxHeartbeats 4000000 in
set_option maxRecDepth 20000 in
theorem untold_c (w : World) (s : ByteArray) (hs : s.size ≤ 10000000) :
    Calls Tryd.prog 89 #[.string s] w fun r w' => UntPost w s r w' := by
  by_cases h1 : s = ⟨#[45]⟩
  · subst h1
    have Hend := Lib.hid (show UntPost w ⟨#[45]⟩ (.returned (.tuple #[.string ⟨#[]⟩, .bool true])) w from
      ⟨⟨#[]⟩, true, rfl, Nat.zero_le _, fun _ => rfl, fun t0 ht => ⟨rfl, told_inj (a := ⟨#[]⟩) (by rw [← ht]; rfl)⟩, Below.refl _ _⟩)
    clear hs
    go_enter Tryd.func89, Tryd.ntmps89
    go_wp2
    go_ret2
    exact Hend.out
  have t1 := beq_no (l := [45]) (fun h => h1 (ByteArray.ext (Array.ext' h)))
  obtain ⟨n, hn⟩ : ∃ n, n = s.size := ⟨_, rfl⟩
  have Hn := Lib.hid hn
  have Hs := Lib.hid hs
  have H1 := Lib.hid h1
  have HT := Lib.hid (RB.first w)
  clear hs hn h1
  go_enter Tryd.func89, Tryd.ntmps89
  go_wp2
  clear t1
  go_loopw [4, 5] (fun vs i wr => ∃ (k : Nat) (vb : Value) (l : List UInt8), vb = vs ∧ i = .int .i64 (k : Int) ∧ Hid (k ≤ n ∧ RB w wr vb l ∧ l.length ≤ k ∧ UntA s.data.toList l k)) (fun _ i _ => n - (intOf i).toNat)
  case atStart => exact ⟨0, _, [], rfl, rfl, Lib.hid ⟨Nat.zero_le _, HT.out, Nat.le_refl _, unt_first _⟩⟩
  case round =>
    obtain ⟨k, vb, l, rfl, rfl, H⟩ := hrel
    have hn := Hn.out
    clear HT
    by_cases hkn : k < n
    · obtain ⟨c, hc⟩ : ∃ c, s.data.toList[k]? = some c := ⟨s.data.toList[k]'(by rw [size_list]; omega), List.getElem?_eq_getElem _⟩
      have k1 := idx_run .i64 hc
      have b1 : (k : Int) < (n : Int) := by omega
      have c1 : (k : Int) < (s.size : Int) := by omega
      have hs := Hs.out
      have wk : wrap64 ((k : Int) + 1) = (k : Int) + 1 := wrap_small2 (show k < 40000000000001 by omega)
      have wk2 : wrap64 ((k : Int) + 2) = (k : Int) + 2 := by unfold wrap64; omega
      have Hms := Lib.hid (meas_step hkn wk)
      have Hgo := Lib.hid (go_step wk)
      have hR := H.out.2.1
      have hll := H.out.2.2.1
      have hA := H.out.2.2.2
      have Hle := Lib.hid (show l.length ≤ 1000000000 by omega)
      have HR := Lib.hid hR
      have Hown := Lib.hid (fun o => hR.row.alloc o)
      by_cases hp : c.toNat = 37
      · have p3 : ((c.toNat : Int) != 37) = false := by rw [hp]; rfl
        by_cases hq : n ≤ k + 2
        · have Hbad := Lib.hid (unt_bad H1.out (unt_none hA hc hp (.inl (by rw [size_list]; omega))) hR.below)
          have p4 : (s.size : Int) ≤ (k : Int) + 2 := by omega
          clear hn hc hkn hs hR hll hA H hp hq
          go_wp2
          go_ret2
          exact Hbad.out
        · have hk3 : k + 3 ≤ n := by omega
          have p4 : (k : Int) + 2 < (s.size : Int) := by omega
          have wi1 : IntKind.i64.wrap ((k : Int) + 1) = (k : Int) + 1 := by rw [IntKind.wrap_i64]; omega
          have wi2 : IntKind.i64.wrap ((k : Int) + 2) = (k : Int) + 2 := by rw [IntKind.wrap_i64]; omega
          obtain ⟨h, hh⟩ : ∃ h, s.data.toList[k + 1]? = some h := ⟨s.data.toList[k + 1]'(by rw [size_list]; omega), List.getElem?_eq_getElem _⟩
          obtain ⟨x, hx⟩ : ∃ x, s.data.toList[k + 2]? = some x := ⟨s.data.toList[k + 2]'(by rw [size_list]; omega), List.getElem?_eq_getElem _⟩
          have k2 := idx_run' ((k : Int) + 1) (by omega) hh
          have k3 := idx_run' ((k : Int) + 2) (by omega) hx
          have Hi := Lib.hid (fun w1 => digit16 w1 h)
          have Hj := Lib.hid (fun w1 => digit16 w1 x)
          by_cases hh0 : dig16 h < 0
          · have Hbad := Lib.hid (unt_bad H1.out (unt_none hA hc hp (.inr ⟨h, x, hh, hx, .inl hh0⟩)) hR.below)
            have d1 : decide (dig16 h < 0) = true := decide_eq_true hh0
            clear hn hc hkn hs hR hll hA H hp hq hk3 hh hx hh0
            generalize dig16 h = dh at *
            go_wp2_with fail
            refine (Hi.out _).mono ?_
            rintro r w1 ⟨rfl, hw⟩
            obtain rfl := hw.symm
            clear hw
            go_wp2
            go_ret2
            exact Hbad.out
          by_cases hx0 : dig16 x < 0
          · have Hbad := Lib.hid (unt_bad H1.out (unt_none hA hc hp (.inr ⟨h, x, hh, hx, .inr hx0⟩)) hR.below)
            have d1 : decide (dig16 h < 0) = false := decide_eq_false hh0
            have d2 : decide (dig16 x < 0) = true := decide_eq_true hx0
            clear hn hc hkn hs hR hll hA H hp hq hk3 hh hx hh0 hx0
            generalize dig16 h = dh at *
            generalize dig16 x = dx at *
            go_wp2_with fail
            refine (Hi.out _).mono ?_
            rintro r w1 ⟨rfl, hw⟩
            obtain rfl := hw.symm
            clear hw
            go_wp2_with fail
            refine (Hj.out _).mono ?_
            rintro r w1 ⟨rfl, hw⟩
            obtain rfl := hw.symm
            clear hw
            go_wp2
            go_ret2
            exact Hbad.out
          have wk3 : wrap64 ((k : Int) + 2 + 1) = (k : Int) + 3 := by unfold wrap64; omega
          have Hgo3 := Lib.hid (go3 wk3)
          have Hm3 := Lib.hid (meas3 hkn wk3)
          have Hst := Lib.hid (show ∀ w2 v', RB w w2 v' (l ++ [packB h x]) → k + 3 ≤ n ∧ RB w w2 v' (l ++ [packB h x]) ∧ (l ++ [packB h x]).length ≤ k + 3 ∧ UntA s.data.toList (l ++ [packB h x]) (k + 3) from fun w2 v' q => ⟨hk3, q, len3 _ hll, unt_hex hA hc hp hh hx⟩)
          have Hpv := Lib.hid (pack_val (Int.not_lt.1 hh0) (Int.not_lt.1 hx0))
          have Hown2 := Lib.hid (fun o => (RB.drew hR).row.alloc o)
          have HR2 := Lib.hid (RB.drew hR)
          have d1 : decide (dig16 h < 0) = false := decide_eq_false hh0
          have d2 : decide (dig16 x < 0) = false := decide_eq_false hx0
          have hb1 := dig16_bnd h
          have hb2 := dig16_bnd x
          obtain ⟨dh, hdh⟩ : ∃ dh, dh = dig16 h := ⟨_, rfl⟩
          obtain ⟨dx, hdx⟩ : ∃ dx, dx = dig16 x := ⟨_, rfl⟩
          obtain ⟨B, hB⟩ : ∃ B, B = packB h x := ⟨_, rfl⟩
          rw [← hdh, ← hdx, ← hB] at Hpv
          rw [← hB] at Hst
          rw [← hdh] at Hi d1 hb1 hh0
          rw [← hdx] at Hj d2 hb2 hx0
          have m1 : wrap64 (16 * dh) = 16 * dh := by unfold wrap64; omega
          have m2 : wrap64 (16 * dh + dx) = 16 * dh + dx := by unfold wrap64; omega
          have mi1 : IntKind.i64.wrap (16 * dh) = 16 * dh := by rw [IntKind.wrap_i64]; omega
          have mi2 : IntKind.i64.wrap (16 * dh + dx) = 16 * dh + dx := by rw [IntKind.wrap_i64]; omega
          have mi3 : IntKind.u8.wrap (16 * dh + dx) = 16 * dh + dx := by rw [IntKind.wrap_u8]; have := Hpv.out.2; omega
          have Hnew := Lib.hid (fun W : World => new_byte (W := W) Hpv.out.1)
          clear hn hc hkn hs hR hll hA H hp hq hk3 hh hx hh0 hx0 wk3 hb1 hb2 hdh hdx hB
          go_wp2_with fail
          refine (Hi.out _).mono ?_
          rintro r w1 ⟨rfl, hw⟩
          obtain rfl := hw.symm
          clear hw
          go_wp2_with fail
          refine (Hj.out _).mono ?_
          rintro r w1 ⟨rfl, hw⟩
          obtain rfl := hw.symm
          clear hw
          go_wp2_with fail
          go_region_held3 (fun _ => True) (trivial)
            (first
              | (go_at_call 116; (first | (with_reducible refine (Hi.out _).mono ?_) | (with_reducible refine (Hj.out _).mono ?_)); rintro e w' ⟨rfl, hw⟩; obtain rfl := hw.symm)
              | (refine byteStep rfl _ _ rfl vb l rfl (Hown2.out _) _ B rfl (Hnew.out _) Hle.out ?_; intro v' w2 own2 gr2 new2; have Hend := Lib.hid (Hst.out w2 v' (HR2.out.app own2 gr2 new2)); clear own2 gr2 new2))
          all_goals go_wp2
          all_goals go_roundw
          all_goals first
            | exact ⟨k + 3, _, _, rfl, Hgo3.out, Hend⟩
            | exact Hm3.out
      · have p3 : ((c.toNat : Int) != 37) = true := by simp; omega
        have Hst := Lib.hid (show ∀ w2 v', RB w w2 v' (l ++ [c]) → k + 1 ≤ n ∧ RB w w2 v' (l ++ [c]) ∧ (l ++ [c]).length ≤ k + 1 ∧ UntA s.data.toList (l ++ [c]) (k + 1) from fun w2 v' q => ⟨hkn, q, by rw [List.length_append, List.length_singleton]; omega, unt_plain hA hc hp⟩)
        clear hn hc hkn hs hR hll hA H hp
        go_wp2_with (at_builtin; refine byteAppend rfl _ _ rfl vb l rfl (Hown.out _) _ c rfl (World.cell?_alloc_new _ _ _ _) Hle.out ?_; intro v' w2 own2 gr2 new2; have Hend := Lib.hid (Hst.out w2 v' (HR.out.app own2 gr2 new2)); clear own2 gr2 new2)
        go_roundw
        case rel => exact ⟨k + 1, _, _, rfl, Hgo.out, Hend⟩
        case measure => exact Hms.out
    · have b2 : (s.size : Int) ≤ (k : Int) := by omega
      have hR := H.out.2.1
      have hrow := hR.row
      have hk0 : k = s.size := by have := H.out.1; omega
      have hA := H.out.2.2.2
      have hll := H.out.2.2.1
      rw [hk0] at hA hll
      have hsz : (⟨l.toArray⟩ : ByteArray).size ≤ 40000000 := by
        have hs := Hs.out
        show l.toArray.size ≤ _
        simp
        omega
      have Ht := Lib.hid (fun w1 => rtold_walk w1 ⟨l.toArray⟩ hsz)
      have Hend := Lib.hid (fun w' hb => unt_end (w := w) (w' := w') H1.out hA hll hb)
      have Hbel := Lib.hid hR.below
      have hcv := conv_later hrow (Below.refl _ _)
      clear hn hkn H hR hA hll hk0 hsz
      have Hrow := Lib.hid hrow
      have hcv2 := conv_later hrow (w' := wr.drew) (Below.refl _ _).drew
      generalize toldB ⟨l.toArray⟩ = tb at *
      go_wp2_with fail
      go_region_held3 (fun w' => (convert 79 9 vb).run Tryd.prog w' = .ok (.string ⟨l.toArray⟩) w' ∧ Below wr.heap.size wr w') (first | exact hcv2 | assumption | (refine conv_step Hrow.out ?_ hbw; assumption))
        (first
          | (go_at_call 40; (with_reducible refine (Ht.out _).mono ?_); rintro e w' ⟨rfl, hbw⟩))
      all_goals rename_i hheld
      all_goals have Hfin := Lib.hid (Hend.out _ (Hbel.out.trans (hheld.2.mono Hbel.out.size)))
      all_goals clear hheld
      all_goals go_wp2
      all_goals go_ret2
      all_goals exact Hfin.out

end Go.Proofs.YthpflfcgnaichaaDoor
