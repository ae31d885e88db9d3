/-
'is' of the law: the program's log and the document's tell the same.
-/
import Derived.Test.YthpflfcgnaichaaDoorTraRefText
set_option linter.unusedVariables false
set_option linter.unusedSimpArgs false
namespace Go.Proofs.YthpflfcgnaichaaDoor
open Go Go.RowKit

/-- Entries are numbered as they lie. -/
def Numbered (xs : List Ent) : Prop := ∀ (i : Nat) (e : Ent), xs[i]? = some e → e.number = (i : Int)

/-- Both logs, of the same entries, or none on either side. -/
inductive Both (w : World) : Value → Value → List Ent → Prop
  | none : Both w (.pointer none) (.pointer none) []
  | some {lb rb : Nat} {v u : Value} {xs : List Ent} (hl : LogAt w 27 38 lb v xs) (hr : RLog w rb u xs) : Both w (.pointer (some ⟨lb, 0, none⟩)) (.pointer (some ⟨rb, 0, none⟩)) xs

/-- How many entries are open. -/
def openN (xs : List Ent) : Nat := (opensL xs).length

theorem openN_next {xs : List Ent} {k : Nat} {e : Ent} (h : xs[k]? = some e) : openN (xs.take (k + 1)) = openN (xs.take k) + (if e.fin = 0 then 1 else 0) := by
  unfold openN opensL
  rw [List.take_add_one, h]
  by_cases hf : e.fin = 0
  · simp [hf]
  · simp [hf]

theorem openN_le (xs : List Ent) (k : Nat) : openN (xs.take k) ≤ k := by
  unfold openN opensL
  rw [List.length_map]
  exact Nat.le_trans (List.length_filter_le _ _) (by rw [List.length_take]; omega)

theorem opens_at {xs : List Ent} {k : Nat} {e : Ent} (h : xs[k]? = some e) (hf : e.fin = 0) : (opensL xs)[openN (xs.take k)]? = some e.number := by
  have e1 : xs = xs.take k ++ e :: xs.drop (k + 1) := by
    obtain ⟨hk, he⟩ := List.getElem?_eq_some_iff.1 h
    rw [← he, List.getElem_cons_drop, List.take_append_drop]
  have e2 : opensL xs = opensL (xs.take k) ++ e.number :: opensL (xs.drop (k + 1)) := by
    conv => lhs; rw [e1]
    unfold opensL
    simp [List.filter_append, List.filter_cons, hf]
  rw [e2]
  show (opensL (xs.take k) ++ e.number :: opensL (xs.drop (k + 1)))[(opensL (xs.take k)).length]? = _
  rw [List.getElem?_append_right (Nat.le_refl _)]
  simp

theorem int_cell {w : World} {g n c : Nat} {zs : List Int} (h : w.ownsRow 0 3 1 (.slice (some ⟨g, 0, none⟩) n c) n (intVs zs)) {j : Nat} {z : Int} (hj : zs[j]? = some z) (hn : n = zs.length) : w.cell? ⟨g, j, none⟩ = some (.int .i64 z) := by
  have hlt := (List.getElem?_eq_some_iff.1 hj).1
  rw [h.cellAt j (by omega)]
  unfold intVs
  rw [List.getElem?_map, hj]
  rfl

theorem int_some {w : World} {v : Value} {n : Nat} {zs : List Int} (h : w.ownsRow 0 3 1 v n (intVs zs)) (hn : 0 < n) : ∃ g c, v = .slice (some ⟨g, 0, none⟩) n c := by
  rcases h.2 with ⟨hv, h0⟩ | ⟨g, cap, cur, hv, _⟩
  · omega
  · exact ⟨g, cap, hv⟩

set_option maxHeartbeats 4000000 in
set_option maxRecDepth 20000 in
theorem is_some (w : World) (lb rb : Nat) (v u : Value) (xs : List Ent) (htab : Tab w) (hl : LogAt w 27 38 lb v xs) (hr : RLog w rb u xs) (hgood : ∀ x ∈ xs, x.Good) (hnum : Numbered xs) (hlen : xs.length ≤ 60000) :
    Calls Tryd.prog 21 #[.pointer (some ⟨lb, 0, none⟩), .pointer (some ⟨rb, 0, none⟩)] w fun r w' => r = .returned (.bool true) ∧ Below w.heap.size w w' := by
  obtain ⟨au, cu, hu⟩ := hr.form
  obtain ⟨n, hn⟩ : ∃ n, n = xs.length := ⟨_, rfl⟩
  obtain ⟨q, hq⟩ : ∃ q, q = openN xs := ⟨_, rfl⟩
  rw [← hn] at hu
  subst hu
  have r0 : w.cell? ⟨rb, 0, none⟩ = some (.slice au n cu) := cell1 hr.blk
  have Hn := Lib.hid hn
  have Hq := Lib.hid hq
  have Hlen := Lib.hid hlen
  have Hnum := Lib.hid hnum
  have He := Lib.hid (entries_walk w lb v xs hl (by omega))
  have Hs := Lib.hid (show ∀ ao c w1, Below w.heap.size w w1 → EntRow w1 38 (.slice ao n c) xs → Calls Tryd.prog 29 #[.slice ao n c, .slice au n cu] w1 fun r w' => r = .returned (.bool true) ∧ Below w.heap.size w w' from
    fun ao c w1 hb h1 => (entries_walk2 w1 _ _ xs xs h1 (row_below hr.row hb) (by omega)).mono fun r w' ⟨hr, h2⟩ => ⟨by rw [hr, sameL_iff.2 rfl], hb.trans (h2.mono hb.size)⟩)
  have Hc := Lib.hid (show ∀ w1, Below w.heap.size w w1 → Calls Tryd.prog 15 #[.pointer (some ⟨lb, 0, none⟩)] w1 fun r w' => r = .returned (.int .i64 (n : Int)) ∧ w' = w1 from fun w1 hb => by
    rw [hn]
    exact count_walk w1 lb v xs (log_later hl hb))
  have Ht := Lib.hid (show ∀ w1, Below w.heap.size w w1 → Calls Tryd.prog 31 #[.pointer (some ⟨lb, 0, none⟩)] w1 fun r w' => r = .returned (.string ⟨(textL xs).toArray⟩) ∧ Below w.heap.size w w' from
    fun w1 hb => (text_walk w1 lb v xs (log_later hl hb) (tab_later htab hb) (fun x hx => (hgood x hx).fit) hlen).mono fun r w' ⟨hr, h2⟩ => ⟨hr, hb.trans (h2.mono hb.size)⟩)
  have Hrt := Lib.hid (show ∀ w1, Below w.heap.size w w1 → Calls Tryd.prog 35 #[.pointer (some ⟨rb, 0, none⟩)] w1 fun r w' => r = .returned (.string ⟨(textL xs).toArray⟩) ∧ Below w.heap.size w w' from
    fun w1 hb => (rtext_walk w1 rb _ xs (log_later hr hb) hgood hlen).mono fun r w' ⟨hr, h2⟩ => ⟨hr, hb.trans (h2.mono hb.size)⟩)
  have Hp := Lib.hid (show ∀ w1, Below w.heap.size w w1 → Calls Tryd.prog 16 #[.pointer (some ⟨lb, 0, none⟩)] w1 fun r w' => ∃ ao c, r = .returned (.slice ao q c) ∧ w'.ownsRow 0 3 1 (.slice ao q c) q (intVs (opensL xs)) ∧ Below w.heap.size w w' from
    fun w1 hb => (open_walk w1 lb v xs (log_later hl hb) (by omega)).mono fun r w' ⟨ao, c, hr, h1, h2, _⟩ => ⟨ao, c, by rw [hq]; exact hr, by rw [hq]; exact h1, hb.trans (h2.mono hb.size)⟩)
  obtain ⟨T, hT⟩ : ∃ T : ByteArray, T = ⟨(textL xs).toArray⟩ := ⟨_, rfl⟩
  rw [← hT] at Ht Hrt
  have Hrow := Lib.hid hr.row
  have t1 : ((n : Int) != (n : Int)) = false := by simp
  have t2 : (T.toList == T.toList) = true := by simp
  have t3 : ((q : Int) == (q : Int)) = true := by simp
  clear hl hr hgood hnum hlen htab hn hq hT
  go_enter Tryd.func21, Tryd.ntmps21
  go_wp2_with fail
  refine He.out.mono ?_
  rintro r w1 ⟨ao, c, rfl, h1, h2, _⟩
  rw [← Hn.out] at h1 ⊢
  have Hs1 := Lib.hid (Hs.out ao c w1 h2 h1)
  clear h1 h2 He Hs r0
  go_wp2_with fail
  refine Hs1.out.mono ?_
  rintro r w2 ⟨rfl, h2⟩
  have Hc2 := Lib.hid (Hc.out w2 h2)
  have Ht2 := Lib.hid (Ht.out w2 h2)
  clear h2 Hs1 Hc Ht
  go_wp2_with fail
  refine Hc2.out.mono ?_
  rintro r w3 ⟨rfl, hw⟩
  obtain rfl := hw.symm
  clear Hc2 hw
  go_wp2_with fail
  refine Ht2.out.mono ?_
  rintro r w4 ⟨rfl, h4⟩
  have Hr4 := Lib.hid (Hrt.out w4 h4)
  clear h4 Ht2 Hrt
  go_wp2_with fail
  refine Hr4.out.mono ?_
  rintro r w5 ⟨rfl, h5⟩
  have Hp5 := Lib.hid (Hp.out w5 h5)
  clear h5 Hr4 Hp
  go_wp2_with fail
  refine Hp5.out.mono ?_
  rintro r w6 ⟨ap, cp, rfl, hi, h6⟩
  have Hints := Lib.hid hi
  have H6 := Lib.hid h6
  have Hrow6 := Lib.hid (row_below Hrow.out h6)
  clear hi h6 Hp5 t1 t2
  go_wp2
  go_loopw [7, 8] (fun m i wr => ∃ k : Nat, i = .int .i64 (k : Int) ∧ w6 = wr ∧ k ≤ n ∧ m = .int .i64 (openN (xs.take k) : Int)) (fun _ i _ => n - (intOf i).toNat)
  case atStart => exact ⟨0, rfl, rfl, Nat.zero_le _, rfl⟩
  case round =>
    obtain ⟨k, rfl, rfl, hk, rfl⟩ := hrel
    have hn : n = xs.length := Hn.out
    by_cases hkn : k < n
    · obtain ⟨e, he⟩ : ∃ e, xs[k]? = some e := ⟨xs[k]'(by omega), List.getElem?_eq_getElem _⟩
      obtain ⟨g, c2, hv⟩ := row_some Hrow6.out (by omega)
      rw [← hn] at hv
      simp only [Value.slice.injEq, true_and] at hv
      obtain ⟨rfl, rfl⟩ := hv
      have b1 : (k : Int) < (n : Int) := by omega
      have d1 : w6.cell? ⟨g, k * 15 + 14, none⟩ = some (.int .i64 e.fin) := row_cell hn Hrow6.out he 14 (by decide)
      have wk := wrap_small (show k < 65537 by have := Hlen.out; omega)
      have wo := wrap_small (show openN (xs.take k) < 65537 by have := Hlen.out; have := openN_le xs k; omega)
      have Hms := Lib.hid (meas_step hkn wk)
      have Hgo := Lib.hid (go_step wk)
      have Hgo2 := Lib.hid (go_step wo)
      have Hnx := Lib.hid (openN_next he)
      have Hkn := Lib.hid hkn
      by_cases hf : e.fin = 0
      · have hfb : (e.fin == 0) = true := by rw [hf]; rfl
        have hat := opens_at he hf
        rw [Hnum.out k e he] at hat
        have hlt : openN (xs.take k) < q := by rw [Hq.out]; exact (List.getElem?_eq_some_iff.1 hat).1
        obtain ⟨g2, c3, hv2⟩ := int_some Hints.out (by omega)
        simp only [Value.slice.injEq, true_and] at hv2
        obtain ⟨rfl, rfl⟩ := hv2
        have d2 := int_cell Hints.out hat Hq.out
        rw [if_pos hf] at Hnx
        generalize openN (xs.take k) = m at *
        have b2 : (m : Int) < (q : Int) := by omega
        have b3 : decide ((q : Int) ≤ (m : Int)) = false := decide_eq_false (by omega)
        have b4 : ((k : Int) != (k : Int)) = false := by simp
        clear hn hkn he hf hat hlt hk wk wo
        go_wp2
        go_roundw
        case rel => exact ⟨k + 1, Hgo.out, trivial, Hkn.out, by rw [Hnx.out]; exact Hgo2.out⟩
        case measure => exact Hms.out
      · have hfb : (e.fin == 0) = false := beq_eq_false_iff_ne.2 hf
        rw [if_neg hf] at Hnx
        generalize openN (xs.take k) = m at *
        clear hn hkn he hf hk wk wo
        go_wp2
        go_roundw
        case rel => exact ⟨k + 1, Hgo.out, trivial, Hkn.out, by rw [Hnx.out]; rfl⟩
        case measure => exact Hms.out
    · have b1 : (n : Int) ≤ (k : Int) := by omega
      rw [List.take_of_length_le (by omega), ← Hq.out]
      clear hn hkn hk
      go_wp2
      go_ret
      exact ⟨rfl, H6.out⟩

set_option maxHeartbeats 4000000 in
set_option maxRecDepth 20000 in
theorem is_none (w : World) (htab : Tab w) :
    Calls Tryd.prog 21 #[.pointer none, .pointer none] w fun r w' => r = .returned (.bool true) ∧ Below w.heap.size w w' := by
  have He := Lib.hid (entriesNil_walk w)
  have Hs := Lib.hid (show Calls Tryd.prog 29 #[.slice none 0 0, .slice none 0 0] w fun r w' => r = .returned (.bool true) ∧ Below w.heap.size w w' from
    (entries_walk2 w _ _ [] [] (World.ownsRow_nil _ _ _ _) (World.ownsRow_nil _ _ _ _) (by decide)).mono fun r w' ⟨hr, h2⟩ => ⟨by rw [hr]; rfl, h2⟩)
  have Hc := Lib.hid (fun w1 => countNil_walk w1)
  have Ht := Lib.hid (show ∀ w1, Below w.heap.size w w1 → Calls Tryd.prog 31 #[.pointer none] w1 fun r w' => r = .returned (.string ⟨#[]⟩) ∧ Below w.heap.size w w' from
    fun w1 hb => (textNil_walk w1 (tab_later htab hb)).mono fun r w' ⟨hr, h2⟩ => ⟨hr, hb.trans (h2.mono hb.size)⟩)
  have Hrt := Lib.hid (show ∀ w1, Below w.heap.size w w1 → Calls Tryd.prog 35 #[.pointer none] w1 fun r w' => r = .returned (.string ⟨#[]⟩) ∧ Below w.heap.size w w' from
    fun w1 hb => (rtextNil_walk w1).mono fun r w' ⟨hr, h2⟩ => ⟨hr, hb.trans (h2.mono hb.size)⟩)
  have Hp := Lib.hid (fun w1 => openNil_walk w1)
  clear htab
  go_enter Tryd.func21, Tryd.ntmps21
  go_wp2_with fail
  refine He.out.mono ?_
  rintro r w1 ⟨rfl, hw⟩
  obtain rfl := hw.symm
  clear He hw
  go_wp2_with fail
  refine Hs.out.mono ?_
  rintro r w2 ⟨rfl, h2⟩
  have Ht2 := Lib.hid (Ht.out w2 h2)
  clear h2 Hs Ht
  go_wp2_with fail
  refine (Hc.out _).mono ?_
  rintro r w3 ⟨rfl, hw⟩
  obtain rfl := hw.symm
  clear Hc hw
  go_wp2_with fail
  refine Ht2.out.mono ?_
  rintro r w4 ⟨rfl, h4⟩
  have Hr4 := Lib.hid (Hrt.out w4 h4)
  clear h4 Ht2 Hrt
  go_wp2_with fail
  refine Hr4.out.mono ?_
  rintro r w5 ⟨rfl, h5⟩
  have H5 := Lib.hid h5
  clear h5 Hr4
  go_wp2_with fail
  refine (Hp.out _).mono ?_
  rintro r w6 ⟨rfl, hw⟩
  obtain rfl := hw.symm
  clear Hp hw
  go_wp2
  go_loop [7, 8] (fun m i => m = .int .i64 0 ∧ i = .int .i64 0) (fun _ _ => 0)
  case atStart => exact ⟨rfl, rfl⟩
  case round =>
    obtain ⟨rfl, rfl⟩ := hrel
    go_wp2
    go_ret
    exact ⟨rfl, H5.out⟩

theorem is_walk (w : World) (lv dv : Value) (xs : List Ent) (htab : Tab w) (h : Both w lv dv xs) (hgood : ∀ x ∈ xs, x.Good) (hnum : Numbered xs) (hlen : xs.length ≤ 60000) :
    Calls Tryd.prog 21 #[lv, dv] w fun r w' => r = .returned (.bool true) ∧ Below w.heap.size w w' := by
  cases h with
  | none => exact is_none w htab
  | some hl hr => exact is_some w _ _ _ _ xs htab hl hr hgood hnum hlen

end Go.Proofs.YthpflfcgnaichaaDoor
