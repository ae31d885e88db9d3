/-
The walk of the reference's Text.
-/
import Derived.Test.YthpflfcgnaichaaDoorTraRefLine
import Derived.Test.YthpflfcgnaichaaDoorTraLg
import Derived.Lib.AppendStr
set_option linter.unusedVariables false
set_option linter.unusedSimpArgs false
namespace Go.Proofs.YthpflfcgnaichaaDoor
open Go Go.RowKit

abbrev RLog (w : World) (lb : Nat) (v : Value) (xs : List Ent) : Prop := LogAt w 50 32 lb v xs

theorem binfo : (Tryd.prog.info? 5).map (fun i => (i.zero, i.size, i.bytes)) = some (some (.int .u8 0), 1, 1) := by kernel_rfl

/-- A row of bytes of the call's own. -/
abbrev ByteRow (w : World) (B : Nat) (v : Value) (l : List UInt8) : Prop := w.ownsRow B 5 1 v l.length (Lib.byteCells l)

theorem conv_row {w : World} {B : Nat} {v : Value} {l : List UInt8} (h : ByteRow w B v l) : (convert 79 9 v).run Tryd.prog w = .ok (.string ⟨l.toArray⟩) w := by
  rcases h.2 with ⟨hv, hn⟩ | ⟨g, cap, cur, hv, _⟩
  · have hl : l = [] := List.eq_nil_of_length_eq_zero hn
    subst hl
    rw [hv]
    have := run_convert_bytes_string (P := Tryd.prog) w 79 9 5 none 0 0 Tryd.underlying79 Tryd.underlying5 Tryd.underlying9
    rw [this]
    simp [Conv.bytesToString, go_sem]
    rfl
  · rw [hv]
    refine run_convert_bytes_back (P := Tryd.prog) w 79 9 5 ⟨g, 0, none⟩ cap l Tryd.underlying79 Tryd.underlying5 Tryd.underlying9 (fun j hj => ?_)
    refine h.cells (g := g) (by rw [hv]; rfl) j _ ?_
    unfold Lib.byteCells
    rw [List.getElem?_map, List.getElem?_eq_getElem hj]
    rfl

/-- The memory while lines are gathered. -/
structure RT (w wr : World) (v : Value) (l : List UInt8) : Prop where
  below : Below w.heap.size w wr
  row : ByteRow wr w.heap.size v l

theorem RT.later {w wr w2 : World} {v : Value} {l : List UInt8} (h : RT w wr v l) (hb : Below wr.heap.size wr w2) : RT w w2 v l :=
  ⟨h.below.trans (hb.mono h.below.size), ownsRow_frame h.row fun g hg => hb.block g (h.row.lt g hg).2⟩

theorem RT.app {w wr w2 : World} {v v' : Value} {l m : List UInt8} (h : RT w wr v l) (own2 : w2.ownsRow w.heap.size 5 1 v' (l.length + (⟨m.toArray⟩ : ByteArray).size) (Lib.byteCells l ++ Lib.strCells ⟨m.toArray⟩)) (gr2 : wr.grownBy w2 v.ownBlock) : RT w w2 v' (l ++ m) := by
  have hm : Mod (fun k => v.ownBlock = some k) wr w2 := (Mod.refl _ wr).grown gr2 (fun k e _ => e)
  refine ⟨h.below.trans (hm.below h.below.size fun k hk => (h.row.lt k hk).1), ?_⟩
  have e2 : Lib.byteCells (l ++ m) = Lib.byteCells l ++ Lib.byteCells m := by simp [Lib.byteCells]
  have e3 : (⟨m.toArray⟩ : ByteArray).size = m.length := List.size_toArray
  rw [strCells_list, e3] at own2
  show w2.ownsRow w.heap.size _ 1 v' (l ++ m).length (Lib.byteCells (l ++ m))
  rw [e2, List.length_append]
  exact own2

/-- Entries as a log has them. -/
structure Ent.Good (x : Ent) : Prop where
  fit : x.Fit
  may : x.may = true
  num : 0 ≤ x.number

set_option maxHeartbeats 4000000 in
set_option maxRecDepth 20000 in
theorem rtext_walk (w : World) (lb : Nat) (ev : Value) (xs : List Ent) (hlog : RLog w lb ev xs) (hgood : ∀ x ∈ xs, x.Good) (hlen : xs.length ≤ 60000) :
    Calls Tryd.prog 35 #[.pointer (some ⟨lb, 0, none⟩)] w fun r w' => r = .returned (.string ⟨(textL xs).toArray⟩) ∧ Below w.heap.size w w' := by
  obtain ⟨ao, c, hv⟩ := hlog.form
  obtain ⟨n, hn⟩ : ∃ n, n = xs.length := ⟨_, rfl⟩
  rw [← hn] at hv
  subst hv
  obtain ⟨i0, hi5, hz0, hz1, hz2⟩ := info_parts binfo
  have Hi := Lib.hid (And.intro hi5 (And.intro hz0 (And.intro hz1 hz2)))
  have Hlog := Lib.hid hlog
  have Hgood := Lib.hid hgood
  have Hn := Lib.hid hn
  have Hlen := Lib.hid hlen
  have HT := Lib.hid (show RT w w (.slice none 0 0) (textL (xs.take 0)) from ⟨Below.refl _ _, World.ownsRow_nil _ _ _ _⟩)
  clear hlog hgood hn hlen hi5 hz0 hz1 hz2
  go_enter Tryd.func35, Tryd.ntmps35
  go_wp2
  go_loopw [3, 4] (fun vs i wr => ∃ (k : Nat) (vb : Value), vb = vs ∧ i = .int .i64 (k : Int) ∧ Hid (k ≤ n ∧ RT w wr vb (textL (xs.take k)))) (fun _ i _ => n - (intOf i).toNat)
  case atStart => exact ⟨0, _, rfl, rfl, Lib.hid ⟨Nat.zero_le _, HT.out⟩⟩
  case round =>
    obtain ⟨k, vb, rfl, rfl, H⟩ := hrel
    have hn : n = xs.length := Hn.out
    obtain ⟨hk, hT⟩ := H.out
    clear HT
    have hlog := log_later Hlog.out hT.below
    have l0 : wr.cell? ⟨lb, 0, none⟩ = some (.slice ao n c) := cell1 hlog.blk
    by_cases hkn : k < n
    · obtain ⟨e, he⟩ : ∃ e, xs[k]? = some e := ⟨xs[k]'(by omega), List.getElem?_eq_getElem _⟩
      obtain ⟨g, c2, hv⟩ := row_some hlog.row (by omega)
      rw [← hn] at hv
      simp only [Value.slice.injEq, true_and] at hv
      obtain ⟨rfl, rfl⟩ := hv
      have hg := Hgood.out e (List.mem_of_getElem? he)
      have b1 : (k : Int) < (n : Int) := by omega
      have d0 : wr.cell? ⟨g, k * 15, none⟩ = some (.int .i64 e.number) := row_cell hn hlog.row he 0 (by decide)
      have d1 : wr.cell? ⟨g, k * 15 + 1, none⟩ = some (.int .i64 e.version) := row_cell hn hlog.row he 1 (by decide)
      have d2 : wr.cell? ⟨g, k * 15 + 2, none⟩ = some (.int .i64 e.epoch) := row_cell hn hlog.row he 2 (by decide)
      have d3 : wr.cell? ⟨g, k * 15 + 3, none⟩ = some (.string e.method) := row_cell hn hlog.row he 3 (by decide)
      have d4 : wr.cell? ⟨g, k * 15 + 4, none⟩ = some (.string e.host) := row_cell hn hlog.row he 4 (by decide)
      have d5 : wr.cell? ⟨g, k * 15 + 5, none⟩ = some (.string e.path) := row_cell hn hlog.row he 5 (by decide)
      have d6 : wr.cell? ⟨g, k * 15 + 6, none⟩ = some (.int .u64 (e.a : Int)) := row_cell hn hlog.row he 6 (by decide)
      have d7 : wr.cell? ⟨g, k * 15 + 7, none⟩ = some (.int .u64 (e.b : Int)) := row_cell hn hlog.row he 7 (by decide)
      have d8 : wr.cell? ⟨g, k * 15 + 8, none⟩ = some (.int .i64 e.kind) := row_cell hn hlog.row he 8 (by decide)
      have d9 : wr.cell? ⟨g, k * 15 + 9, none⟩ = some (.int .i64 e.status) := row_cell hn hlog.row he 9 (by decide)
      have d10 : wr.cell? ⟨g, k * 15 + 10, none⟩ = some (.string e.route) := row_cell hn hlog.row he 10 (by decide)
      have d11 : wr.cell? ⟨g, k * 15 + 11, none⟩ = some (.int .i64 e.rule) := row_cell hn hlog.row he 11 (by decide)
      have d12 : wr.cell? ⟨g, k * 15 + 12, none⟩ = some (.string e.service) := row_cell hn hlog.row he 12 (by decide)
      have d13 : wr.cell? ⟨g, k * 15 + 13, none⟩ = some (.string e.endp) := row_cell hn hlog.row he 13 (by decide)
      have d14 : wr.cell? ⟨g, k * 15 + 14, none⟩ = some (.int .i64 e.fin) := row_cell hn hlog.row he 14 (by decide)
      have Hl := Lib.hid (rline_yes wr e hg.fit hg.may hg.num)
      have Hla := Lib.hid (fun w2 (hb : Below wr.heap.size wr w2) => hT.later hb)
      have Hrm := Lib.hid (text_room (fun x hx => (Hgood.out x hx).fit) Hlen.out he)
      have Hnx := Lib.hid (text_next he)
      have wk := wrap_small (show k < 65537 by have := Hlen.out; omega)
      have Hms := Lib.hid (meas_step hkn wk)
      have Hgo := Lib.hid (go_step wk)
      have Hkn := Lib.hid hkn
      clear hn hk hT H hkn he hlog hg wk
      go_wp2_with fail
      refine Hl.out.mono ?_
      rintro r w2 ⟨rfl, hb⟩
      have hT2 := Hla.out w2 hb
      have Hown := Lib.hid hT2.row
      have HT2 := Lib.hid hT2
      have Hsz := Lib.hid hT2.below.size
      have H63 := Lib.hid (show (textL (xs.take k)).length + (⟨(lineL e).toArray⟩ : ByteArray).size ≤ maxLen from Nat.le_trans Hrm.out (by decide))
      have H47 := Lib.hid (show (textL (xs.take k)).length + (⟨(lineL e).toArray⟩ : ByteArray).size ≤ 140737488355328 from Hrm.out)
      clear hT2 hb Hl Hla Hrm l0 d0 d1 d2 d3 d4 d5 d6 d7 d8 d9 d10 d11 d12 d13 d14
      go_wp2_with (at_builtin; go_loud (refine Lib.wpList_append_own_string _ rfl _ _ 79 9 rfl w.heap.size 5 i0 Tryd.underlying79 Tryd.underlying9 Hi.out.1 Hi.out.2.1 Hi.out.2.2.1 Hi.out.2.2.2 vb _ _ rfl Hown.out ⟨(lineL e).toArray⟩ rfl H63.out H47.out Hsz.out ?_; intro v' w3 own2 gr2 _; have hT3 := HT2.out.app own2 gr2; rw [← Hnx.out] at hT3; have Hend := Lib.hid (And.intro Hkn.out hT3); clear own2 gr2 hT3))
      go_roundw
      case rel => exact ⟨k + 1, _, rfl, Hgo.out, Hend⟩
      case measure => exact Hms.out
    · have b1 : (n : Int) ≤ (k : Int) := by omega
      rw [List.take_of_length_le (by omega)] at hT
      have hcv := conv_row hT.row
      have Hend := Lib.hid hT.below
      clear hn hk hT H hkn hlog
      go_wp2
      go_ret
      exact ⟨rfl, Hend.out⟩

set_option maxHeartbeats 1000000 in
theorem rtextNil_walk (w : World) : Calls Tryd.prog 35 #[.pointer none] w fun r w' => r = .returned (.string ⟨#[]⟩) ∧ Below w.heap.size w w' := by
  have hcv := conv_row (w := w) (B := 0) (v := .slice none 0 0) (l := []) (World.ownsRow_nil _ _ _ _)
  go_enter Tryd.func35, Tryd.ntmps35
  go_wp2
  go_loop [3, 4] (fun v i => v = .slice none 0 0 ∧ i = .int .i64 0) (fun _ _ => 0)
  case atStart => exact ⟨rfl, rfl⟩
  case round =>
    obtain ⟨rfl, rfl⟩ := hrel
    go_wp2
    go_ret
    exact ⟨rfl, Below.refl _ _⟩

end Go.Proofs.YthpflfcgnaichaaDoor
