/-
TrailBack's walk: a log's text read back, a text that is read told again.
-/
import Derived.Test.YthpflfcgnaichaaDoorTraParse
import Derived.Test.YthpflfcgnaichaaDoorTraMade
import Derived.Test.YthpflfcgnaichaaDoorTraRefText
import Derived.Test.YthpflfcgnaichaaDoorTraAwake
set_option linter.unusedVariables false
set_option linter.unusedSimpArgs false
namespace Go.Proofs.YthpflfcgnaichaaDoor
open Go Go.RowKit

noncomputable def bk7 : Code := (ncl (ncr (ncr (ncr (ncr (ncr (ncx Tryd.f7.body)))))))
noncomputable def bkRest : Code := (ncr (ncr (ncr (ncr (ncr (ncr (ncx Tryd.f7.body)))))))

set_option maxRecDepth 20000 in
theorem bk_act (a : Act) (hs : a.tmps.size = 83) (hd : a.defers = []) : ∃ v : Nat → Value, (∀ (i : Nat) (x : Value), a.tmps[i]? = some x → v i = x) ∧ a = ⟨#[v 0, v 1, v 2, v 3, v 4, v 5, v 6, v 7, v 8, v 9, v 10, v 11, v 12, v 13, v 14, v 15, v 16, v 17, v 18, v 19, v 20, v 21, v 22, v 23, v 24, v 25, v 26, v 27, v 28, v 29, v 30, v 31, v 32, v 33, v 34, v 35, v 36, v 37, v 38, v 39, v 40, v 41, v 42, v 43, v 44, v 45, v 46, v 47, v 48, v 49, v 50, v 51, v 52, v 53, v 54, v 55, v 56, v 57, v 58, v 59, v 60, v 61, v 62, v 63, v 64, v 65, v 66, v 67, v 68, v 69, v 70, v 71, v 72, v 73, v 74, v 75, v 76, v 77, v 78, v 79, v 80, v 81, v 82], []⟩ := by
  obtain ⟨t, d⟩ := a
  obtain ⟨l⟩ := t
  obtain rfl : d = [] := hd
  have hl : l.length = 83 := hs
  refine ⟨fun i => l.getD i undef, fun i x hx => ?_, ?_⟩
  · have hx' : l[i]? = some x := by simpa using hx
    simp [List.getD, hx']
  · have e : l = (List.range 83).map (fun i => l.getD i undef) := by
      apply List.ext_getElem
      · simp [hl]
      · intro i h1 h2
        simp [List.getD, h1]
    generalize (fun i => l.getD i undef) = v at e ⊢
    subst e
    rfl

structure BkA (a : Act) (t : ByteArray) : Prop where
  size : a.tmps.size = 83
  dfr : a.defers = []
  s1 : a.tmps[1]? = some (.string t)

set_option maxRecDepth 20000 in
theorem BkA.shape {a : Act} {t : ByteArray} (h : BkA a t) : ∃ v : Nat → Value, a = ⟨#[v 0, .string t, v 2, v 3, v 4, v 5, v 6, v 7, v 8, v 9, v 10, v 11, v 12, v 13, v 14, v 15, v 16, v 17, v 18, v 19, v 20, v 21, v 22, v 23, v 24, v 25, v 26, v 27, v 28, v 29, v 30, v 31, v 32, v 33, v 34, v 35, v 36, v 37, v 38, v 39, v 40, v 41, v 42, v 43, v 44, v 45, v 46, v 47, v 48, v 49, v 50, v 51, v 52, v 53, v 54, v 55, v 56, v 57, v 58, v 59, v 60, v 61, v 62, v 63, v 64, v 65, v 66, v 67, v 68, v 69, v 70, v 71, v 72, v 73, v 74, v 75, v 76, v 77, v 78, v 79, v 80, v 81, v 82], []⟩ := by
  obtain ⟨v, hv, hd⟩ := bk_act a h.size h.dfr
  have e1 := hv 1 _ h.s1
  refine ⟨v, ?_⟩
  rw [hd]
  simp only [e1]

theorem wrap_big {k : Nat} (h : k ≤ 4000000000) : wrap64 ((k : Int) + 1) = (k : Int) + 1 := by unfold wrap64; omega

theorem text_append (xs ys : List Ent) : textL (xs ++ ys) = textL xs ++ textL ys := by unfold textL; rw [List.flatMap_append]

theorem text_take (xs : List Ent) (k : Nat) : (textL (xs.take k)).length ≤ (textL xs).length := by
  conv => rhs; rw [← List.take_append_drop k xs, text_append, List.length_append]
  omega

theorem line_yes {e : Ent} (hm : e.may = true) (hn : 0 ≤ e.number) : lineOf e = (⟨(lineL e).toArray⟩, 0) := by
  unfold lineOf
  rw [if_pos ⟨hm, hn⟩]

set_option maxHeartbeats 4000000 in
set_option maxRecDepth 20000 in
theorem back_tail {t : ByteArray} {a : Act} {w w0 : World} {K : Act → World → Prop} {Q : Exit → Act → World → Prop} (hK : ∀ a w, bkRest.wp Tryd.prog Q a w → K a w) (hf : BkA a t) (hb0 : Below w0.heap.size w0 w) (hg : Glob w0) (htab : Tab w0) (hs : t.size ≤ 40000000)
    (fin : ∀ a' w', a'.defers = [] → a'.tmps[4]? = some (.bool true) → Below w0.heap.size w0 w' → Q .ret a' w') : bk7.wp Tryd.prog (Exit.then K Q) a w := by
  have Hp := Lib.hid (parse_c w t (by omega) (Seg.of_len t.size _ (by rw [size_list]; exact Nat.le_refl _) (by rw [size_list]; exact hs)) (glob_later hg hb0) (tab_later htab hb0))
  have Hfin := Lib.hid fin
  have Htab := Lib.hid htab
  have Hb0 := Lib.hid hb0
  obtain ⟨vv, rfl⟩ := hf.shape
  have Hs := Lib.hid hs
  clear hf fin htab hg hb0 hs
  dsimp only [bk7, bkRest, ncl, ncr, ncb, nco, ncx, Tryd.f7] at hK ⊢
  go_wp2_with fail
  refine Hp.out.mono ?_
  rintro r w1 ⟨es, b, hPR, hb, ⟨rfl, ao, c, rfl, hrow, hnew⟩ | ⟨rfl, rfl⟩⟩
  rotate_left
  · have Hb := Lib.hid (Hb0.out.trans (hb.mono Hb0.out.size))
    obtain ⟨n, hn⟩ : ∃ n, n = es.length := ⟨_, rfl⟩
    rw [← hn]
    have b1 : (0 : Int) ≤ (n : Int) := by omega
    clear hPR hb hn Hp
    go_wp2
    exact Hfin.out _ _ rfl rfl Hb.out
  · have hx := hPR.text rfl
    have hgood := hPR.good
    have hT : t.size = (textL es).length := by rw [← size_list, hx]; rfl
    have hle : es.length ≤ 40000000 := by have := hPR.len; rw [size_list] at this; have := Hs.out; omega
    obtain ⟨i0, hi5, hz0, hz1, hz2⟩ := info_parts binfo
    have Hi := Lib.hid (And.intro hi5 (And.intro hz0 (And.intro hz1 hz2)))
    have Hgood := Lib.hid hgood
    have HTsz := Lib.hid hT
    have Hx := Lib.hid hx
    obtain ⟨n, hn⟩ : ∃ n, n = es.length := ⟨_, rfl⟩
    rw [← hn] at hrow hle ⊢
    have Hrow := Lib.hid hrow
    have Hn := Lib.hid hn
    have Hle := Lib.hid hle
    have Hb1 := Lib.hid (Hb0.out.trans (hb.mono Hb0.out.size))
    have HT := Lib.hid (show RT w1 w1 (.slice none 0 0) (textL (es.take 0)) from ⟨Below.refl _ _, World.ownsRow_nil _ _ _ _⟩)
    clear hPR hb hrow hnew hx hgood hT hn hle Hp hi5 hz0 hz1 hz2
    go_wp2
    go_loopw [9, 10] (fun vs i wr => ∃ (k : Nat) (vb : Value), vb = vs ∧ i = .int .i64 (k : Int) ∧ Hid (k ≤ n ∧ RT w1 wr vb (textL (es.take k)))) (fun _ i _ => n - (intOf i).toNat)
    case atStart => exact ⟨0, _, rfl, rfl, Lib.hid ⟨Nat.zero_le _, HT.out⟩⟩
    case round =>
      obtain ⟨k, vb, rfl, rfl, H⟩ := hrel
      have hn : n = es.length := Hn.out
      obtain ⟨hk, hT⟩ := H.out
      clear HT
      by_cases hkn : k < n
      · obtain ⟨e, he⟩ : ∃ e, es[k]? = some e := ⟨es[k]'(by omega), List.getElem?_eq_getElem _⟩
        have hrw : EntRow wr 38 (.slice ao n c) es := below_row Hrow.out hT.below
        obtain ⟨g, c2, hv⟩ := row_some hrw (by omega)
        rw [← hn] at hv
        simp only [Value.slice.injEq, true_and] at hv
        obtain ⟨rfl, rfl⟩ := hv
        obtain ⟨hg1, hg2, hg3⟩ := Hgood.out e (List.mem_of_getElem? he)
        have b1 : (k : Int) < (n : Int) := by omega
        have d0 : wr.cell? ⟨g, k * 15, none⟩ = some (.int .i64 e.number) := row_cell hn hrw he 0 (by decide)
        have d1 : wr.cell? ⟨g, k * 15 + 1, none⟩ = some (.int .i64 e.version) := row_cell hn hrw he 1 (by decide)
        have d2 : wr.cell? ⟨g, k * 15 + 2, none⟩ = some (.int .i64 e.epoch) := row_cell hn hrw he 2 (by decide)
        have d3 : wr.cell? ⟨g, k * 15 + 3, none⟩ = some (.string e.method) := row_cell hn hrw he 3 (by decide)
        have d4 : wr.cell? ⟨g, k * 15 + 4, none⟩ = some (.string e.host) := row_cell hn hrw he 4 (by decide)
        have d5 : wr.cell? ⟨g, k * 15 + 5, none⟩ = some (.string e.path) := row_cell hn hrw he 5 (by decide)
        have d6 : wr.cell? ⟨g, k * 15 + 6, none⟩ = some (.int .u64 (e.a : Int)) := row_cell hn hrw he 6 (by decide)
        have d7 : wr.cell? ⟨g, k * 15 + 7, none⟩ = some (.int .u64 (e.b : Int)) := row_cell hn hrw he 7 (by decide)
        have d8 : wr.cell? ⟨g, k * 15 + 8, none⟩ = some (.int .i64 e.kind) := row_cell hn hrw he 8 (by decide)
        have d9 : wr.cell? ⟨g, k * 15 + 9, none⟩ = some (.int .i64 e.status) := row_cell hn hrw he 9 (by decide)
        have d10 : wr.cell? ⟨g, k * 15 + 10, none⟩ = some (.string e.route) := row_cell hn hrw he 10 (by decide)
        have d11 : wr.cell? ⟨g, k * 15 + 11, none⟩ = some (.int .i64 e.rule) := row_cell hn hrw he 11 (by decide)
        have d12 : wr.cell? ⟨g, k * 15 + 12, none⟩ = some (.string e.service) := row_cell hn hrw he 12 (by decide)
        have d13 : wr.cell? ⟨g, k * 15 + 13, none⟩ = some (.string e.endp) := row_cell hn hrw he 13 (by decide)
        have d14 : wr.cell? ⟨g, k * 15 + 14, none⟩ = some (.int .i64 e.fin) := row_cell hn hrw he 14 (by decide)
        have hlw := pline_walk wr e hg1 (tab_later Htab.out (Hb1.out.trans (hT.below.mono Hb1.out.size)))
        rw [line_yes hg2 hg3] at hlw
        have Hl := Lib.hid hlw
        have Hla := Lib.hid (fun w2 (hb : Below wr.heap.size wr w2) => hT.later hb)
        have Hnx := Lib.hid (text_next he)
        have hrm : (textL (es.take k)).length + (lineL e).length ≤ 40000000 := by
          have h1 := text_take es (k + 1)
          rw [text_next he, List.length_append, ← HTsz.out] at h1
          have := Hs.out
          omega
        have Hrm := Lib.hid hrm
        have wk := wrap_big (show k ≤ 4000000000 by have := Hle.out; omega)
        have Hms := Lib.hid (meas_step hkn wk)
        have Hgo := Lib.hid (go_step wk)
        have Hkn := Lib.hid hkn
        clear hn hk hT H hkn he hrw hg1 hg2 hg3 wk hlw hrm
        go_wp2_with fail
        refine Hl.out.mono ?_
        rintro r w2 ⟨rfl, hb⟩
        have hT2 := Hla.out w2 hb
        have Hown := Lib.hid hT2.row
        have HT2 := Lib.hid hT2
        have Hsz := Lib.hid hT2.below.size
        have H63 := Lib.hid (show (textL (es.take k)).length + (⟨(lineL e).toArray⟩ : ByteArray).size ≤ maxLen from Nat.le_trans Hrm.out (by decide))
        have H47 := Lib.hid (show (textL (es.take k)).length + (⟨(lineL e).toArray⟩ : ByteArray).size ≤ 140737488355328 from Nat.le_trans Hrm.out (by decide))
        clear hT2 hb Hl Hla Hrm d0 d1 d2 d3 d4 d5 d6 d7 d8 d9 d10 d11 d12 d13 d14
        dsimp only
        go_wp2_with (at_builtin; go_loud (refine Lib.wpList_append_own_string _ rfl _ _ 79 9 rfl w1.heap.size 5 i0 Tryd.underlying79 Tryd.underlying9 Hi.out.1 Hi.out.2.1 Hi.out.2.2.1 Hi.out.2.2.2 vb _ _ rfl Hown.out ⟨(lineL e).toArray⟩ rfl H63.out H47.out Hsz.out ?_; intro v' w3 own2 gr2 _; have hT3 := HT2.out.app own2 gr2; rw [← Hnx.out] at hT3; have Hend := Lib.hid (And.intro Hkn.out hT3); clear own2 gr2 hT3))
        go_roundw
        case rel => exact ⟨k + 1, _, rfl, Hgo.out, Hend⟩
        case measure => exact Hms.out
      · have b1 : (n : Int) ≤ (k : Int) := by omega
        rw [List.take_of_length_le (by omega)] at hT
        have hcv := conv_row hT.row
        have he : (⟨(textL es).toArray⟩ : ByteArray) = t := ByteArray.ext (Array.ext' (by rw [Hx.out]; rfl))
        rw [he] at hcv
        have Hend := Lib.hid (Hb1.out.trans (hT.below.mono Hb1.out.size))
        have t1 : (t.toList == t.toList) = true := beq_self_eq_true _
        clear hn hk hT H hkn he
        go_wp2
        exact Hfin.out _ _ rfl rfl Hend.out

end Go.Proofs.YthpflfcgnaichaaDoor
