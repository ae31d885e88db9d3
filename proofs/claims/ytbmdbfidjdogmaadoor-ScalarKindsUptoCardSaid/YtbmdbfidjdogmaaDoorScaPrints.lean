/-
The walk of ScalarPrints.
-/
import Derived.Test.YtbmdbfidjdogmaaDoorScaRefPrint
import Derived.Lib.LaidTab
set_option linter.unusedVariables false
set_option linter.unusedSimpArgs false
namespace Go.Proofs.YtbmdbfidjdogmaaDoor
open Go Go.RowKit

theorem RealS.unique {x : Nat} {l l' : List UInt8} {er er' : Int} (h : RealS x l er) (h' : RealS x l' er') : l = l' ∧ er = er' := by
  rcases h with ⟨a1, a2, a3⟩ | ⟨a1, a2, a3⟩ | ⟨a1, a2, a3⟩ | ⟨a1, a2, M, k, e, a3, a4⟩ <;> rcases h' with ⟨b1, b2, b3⟩ | ⟨b1, b2, b3⟩ | ⟨b1, b2, b3⟩ | ⟨b1, b2, M', k', e', b3, b4⟩ <;>
    first | (exfalso; unfold INF at *; omega) | exact ⟨a2.trans b2.symm, a3.trans b3.symm⟩ | skip
  obtain ⟨rfl, rfl, rfl⟩ := Dec.unique a3 b3
  rcases a4 with ⟨q1, q2, q3⟩ | ⟨q1, q2, q3⟩ <;> rcases b4 with ⟨r1, r2, r3⟩ | ⟨r1, r2, r3⟩ <;> first | (exfalso; omega) | exact ⟨q2.trans r2.symm, q3.trans r3.symm⟩

theorem PrintS.unique {v : Val} {l l' : List UInt8} {q q' : Bool} {er er' : Int} (h : PrintS v l q er) (h' : PrintS v l' q' er') : l = l' ∧ q = q' ∧ er = er' := by
  rcases h with ⟨a1, a2, a3, a4⟩ | ⟨a1, a2, a3, a4⟩ | ⟨a1, a2, a3, a4⟩ | ⟨a1, a2, a3⟩ | ⟨a1, a2, a3, a4⟩ | ⟨a1, a2, a3, a4⟩ <;> rcases h' with ⟨b1, b2, b3, b4⟩ | ⟨b1, b2, b3, b4⟩ | ⟨b1, b2, b3, b4⟩ | ⟨b1, b2, b3⟩ | ⟨b1, b2, b3, b4⟩ | ⟨b1, b2, b3, b4⟩ <;>
    first | (exfalso; omega) | exact ⟨a2.trans b2.symm, a3.trans b3.symm, a4.trans b4.symm⟩ | exact ⟨(RealS.unique a2 b2).1, a3.trans b3.symm, (RealS.unique a2 b2).2⟩

/-- The memory while two values are looked at: their two blocks stand. -/
structure CW (w w' : World) (t : Nat) (a b : Val) : Prop where
  below : Below w.heap.size w w'
  a : w'.heap[w.heap.size]? = some (.cells #[.int .i64 a.kind, .bool a.bool, .int .i64 a.int, .float .f64 a.real, .string a.text] t (0, 0))
  b : w'.heap[w.heap.size + 1]? = some (.cells #[.int .i64 b.kind, .bool b.bool, .int .i64 b.int, .float .f64 b.real, .string b.text] t (0, 0))

theorem CW.first (w : World) (t : Nat) (a b : Val) : CW w ((w.alloc (Obj.cells #[.int .i64 a.kind, .bool a.bool, .int .i64 a.int, .float .f64 a.real, .string a.text] t)).alloc (Obj.cells #[.int .i64 b.kind, .bool b.bool, .int .i64 b.int, .float .f64 b.real, .string b.text] t)) t a b where
  below := two_new _ _ _
  a := by simp [World.alloc, -World.alloc_eq, Array.getElem?_push]
  b := by
    show ((w.heap.push _).push _)[w.heap.size + 1]? = _
    rw [Array.getElem?_push, if_pos (by simp)]

theorem CW.lt {w w' : World} {t : Nat} {a b : Val} (h : CW w w' t a b) : w.heap.size + 1 < w'.heap.size := by
  rcases Nat.lt_or_ge (w.heap.size + 1) w'.heap.size with q | q
  · exact q
  · have := h.b
    rw [Array.getElem?_eq_none q] at this; cases this

theorem CW.later {w w' w2 : World} {t : Nat} {a b : Val} (h : CW w w' t a b) (hb : Below w'.heap.size w' w2) : CW w w2 t a b := by
  have hlt := h.lt
  exact ⟨h.below.trans (hb.mono h.below.size), (hb.block _ (by omega)).trans h.a, (hb.block _ hlt).trans h.b⟩

theorem CW.drew {w w' : World} {t : Nat} {a b : Val} (h : CW w w' t a b) : CW w w'.drew t a b :=
  ⟨⟨h.below.os, h.below.tape, h.below.output, h.below.size, h.below.block⟩, h.a, h.b⟩

/-- The cells of both. -/
def CW5 (w' : World) (bl : Nat) (a : Val) : Prop :=
  w'.cell? ⟨bl, 0, none⟩ = some (.int .i64 a.kind) ∧ w'.cell? ⟨bl, 1, none⟩ = some (.bool a.bool) ∧ w'.cell? ⟨bl, 2, none⟩ = some (.int .i64 a.int) ∧ w'.cell? ⟨bl, 3, none⟩ = some (.float .f64 a.real) ∧ w'.cell? ⟨bl, 4, none⟩ = some (.string a.text)

theorem CW.ca {w w' : World} {t : Nat} {a b : Val} (h : CW w w' t a b) : CW5 w' w.heap.size a := (cells_facts_t h.a).1
theorem CW.cb {w w' : World} {t : Nat} {a b : Val} (h : CW w w' t a b) : CW5 w' (w.heap.size + 1) b := (cells_facts_t h.b).1

theorem tab_later {w w2 : World} (h : Tab w) (hb : Below w.heap.size w w2) : Tab w2 := by
  unfold Tab Lib.TabIs World.var? at *
  cases hg : Tryd.prog.globalNamed "internal/strconv.uint64pow10" with
  | none => simp [hg] at h
  | some g =>
    simp only [hg, Option.bind_some] at h ⊢
    have hlt : g < w.heap.size := by
      rcases Nat.lt_or_ge g w.heap.size with h' | h'
      · exact h'
      · rw [Array.getElem?_eq_none h'] at h; simp at h
    rw [hb.block g hlt]
    exact h

theorem laid_later {w w2 : World} (h : RangeLaid w) (hb : Below w.heap.size w w2) : RangeLaid w2 := by
  obtain ⟨ev, q1, q2⟩ := h
  exact ⟨ev, (hb.cell (p := ⟨3, 0, none⟩) (lt_of_cell q1)).trans q1, q2⟩

theorem cw_all {w w' : World} {t : Nat} {a b : Val} (h : CW w w' t a b) : w'.cell? ⟨w.heap.size, 0, none⟩ = some (.int .i64 a.kind) ∧ w'.cell? ⟨w.heap.size, 1, none⟩ = some (.bool a.bool) ∧ w'.cell? ⟨w.heap.size, 2, none⟩ = some (.int .i64 a.int) ∧ w'.cell? ⟨w.heap.size, 3, none⟩ = some (.float .f64 a.real) ∧ w'.cell? ⟨w.heap.size, 4, none⟩ = some (.string a.text) ∧ w'.cell? ⟨w.heap.size + 1, 0, none⟩ = some (.int .i64 b.kind) ∧ w'.cell? ⟨w.heap.size + 1, 1, none⟩ = some (.bool b.bool) ∧ w'.cell? ⟨w.heap.size + 1, 2, none⟩ = some (.int .i64 b.int) ∧ w'.cell? ⟨w.heap.size + 1, 3, none⟩ = some (.float .f64 b.real) ∧ w'.cell? ⟨w.heap.size + 1, 4, none⟩ = some (.string b.text) ∧ CW w w' t a b := by
  obtain ⟨a0, a1, a2, a3, a4⟩ := h.ca
  obtain ⟨b0, b1, b2, b3, b4⟩ := h.cb
  exact ⟨a0, a1, a2, a3, a4, b0, b1, b2, b3, b4, h⟩

theorem cw_below {w w1 : World} {t : Nat} {a b : Val} (h : w1.cell? ⟨w.heap.size, 0, none⟩ = some (.int .i64 a.kind) ∧ w1.cell? ⟨w.heap.size, 1, none⟩ = some (.bool a.bool) ∧ w1.cell? ⟨w.heap.size, 2, none⟩ = some (.int .i64 a.int) ∧ w1.cell? ⟨w.heap.size, 3, none⟩ = some (.float .f64 a.real) ∧ w1.cell? ⟨w.heap.size, 4, none⟩ = some (.string a.text) ∧ w1.cell? ⟨w.heap.size + 1, 0, none⟩ = some (.int .i64 b.kind) ∧ w1.cell? ⟨w.heap.size + 1, 1, none⟩ = some (.bool b.bool) ∧ w1.cell? ⟨w.heap.size + 1, 2, none⟩ = some (.int .i64 b.int) ∧ w1.cell? ⟨w.heap.size + 1, 3, none⟩ = some (.float .f64 b.real) ∧ w1.cell? ⟨w.heap.size + 1, 4, none⟩ = some (.string b.text) ∧ CW w w1 t a b) : Below w.heap.size w w1 := h.2.2.2.2.2.2.2.2.2.2.below

theorem cw_step {w w1 w2 : World} {t : Nat} {a b : Val} (h : w1.cell? ⟨w.heap.size, 0, none⟩ = some (.int .i64 a.kind) ∧ w1.cell? ⟨w.heap.size, 1, none⟩ = some (.bool a.bool) ∧ w1.cell? ⟨w.heap.size, 2, none⟩ = some (.int .i64 a.int) ∧ w1.cell? ⟨w.heap.size, 3, none⟩ = some (.float .f64 a.real) ∧ w1.cell? ⟨w.heap.size, 4, none⟩ = some (.string a.text) ∧ w1.cell? ⟨w.heap.size + 1, 0, none⟩ = some (.int .i64 b.kind) ∧ w1.cell? ⟨w.heap.size + 1, 1, none⟩ = some (.bool b.bool) ∧ w1.cell? ⟨w.heap.size + 1, 2, none⟩ = some (.int .i64 b.int) ∧ w1.cell? ⟨w.heap.size + 1, 3, none⟩ = some (.float .f64 b.real) ∧ w1.cell? ⟨w.heap.size + 1, 4, none⟩ = some (.string b.text) ∧ CW w w1 t a b) (hb : Below w1.heap.size w1 w2) : w2.cell? ⟨w.heap.size, 0, none⟩ = some (.int .i64 a.kind) ∧ w2.cell? ⟨w.heap.size, 1, none⟩ = some (.bool a.bool) ∧ w2.cell? ⟨w.heap.size, 2, none⟩ = some (.int .i64 a.int) ∧ w2.cell? ⟨w.heap.size, 3, none⟩ = some (.float .f64 a.real) ∧ w2.cell? ⟨w.heap.size, 4, none⟩ = some (.string a.text) ∧ w2.cell? ⟨w.heap.size + 1, 0, none⟩ = some (.int .i64 b.kind) ∧ w2.cell? ⟨w.heap.size + 1, 1, none⟩ = some (.bool b.bool) ∧ w2.cell? ⟨w.heap.size + 1, 2, none⟩ = some (.int .i64 b.int) ∧ w2.cell? ⟨w.heap.size + 1, 3, none⟩ = some (.float .f64 b.real) ∧ w2.cell? ⟨w.heap.size + 1, 4, none⟩ = some (.string b.text) ∧ CW w w2 t a b :=
  cw_all (h.2.2.2.2.2.2.2.2.2.2.later hb)

set_option maxHeartbeats 4000000 in
set_option maxRecDepth 20000 in
theorem prints_walk (w : World) (a b : Val) (ha : a.Ok) (hb : b.Ok) (htab : Tab w) (hl : RangeLaid w) :
    Calls Tryd.prog 6 #[a.v, b.v] w fun e w' => e = .returned (.bool true) ∧ Below w.heap.size w w' := by
  have Ha := Lib.hid (fun w => own_walk w a)
  have Hb := Lib.hid (fun w => own_walk w b)
  have Hp := Lib.hid (fun w h1 h2 => print_walk w a ha h1 h2)
  have Hr := Lib.hid (fun w h2 => refPrint_walk w a ha h2)
  obtain ⟨s1, hs1⟩ : ∃ s1, s1 = sameG sgnF a b := ⟨_, rfl⟩
  obtain ⟨s2, hs2⟩ : ∃ s2, s2 = sameG sgnF a a := ⟨_, rfl⟩
  have H1 := Lib.hid (fun w => sameP_walk w a b ha.r hb.r)
  have H2 := Lib.hid (fun w => sameR_walk w a b ha.r hb.r)
  have H3 := Lib.hid (fun w => sameP_walk w a a ha.r ha.r)
  have H4 := Lib.hid (fun w => sameR_walk w a a ha.r ha.r)
  rw [← same_eq ha.r hb.r] at H2
  rw [← same_eq ha.r ha.r] at H4
  rw [← hs1] at H1 H2
  rw [← hs2] at H3 H4
  have q1 : (s1 == s1) = true := beq_self_eq_true s1
  have q2 : (s2 == s2) = true := beq_self_eq_true s2
  have hcw := CW.first w 27 a b
  have Hcw := Lib.hid hcw
  have Htab := Lib.hid (tab_later htab hcw.below)
  have Hl := Lib.hid (laid_later hl hcw.below)
  clear hcw hs1 hs2 ha hb htab hl
  obtain ⟨ak, ab, ai, ax, at'⟩ := a
  obtain ⟨bk, bb, bi, bx, bt⟩ := b
  unfold Val.v valV at *
  dsimp only at Ha Hb Hp Hr H1 H2 H3 H4 Hcw ⊢
  go_enter Tryd.func6, Tryd.ntmps6
  go_wp2_with fail
  refine (Ha.out _).mono ?_
  rintro e w1 ⟨rfl, hb1⟩
  have Hcw1 := Lib.hid (Hcw.out.later hb1)
  have Htab1 := Lib.hid (tab_later Htab.out hb1)
  have Hl1 := Lib.hid (laid_later Hl.out hb1)
  clear hb1 Htab Hl Hcw
  go_wp2_with fail
  refine (Hp.out _ Htab1.out Hl1.out).mono ?_
  rintro e w2 ⟨s, q, er, rfl, hb2, hP⟩
  have Hcw2 := Lib.hid (Hcw1.out.later hb2)
  have Hl2 := Lib.hid (laid_later Hl1.out hb2)
  have HP := Lib.hid hP
  clear hb2 Htab1 Hl1 Hcw1 Hp hP
  obtain ⟨a0, a1, a2, a3, a4⟩ := Hcw2.out.ca
  dsimp only at a0 a1 a2 a3 a4
  go_wp2_with fail
  refine (Hr.out _ Hl2.out).mono ?_
  rintro e w3 ⟨s', q', er', rfl, hb3, hR⟩
  obtain ⟨hs, rfl, rfl⟩ := PrintS.unique HP.out hR
  obtain rfl : s = s' := ByteArray.ext (Array.toList_inj.1 hs)
  have Hcw3 := Lib.hid (Hcw2.out.later hb3)
  clear hb3 Hl2 Hcw2 Hr hR hs HP a0 a1 a2 a3 a4
  have p1 : (s.toList == s.toList) = true := beq_self_eq_true _
  have p2 : (q == q) = true := beq_self_eq_true q
  have p3 : (er == er) = true := beq_self_eq_true er
  go_wp2_with fail
  go_region_held3 (fun w' => w'.cell? ⟨w.heap.size, 0, none⟩ = some (.int .i64 ak) ∧ w'.cell? ⟨w.heap.size, 1, none⟩ = some (.bool ab) ∧ w'.cell? ⟨w.heap.size, 2, none⟩ = some (.int .i64 ai) ∧ w'.cell? ⟨w.heap.size, 3, none⟩ = some (.float .f64 ax) ∧ w'.cell? ⟨w.heap.size, 4, none⟩ = some (.string at') ∧ w'.cell? ⟨w.heap.size + 1, 0, none⟩ = some (.int .i64 bk) ∧ w'.cell? ⟨w.heap.size + 1, 1, none⟩ = some (.bool bb) ∧ w'.cell? ⟨w.heap.size + 1, 2, none⟩ = some (.int .i64 bi) ∧ w'.cell? ⟨w.heap.size + 1, 3, none⟩ = some (.float .f64 bx) ∧ w'.cell? ⟨w.heap.size + 1, 4, none⟩ = some (.string bt) ∧ CW w w' 27 ⟨ak, ab, ai, ax, at'⟩ ⟨bk, bb, bi, bx, bt⟩) (first | exact cw_all Hcw3.out.drew | (refine cw_step (t := 27) (a := ⟨ak, ab, ai, ax, at'⟩) (b := ⟨bk, bb, bi, bx, bt⟩) ?_ hb; assumption) | assumption)
    (first
      | (go_at_call 17; first | ((with_reducible refine (Ha.out _).mono ?_); rintro e w' ⟨rfl, hb⟩) | ((with_reducible refine (Hb.out _).mono ?_); rintro e w' ⟨rfl, hb⟩))
      | (go_at_call 19; first | ((with_reducible refine (H1.out _).mono ?_); rintro e w' ⟨rfl, hb⟩) | ((with_reducible refine (H3.out _).mono ?_); rintro e w' ⟨rfl, hb⟩))
      | (go_at_call 20; first | ((with_reducible refine (H2.out _).mono ?_); rintro e w' ⟨rfl, hb⟩) | ((with_reducible refine (H4.out _).mono ?_); rintro e w' ⟨rfl, hb⟩)))
  all_goals go_wp2
  all_goals go_ret
  all_goals exact ⟨rfl, cw_below (t := 27) (a := ⟨ak, ab, ai, ax, at'⟩) (b := ⟨bk, bb, bi, bx, bt⟩) (by assumption)⟩

end Go.Proofs.YtbmdbfidjdogmaaDoor
