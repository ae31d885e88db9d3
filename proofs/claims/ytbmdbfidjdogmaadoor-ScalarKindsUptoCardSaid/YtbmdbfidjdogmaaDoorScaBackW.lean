/-
The walk of ScalarBack.
-/
import Derived.Test.YtbmdbfidjdogmaaDoorScaAwake
set_option linter.unusedVariables false
set_option linter.unusedSimpArgs false
namespace Go.Proofs.YtbmdbfidjdogmaaDoor
open Go Go.RowKit

/-- The memory goes on, and a value's block stands. -/
structure VW (w w' : World) (bl t : Nat) (a : Val) : Prop where
  g : GW w w'
  a : w'.heap[bl]? = some (.cells #[.int .i64 a.kind, .bool a.bool, .int .i64 a.int, .float .f64 a.real, .string a.text] t (0, 0))

theorem blk_lt {w : World} {bl : Nat} {o : Obj} (h : w.heap[bl]? = some o) : bl < w.heap.size := by
  rcases Nat.lt_or_ge bl w.heap.size with q | q
  · exact q
  · rw [Array.getElem?_eq_none q] at h; cases h

theorem VW.later {w w' w2 : World} {bl t : Nat} {a : Val} (h : VW w w' bl t a) (hb : Below w'.heap.size w' w2) : VW w w2 bl t a :=
  ⟨h.g.later hb, (hb.block _ (blk_lt h.a)).trans h.a⟩

theorem VW.drew {w w' : World} {bl t : Nat} {a : Val} (h : VW w w' bl t a) : VW w w'.drew bl t a :=
  ⟨⟨⟨h.g.below.os, h.g.below.tape, h.g.below.output, h.g.below.size, h.g.below.block⟩, h.g.tab, h.g.laid⟩, h.a⟩

theorem VW.drewN {w w' : World} {bl t : Nat} {a : Val} (h : VW w w' bl t a) (n : Nat) : VW w (w'.drewN n) bl t a :=
  ⟨⟨⟨h.g.below.os, h.g.below.tape, h.g.below.output, h.g.below.size, h.g.below.block⟩, h.g.tab, h.g.laid⟩, h.a⟩

theorem VW.cells {w w' : World} {bl t : Nat} {a : Val} (h : VW w w' bl t a) : CW5 w' bl a := (cells_facts_t h.a).1

theorem vw_all {w w' : World} {bl t : Nat} {a : Val} (h : VW w w' bl t a) : w'.cell? ⟨bl, 0, none⟩ = some (.int .i64 a.kind) ∧ w'.cell? ⟨bl, 1, none⟩ = some (.bool a.bool) ∧ w'.cell? ⟨bl, 2, none⟩ = some (.int .i64 a.int) ∧ w'.cell? ⟨bl, 3, none⟩ = some (.float .f64 a.real) ∧ w'.cell? ⟨bl, 4, none⟩ = some (.string a.text) ∧ VW w w' bl t a := by
  obtain ⟨a0, a1, a2, a3, a4⟩ := h.cells
  exact ⟨a0, a1, a2, a3, a4, h⟩

theorem vw_step {w w1 w2 : World} {bl t : Nat} {a : Val} (h : w1.cell? ⟨bl, 0, none⟩ = some (.int .i64 a.kind) ∧ w1.cell? ⟨bl, 1, none⟩ = some (.bool a.bool) ∧ w1.cell? ⟨bl, 2, none⟩ = some (.int .i64 a.int) ∧ w1.cell? ⟨bl, 3, none⟩ = some (.float .f64 a.real) ∧ w1.cell? ⟨bl, 4, none⟩ = some (.string a.text) ∧ VW w w1 bl t a) (hb : Below w1.heap.size w1 w2) :
    w2.cell? ⟨bl, 0, none⟩ = some (.int .i64 a.kind) ∧ w2.cell? ⟨bl, 1, none⟩ = some (.bool a.bool) ∧ w2.cell? ⟨bl, 2, none⟩ = some (.int .i64 a.int) ∧ w2.cell? ⟨bl, 3, none⟩ = some (.float .f64 a.real) ∧ w2.cell? ⟨bl, 4, none⟩ = some (.string a.text) ∧ VW w w2 bl t a := vw_all (h.2.2.2.2.2.later hb)

theorem vw_laid {w w1 : World} {bl t : Nat} {a : Val} (h : w1.cell? ⟨bl, 0, none⟩ = some (.int .i64 a.kind) ∧ w1.cell? ⟨bl, 1, none⟩ = some (.bool a.bool) ∧ w1.cell? ⟨bl, 2, none⟩ = some (.int .i64 a.int) ∧ w1.cell? ⟨bl, 3, none⟩ = some (.float .f64 a.real) ∧ w1.cell? ⟨bl, 4, none⟩ = some (.string a.text) ∧ VW w w1 bl t a) : RangeLaid w1 := h.2.2.2.2.2.g.laid

theorem vw_of {w w1 : World} {bl t : Nat} {a : Val} (h : w1.cell? ⟨bl, 0, none⟩ = some (.int .i64 a.kind) ∧ w1.cell? ⟨bl, 1, none⟩ = some (.bool a.bool) ∧ w1.cell? ⟨bl, 2, none⟩ = some (.int .i64 a.int) ∧ w1.cell? ⟨bl, 3, none⟩ = some (.float .f64 a.real) ∧ w1.cell? ⟨bl, 4, none⟩ = some (.string a.text) ∧ VW w w1 bl t a) : VW w w1 bl t a := h.2.2.2.2.2

theorem GW.alloc {w w' : World} (h : GW w w') (o : Obj) : GW w (w'.alloc o) := h.later ((Below.refl _ _).alloc (Nat.le_refl _) _)

theorem VW.new {w w' : World} (h : GW w w') (t : Nat) (a : Val) : VW w (w'.alloc (.cells #[.int .i64 a.kind, .bool a.bool, .int .i64 a.int, .float .f64 a.real, .string a.text] t)) w'.heap.size t a :=
  ⟨h.alloc _, by simp [World.alloc, -World.alloc_eq]⟩

/-- What a printed text reads as, and that it is the same value. -/
theorem read_back (w : World) {v : Val} (hv : v.Ok) {s : ByteArray} {q : Bool} (hP : PrintS v s.data.toList q 0) (hl : RangeLaid w) :
    Calls Tryd.prog 9 #[.string s, .bool q] w fun e w' => e = .returned (canon v).v ∧ Below w.heap.size w w' := by
  have h := read_walk w s (by rw [← size_list]; exact print_len hv hP) q hl
  unfold ReadPost at h
  rw [back_reads hv hP rfl] at h
  exact h

theorem canon_ok {v : Val} (hv : v.Ok) {s : ByteArray} {q : Bool} (hP : PrintS v s.data.toList q 0) : (canon v).Ok := by
  rw [← back_reads hv hP rfl]
  exact readS_ok (by rw [← size_list]; exact print_len hv hP) q

set_option maxHeartbeats 4000000 in
set_option maxRecDepth 20000 in
theorem back_walk (w : World) (v : Val) (hv : v.Ok) (t : ByteArray) (ht : t.size ≤ 2097152) (quoted : Bool) (htab : Tab w) (hl : RangeLaid w) :
    Calls Tryd.prog 7 #[v.v, .string t, .bool quoted] w fun e w' => e = .returned (.bool true) ∧ Below w.heap.size w w' := by
  have Haw := Lib.hid awake_walk
  have Ha := Lib.hid (fun w => own_walk w v)
  have Hp := Lib.hid (fun w h1 h2 => print_walk w v hv h1 h2)
  -- the text that comes in
  obtain ⟨x, hx⟩ : ∃ x, x = readS t quoted := ⟨_, rfl⟩
  have hxok : x.Ok := by rw [hx]; exact readS_ok ht quoted
  have hxc : canon x = x := by rw [hx]; exact canon_read t quoted
  have hxk := readS_kind t quoted
  rw [← hx] at hxk
  have hxp : ∀ l r er, PrintS x l r er → er = 0 := fun l r er h => read_prints t quoted (hx ▸ h)
  have hr := fun w h => read_walk w t ht quoted h
  unfold ReadPost at hr
  rw [← hx] at hr
  have Hr := Lib.hid hr
  have Hxp := Lib.hid hxp
  have Hpx := Lib.hid (fun w h1 h2 => print_walk w x hxok h1 h2)
  have hsx : sameG sgnF x x = true := by
    have := same_canon hxok hxk.1 hxk.2.1
    rwa [hxc] at this
  have hs := fun w => sameP_walk w x x hxok.r hxok.r
  rw [hsx] at hs
  have Hsx := Lib.hid hs
  have hrb := fun (w : World) (s : ByteArray) (q : Bool) (hP : PrintS x s.data.toList q 0) (hl : RangeLaid w) => read_back w hxok hP hl
  rw [hxc] at hrb
  have Hrb := Lib.hid hrb
  have Hv := Lib.hid hv
  have G0 := Lib.hid (show GW w w from ⟨Below.refl _ _, htab, hl⟩)
  have hv0 := VW.new G0.out 27 v
  have V0 := Lib.hid hv0
  clear hx hxok hxc hxk hxp hr hsx hs hrb hv htab hl ht hv0
  obtain ⟨ak, ab, ai, ax, at'⟩ := v
  obtain ⟨xk, xb, xi, xx, xt⟩ := x
  unfold Val.v valV at *
  dsimp only at Ha Hp Hr Hpx Hsx Hrb V0 ⊢
  have hst := @store_float
  go_enter Tryd.func7, Tryd.ntmps7
  go_wp2_with fail
  refine (Haw.out _ V0.out.g.tab V0.out.g.laid).mono ?_
  rintro e w1 ⟨rfl, hb⟩
  have V1 := Lib.hid (V0.out.later hb)
  clear hb V0 Haw
  obtain ⟨a0, a1, a2, a3, a4⟩ := V1.out.cells
  dsimp only at a0 a1 a2 a3 a4
  go_wp2_with fail
  refine (Ha.out _).mono ?_
  rintro e w2 ⟨rfl, hb⟩
  have V2 := Lib.hid (V1.out.later hb)
  clear hb V1 a0 a1 a2 a3 a4
  go_wp2_with fail
  refine (Hp.out _ V2.out.g.tab V2.out.g.laid).mono ?_
  rintro e w3 ⟨s, q, er, rfl, hb, hP⟩
  have V3 := Lib.hid (V2.out.later hb)
  have HP := Lib.hid hP
  clear hb V2 Hp hP
  go_wp2_with fail
  by_cases he0 : er = 0
  · subst he0
    have Hrv := Lib.hid (fun w h => read_back w Hv.out HP.out h)
    have hss := same_canon Hv.out (print_kind HP.out).1 (print_kind HP.out).2
    have hs2 := fun w => sameP_walk w (canon ⟨ak, ab, ai, ax, at'⟩) ⟨ak, ab, ai, ax, at'⟩ (canon_ok Hv.out HP.out).r Hv.out.r
    rw [hss] at hs2
    have Hs2 := Lib.hid hs2
    clear hss hs2
    generalize canon ⟨ak, ab, ai, ax, at'⟩ = cv at *
    obtain ⟨ck, cb, ci, cx, ct⟩ := cv
    unfold Val.v valV at Hrv Hs2
    dsimp only at Hrv Hs2
    go_region_held3 (fun w' => w'.cell? ⟨w.heap.size, 0, none⟩ = some (.int .i64 ak) ∧ w'.cell? ⟨w.heap.size, 1, none⟩ = some (.bool ab) ∧ w'.cell? ⟨w.heap.size, 2, none⟩ = some (.int .i64 ai) ∧ w'.cell? ⟨w.heap.size, 3, none⟩ = some (.float .f64 ax) ∧ w'.cell? ⟨w.heap.size, 4, none⟩ = some (.string at') ∧ VW w w' w.heap.size 27 ⟨ak, ab, ai, ax, at'⟩)
      (first | exact vw_all V3.out.drew | (refine vw_step (t := 27) (a := ⟨ak, ab, ai, ax, at'⟩) ?_ hb; assumption) | assumption)
      (first
        | (go_at_call 9; (with_reducible refine (Hrv.out _ ?_).mono ?_); (refine vw_laid (w := w) (bl := w.heap.size) (t := 27) (a := ⟨ak, ab, ai, ax, at'⟩) ?_; assumption); rintro e w' ⟨rfl, hb⟩)
        | (go_at_call 17; (with_reducible refine (Ha.out _).mono ?_); rintro e w' ⟨rfl, hb⟩)
        | (go_at_call 19; (with_reducible refine (Hs2.out _).mono ?_); rintro e w' ⟨rfl, hb⟩))
    have V4 := Lib.hid (vw_of (w := w) (bl := w.heap.size) (t := 27) (a := ⟨ak, ab, ai, ax, at'⟩) (by assumption))
    go_wp2_with fail
    refine (Hr.out _ V4.out.g.laid).mono ?_
    rintro e w5 ⟨rfl, hb⟩
    have G5 := Lib.hid (V4.out.g.later hb)
    clear hb V4 Hr
    have hX := VW.new G5.out 25 ⟨xk, xb, xi, xx, xt⟩
    have X5 := Lib.hid hX
    clear hX G5
    go_wp2_with fail
    refine (Hpx.out _ X5.out.g.tab X5.out.g.laid).mono ?_
    rintro e w6 ⟨s2, q2, er2, rfl, hb, hP2⟩
    obtain rfl := Hxp.out _ _ _ hP2
    have HP2 := Lib.hid hP2
    have X6 := Lib.hid (X5.out.later hb)
    clear hb hP2 X5
    go_wp2_with fail
    refine (Hrb.out _ s2 q2 HP2.out X6.out.g.laid).mono ?_
    rintro e w7 ⟨rfl, hb⟩
    have X7 := Lib.hid (X6.out.later hb)
    clear hb X6 Hrb
    have hY := VW.new X7.out.g 25 ⟨xk, xb, xi, xx, xt⟩
    have X8 := Lib.hid (X7.out.later ((Below.refl _ w7).alloc (Nat.le_refl _) (.cells #[.int .i64 xk, .bool xb, .int .i64 xi, .float .f64 xx, .string xt] 25)))
    have Y8 := Lib.hid hY
    clear hY X7
    go_wp2_with fail
    refine (Hpx.out _ Y8.out.g.tab Y8.out.g.laid).mono ?_
    rintro e w9 ⟨s3, q3, er3, rfl, hb, hP3⟩
    obtain ⟨hs, rfl, rfl⟩ := PrintS.unique HP2.out hP3
    obtain rfl : s2 = s3 := ba_ext hs
    have X9 := Lib.hid (X8.out.later hb)
    have Y9 := Lib.hid (Y8.out.later hb)
    clear hb X8 Y8 hP3 hs Hpx
    obtain ⟨x0, x1, x2, x3, x4⟩ := X9.out.cells
    obtain ⟨y0, y1, y2, y3, y4⟩ := Y9.out.cells
    dsimp only at x0 x1 x2 x3 x4 y0 y1 y2 y3 y4
    have p1 : (s2.toList == s2.toList) = true := beq_self_eq_true _
    have p2 : (q2 == q2) = true := beq_self_eq_true q2
    go_wp2_with fail
    refine (Hsx.out _).mono ?_
    rintro e w10 ⟨rfl, hb⟩
    have X10 := Lib.hid (X9.out.later hb)
    clear hb X9 Y9
    go_wp2
    go_ret
    exact ⟨rfl, X10.out.g.below⟩
  · obtain ⟨hl, rfl, rfl⟩ := print_err HP.out he0
    obtain rfl : s = ⟨#[]⟩ := ba_ext hl
    go_quiet (fail)
    have V4 := Lib.hid (fun n => V3.out.drewN n)
    go_wp2_with fail
    refine (Hr.out _ (V4.out _).g.laid).mono ?_
    rintro e w5 ⟨rfl, hb⟩
    have G5 := Lib.hid ((V4.out _).g.later hb)
    clear hb V4 Hr
    have hX := VW.new G5.out 25 ⟨xk, xb, xi, xx, xt⟩
    have X5 := Lib.hid hX
    clear hX G5
    go_wp2_with fail
    refine (Hpx.out _ X5.out.g.tab X5.out.g.laid).mono ?_
    rintro e w6 ⟨s2, q2, er2, rfl, hb, hP2⟩
    obtain rfl := Hxp.out _ _ _ hP2
    have HP2 := Lib.hid hP2
    have X6 := Lib.hid (X5.out.later hb)
    clear hb hP2 X5
    go_wp2_with fail
    refine (Hrb.out _ s2 q2 HP2.out X6.out.g.laid).mono ?_
    rintro e w7 ⟨rfl, hb⟩
    have X7 := Lib.hid (X6.out.later hb)
    clear hb X6 Hrb
    have hY := VW.new X7.out.g 25 ⟨xk, xb, xi, xx, xt⟩
    have X8 := Lib.hid (X7.out.later ((Below.refl _ w7).alloc (Nat.le_refl _) (.cells #[.int .i64 xk, .bool xb, .int .i64 xi, .float .f64 xx, .string xt] 25)))
    have Y8 := Lib.hid hY
    clear hY X7
    go_wp2_with fail
    refine (Hpx.out _ Y8.out.g.tab Y8.out.g.laid).mono ?_
    rintro e w9 ⟨s3, q3, er3, rfl, hb, hP3⟩
    obtain ⟨hs, rfl, rfl⟩ := PrintS.unique HP2.out hP3
    obtain rfl : s2 = s3 := ba_ext hs
    have X9 := Lib.hid (X8.out.later hb)
    have Y9 := Lib.hid (Y8.out.later hb)
    clear hb X8 Y8 hP3 hs Hpx
    obtain ⟨x0, x1, x2, x3, x4⟩ := X9.out.cells
    obtain ⟨y0, y1, y2, y3, y4⟩ := Y9.out.cells
    dsimp only at x0 x1 x2 x3 x4 y0 y1 y2 y3 y4
    have p1 : (s2.toList == s2.toList) = true := beq_self_eq_true _
    have p2 : (q2 == q2) = true := beq_self_eq_true q2
    go_wp2_with fail
    refine (Hsx.out _).mono ?_
    rintro e w10 ⟨rfl, hb⟩
    have X10 := Lib.hid (X9.out.later hb)
    clear hb X9 Y9
    go_wp2
    go_ret
    exact ⟨rfl, X10.out.g.below⟩

end Go.Proofs.YtbmdbfidjdogmaaDoor
