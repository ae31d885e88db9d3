/-
The reference's Read.
-/
import Derived.Test.YtibijonjjkknoaaNetRefP
set_option linter.unusedVariables false
set_option linter.unusedSimpArgs false
namespace Go.Proofs.Ytibijonjjkknoaa
open Go Go.RowKit

section
variable {w0 w : World} {It : Nat → Item} {r rb : Nat} {R : RS}

/-- What is not read yet of what has passed. -/
def RC.left (c : RC) (k : Nat) : List UInt8 := ((c.W k).take (c.P k)).drop (c.Q k)

/-- What Read leaves: a row of its own, apart from all items. -/
def RReadPost (w0 w : World) (It : Nat → Item) (r rb : Nat) (R' : RS) (ps : List UInt8) (en : Bool) (e : Ending) (w' : World) : Prop :=
  ∃ ao c, e = .returned (.tuple #[.slice ao ps.length c, .bool en, .int .i64 0]) ∧ RPost w0 w It r rb R' w' ∧ w'.ownsRow 0 5 1 (.slice ao ps.length c) ps.length (bytes ps) ∧ (∀ g, (Value.slice ao ps.length c).ownBlock = some g → w.heap.size ≤ g)

theorem RReadPost.later {R' : RS} {ps : List UInt8} {en : Bool} {e : Ending} {w' w2 : World} (h : RReadPost w0 w It r rb R' ps en e w') (hb : Below w'.heap.size w' w2) : RReadPost w0 w It r rb R' ps en e w2 := by
  obtain ⟨ao, c, he, h1, h2, h3⟩ := h
  exact ⟨ao, c, he, h1.later hb, ownsRow_frame h2 (fun g hg => hb.block g (h2.lt g hg).2), h3⟩

theorem RPost.ahead {w' w2 : World} {R' : RS} (h : RPost w0 w2 It r rb R' w') (hb : Below w.heap.size w w2) : RPost w0 w It r rb R' w' := by
  obtain ⟨It', h1, h2, h3, h4⟩ := h
  exact ⟨It', h1, h2, h3, (Mod.ofBelow (F := fun g => ∃ j, (It (ix r j)).own g) hb fun k hk h2 => absurd hk (by omega)).trans h4⟩

theorem rd_of_row {ao : Option Addr} {len cap : Nat} {ps : List UInt8} (h : w.ownsRow 0 5 1 (.slice ao len cap) len (bytes ps)) (hl : ps.length = len) : RdB w ao cap ps := by
  subst hl
  rcases row_form h with ⟨q1, q2, q3⟩ | ⟨g, c, q1, q2, q3⟩
  · simp only [Value.slice.injEq] at q1
    obtain ⟨rfl, _, rfl⟩ := q1
    have : ps = [] := List.eq_nil_of_length_eq_zero q2
    subst this
    exact ⟨(fun _ => ⟨rfl, rfl⟩), (fun ad h => by cases h), Nat.le_refl _, Nat.zero_le _⟩
  · simp only [Value.slice.injEq, true_and] at q1
    obtain ⟨rfl, rfl⟩ := q1
    refine ⟨(fun h => by cases h), ?_, q2, q3⟩
    intro ad had j u hu
    obtain rfl := Option.some.inj had
    rw [Addr.add_lit, Nat.zero_add]
    exact row_cell h hu

theorem RC.left_len {c : RC} (hok : c.Ok) (k : Nat) : c.P k - c.Q k = (c.left k).length := by
  unfold RC.left
  rw [List.length_drop, List.length_take, Nat.min_eq_left (hok.p k)]

/-- What Read appends lies there. -/
theorem RC.left_rd {c : RC} (hok : c.Ok) (k : Nat) {ao : Option Addr} {cap : Nat} (h : w.ownsRow 0 5 1 (.slice ao (c.W k).length cap) (c.W k).length (bytes (c.W k))) :
    RdB w (if cap = c.Q k then ao else Option.map (fun x => x.add (c.Q k)) ao) (cap - c.Q k) (c.left k) := by
  have h1 := (rd_of_row h rfl).take (c.P k)
  refine h1.drop (c.Q k) ?_ ?_
  · rw [List.length_take, Nat.min_eq_left (hok.p k)]
    exact hok.q k
  · rw [Nat.mul_one]


set_option maxHeartbeats 2000000 in
theorem rread_ok0 (hB : Bg w0 w It) (h : RefIs It r rb R) {i : Nat} {c : RC} (hc : R.cs[i]? = some c) (hcut : c.cut = false) (hok : c.Ok) :
    Calls Try.prog 30 #[.pointer (some ⟨rb, 0, none⟩), .int .i64 (i : Int), .int .i64 0] w (RReadPost w0 w It r rb { R with cs := R.cs.set i { c with Q := setf c.Q 1 (c.P 1) } } (c.left 1) (c.E 1)) := by
  obtain ⟨cv, nv, tv, bs, vs, h⟩ := h
  obtain ⟨b, g, cc, hb, q⟩ := h.look hB hc
  have Hw := Lib.hid (rwhy_ok hB ⟨cv, nv, tv, bs, vs, h⟩ (i : Int) 0)
  rw [show R.why (i : Int) 0 = 0 from rwhy_at (kk := 0) (by decide) hc hcut] at Hw
  have y0 := q.h0
  have y1 := q.hi
  have b1 : (i : Int) < (bs.length : Int) := by have := q.lt; omega
  obtain ⟨ao2, cp2, hv⟩ := row_slice q.r1
  have y3 : w.cell? ⟨b, 4, none⟩ = some (.slice ao2 (c.W 1).length cp2) := by rw [cell_blk q.blk, ← hv]; rfl
  have y4 : w.cell? ⟨b, 6, none⟩ = some (.int .i64 (c.P 1 : Int)) := by rw [cell_blk q.blk]; rfl
  have y5 : w.cell? ⟨b, 8, none⟩ = some (.int .i64 (c.Q 1 : Int)) := by rw [cell_blk q.blk]; rfl
  have y6 : w.cell? ⟨b, 12, none⟩ = some (.bool (c.E 1)) := by rw [cell_blk q.blk]; rfl
  have f2 := frozen_blk q.blk 8
  have hcw := (rd_of_row (by rw [← hv]; exact q.r1) rfl).le
  have b2 : c.P 1 ≤ cp2 := Nat.le_trans (hok.p 1) hcw
  have b3 : c.Q 1 ≤ c.P 1 := hok.q 1
  have Hlen := Lib.hid (RC.left_len hok 1)
  have Hrd := Lib.hid (RC.left_rd hok 1 (by rw [← hv]; exact q.r1))
  have H47 := Lib.hid (show ([] : List UInt8).length + (c.left 1).length ≤ 140737488355328 by have h1 := hok.p 1; have h2 := hok.w 1; have h3 := RC.left_len hok 1; simp only [List.length_nil]; omega)
  have Hq := Lib.hid (show (c.left 1).length = ([] : List UInt8).length + (c.left 1).length by simp)
  have Hst := Lib.hid (show ∀ (n : Nat) (ao' : Option Addr) (c' : Nat) (w2 : World), w2.ownsRow 0 5 1 (.slice ao' (c.left 1).length c') ([] ++ c.left 1).length (bytes ([] ++ c.left 1)) → (w.drewN n).grownBy w2 (Value.slice none 0 0).ownBlock → (∀ g, (Value.slice ao' (c.left 1).length c').ownBlock = some g → (Value.slice none 0 0).ownBlock = some g ∨ (w.drewN n).heap.size ≤ g) →
      w2.heap[b]? = some (c.obj (vs i 0) (vs i 1)) ∧ RReadPost w0 w It r rb { R with cs := R.cs.set i { c with Q := setf c.Q 1 (c.P 1) } } (c.left 1) (c.E 1) (.returned (.tuple #[.slice ao' (c.left 1).length c', .bool (c.E 1), .int .i64 0])) (w2.setCell ⟨b, 8, none⟩ (.int .i64 (c.P 1 : Int))) from by
    intro n ao' c' w2 hr hg hn
    have hbl : Below w.heap.size w w2 := (((Mod.refl (fun _ => False) w).drewN n).grown hg (fun k hk => by cases hk)).below (Nat.le_refl _) (fun _ f => f.elim)
    have hb2 : w2.heap[b]? = some (c.obj (vs i 0) (vs i 1)) := (hbl.block b (lt_of_heap q.blk)).trans q.blk
    have hset := set_blk hb2 8 (.int .i64 (c.P 1 : Int))
    refine ⟨hb2, ao', c', rfl, RPost.ahead (RefI.turn (hB.later hbl) h hb hc { c with Q := setf c.Q 1 (c.P 1) } rfl ((Mod.refl (fun g => g = b) w2).setCell ⟨b, 8, none⟩ (.int .i64 (c.P 1 : Int)) (fun _ => rfl)) (by rw [hset]; rfl)) hbl, ?_, fun g hg => ?_⟩
    · rw [List.nil_append] at hr
      exact ownsRow_frame hr (fun g hg => set_other _ _ (fun e => by
        rcases hn g hg with q1 | q1
        · cases q1
        · have := lt_of_heap q.blk
          have e2 : g = b := e
          have q2 : w.heap.size ≤ g := q1
          omega))
    · rcases hn g hg with q1 | q1
      · cases q1
      · exact q1)
  clear h hB hc hb q hok hv hcw
  go_enter Try.func30, Try.ntmps30
  go_wp2_with fail
  refine Hw.out.mono ?_
  rintro e w1 ⟨rfl, hw⟩
  obtain rfl := hw.symm
  clear hw Hw
  go_wp2
  go_region_law (refine step_bytes rfl _ _ rfl (.slice none 0 0) [] rfl (World.ownsRow_nil _ _ _ _) _ (cp2 - c.Q 1) (c.left 1) (c.P 1 - c.Q 1) rfl Hlen.out (c.left 1).length Hq.out (Hrd.out.drewN _) H47.out ?_; intro ao' c' w2 own2 gr2 new2; have hst := Hst.out _ ao' c' w2 own2 gr2 new2; have t2 := cell_blk hst.1 8; have t3 := cell_blk hst.1 6; have t4 := cell_blk hst.1 12; have f2 := frozen_blk hst.1 8; simp at t2 t3 t4; have Hend := Lib.hid hst.2; clear own2 gr2 new2 hst)
  all_goals go_wp2
  all_goals go_region_law (fail)
  all_goals go_wp2
  all_goals go_quiet (fail)
  all_goals go_wp2
  all_goals go_ret3
  all_goals exact Hend.out.later ⟨rfl, rfl, rfl, Nat.le_refl _, fun _ _ => rfl⟩


set_option maxHeartbeats 2000000 in
theorem rread_ok1 (hB : Bg w0 w It) (h : RefIs It r rb R) {i : Nat} {c : RC} (hc : R.cs[i]? = some c) (hcut : c.cut = false) (hok : c.Ok) :
    Calls Try.prog 30 #[.pointer (some ⟨rb, 0, none⟩), .int .i64 (i : Int), .int .i64 1] w (RReadPost w0 w It r rb { R with cs := R.cs.set i { c with Q := setf c.Q 0 (c.P 0) } } (c.left 0) (c.E 0)) := by
  obtain ⟨cv, nv, tv, bs, vs, h⟩ := h
  obtain ⟨b, g, cc, hb, q⟩ := h.look hB hc
  have Hw := Lib.hid (rwhy_ok hB ⟨cv, nv, tv, bs, vs, h⟩ (i : Int) 1)
  rw [show R.why (i : Int) 1 = 0 from rwhy_at (kk := 1) (by decide) hc hcut] at Hw
  have y0 := q.h0
  have y1 := q.hi
  have b1 : (i : Int) < (bs.length : Int) := by have := q.lt; omega
  obtain ⟨ao2, cp2, hv⟩ := row_slice q.r0
  have y3 : w.cell? ⟨b, 3, none⟩ = some (.slice ao2 (c.W 0).length cp2) := by rw [cell_blk q.blk, ← hv]; rfl
  have y4 : w.cell? ⟨b, 5, none⟩ = some (.int .i64 (c.P 0 : Int)) := by rw [cell_blk q.blk]; rfl
  have y5 : w.cell? ⟨b, 7, none⟩ = some (.int .i64 (c.Q 0 : Int)) := by rw [cell_blk q.blk]; rfl
  have y6 : w.cell? ⟨b, 11, none⟩ = some (.bool (c.E 0)) := by rw [cell_blk q.blk]; rfl
  have f2 := frozen_blk q.blk 7
  have hcw := (rd_of_row (by rw [← hv]; exact q.r0) rfl).le
  have b2 : c.P 0 ≤ cp2 := Nat.le_trans (hok.p 0) hcw
  have b3 : c.Q 0 ≤ c.P 0 := hok.q 0
  have Hlen := Lib.hid (RC.left_len hok 0)
  have Hrd := Lib.hid (RC.left_rd hok 0 (by rw [← hv]; exact q.r0))
  have H47 := Lib.hid (show ([] : List UInt8).length + (c.left 0).length ≤ 140737488355328 by have h1 := hok.p 0; have h2 := hok.w 0; have h3 := RC.left_len hok 0; simp only [List.length_nil]; omega)
  have Hq := Lib.hid (show (c.left 0).length = ([] : List UInt8).length + (c.left 0).length by simp)
  have Hst := Lib.hid (show ∀ (n : Nat) (ao' : Option Addr) (c' : Nat) (w2 : World), w2.ownsRow 0 5 1 (.slice ao' (c.left 0).length c') ([] ++ c.left 0).length (bytes ([] ++ c.left 0)) → (w.drewN n).grownBy w2 (Value.slice none 0 0).ownBlock → (∀ g, (Value.slice ao' (c.left 0).length c').ownBlock = some g → (Value.slice none 0 0).ownBlock = some g ∨ (w.drewN n).heap.size ≤ g) →
      w2.heap[b]? = some (c.obj (vs i 0) (vs i 1)) ∧ RReadPost w0 w It r rb { R with cs := R.cs.set i { c with Q := setf c.Q 0 (c.P 0) } } (c.left 0) (c.E 0) (.returned (.tuple #[.slice ao' (c.left 0).length c', .bool (c.E 0), .int .i64 0])) (w2.setCell ⟨b, 7, none⟩ (.int .i64 (c.P 0 : Int))) from by
    intro n ao' c' w2 hr hg hn
    have hbl : Below w.heap.size w w2 := (((Mod.refl (fun _ => False) w).drewN n).grown hg (fun k hk => by cases hk)).below (Nat.le_refl _) (fun _ f => f.elim)
    have hb2 : w2.heap[b]? = some (c.obj (vs i 0) (vs i 1)) := (hbl.block b (lt_of_heap q.blk)).trans q.blk
    have hset := set_blk hb2 7 (.int .i64 (c.P 0 : Int))
    refine ⟨hb2, ao', c', rfl, RPost.ahead (RefI.turn (hB.later hbl) h hb hc { c with Q := setf c.Q 0 (c.P 0) } rfl ((Mod.refl (fun g => g = b) w2).setCell ⟨b, 7, none⟩ (.int .i64 (c.P 0 : Int)) (fun _ => rfl)) (by rw [hset]; rfl)) hbl, ?_, fun g hg => ?_⟩
    · rw [List.nil_append] at hr
      exact ownsRow_frame hr (fun g hg => set_other _ _ (fun e => by
        rcases hn g hg with q1 | q1
        · cases q1
        · have := lt_of_heap q.blk
          have e2 : g = b := e
          have q2 : w.heap.size ≤ g := q1
          omega))
    · rcases hn g hg with q1 | q1
      · cases q1
      · exact q1)
  clear h hB hc hb q hok hv hcw
  go_enter Try.func30, Try.ntmps30
  go_wp2_with fail
  refine Hw.out.mono ?_
  rintro e w1 ⟨rfl, hw⟩
  obtain rfl := hw.symm
  clear hw Hw
  go_wp2
  go_region_law (refine step_bytes rfl _ _ rfl (.slice none 0 0) [] rfl (World.ownsRow_nil _ _ _ _) _ (cp2 - c.Q 0) (c.left 0) (c.P 0 - c.Q 0) rfl Hlen.out (c.left 0).length Hq.out (Hrd.out.drewN _) H47.out ?_; intro ao' c' w2 own2 gr2 new2; have hst := Hst.out _ ao' c' w2 own2 gr2 new2; have t2 := cell_blk hst.1 7; have t3 := cell_blk hst.1 5; have t4 := cell_blk hst.1 11; have f2 := frozen_blk hst.1 7; simp at t2 t3 t4; have Hend := Lib.hid hst.2; clear own2 gr2 new2 hst)
  all_goals go_wp2
  all_goals go_region_law (fail)
  all_goals go_wp2
  all_goals go_quiet (fail)
  all_goals go_wp2
  all_goals go_ret3
  all_goals exact Hend.out.later ⟨rfl, rfl, rfl, Nat.le_refl _, fun _ _ => rfl⟩

end

end Go.Proofs.Ytibijonjjkknoaa
