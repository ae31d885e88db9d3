/-
The reference's lists of names, times and connections: what writes and appends leave.
-/
import Derived.Test.YtibijonjjkknoaaNetRefW
set_option linter.unusedVariables false
set_option linter.unusedSimpArgs false
namespace Go.Proofs.Ytibijonjjkknoaa
open Go Go.RowKit

section
variable {w0 w : World} {It : Nat → Item} {r rb : Nat} {R : RS} {cv nv tv : Value} {bs : List Nat} {vs : Nat → Nat → Value}

/-- The lists of names and times, and the header, are put anew. -/
theorem RefI.lists (h : RefI It r rb R cv nv tv bs vs) {It' : Nat → Item} (nv' tv' : Value) (names : List ByteArray) (times : List Int)
    (h0 : It' (ix r 0) = objItem rb (.cells #[cv, nv', tv'] 48)) (h2 : It' (ix r 2) = rowItem 9 1 nv' names.length (strVs names)) (h3 : It' (ix r 3) = rowItem 3 1 tv' times.length (intVs times))
    (ho : ∀ j, j ≠ 0 → j ≠ 2 → j ≠ 3 → It' (ix r j) = It (ix r j)) : RefI It' r rb { R with names := names, times := times } cv nv' tv' bs vs := by
  refine ⟨h0, ?_, h2, h3, h.len, fun i b c hb hc => ?_⟩
  · rw [ho 1 (by omega) (by omega) (by omega)]; exact h.cs
  · rw [ho _ (by omega) (by omega) (by omega), ho _ (by omega) (by omega) (by omega), ho _ (by omega) (by omega) (by omega)]
    exact h.cn i b c hb hc

/-- One time is written over. -/
theorem RefI.retime (hB : Bg w0 w It) (h : RefI It r rb R cv nv tv bs vs) {g n c k : Nat} (htv : tv = .slice (some ⟨g, 0, none⟩) n c) (hk : k < R.times.length) (t : Int) :
    RPost w0 w It r rb { R with times := R.times.set k t } (w.setCell ⟨g, k, none⟩ (.int .i64 t)) := by
  have hrow := h.trow hB
  have hset := row_set hrow (g := g) (by rw [htv]; rfl) hk (.int .i64 t)
  have e1 : (intVs R.times).set k (.int .i64 t) = intVs (R.times.set k t) := by unfold intVs; rw [List.map_set]
  rw [e1] at hset
  have hm : Mod (It (ix r 3)).own w (w.setCell ⟨g, k, none⟩ (.int .i64 t)) := (Mod.refl _ w).setCell _ _ (fun _ => by rw [h.ts, htv]; rfl)
  have hB2 := hB.put (ix r 3) (rowItem 3 1 tv (R.times.set k t).length (intVs (R.times.set k t))) hm (by rw [List.length_set]; exact hset) (fun g' hg' => (hset.lt g' hg').2) (fun g' hg' => .inl (by rw [h.ts]; exact hg'))
  refine RPost.put (j := 3) hB2 ⟨cv, nv, tv, bs, vs, h.lists nv tv R.names (R.times.set k t) ?_ ?_ (upd_same _ _ _) (fun j h0 h2 h3 => upd_ne _ _ (ix_ne h3))⟩ hm
  · rw [upd_ne _ _ (ix_ne (by omega))]; exact h.hd
  · rw [upd_ne _ _ (ix_ne (by omega))]; exact h.ns

/-- A name is put behind the others, the times not yet. -/
theorem RefI.appName (hB : Bg w0 w It) (h : RefI It r rb R cv nv tv bs vs) {o : Obj} {w2 : World} {nv' : Value} {q : Nat} (s : ByteArray) (hr : w2.ownsRow 0 9 1 nv' q (strVs R.names ++ [.string s])) (hg : (w.alloc o).grownBy w2 nv.ownBlock) (hn : ∀ g, nv'.ownBlock = some g → nv.ownBlock = some g ∨ (w.alloc o).heap.size ≤ g) :
    w2.heap[rb]? = some (.cells #[cv, nv, tv] 48) ∧ ∃ It', Bg w0 (w2.setCell ⟨rb, 1, none⟩ nv') It' ∧ RefI It' r rb { R with names := R.names ++ [s] } cv nv' tv bs vs ∧ (∀ i, (∀ j, i ≠ ix r j) → It' i = It i) ∧
      Mod (fun g => ∃ j, (It (ix r j)).own g) w (w2.setCell ⟨rb, 1, none⟩ nv') ∧ (∀ j g, (It' (ix r j)).own g → (∃ j, (It (ix r j)).own g) ∨ w.heap.size ≤ g) := by
  have hB2 := hB.grow (ix r 2) h.ns hg hr hn
  have p0 := hB2.bag.holds (ix r 0)
  rw [upd_ne _ _ (ix_ne (by omega)), h.hd] at p0
  have hblk : w2.heap[rb]? = some (.cells #[cv, nv, tv] 48) := p0
  have hset := set_blk hblk 1 nv'
  have hB3 := hB2.obj (ix r 0) (by rw [upd_ne _ _ (ix_ne (by omega))]; exact h.hd) ((Mod.refl (fun g => g = rb) w2).setCell ⟨rb, 1, none⟩ nv' (fun _ => rfl)) (o' := .cells #[cv, nv', tv] 48) (by rw [hset]; rfl)
  have hq : q = (R.names ++ [s]).length := by have := hr.1; unfold strVs at this; simp at this; simp; omega
  have e1 : strVs R.names ++ [.string s] = strVs (R.names ++ [s]) := by unfold strVs; rw [List.map_append]; rfl
  refine ⟨hblk, _, hB3, h.lists nv' tv (R.names ++ [s]) R.times (upd_same _ _ _) ?_ ?_ (fun j h0 h2 h3 => by rw [upd_ne _ _ (ix_ne h0), upd_ne _ _ (ix_ne h2)]), fun i hi => by rw [upd_ne _ _ (hi 0), upd_ne _ _ (hi 2)], ?_, fun j g hj => ?_⟩
  · rw [upd_ne _ _ (ix_ne (by omega)), upd_same, hq, e1]
  · rw [upd_ne _ _ (ix_ne (by omega)), upd_ne _ _ (ix_ne (by omega))]; exact h.ts
  · exact (((Mod.refl _ w).alloc o).grown hg (fun k hk _ => ⟨2, by rw [h.ns]; exact hk⟩)).setCell _ _ (fun _ => ⟨0, by rw [h.hd]; rfl⟩)
  · by_cases e0 : j = 0
    · subst e0
      rw [upd_same] at hj
      exact .inl ⟨0, by rw [h.hd]; exact hj⟩
    · rw [upd_ne _ _ (ix_ne e0)] at hj
      by_cases e2 : j = 2
      · subst e2
        rw [upd_same] at hj
        rcases hn g hj with x | x
        · exact .inl ⟨2, by rw [h.ns]; exact x⟩
        · refine .inr (Nat.le_trans ?_ x)
          simp
      · rw [upd_ne _ _ (ix_ne e2)] at hj
        exact .inl ⟨j, hj⟩

/-- A time is put behind the others. -/
theorem RefI.appTime (hB : Bg w0 w It) (h : RefI It r rb R cv nv tv bs vs) {o : Obj} {w2 : World} {tv' : Value} {q : Nat} (t : Int) (hr : w2.ownsRow 0 3 1 tv' q (intVs R.times ++ [.int .i64 t])) (hg : (w.alloc o).grownBy w2 tv.ownBlock) (hn : ∀ g, tv'.ownBlock = some g → tv.ownBlock = some g ∨ (w.alloc o).heap.size ≤ g) :
    w2.heap[rb]? = some (.cells #[cv, nv, tv] 48) ∧ RPost w0 w It r rb { R with times := R.times ++ [t] } (w2.setCell ⟨rb, 2, none⟩ tv') := by
  have hB2 := hB.grow (ix r 3) h.ts hg hr hn
  have p0 := hB2.bag.holds (ix r 0)
  rw [upd_ne _ _ (ix_ne (by omega)), h.hd] at p0
  have hblk : w2.heap[rb]? = some (.cells #[cv, nv, tv] 48) := p0
  have hset := set_blk hblk 2 tv'
  have hB3 := hB2.obj (ix r 0) (by rw [upd_ne _ _ (ix_ne (by omega))]; exact h.hd) ((Mod.refl (fun g => g = rb) w2).setCell ⟨rb, 2, none⟩ tv' (fun _ => rfl)) (o' := .cells #[cv, nv, tv'] 48) (by rw [hset]; rfl)
  have hq : q = (R.times ++ [t]).length := by have := hr.1; unfold intVs at this; simp at this; simp; omega
  have e1 : intVs R.times ++ [.int .i64 t] = intVs (R.times ++ [t]) := by unfold intVs; rw [List.map_append]; rfl
  refine ⟨hblk, RPost.put2 hB3 ⟨cv, nv, tv', bs, vs, h.lists nv tv' R.names (R.times ++ [t]) (upd_same _ _ _) ?_ ?_ (fun j h0 h2 h3 => by rw [upd_ne _ _ (ix_ne h0), upd_ne _ _ (ix_ne h3)])⟩ ?_⟩
  · rw [upd_ne _ _ (ix_ne (by omega)), upd_ne _ _ (ix_ne (by omega))]; exact h.ns
  · rw [upd_ne _ _ (ix_ne (by omega)), upd_same, hq, e1]
  · rw [h.ts, h.hd]
    exact (((Mod.refl _ w).alloc o).grown hg (fun k hk _ => .inl hk)).setCell _ _ (fun _ => .inr rfl)

/-- Two steps in a row. -/
theorem RPost.step {It2 : Nat → Item} {w2 w3 : World} {R2 : RS} (h : RPost w0 w2 It2 r rb R2 w3) (ho : ∀ i, (∀ j, i ≠ ix r j) → It2 i = It i) (hm : Mod (fun g => ∃ j, (It (ix r j)).own g) w w2) (hn : ∀ j g, (It2 (ix r j)).own g → (∃ j, (It (ix r j)).own g) ∨ w.heap.size ≤ g) : RPost w0 w It r rb R2 w3 := by
  obtain ⟨It3, h1, h2, h3, h4⟩ := h
  refine ⟨It3, h1, h2, fun i hi => (h3 i hi).trans (ho i hi), hm.trans' h4 (fun g hg hq => ?_)⟩
  obtain ⟨j, hj⟩ := hq
  rcases hn j g hj with x | x
  · exact x
  · omega

def RC.new (name : ByteArray) : RC := ⟨name, true, false, fun _ => [], fun _ => 0, fun _ => 0, fun _ => false, fun _ => false⟩

/-- A connection is put behind the others. -/
theorem RefI.dialed (hB : Bg w0 w It) (h : RefI It r rb R cv nv tv bs vs) (name : ByteArray) {w1 w2 : World} {cv' : Value} {q : Nat} (hw1 : w1 = w.alloc ((RC.new name).obj (.slice none 0 0) (.slice none 0 0))) {o : Obj}
    (hr : w2.ownsRow 0 81 1 cv' q (ptrs bs ++ [.pointer (some ⟨w.heap.size, 0, none⟩)])) (hg : (w1.alloc o).grownBy w2 cv.ownBlock) (hn : ∀ g, cv'.ownBlock = some g → cv.ownBlock = some g ∨ (w1.alloc o).heap.size ≤ g) :
    w2.heap[rb]? = some (.cells #[cv, nv, tv] 48) ∧ RPost w0 w It r rb { R with cs := R.cs ++ [RC.new name] } (w2.setCell ⟨rb, 0, none⟩ cv') := by
  have hlen := h.len
  have hb1 : Below w.heap.size w w1 := by rw [hw1]; exact (Below.refl _ w).alloc (Nat.le_refl _) _
  have hn1 : w1.heap[w.heap.size]? = some ((RC.new name).obj (.slice none 0 0) (.slice none 0 0)) := by rw [hw1]; exact alloc_new _
  have hB1 := hB.objNew (ix r (4 + 3 * bs.length)) hb1 (Nat.le_refl _) hn1
  have hB2 := hB1.fresh (ix r (5 + 3 * bs.length)) (Below.refl _ w1) (World.ownsRow_nil w1 0 5 1) nofun
  have hB3 := hB2.fresh (ix r (6 + 3 * bs.length)) (Below.refl _ w1) (World.ownsRow_nil w1 0 5 1) nofun
  have hB4 := hB3.grow (ix r 1) (by rw [upd_ne _ _ (ix_ne (by omega)), upd_ne _ _ (ix_ne (by omega)), upd_ne _ _ (ix_ne (by omega))]; exact h.cs) hg hr hn
  have p0 := hB4.bag.holds (ix r 0)
  rw [upd_ne _ _ (ix_ne (by omega)), upd_ne _ _ (ix_ne (by omega)), upd_ne _ _ (ix_ne (by omega)), upd_ne _ _ (ix_ne (by omega)), h.hd] at p0
  have hblk : w2.heap[rb]? = some (.cells #[cv, nv, tv] 48) := p0
  have hset := set_blk hblk 0 cv'
  have hB5 := hB4.obj (ix r 0) (by rw [upd_ne _ _ (ix_ne (by omega)), upd_ne _ _ (ix_ne (by omega)), upd_ne _ _ (ix_ne (by omega)), upd_ne _ _ (ix_ne (by omega))]; exact h.hd) ((Mod.refl (fun g => g = rb) w2).setCell ⟨rb, 0, none⟩ cv' (fun _ => rfl)) (o' := .cells #[cv', nv, tv] 48) (by rw [hset]; rfl)
  have hq : q = (bs ++ [w.heap.size]).length := by have := hr.1; unfold ptrs at this; simp at this; simp; omega
  have e1 : ptrs bs ++ [.pointer (some ⟨w.heap.size, 0, none⟩)] = ptrs (bs ++ [w.heap.size]) := by unfold ptrs; rw [List.map_append]; rfl
  refine ⟨hblk, _, hB5, ⟨cv', nv, tv, bs ++ [w.heap.size], fun j k => if j = bs.length then .slice none 0 0 else vs j k, ⟨upd_same _ _ _, ?_, ?_, ?_, ?_, fun i b c hb hc => ?_⟩⟩, fun i hi => by rw [upd_ne _ _ (hi _), upd_ne _ _ (hi _), upd_ne _ _ (hi _), upd_ne _ _ (hi _), upd_ne _ _ (hi _)], ?_⟩
  · rw [upd_ne _ _ (ix_ne (by omega)), upd_same, hq, e1]
  · rw [upd_ne _ _ (ix_ne (by omega)), upd_ne _ _ (ix_ne (by omega)), upd_ne _ _ (ix_ne (by omega)), upd_ne _ _ (ix_ne (by omega)), upd_ne _ _ (ix_ne (by omega))]; exact h.ns
  · rw [upd_ne _ _ (ix_ne (by omega)), upd_ne _ _ (ix_ne (by omega)), upd_ne _ _ (ix_ne (by omega)), upd_ne _ _ (ix_ne (by omega)), upd_ne _ _ (ix_ne (by omega))]; exact h.ts
  · simp [hlen]
  · rcases Nat.lt_or_ge i bs.length with hi | hi
    · rw [List.getElem?_append_left hi] at hb
      rw [List.getElem?_append_left (by omega)] at hc
      rw [upd_ne _ _ (ix_ne (by omega)), upd_ne _ _ (ix_ne (by omega)), upd_ne _ _ (ix_ne (by omega)), upd_ne _ _ (ix_ne (by omega)), upd_ne _ _ (ix_ne (by omega))]
      rw [upd_ne _ _ (ix_ne (by omega)), upd_ne _ _ (ix_ne (by omega)), upd_ne _ _ (ix_ne (by omega)), upd_ne _ _ (ix_ne (by omega)), upd_ne _ _ (ix_ne (by omega))]
      rw [upd_ne _ _ (ix_ne (by omega)), upd_ne _ _ (ix_ne (by omega)), upd_ne _ _ (ix_ne (by omega)), upd_ne _ _ (ix_ne (by omega)), upd_ne _ _ (ix_ne (by omega))]
      simp only [if_neg (Nat.ne_of_lt hi)]
      exact h.cn i b c hb hc
    · have hi2 : i = bs.length := by
        have := (List.getElem?_eq_some_iff.1 hb).1
        simp at this; omega
      subst hi2
      rw [List.getElem?_append_right (Nat.le_refl _), Nat.sub_self] at hb
      rw [List.getElem?_append_right (by omega), hlen, Nat.sub_self] at hc
      cases hb
      cases hc
      simp only [if_pos]
      refine ⟨?_, ?_, ?_⟩
      · rw [upd_ne _ _ (ix_ne (by omega)), upd_ne _ _ (ix_ne (by omega)), upd_ne _ _ (ix_ne (by omega)), upd_ne _ _ (ix_ne (by omega)), upd_same]
      · rw [upd_ne _ _ (ix_ne (by omega)), upd_ne _ _ (ix_ne (by omega)), upd_ne _ _ (ix_ne (by omega)), upd_same]; rfl
      · rw [upd_ne _ _ (ix_ne (by omega)), upd_ne _ _ (ix_ne (by omega)), upd_same]; rfl
  · rw [hw1] at hg
    exact ((((Mod.refl _ w).alloc _).alloc o).grown hg (fun k hk _ => ⟨1, by rw [h.cs]; exact hk⟩)).setCell _ _ (fun _ => ⟨0, by rw [h.hd]; rfl⟩)

end

end Go.Proofs.Ytibijonjjkknoaa
