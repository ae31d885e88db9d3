/-
The walks of Clone, Entries, Count and Copy.
-/
import Derived.Test.YthpflfcgnaichaaDoorTraEnd
set_option linter.unusedVariables false
set_option linter.unusedSimpArgs false
namespace Go.Proofs.YthpflfcgnaichaaDoor
open Go Go.RowKit

/-- Append of all entries of a row. -/
theorem pappendAll {w : World} {ops : Array Oper} {rest : List Oper} {o : Oper} {a : Act} {Q : Exit → Act → World → Prop} (hgd : o.guard = none) (s x : Operand)
    (ho : o.op = .call { callee := .builtin .append, args := #[s, x], argTypes := #[25, 25] })
    (v : Value) (xs : List Ent) (hs : a.eval s = v) (hown : EntRow w 38 v xs) (ao : Option Addr) (c m : Nat) (ys : List Ent) (hx : a.eval x = .slice ao m c) (hm : m = ys.length) (hy : EntRow w 38 (.slice ao m c) ys)
    (hlen : xs.length + ys.length ≤ 100000000) (q : Nat) (hq : q = xs.length + ys.length)
    (h : ∀ ao' c' w', EntRow w' 38 (.slice ao' q c') (xs ++ ys) → w.grownBy w' v.ownBlock → (∀ g, (Value.slice ao' q c').ownBlock = some g → v.ownBlock = some g ∨ w.heap.size ≤ g) →
      wpList Tryd.prog ops Q rest (a.put o.dst (.slice ao' q c')) w') : wpList Tryd.prog ops Q (o :: rest) a w := by
  subst hm
  have hz : ao = none → ys.length = 0 ∧ c = 0 := by
    rintro rfl
    rcases hy.2 with ⟨hv, hn⟩ | ⟨g, cap, cur, hv, _⟩
    · simp only [Value.slice.injEq, true_and] at hv; exact ⟨hn, hv.2⟩
    · cases hv
  have hc : ∀ ad, ao = some ad → ∀ j u, (ents ys)[j]? = some u → w.cell? (ad.add j) = some u := by
    rintro ad rfl
    rcases hy.2 with ⟨hv, hn⟩ | ⟨g, cap, cur, hv, _⟩
    · cases hv
    · simp only [Value.slice.injEq, Option.some.injEq, true_and] at hv
      obtain ⟨rfl, rfl⟩ := hv
      exact hy.cells rfl
  refine wpList_append_q hgd s x 25 ho 38 Ent.zero.v 15 168 Tryd.underlying25 pinfo rfl (by decide) v xs.length (ents xs) hs hown ao ys.length c (ents ys) hx (ents_length ys)
    hz hc (ents_one ys) (by unfold maxLen; omega) (by omega) q hq ?_
  intro ao' c' w' h1 h2 h3
  refine h ao' c' w' ?_ h2 h3
  show w'.ownsRow 0 _ 15 _ (xs ++ ys).length (ents (xs ++ ys))
  rw [ents_append, List.length_append, ← hq]
  exact h1

/-- Append of all entries of a row. -/
theorem rappendAll {w : World} {ops : Array Oper} {rest : List Oper} {o : Oper} {a : Act} {Q : Exit → Act → World → Prop} (hgd : o.guard = none) (s x : Operand)
    (ho : o.op = .call { callee := .builtin .append, args := #[s, x], argTypes := #[48, 48] })
    (v : Value) (xs : List Ent) (hs : a.eval s = v) (hown : EntRow w 32 v xs) (ao : Option Addr) (c m : Nat) (ys : List Ent) (hx : a.eval x = .slice ao m c) (hm : m = ys.length) (hy : EntRow w 32 (.slice ao m c) ys)
    (hlen : xs.length + ys.length ≤ 100000000) (q : Nat) (hq : q = xs.length + ys.length)
    (h : ∀ ao' c' w', EntRow w' 32 (.slice ao' q c') (xs ++ ys) → w.grownBy w' v.ownBlock → (∀ g, (Value.slice ao' q c').ownBlock = some g → v.ownBlock = some g ∨ w.heap.size ≤ g) →
      wpList Tryd.prog ops Q rest (a.put o.dst (.slice ao' q c')) w') : wpList Tryd.prog ops Q (o :: rest) a w := by
  subst hm
  have hz : ao = none → ys.length = 0 ∧ c = 0 := by
    rintro rfl
    rcases hy.2 with ⟨hv, hn⟩ | ⟨g, cap, cur, hv, _⟩
    · simp only [Value.slice.injEq, true_and] at hv; exact ⟨hn, hv.2⟩
    · cases hv
  have hc : ∀ ad, ao = some ad → ∀ j u, (ents ys)[j]? = some u → w.cell? (ad.add j) = some u := by
    rintro ad rfl
    rcases hy.2 with ⟨hv, hn⟩ | ⟨g, cap, cur, hv, _⟩
    · cases hv
    · simp only [Value.slice.injEq, Option.some.injEq, true_and] at hv
      obtain ⟨rfl, rfl⟩ := hv
      exact hy.cells rfl
  refine wpList_append_q hgd s x 48 ho 32 Ent.zero.v 15 168 Tryd.underlying48 rinfo rfl (by decide) v xs.length (ents xs) hs hown ao ys.length c (ents ys) hx (ents_length ys)
    hz hc (ents_one ys) (by unfold maxLen; omega) (by omega) q hq ?_
  intro ao' c' w' h1 h2 h3
  refine h ao' c' w' ?_ h2 h3
  show w'.ownsRow 0 _ 15 _ (xs ++ ys).length (ents (xs ++ ys))
  rw [ents_append, List.length_append, ← hq]
  exact h1

/-- What a list of entries that is new leaves. -/
def NewPost (w : World) (T : TypeId) (xs : List Ent) (r : Ending) (w' : World) : Prop :=
  ∃ ao c, r = .returned (.slice ao xs.length c) ∧ EntRow w' T (.slice ao xs.length c) xs ∧ Below w.heap.size w w' ∧ (∀ g, (Value.slice ao xs.length c).ownBlock = some g → w.heap.size ≤ g)

theorem clone_done {w w' : World} {n : Nat} {xs : List Ent} {ao : Option Addr} {c : Nat} {o : Obj} {T : TypeId} (hn : n = xs.length) (h : EntRow w' T (.slice ao n c) ([] ++ xs)) (hg : (w.alloc o).grownBy w' (Value.slice (some ⟨w.heap.size, 0, none⟩) 0 0).ownBlock)
    (hnew : ∀ g, (Value.slice ao n c).ownBlock = some g → (Value.slice (some ⟨w.heap.size, 0, none⟩) 0 0).ownBlock = some g ∨ (w.alloc o).heap.size ≤ g) : NewPost w T xs (.returned (.slice ao n c)) w' := by
  subst hn
  refine ⟨ao, c, rfl, h, ?_, fun g hg => ?_⟩
  · have hm : Mod (fun k => k = w.heap.size) w w' := ((Mod.refl _ w).alloc o).grown hg (fun k e hk => by
      have : w.heap.size = k := by simpa [Value.ownBlock] using e
      exact this.symm)
    exact hm.below (Nat.le_refl _) (fun k e => by omega)
  · rcases hnew g hg with q | q
    · have : w.heap.size = g := by simpa [Value.ownBlock] using q
      omega
    · have : (w.alloc o).heap.size = w.heap.size + 1 := by
        show (w.heap.push o).size = _
        simp
      omega

set_option maxHeartbeats 1000000 in
set_option maxRecDepth 20000 in
theorem clone_walk (w : World) (v : Value) (xs : List Ent) (hrow : EntRow w 38 v xs) (hlen : xs.length < 65537) :
    Calls Tryd.prog 33 #[v] w fun r w' => NewPost w 38 xs r w' := by
  rcases hrow.2 with ⟨hv, hn⟩ | ⟨g, cap, cur, hv, _⟩
  · have hx : xs = [] := List.eq_nil_of_length_eq_zero hn
    subst hv hx
    have hres : NewPost w 38 [] (.returned (.slice none 0 0)) w := ⟨none, 0, rfl, hrow, Below.refl _ _, fun g h => by cases h⟩
    have Hres := Lib.hid hres
    clear hres hrow hn hlen
    have k1 := Lib.run_eql_slice_nil (P := Tryd.prog)
    go_enter Tryd.func33, Tryd.ntmps33
    go_wp2
    go_ret
    exact Hres.out
  · obtain ⟨n, hn⟩ : ∃ n, n = xs.length := ⟨_, rfl⟩
    rw [← hn] at hv
    subst hv
    have Hn := Lib.hid hn
    have Hown := Lib.hid (show EntRow (w.alloc (.cells #[] 38)) 38 (.slice (some ⟨w.heap.size, 0, none⟩) 0 0) [] from World.ownsRow_lit (base := 0) (e := 38) (size := 15) w #[] 0 (Nat.zero_le _) (Nat.zero_le _) rfl)
    have Hrow := Lib.hid (show EntRow (w.alloc (.cells #[] 38)) 38 (.slice (some ⟨g, 0, none⟩) n cap) xs from hrow.alloc _)
    have Hle := Lib.hid (show ([] : List Ent).length + xs.length ≤ 100000000 by show 0 + xs.length ≤ _; omega)
    have Hq := Lib.hid (show n = ([] : List Ent).length + xs.length by show n = 0 + xs.length; omega)
    have k1 := Lib.run_eql_slice_nil (P := Tryd.prog)
    clear hn hrow hlen
    go_enter Tryd.func33, Tryd.ntmps33
    go_wp2_with (at_builtin; refine pappendAll rfl _ _ rfl (.slice (some ⟨w.heap.size, 0, none⟩) 0 0) [] rfl Hown.out (some ⟨g, 0, none⟩) cap n xs rfl Hn.out Hrow.out Hle.out n Hq.out ?_; intro ao' c' w' own2 gr2 new2; have Hend := Lib.hid (clone_done Hn.out own2 gr2 new2); clear own2 gr2 new2)
    go_ret
    exact Hend.out

set_option maxHeartbeats 1000000 in
theorem entriesNil_walk (w : World) : Calls Tryd.prog 14 #[.pointer none] w fun r w' => r = .returned (.slice none 0 0) ∧ w' = w := by
  go_enter Tryd.func14, Tryd.ntmps14
  go_wp2
  go_ret
  exact ⟨rfl, rfl⟩

set_option maxHeartbeats 1000000 in
theorem entries_walk (w : World) (lb : Nat) (v : Value) (xs : List Ent) (hlog : LogAt w 27 38 lb v xs) (hlen : xs.length < 65537) :
    Calls Tryd.prog 14 #[.pointer (some ⟨lb, 0, none⟩)] w fun r w' => NewPost w 38 xs r w' := by
  have c0 := cell1 hlog.blk
  have Hc := Lib.hid (clone_walk w v xs hlog.row hlen)
  obtain ⟨ao, c, rfl⟩ := hlog.form
  clear hlog hlen
  generalize xs.length = n at *
  go_enter Tryd.func14, Tryd.ntmps14
  go_wp2_with fail
  refine Hc.out.mono ?_
  rintro r w1 ⟨ao', c', rfl, h1, h2, h3⟩
  have Hend := Lib.hid (show NewPost w 38 xs (.returned (.slice ao' xs.length c')) w1 from ⟨ao', c', rfl, h1, h2, h3⟩)
  clear h1 h2 h3 Hc
  go_wp2
  go_ret
  exact Hend.out

set_option maxHeartbeats 1000000 in
theorem countNil_walk (w : World) : Calls Tryd.prog 15 #[.pointer none] w fun r w' => r = .returned (.int .i64 0) ∧ w' = w := by
  go_enter Tryd.func15, Tryd.ntmps15
  go_wp2
  go_ret
  exact ⟨rfl, rfl⟩

set_option maxHeartbeats 1000000 in
theorem count_walk (w : World) (lb : Nat) (v : Value) (xs : List Ent) (hlog : LogAt w 27 38 lb v xs) :
    Calls Tryd.prog 15 #[.pointer (some ⟨lb, 0, none⟩)] w fun r w' => r = .returned (.int .i64 (xs.length : Int)) ∧ w' = w := by
  have c0 := cell1 hlog.blk
  obtain ⟨ao, c, rfl⟩ := hlog.form
  clear hlog
  generalize xs.length = n at *
  go_enter Tryd.func15, Tryd.ntmps15
  go_wp2
  go_ret
  exact ⟨rfl, rfl⟩

/-- What a copy leaves. -/
def CopyPost (w : World) (S T : TypeId) (xs : List Ent) (r : Ending) (w' : World) : Prop :=
  ∃ lb v, r = .returned (.pointer (some ⟨lb, 0, none⟩)) ∧ LogAt w' S T lb v xs ∧ Below w.heap.size w w' ∧ w.heap.size ≤ lb ∧ (∀ g, v.ownBlock = some g → w.heap.size ≤ g)

theorem copy_done {w w1 : World} {S T : TypeId} {xs : List Ent} {v : Value} (h1 : EntRow w1 T v xs) (h2 : Below w.heap.size w w1) (h3 : ∀ g, v.ownBlock = some g → w.heap.size ≤ g) : CopyPost w S T xs (.returned (.pointer (some ⟨w1.heap.size, 0, none⟩))) (w1.alloc (.cells #[v] S)) := by
  refine ⟨_, v, rfl, ⟨alloc_new _, h1.alloc _, fun q => absurd (h1.lt _ q).2 (Nat.lt_irrefl _)⟩, h2.alloc h2.size _, h2.size, h3⟩

set_option maxHeartbeats 1000000 in
theorem copyNil_walk (w : World) : Calls Tryd.prog 19 #[.pointer none] w fun r w' => r = .returned (.pointer none) ∧ w' = w := by
  go_enter Tryd.func19, Tryd.ntmps19
  go_wp2
  go_ret
  exact ⟨rfl, rfl⟩

set_option maxHeartbeats 1000000 in
theorem copy_walk (w : World) (lb : Nat) (v : Value) (xs : List Ent) (hlog : LogAt w 27 38 lb v xs) (hlen : xs.length < 65537) :
    Calls Tryd.prog 19 #[.pointer (some ⟨lb, 0, none⟩)] w fun r w' => CopyPost w 27 38 xs r w' := by
  have He := Lib.hid (entries_walk w lb v xs hlog hlen)
  clear hlog hlen
  go_enter Tryd.func19, Tryd.ntmps19
  go_wp2_with fail
  refine He.out.mono ?_
  rintro r w1 ⟨ao', c', rfl, h1, h2, h3⟩
  have Hend := Lib.hid (copy_done (S := 27) h1 h2 h3)
  clear h1 h2 h3 He
  generalize xs.length = n at *
  go_wp2
  go_ret
  exact Hend.out

theorem rcopy_done {w w' : World} {n : Nat} {xs : List Ent} {ao : Option Addr} {c : Nat} {o : Obj} {S T : TypeId} (hn : n = xs.length) (h : EntRow w' T (.slice ao n c) ([] ++ xs)) (hg : (w.alloc o).grownBy w' (Value.slice (some ⟨w.heap.size, 0, none⟩) 0 0).ownBlock)
    (hnew : ∀ g, (Value.slice ao n c).ownBlock = some g → (Value.slice (some ⟨w.heap.size, 0, none⟩) 0 0).ownBlock = some g ∨ (w.alloc o).heap.size ≤ g) : CopyPost w S T xs (.returned (.pointer (some ⟨w'.heap.size, 0, none⟩))) (w'.alloc (.cells #[.slice ao n c] S)) := by
  obtain ⟨ao', c', he, h1, h2, h3⟩ := clone_done hn h hg hnew
  simp only [Ending.returned.injEq, Value.slice.injEq] at he
  obtain ⟨rfl, rfl, rfl⟩ := he
  exact copy_done h1 h2 h3

set_option maxHeartbeats 1000000 in
theorem rcopyNil_walk (w : World) : Calls Tryd.prog 20 #[.pointer none] w fun r w' => r = .returned (.pointer none) ∧ w' = w := by
  go_enter Tryd.func20, Tryd.ntmps20
  go_wp2
  go_ret
  exact ⟨rfl, rfl⟩

set_option maxHeartbeats 1000000 in
set_option maxRecDepth 20000 in
theorem rcopy_walk (w : World) (lb : Nat) (v : Value) (xs : List Ent) (hlog : LogAt w 50 32 lb v xs) (hlen : xs.length < 65537) :
    Calls Tryd.prog 20 #[.pointer (some ⟨lb, 0, none⟩)] w fun r w' => CopyPost w 50 32 xs r w' := by
  obtain ⟨ao, c, hv⟩ := hlog.form
  obtain ⟨n, hn⟩ : ∃ n, n = xs.length := ⟨_, rfl⟩
  rw [← hn] at hv
  subst hv
  have hlb := lt_of_heap hlog.blk
  have c0 : ∀ o, (w.alloc o).cell? ⟨lb, 0, none⟩ = some (.slice ao n c) := fun o => cell1 ((alloc_old o hlb).trans hlog.blk)
  have Hn := Lib.hid hn
  have Hown := Lib.hid (show EntRow (w.alloc (.cells #[] 32)) 32 (.slice (some ⟨w.heap.size, 0, none⟩) 0 0) [] from World.ownsRow_lit (base := 0) (e := 32) (size := 15) w #[] 0 (Nat.zero_le _) (Nat.zero_le _) rfl)
  have Hrow := Lib.hid (show EntRow (w.alloc (.cells #[] 32)) 32 (.slice ao n c) xs from hlog.row.alloc _)
  have Hle := Lib.hid (show ([] : List Ent).length + xs.length ≤ 100000000 by show 0 + xs.length ≤ _; omega)
  have Hq := Lib.hid (show n = ([] : List Ent).length + xs.length by show n = 0 + xs.length; omega)
  clear hn hlog hlen hlb
  go_enter Tryd.func20, Tryd.ntmps20
  go_wp2_with (at_builtin; refine rappendAll rfl _ _ rfl (.slice (some ⟨w.heap.size, 0, none⟩) 0 0) [] rfl Hown.out ao c n xs rfl Hn.out Hrow.out Hle.out n Hq.out ?_; intro ao' c' w' own2 gr2 new2; have Hend := Lib.hid (rcopy_done (S := 50) Hn.out own2 gr2 new2); clear own2 gr2 new2)
  go_ret
  exact Hend.out

end Go.Proofs.YthpflfcgnaichaaDoor
