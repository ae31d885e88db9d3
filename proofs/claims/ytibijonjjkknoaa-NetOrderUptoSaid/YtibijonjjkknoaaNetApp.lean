/-
One of the rows that NetOrder keeps grows by what was written or read.
-/
import Derived.Test.YtibijonjjkknoaaNetOrd
set_option linter.unusedVariables false
set_option linter.unusedSimpArgs false
namespace Go.Proofs.Ytibijonjjkknoaa
open Go Go.RowKit

def MLab.row (M : MLab) (z : Nat) (v : Value) (t : Nat) : MLab := fun x => if x < z then M x else if v.ownBlock = some x then some t else none

theorem app0 {B : Nat} {w w2 : World} {L : Lab} {M : MLab} {bw br : Nat} {W0 W1 R0 R1 ps : List UInt8} {a b c d v : Value} (h : MineAt B w L M bw br W0 W1 R0 R1 a b c d) (hB : B ≤ w.heap.size) (hLn : ∀ x, w.heap.size ≤ x → L x = none)
    (own : w2.ownsRow 0 5 1 v (W0 ++ ps).length (bytes (W0 ++ ps))) (hm : Mod (fun x => a.ownBlock = some x) w w2) (new : ∀ g, v.ownBlock = some g → a.ownBlock = some g ∨ w.heap.size ≤ g) :
    ∃ M', MineAt B (w2.setCell ⟨bw, 0, none⟩ v) L M' bw br (W0 ++ ps) W1 R0 R1 v b c d ∧ (∀ x, x < w.heap.size → M' x = M x) ∧ Mod (fun x => M x ≠ none) w (w2.setCell ⟨bw, 0, none⟩ v) := by
  have hM' : ∀ x, x < w.heap.size → MLab.row M w.heap.size v 2 x = M x := fun x hx => by simp [MLab.row, hx]
  have lr : ∀ g, a.ownBlock = some g → M g = some 2 := h.w0.lab
  have hbl : bw < w.heap.size := (h.labs _ _ h.lw).2.2
  have hol : br < w.heap.size := (h.labs _ _ h.lr).2.2
  have nb : ¬ a.ownBlock = some bw := fun e => by have := lr _ e; rw [h.lw] at this; cases this
  have no : ¬ a.ownBlock = some br := fun e => by have := lr _ e; rw [h.lr] at this; cases this
  have nbo : br ≠ bw := fun e => by have := h.lr; rw [e, h.lw] at this; cases this
  have b2 : w2.heap[bw]? = _ := hm.heap h.hbw nb
  have o2 : w2.heap[br]? = _ := hm.heap h.hbr no
  have hm2 : Mod (fun x => M x ≠ none) w (w2.setCell ⟨bw, 0, none⟩ v) :=
    (hm.mono (fun x _ hx => by rw [lr x hx]; simp)).setCell _ _ (fun _ => by rw [h.lw]; simp)
  have kr : ∀ {u : Value} {xs : List UInt8} {s : Nat} (r : MRow w M s u xs) (s' : Nat), s ≠ 2 → s ≠ 0 → MRow (w2.setCell ⟨bw, 0, none⟩ v) (MLab.row M w.heap.size v 2) s u xs := by
    intro u xs s r _ h1 h2
    refine r.kept fun g hg => ⟨?_, hM' g (h.labs g s hg).2.2⟩
    rw [set_other _ _ (show g ≠ bw from fun e => by subst e; rw [h.lw] at hg; exact h2 (Option.some.inj hg).symm)]
    exact hm.block g (h.labs g s hg).2.2 (fun e => by have := lr g e; rw [hg] at this; exact h1 (Option.some.inj this))
  have rn : MRow (w2.setCell ⟨bw, 0, none⟩ v) (MLab.row M w.heap.size v 2) 2 v (W0 ++ ps) := by
    refine ⟨ownsRow_frame own (fun g hg => set_other _ _ (fun e => ?_)), fun g hg => ?_⟩
    · simp only at e
      subst e
      rcases new g hg with q | q
      · exact nb q
      · omega
    · rcases new g hg with q | q
      · rw [hM' g (h.labs g _ (lr g q)).2.2]; exact lr g q
      · unfold MLab.row; rw [if_neg (by omega), if_pos hg]
  refine ⟨MLab.row M w.heap.size v 2, ⟨?_, (hM' _ (h.labs _ _ h.lw).2.2).trans h.lw, ?_, (hM' _ (h.labs _ _ h.lr).2.2).trans h.lr, rn, kr h.w1 3 (by decide) (by decide), kr h.r0 4 (by decide) (by decide), kr h.r1 5 (by decide) (by decide), ?_⟩, hM', hm2⟩
  · have := set_blk b2 0 v
    simpa using this
  · rw [set_other _ _ (show br ≠ bw from nbo)]; exact o2
  · intro x t hx
    unfold MLab.row at hx
    split at hx
    · exact ⟨(h.labs x t hx).1, (h.labs x t hx).2.1, Nat.lt_of_lt_of_le (h.labs x t hx).2.2 hm2.size⟩
    · split at hx
      · rename_i e1 e2
        exact ⟨hLn x (by omega), by omega, by simpa using (own.lt x e2).2⟩
      · cases hx

theorem app1 {B : Nat} {w w2 : World} {L : Lab} {M : MLab} {bw br : Nat} {W0 W1 R0 R1 ps : List UInt8} {a b c d v : Value} (h : MineAt B w L M bw br W0 W1 R0 R1 a b c d) (hB : B ≤ w.heap.size) (hLn : ∀ x, w.heap.size ≤ x → L x = none)
    (own : w2.ownsRow 0 5 1 v (W1 ++ ps).length (bytes (W1 ++ ps))) (hm : Mod (fun x => b.ownBlock = some x) w w2) (new : ∀ g, v.ownBlock = some g → b.ownBlock = some g ∨ w.heap.size ≤ g) :
    ∃ M', MineAt B (w2.setCell ⟨bw, 1, none⟩ v) L M' bw br W0 (W1 ++ ps) R0 R1 a v c d ∧ (∀ x, x < w.heap.size → M' x = M x) ∧ Mod (fun x => M x ≠ none) w (w2.setCell ⟨bw, 1, none⟩ v) := by
  have hM' : ∀ x, x < w.heap.size → MLab.row M w.heap.size v 3 x = M x := fun x hx => by simp [MLab.row, hx]
  have lr : ∀ g, b.ownBlock = some g → M g = some 3 := h.w1.lab
  have hbl : bw < w.heap.size := (h.labs _ _ h.lw).2.2
  have hol : br < w.heap.size := (h.labs _ _ h.lr).2.2
  have nb : ¬ b.ownBlock = some bw := fun e => by have := lr _ e; rw [h.lw] at this; cases this
  have no : ¬ b.ownBlock = some br := fun e => by have := lr _ e; rw [h.lr] at this; cases this
  have nbo : br ≠ bw := fun e => by have := h.lr; rw [e, h.lw] at this; cases this
  have b2 : w2.heap[bw]? = _ := hm.heap h.hbw nb
  have o2 : w2.heap[br]? = _ := hm.heap h.hbr no
  have hm2 : Mod (fun x => M x ≠ none) w (w2.setCell ⟨bw, 1, none⟩ v) :=
    (hm.mono (fun x _ hx => by rw [lr x hx]; simp)).setCell _ _ (fun _ => by rw [h.lw]; simp)
  have kr : ∀ {u : Value} {xs : List UInt8} {s : Nat} (r : MRow w M s u xs) (s' : Nat), s ≠ 3 → s ≠ 0 → MRow (w2.setCell ⟨bw, 1, none⟩ v) (MLab.row M w.heap.size v 3) s u xs := by
    intro u xs s r _ h1 h2
    refine r.kept fun g hg => ⟨?_, hM' g (h.labs g s hg).2.2⟩
    rw [set_other _ _ (show g ≠ bw from fun e => by subst e; rw [h.lw] at hg; exact h2 (Option.some.inj hg).symm)]
    exact hm.block g (h.labs g s hg).2.2 (fun e => by have := lr g e; rw [hg] at this; exact h1 (Option.some.inj this))
  have rn : MRow (w2.setCell ⟨bw, 1, none⟩ v) (MLab.row M w.heap.size v 3) 3 v (W1 ++ ps) := by
    refine ⟨ownsRow_frame own (fun g hg => set_other _ _ (fun e => ?_)), fun g hg => ?_⟩
    · simp only at e
      subst e
      rcases new g hg with q | q
      · exact nb q
      · omega
    · rcases new g hg with q | q
      · rw [hM' g (h.labs g _ (lr g q)).2.2]; exact lr g q
      · unfold MLab.row; rw [if_neg (by omega), if_pos hg]
  refine ⟨MLab.row M w.heap.size v 3, ⟨?_, (hM' _ (h.labs _ _ h.lw).2.2).trans h.lw, ?_, (hM' _ (h.labs _ _ h.lr).2.2).trans h.lr, kr h.w0 2 (by decide) (by decide), rn, kr h.r0 4 (by decide) (by decide), kr h.r1 5 (by decide) (by decide), ?_⟩, hM', hm2⟩
  · have := set_blk b2 1 v
    simpa using this
  · rw [set_other _ _ (show br ≠ bw from nbo)]; exact o2
  · intro x t hx
    unfold MLab.row at hx
    split at hx
    · exact ⟨(h.labs x t hx).1, (h.labs x t hx).2.1, Nat.lt_of_lt_of_le (h.labs x t hx).2.2 hm2.size⟩
    · split at hx
      · rename_i e1 e2
        exact ⟨hLn x (by omega), by omega, by simpa using (own.lt x e2).2⟩
      · cases hx

theorem app2 {B : Nat} {w w2 : World} {L : Lab} {M : MLab} {bw br : Nat} {W0 W1 R0 R1 ps : List UInt8} {a b c d v : Value} (h : MineAt B w L M bw br W0 W1 R0 R1 a b c d) (hB : B ≤ w.heap.size) (hLn : ∀ x, w.heap.size ≤ x → L x = none)
    (own : w2.ownsRow 0 5 1 v (R0 ++ ps).length (bytes (R0 ++ ps))) (hm : Mod (fun x => c.ownBlock = some x) w w2) (new : ∀ g, v.ownBlock = some g → c.ownBlock = some g ∨ w.heap.size ≤ g) :
    ∃ M', MineAt B (w2.setCell ⟨br, 0, none⟩ v) L M' bw br W0 W1 (R0 ++ ps) R1 a b v d ∧ (∀ x, x < w.heap.size → M' x = M x) ∧ Mod (fun x => M x ≠ none) w (w2.setCell ⟨br, 0, none⟩ v) := by
  have hM' : ∀ x, x < w.heap.size → MLab.row M w.heap.size v 4 x = M x := fun x hx => by simp [MLab.row, hx]
  have lr : ∀ g, c.ownBlock = some g → M g = some 4 := h.r0.lab
  have hbl : br < w.heap.size := (h.labs _ _ h.lr).2.2
  have hol : bw < w.heap.size := (h.labs _ _ h.lw).2.2
  have nb : ¬ c.ownBlock = some br := fun e => by have := lr _ e; rw [h.lr] at this; cases this
  have no : ¬ c.ownBlock = some bw := fun e => by have := lr _ e; rw [h.lw] at this; cases this
  have nbo : bw ≠ br := fun e => by have := h.lw; rw [e, h.lr] at this; cases this
  have b2 : w2.heap[br]? = _ := hm.heap h.hbr nb
  have o2 : w2.heap[bw]? = _ := hm.heap h.hbw no
  have hm2 : Mod (fun x => M x ≠ none) w (w2.setCell ⟨br, 0, none⟩ v) :=
    (hm.mono (fun x _ hx => by rw [lr x hx]; simp)).setCell _ _ (fun _ => by rw [h.lr]; simp)
  have kr : ∀ {u : Value} {xs : List UInt8} {s : Nat} (r : MRow w M s u xs) (s' : Nat), s ≠ 4 → s ≠ 1 → MRow (w2.setCell ⟨br, 0, none⟩ v) (MLab.row M w.heap.size v 4) s u xs := by
    intro u xs s r _ h1 h2
    refine r.kept fun g hg => ⟨?_, hM' g (h.labs g s hg).2.2⟩
    rw [set_other _ _ (show g ≠ br from fun e => by subst e; rw [h.lr] at hg; exact h2 (Option.some.inj hg).symm)]
    exact hm.block g (h.labs g s hg).2.2 (fun e => by have := lr g e; rw [hg] at this; exact h1 (Option.some.inj this))
  have rn : MRow (w2.setCell ⟨br, 0, none⟩ v) (MLab.row M w.heap.size v 4) 4 v (R0 ++ ps) := by
    refine ⟨ownsRow_frame own (fun g hg => set_other _ _ (fun e => ?_)), fun g hg => ?_⟩
    · simp only at e
      subst e
      rcases new g hg with q | q
      · exact nb q
      · omega
    · rcases new g hg with q | q
      · rw [hM' g (h.labs g _ (lr g q)).2.2]; exact lr g q
      · unfold MLab.row; rw [if_neg (by omega), if_pos hg]
  refine ⟨MLab.row M w.heap.size v 4, ⟨?_, (hM' _ (h.labs _ _ h.lw).2.2).trans h.lw, ?_, (hM' _ (h.labs _ _ h.lr).2.2).trans h.lr, kr h.w0 2 (by decide) (by decide), kr h.w1 3 (by decide) (by decide), rn, kr h.r1 5 (by decide) (by decide), ?_⟩, hM', hm2⟩
  · rw [set_other _ _ (show bw ≠ br from nbo)]; exact o2
  · have := set_blk b2 0 v
    simpa using this
  · intro x t hx
    unfold MLab.row at hx
    split at hx
    · exact ⟨(h.labs x t hx).1, (h.labs x t hx).2.1, Nat.lt_of_lt_of_le (h.labs x t hx).2.2 hm2.size⟩
    · split at hx
      · rename_i e1 e2
        exact ⟨hLn x (by omega), by omega, by simpa using (own.lt x e2).2⟩
      · cases hx

theorem app3 {B : Nat} {w w2 : World} {L : Lab} {M : MLab} {bw br : Nat} {W0 W1 R0 R1 ps : List UInt8} {a b c d v : Value} (h : MineAt B w L M bw br W0 W1 R0 R1 a b c d) (hB : B ≤ w.heap.size) (hLn : ∀ x, w.heap.size ≤ x → L x = none)
    (own : w2.ownsRow 0 5 1 v (R1 ++ ps).length (bytes (R1 ++ ps))) (hm : Mod (fun x => d.ownBlock = some x) w w2) (new : ∀ g, v.ownBlock = some g → d.ownBlock = some g ∨ w.heap.size ≤ g) :
    ∃ M', MineAt B (w2.setCell ⟨br, 1, none⟩ v) L M' bw br W0 W1 R0 (R1 ++ ps) a b c v ∧ (∀ x, x < w.heap.size → M' x = M x) ∧ Mod (fun x => M x ≠ none) w (w2.setCell ⟨br, 1, none⟩ v) := by
  have hM' : ∀ x, x < w.heap.size → MLab.row M w.heap.size v 5 x = M x := fun x hx => by simp [MLab.row, hx]
  have lr : ∀ g, d.ownBlock = some g → M g = some 5 := h.r1.lab
  have hbl : br < w.heap.size := (h.labs _ _ h.lr).2.2
  have hol : bw < w.heap.size := (h.labs _ _ h.lw).2.2
  have nb : ¬ d.ownBlock = some br := fun e => by have := lr _ e; rw [h.lr] at this; cases this
  have no : ¬ d.ownBlock = some bw := fun e => by have := lr _ e; rw [h.lw] at this; cases this
  have nbo : bw ≠ br := fun e => by have := h.lw; rw [e, h.lr] at this; cases this
  have b2 : w2.heap[br]? = _ := hm.heap h.hbr nb
  have o2 : w2.heap[bw]? = _ := hm.heap h.hbw no
  have hm2 : Mod (fun x => M x ≠ none) w (w2.setCell ⟨br, 1, none⟩ v) :=
    (hm.mono (fun x _ hx => by rw [lr x hx]; simp)).setCell _ _ (fun _ => by rw [h.lr]; simp)
  have kr : ∀ {u : Value} {xs : List UInt8} {s : Nat} (r : MRow w M s u xs) (s' : Nat), s ≠ 5 → s ≠ 1 → MRow (w2.setCell ⟨br, 1, none⟩ v) (MLab.row M w.heap.size v 5) s u xs := by
    intro u xs s r _ h1 h2
    refine r.kept fun g hg => ⟨?_, hM' g (h.labs g s hg).2.2⟩
    rw [set_other _ _ (show g ≠ br from fun e => by subst e; rw [h.lr] at hg; exact h2 (Option.some.inj hg).symm)]
    exact hm.block g (h.labs g s hg).2.2 (fun e => by have := lr g e; rw [hg] at this; exact h1 (Option.some.inj this))
  have rn : MRow (w2.setCell ⟨br, 1, none⟩ v) (MLab.row M w.heap.size v 5) 5 v (R1 ++ ps) := by
    refine ⟨ownsRow_frame own (fun g hg => set_other _ _ (fun e => ?_)), fun g hg => ?_⟩
    · simp only at e
      subst e
      rcases new g hg with q | q
      · exact nb q
      · omega
    · rcases new g hg with q | q
      · rw [hM' g (h.labs g _ (lr g q)).2.2]; exact lr g q
      · unfold MLab.row; rw [if_neg (by omega), if_pos hg]
  refine ⟨MLab.row M w.heap.size v 5, ⟨?_, (hM' _ (h.labs _ _ h.lw).2.2).trans h.lw, ?_, (hM' _ (h.labs _ _ h.lr).2.2).trans h.lr, kr h.w0 2 (by decide) (by decide), kr h.w1 3 (by decide) (by decide), kr h.r0 4 (by decide) (by decide), rn, ?_⟩, hM', hm2⟩
  · rw [set_other _ _ (show bw ≠ br from nbo)]; exact o2
  · have := set_blk b2 1 v
    simpa using this
  · intro x t hx
    unfold MLab.row at hx
    split at hx
    · exact ⟨(h.labs x t hx).1, (h.labs x t hx).2.1, Nat.lt_of_lt_of_le (h.labs x t hx).2.2 hm2.size⟩
    · split at hx
      · rename_i e1 e2
        exact ⟨hLn x (by omega), by omega, by simpa using (own.lt x e2).2⟩
      · cases hx

theorem invC_app {B : Nat} {w0 w w' : World} {n bw br cb : Nat} {o : Obj} {cut : Bool} {V : Nat} {L : Lab} {S : St} {M M' : MLab} {W0 W1 R0 R1 X0 X1 Y0 Y1 : List UInt8} {va vb vc vd ua ub uc ud : Value} {c : Cn}
    (hn : Net1 B w0 w L n S) (h3 : S.cs.length = 3) (hv : ∀ (j : Nat) (c : Cn), S.cs[j]? = some c → c.vol ≤ V) (hM : MineAt B w L M bw br W0 W1 R0 R1 va vb vc vd) (hM' : MineAt B w' L M' bw br X0 X1 Y0 Y1 ua ub uc ud)
    (hMo : ∀ x, x < w.heap.size → M' x = M x) (hm : Mod (fun x => M x ≠ none) w w') (hc : S.cs[1]? = some c) (ho : Ord cut c X0 X1 Y0 Y1) (l0 : X0.length ≤ V) (l1 : X1.length ≤ V)
    (hl : L cb = none) (hmc : M cb = none) (hB : B ≤ cb) (hb : w.heap[cb]? = some o) : InvC B w0 w' n bw br cb o cut V := by
  have hq : ∀ x, M x ≠ none → L x = none ∧ B ≤ x := by
    intro x hx
    cases hMx : M x with
    | none => exact absurd hMx hx
    | some t => exact ⟨(hM.labs x t hMx).1, (hM.labs x t hMx).2.1⟩
  exact ⟨L, S, M', X0, X1, Y0, Y1, ua, ub, uc, ud, c, hn.frame hm (fun x t hx e => by rw [(hq x e).1] at hx; cases hx) (fun x e => (hq x e).2), h3, hv, hM', hc, ho, l0, l1, hl,
    (hMo cb (lt_of_heap hb)).trans hmc, hB, hm.heap hb (fun e => e hmc)⟩

end Go.Proofs.Ytibijonjjkknoaa
