/-
The functions Read, Close, Under, Cut of package net.
-/
import Derived.Test.YtibijonjjkknoaaNetWrite
set_option linter.unusedVariables false
set_option linter.unusedSimpArgs false
namespace Go.Proofs.Ytibijonjjkknoaa
open Go Go.RowKit

set_option maxHeartbeats 400000 in
theorem read_ok {B : Nat} {w : World} {L : Lab} {n : Nat} {S : St} (h : NetIs B w L n S) (hB : B ≤ w.heap.size) (hs : S.cs.length ≤ maxLen) (i : Nat) (k : Int) (c : Cn) (hc : S.cs[i]? = some c) (hcut : c.cut = false) (hk : k = 0 ∨ k = 1) :
    Calls Try.prog 12 #[.pointer (some ⟨n, 0, none⟩), .int .i64 i, .int .i64 k] w fun e w' =>
      ∃ ao cap L', e = .returned (.tuple #[.slice ao (c.sd k).there.length cap, .bool (c.sd k).ended, .int .i64 0]) ∧ LeftL B w L n { S with cs := S.cs.set i (c.setSd k { c.sd k with there := [] }) } w' L' ∧
        w'.ownsRow 0 5 1 (.slice ao (c.sd k).there.length cap) (c.sd k).there.length (bytes (c.sd k).there) ∧ (∀ g, (Value.slice ao (c.sd k).there.length cap).ownBlock = some g → L' g = none ∧ B ≤ g ∧ L g ≠ none) := by
  obtain ⟨cv, mb, bs, h⟩ := h
  obtain ⟨g, cap, b, u0, t0, u1, t1, hcv, hi, hb, h1, h2, h3⟩ := of_cells h hc
  have hof := of_ok h hs i b k c hb hc hcut hk
  have Hof := Lib.hid hof
  have H3 := Lib.hid h3
  have Hh := Lib.hid h
  have Hb := Lib.hid hb
  clear hof h1 h2 hcv hc hb h
  rcases hk with rfl | rfl
  · have h3 := H3.out
    have e4 := cell_blk h3.blk 4
    have f4 := frozen_blk h3.blk 4
    have e6 := cell_blk h3.blk 6
    obtain ⟨ao0, c0, hf0⟩ : ∃ ao0 c0, t0 = .slice ao0 c.s0.there.length c0 := by
      rcases row_form h3.rows.t0.own with ⟨q1, q2, _⟩ | ⟨g, cap, q1, _⟩
      · exact ⟨none, 0, by rw [q1, q2]⟩
      · exact ⟨_, _, q1⟩
    have Hf0 := Lib.hid hf0
    simp [hf0] at e4 e6
    clear h3 hf0
    go_enter Try.func12, Try.ntmps12
    go_wp2_with fail
    refine Hof.out.mono ?_
    rintro e w1 ⟨rfl, n1, rfl⟩
    simp only [if_true]
    go_wp2
    go_quiet (fail)
    go_wp2
    go_ret3
    have h3 := H3.out
    have hr := h3.rows
    have hf0 := Hf0.out
    have hm : Mod (fun x => L x = some (i, 0)) w (((w.drewN n1).setCell ⟨b, 4, none⟩ (.slice none 0 0)).drewN nq) := (((((Mod.refl _ w).drewN n1).setCell _ _ (fun _ => h3.lab))).drewN nq)
    have hL : ∀ x, x < w.heap.size → (fun x => if t0.ownBlock = some x then none else L x) x = L x ∨ ((fun x => if t0.ownBlock = some x then none else L x) x = none ∧ ∃ k, k ≤ 4 ∧ L x = some (i, k)) := by
      intro x _
      by_cases e : t0.ownBlock = some x
      · exact .inr ⟨by simp [e], 2, by omega, hr.t0.lab x e⟩
      · exact .inl (by simp [e])
    have hL2 : ∀ {tag v xs}, RowAt w L (i, tag) v xs → tag ≠ 2 → tag ≠ 0 → RowAt (((w.drewN n1).setCell ⟨b, 4, none⟩ (.slice none 0 0)).drewN nq) (fun x => if t0.ownBlock = some x then none else L x) (i, tag) v xs := by
      intro tag v xs r ht ht0
      refine r.frame fun g hg => ⟨hm.block g (r.lt hg) (by intro e; have e := (r.lab g hg).symm.trans e; simp at e; exact ht0 e), ?_⟩
      have : ¬ t0.ownBlock = some g := by
        intro e
        have e2 := hr.t0.lab g e
        rw [r.lab g hg] at e2
        simp at e2
        exact ht e2
      simp [this]
    refine ⟨ao0, c0, (fun x => if t0.ownBlock = some x then none else L x), rfl, Hh.out.setConn Hb.out _ hL hB ?_ ?_ ⟨u0, .slice none 0 0, u1, t1, ?_, ?_, ?_⟩, ?_, ?_⟩
    · intro x t hx
      have : L x = some t := by
        by_cases e : t0.ownBlock = some x
        · simp [e] at hx
        · simpa [e] using hx
      have := (Hh.out.labs x t this).2
      simpa [World.drewN] using this
    · exact hm.mono fun x _ hx => ⟨0, by omega, hx⟩
    · have := set_blk h3.blk 4 (.slice none 0 0)
      exact (show (w.setCell ⟨b, 4, none⟩ (.slice none 0 0)).heap[b]? = _ from by simpa [Cn.setSd, Cn.sd] using this)
    · have : ¬ t0.ownBlock = some b := by
        intro e
        have e2 := hr.t0.lab b e
        rw [h3.lab] at e2; simp at e2
      simp [this, h3.lab]
    · exact ⟨hL2 hr.u0 (by decide) (by decide), RowAt.nil _ _ _, hL2 hr.u1 (by decide) (by decide), hL2 hr.t1 (by decide) (by decide)⟩
    · show World.ownsRow _ 0 _ 1 (.slice ao0 c.s0.there.length c0) c.s0.there.length (bytes c.s0.there)
      rw [← hf0]
      exact ownsRow_frame hr.t0.own (fun g hg => hm.block g (hr.t0.lt hg) (by intro e; have e := (hr.t0.lab g hg).symm.trans e; simp at e))
    · intro g hg
      have hg' : t0.ownBlock = some g := by rw [hf0]; exact hg
      exact ⟨by simp [hg'], (Hh.out.labs g _ (hr.t0.lab g hg')).1, by rw [hr.t0.lab g hg']; simp⟩
  · have h3 := H3.out
    have e4 := cell_blk h3.blk 8
    have f4 := frozen_blk h3.blk 8
    have e6 := cell_blk h3.blk 10
    obtain ⟨ao0, c0, hf0⟩ : ∃ ao0 c0, t1 = .slice ao0 c.s1.there.length c0 := by
      rcases row_form h3.rows.t1.own with ⟨q1, q2, _⟩ | ⟨g, cap, q1, _⟩
      · exact ⟨none, 0, by rw [q1, q2]⟩
      · exact ⟨_, _, q1⟩
    have Hf0 := Lib.hid hf0
    simp [hf0] at e4 e6
    clear h3 hf0
    go_enter Try.func12, Try.ntmps12
    go_wp2_with fail
    refine Hof.out.mono ?_
    rintro e w1 ⟨rfl, n1, rfl⟩
    simp only [if_neg (show ¬ (1:Int) = 0 by decide)]
    go_wp2
    go_quiet (fail)
    go_wp2
    go_ret3
    have h3 := H3.out
    have hr := h3.rows
    have hf0 := Hf0.out
    have hm : Mod (fun x => L x = some (i, 0)) w (((w.drewN n1).setCell ⟨b, 8, none⟩ (.slice none 0 0)).drewN nq) := (((((Mod.refl _ w).drewN n1).setCell _ _ (fun _ => h3.lab))).drewN nq)
    have hL : ∀ x, x < w.heap.size → (fun x => if t1.ownBlock = some x then none else L x) x = L x ∨ ((fun x => if t1.ownBlock = some x then none else L x) x = none ∧ ∃ k, k ≤ 4 ∧ L x = some (i, k)) := by
      intro x _
      by_cases e : t1.ownBlock = some x
      · exact .inr ⟨by simp [e], 4, by omega, hr.t1.lab x e⟩
      · exact .inl (by simp [e])
    have hL2 : ∀ {tag v xs}, RowAt w L (i, tag) v xs → tag ≠ 4 → tag ≠ 0 → RowAt (((w.drewN n1).setCell ⟨b, 8, none⟩ (.slice none 0 0)).drewN nq) (fun x => if t1.ownBlock = some x then none else L x) (i, tag) v xs := by
      intro tag v xs r ht ht0
      refine r.frame fun g hg => ⟨hm.block g (r.lt hg) (by intro e; have e := (r.lab g hg).symm.trans e; simp at e; exact ht0 e), ?_⟩
      have : ¬ t1.ownBlock = some g := by
        intro e
        have e2 := hr.t1.lab g e
        rw [r.lab g hg] at e2
        simp at e2
        exact ht e2
      simp [this]
    refine ⟨ao0, c0, (fun x => if t1.ownBlock = some x then none else L x), rfl, Hh.out.setConn Hb.out _ hL hB ?_ ?_ ⟨u0, t0, u1, .slice none 0 0, ?_, ?_, ?_⟩, ?_, ?_⟩
    · intro x t hx
      have : L x = some t := by
        by_cases e : t1.ownBlock = some x
        · simp [e] at hx
        · simpa [e] using hx
      have := (Hh.out.labs x t this).2
      simpa [World.drewN] using this
    · exact hm.mono fun x _ hx => ⟨0, by omega, hx⟩
    · have := set_blk h3.blk 8 (.slice none 0 0)
      exact (show (w.setCell ⟨b, 8, none⟩ (.slice none 0 0)).heap[b]? = _ from by simpa [Cn.setSd, Cn.sd] using this)
    · have : ¬ t1.ownBlock = some b := by
        intro e
        have e2 := hr.t1.lab b e
        rw [h3.lab] at e2; simp at e2
      simp [this, h3.lab]
    · exact ⟨hL2 hr.u0 (by decide) (by decide), hL2 hr.t0 (by decide) (by decide), hL2 hr.u1 (by decide) (by decide), RowAt.nil _ _ _⟩
    · show World.ownsRow _ 0 _ 1 (.slice ao0 c.s1.there.length c0) c.s1.there.length (bytes c.s1.there)
      rw [← hf0]
      exact ownsRow_frame hr.t1.own (fun g hg => hm.block g (hr.t1.lt hg) (by intro e; have e := (hr.t1.lab g hg).symm.trans e; simp at e))
    · intro g hg
      have hg' : t1.ownBlock = some g := by rw [hf0]; exact hg
      exact ⟨by simp [hg'], (Hh.out.labs g _ (hr.t1.lab g hg')).1, by rw [hr.t1.lab g hg']; simp⟩

end Go.Proofs.Ytibijonjjkknoaa
