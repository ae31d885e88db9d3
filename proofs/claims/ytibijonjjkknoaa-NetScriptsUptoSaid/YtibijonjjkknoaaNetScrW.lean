/-
NetScripts' walk, whole.
-/
import Derived.Test.YtibijonjjkknoaaNetScr
set_option linter.unusedVariables false
set_option linter.unusedSimpArgs false
namespace Go.Proofs.Ytibijonjjkknoaa
open Go Go.RowKit

section
variable {w0 w : World} {It : Nat → Item}

/-- Nothing yet. -/
def itNone : Nat → Item := fun _ => Item.none

theorem bg_none {w0 w : World} (hb : Below w0.heap.size w0 w) : Bg w0 w itNone :=
  ⟨⟨fun _ => trivial, fun _ _ h => h.elim, fun _ _ _ _ h => h.elim⟩, hb, fun _ _ h => h.elim⟩

/-- A net that New made. -/
theorem Bg.made (h : Bg w0 w It) (k : Nat) {w2 : World} {n : Nat} {L : Lab} {S : St} (hN : NetIs w0.heap.size w2 L n S) (hm : Mod (fun _ => False) w w2) (hL : ∀ x t, L x = some t → w.heap.size ≤ x) : Bg w0 w2 (upd It k (NI w0.heap.size n L S)) := by
  refine h.put k _ (hm.mono fun _ _ f => f.elim) hN (fun g hg => ?_) (fun g hg => ?_)
  · obtain ⟨cv, mb, bs, q⟩ := hN
    cases hx : L g with
    | none => exact absurd hx hg
    | some t => exact (q.labs g t hx).2
  · cases hx : L g with
    | none => exact absurd hx hg
    | some t => exact .inr (hL g t hx)

/-- The reference's net, made. -/
theorem Bg.ref (h : Bg w0 w It) (r : Nat) : ∃ It', Bg w0 (w.alloc (.cells #[.slice none 0 0, .slice none 0 0, .slice none 0 0] 48)) It' ∧ RefIs It' r w.heap.size ⟨[], [], []⟩ ∧ ∀ i, (∀ j, i ≠ ix r j) → It' i = It i := by
  have h0 := h.objNew (ix r 0) ((Below.refl _ w).alloc (Nat.le_refl _) (.cells #[.slice none 0 0, .slice none 0 0, .slice none 0 0] 48)) (Nat.le_refl _) (alloc_new _)
  have h1 := h0.fresh (ix r 1) (Below.refl _ _) (World.ownsRow_nil _ 0 81 1) nofun
  have h2 := h1.fresh (ix r 2) (Below.refl _ _) (World.ownsRow_nil _ 0 9 1) nofun
  have h3 := h2.fresh (ix r 3) (Below.refl _ _) (World.ownsRow_nil _ 0 3 1) nofun
  refine ⟨_, h3, ⟨.slice none 0 0, .slice none 0 0, .slice none 0 0, [], fun _ _ => .slice none 0 0, ?_, ?_, ?_, ?_, rfl, fun i b c hb hc => by simp at hb⟩, fun i hi => by rw [upd_ne _ _ (hi _), upd_ne _ _ (hi _), upd_ne _ _ (hi _), upd_ne _ _ (hi _)]⟩
  · rw [upd_ne _ _ (ix_ne (by omega)), upd_ne _ _ (ix_ne (by omega)), upd_ne _ _ (ix_ne (by omega)), upd_same]
  · rw [upd_ne _ _ (ix_ne (by omega)), upd_ne _ _ (ix_ne (by omega)), upd_same]; rfl
  · rw [upd_ne _ _ (ix_ne (by omega)), upd_same]; rfl
  · rw [upd_same]; rfl

/-- How both pairs begin. -/
theorem sc_start {w1 w2 : World} {n1 n2 : Nat} {L1 L2 : Lab} (hb : Below w0.heap.size w0 w0) (h1 : NetIs w0.heap.size w1 L1 n1 St.new) (m1 : Mod (fun _ => False) w0 w1) (l1 : ∀ x t, L1 x = some t → w0.heap.size ≤ x) (h2 : NetIs w0.heap.size w2 L2 n2 St.new) (m2 : Mod (fun _ => False) w1 w2) (l2 : ∀ x t, L2 x = some t → w1.heap.size ≤ x) :
    ∃ It, Duo w0 ((w2.alloc (.cells #[.slice none 0 0, .slice none 0 0, .slice none 0 0] 48)).alloc (.cells #[.slice none 0 0, .slice none 0 0, .slice none 0 0] 48)) It 0 (.pointer (some ⟨n1, 0, none⟩)) (.pointer (some ⟨w2.heap.size, 0, none⟩)) 0 ∧
      Duo w0 ((w2.alloc (.cells #[.slice none 0 0, .slice none 0 0, .slice none 0 0] 48)).alloc (.cells #[.slice none 0 0, .slice none 0 0, .slice none 0 0] 48)) It 1 (.pointer (some ⟨n2, 0, none⟩)) (.pointer (some ⟨w2.heap.size + 1, 0, none⟩)) 0 := by
  have b1 := (bg_none hb).made 0 h1 m1 l1
  have b2 := b1.made 1 h2 m2 l2
  obtain ⟨I3, b3, r3, o3⟩ := b2.ref 0
  obtain ⟨I4, b4, r4, o4⟩ := b3.ref 1
  rw [World.size_alloc] at r4
  have e : ∀ j, I4 (ix 0 j) = I3 (ix 0 j) := fun j => o4 _ (fun i => by unfold ix; omega)
  refine ⟨I4, .both (L := L1) ⟨b4, ?_, r3.other e, Pair.init, by omega⟩, .both (L := L2) ⟨b4, ?_, r4, Pair.init, by omega⟩⟩
  · rw [o4 0 (fun j => by unfold ix; omega), o3 0 (fun j => by unfold ix; omega), upd_ne _ _ (by omega), upd_same]
  · rw [o4 1 (fun j => by unfold ix; omega), o3 1 (fun j => by unfold ix; omega), upd_same]

/-- How many connections there are. -/
theorem Duo.conns {r N : Nat} {np rp : Value} (h : Duo w0 w It r np rp N) : ∃ y : Int, (∀ w1, Below w.heap.size w w1 → Calls Try.prog 19 #[np] w1 fun e w2 => e = .returned (.int .i64 y) ∧ w2 = w1) ∧
    ((np = .pointer none ∧ rp = .pointer none ∧ y = 0) ∨ ∃ n rb ao c m, np = .pointer (some ⟨n, 0, none⟩) ∧ rp = .pointer (some ⟨rb, 0, none⟩) ∧ w.cell? ⟨rb, 0, none⟩ = some (.slice ao m c) ∧ y = (m : Int)) := by
  cases h with
  | bare hB => exact ⟨0, fun w1 _ => (conns_nil w1).mono fun e w2 ⟨he, hw⟩ => ⟨he, hw.symm⟩, .inl ⟨rfl, rfl, rfl⟩⟩
  | @both n rb N L S R h =>
    obtain ⟨cv, nv, tv, bs, vs, q⟩ := h.ref
    obtain ⟨ao, c, hcv⟩ := row_slice (q.row h.bg)
    refine ⟨_, fun w1 hb => (conns_ok (h.later hb).netIs).mono fun e w2 ⟨he, hw⟩ => ⟨he, hw.symm⟩, .inr ⟨n, rb, ao, c, bs.length, rfl, rfl, ?_, ?_⟩⟩
    · rw [cell_blk (q.blk h.bg), hcv]; rfl
    · rw [q.len, h.pair.len]

end

end Go.Proofs.Ytibijonjjkknoaa
