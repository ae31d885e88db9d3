/-
Items that own blocks apart from each other.
-/
import Derived.Test.YtibijonjjkknoaaNetTot
set_option linter.unusedVariables false
set_option linter.unusedSimpArgs false
namespace Go.Proofs.Ytibijonjjkknoaa
open Go Go.RowKit

/-- Something that is said of memory, and the blocks on which alone it hangs. -/
structure Item where
  own : Nat → Prop
  P : World → Prop
  stable : ∀ w w2 : World, (∀ g, own g → w2.heap[g]? = w.heap[g]?) → P w → P w2

def Item.none : Item := ⟨fun _ => False, fun _ => True, fun _ _ _ h => h⟩

structure Bag (w : World) (It : Nat → Item) : Prop where
  holds : ∀ i, (It i).P w
  lt : ∀ i g, (It i).own g → g < w.heap.size
  apart : ∀ i j g, i ≠ j → (It i).own g → ¬ (It j).own g

def upd (It : Nat → Item) (k : Nat) (x : Item) : Nat → Item := fun i => if i = k then x else It i

theorem Bag.later {w w2 : World} {It : Nat → Item} (h : Bag w It) (hb : Below w.heap.size w w2) : Bag w2 It :=
  ⟨fun i => (It i).stable w w2 (fun g hg => hb.block g (h.lt i g hg)) (h.holds i), fun i g hg => Nat.lt_of_lt_of_le (h.lt i g hg) hb.size, h.apart⟩

/-- One item is put anew: its blocks are the elder item's, or new ones; nothing else changed. -/
theorem Bag.put {w w2 : World} {It : Nat → Item} (h : Bag w It) (k : Nat) (x : Item) (hm : ∀ g, g < w.heap.size → ¬ (It k).own g → w2.heap[g]? = w.heap[g]?) (hs : w.heap.size ≤ w2.heap.size)
    (hP : x.P w2) (hlt : ∀ g, x.own g → g < w2.heap.size) (hown : ∀ g, x.own g → (It k).own g ∨ w.heap.size ≤ g) : Bag w2 (upd It k x) := by
  refine ⟨fun i => ?_, fun i g hg => ?_, fun i j g hij hi hj => ?_⟩
  · unfold upd
    by_cases e : i = k
    · rw [if_pos e]; exact hP
    · rw [if_neg e]
      exact (It i).stable w w2 (fun g hg => hm g (h.lt i g hg) (h.apart i k g e hg)) (h.holds i)
  · unfold upd at hg
    by_cases e : i = k
    · rw [if_pos e] at hg; exact hlt g hg
    · rw [if_neg e] at hg; exact Nat.lt_of_lt_of_le (h.lt i g hg) hs
  · unfold upd at hi hj
    by_cases e : i = k
    · rw [if_pos e] at hi
      rw [if_neg (by omega)] at hj
      rcases hown g hi with q | q
      · exact h.apart k j g (by omega) q hj
      · exact absurd (h.lt j g hj) (by omega)
    · rw [if_neg e] at hi
      by_cases e2 : j = k
      · rw [if_pos e2] at hj
        rcases hown g hj with q | q
        · exact h.apart i k g e hi q
        · exact absurd (h.lt i g hi) (by omega)
      · rw [if_neg e2] at hj
        exact h.apart i j g hij hi hj

/-- A row that the call owns. -/
def rowItem (T : TypeId) (sz : Nat) (v : Value) (n : Nat) (vs : List Value) : Item :=
  ⟨fun g => v.ownBlock = some g, fun w => w.ownsRow 0 T sz v n vs, fun w w2 hk h => ownsRow_frame h hk⟩

/-- One object. -/
def objItem (b : Nat) (o : Obj) : Item :=
  ⟨fun g => g = b, fun w => w.heap[b]? = some o, fun w w2 hk h => (hk b rfl).trans h⟩

/-- Items of a call that began in w0. -/
structure Bg (w0 w : World) (It : Nat → Item) : Prop where
  bag : Bag w It
  below : Below w0.heap.size w0 w
  lo : ∀ i g, (It i).own g → w0.heap.size ≤ g

theorem Bg.later {w0 w w2 : World} {It : Nat → Item} (h : Bg w0 w It) (hb : Below w.heap.size w w2) : Bg w0 w2 It :=
  ⟨h.bag.later hb, h.below.trans (hb.mono h.below.size), h.lo⟩

theorem Bg.alloc {w0 w : World} {It : Nat → Item} (h : Bg w0 w It) (o : Obj) : Bg w0 (w.alloc o) It := h.later ((Below.refl _ w).alloc (Nat.le_refl _) o)

theorem Bg.drewN {w0 w : World} {It : Nat → Item} (h : Bg w0 w It) (n : Nat) : Bg w0 (w.drewN n) It := h.later ⟨rfl, rfl, rfl, Nat.le_refl _, fun _ _ => rfl⟩

theorem Bg.put {w0 w w2 : World} {It : Nat → Item} (h : Bg w0 w It) (k : Nat) (x : Item) (hm : Mod (It k).own w w2) (hP : x.P w2) (hlt : ∀ g, x.own g → g < w2.heap.size) (hown : ∀ g, x.own g → (It k).own g ∨ w.heap.size ≤ g) : Bg w0 w2 (upd It k x) := by
  refine ⟨h.bag.put k x (fun g hg hn => hm.block g hg hn) hm.size hP hlt hown, h.below.trans (hm.below h.below.size (h.lo k)), fun i g hg => ?_⟩
  unfold upd at hg
  by_cases e : i = k
  · rw [if_pos e] at hg
    rcases hown g hg with q | q
    · exact h.lo k g q
    · exact Nat.le_trans h.below.size q
  · rw [if_neg e] at hg
    exact h.lo i g hg

theorem upd_same (It : Nat → Item) (k : Nat) (x : Item) : upd It k x k = x := by unfold upd; rw [if_pos rfl]
theorem upd_ne (It : Nat → Item) {k i : Nat} (x : Item) (h : i ≠ k) : upd It k x i = It i := by unfold upd; rw [if_neg h]

def writeAt (c : Array Value) (o : Nat) : List Value → Array Value
  | [] => c
  | v :: r => writeAt (c.setIfInBounds o v) (o + 1) r

theorem setCells_blk {b : Nat} {t : TypeId} : ∀ (vs : List Value) (o : Nat) (w : World) (c : Array Value), w.heap[b]? = some (.cells c t (0, 0)) → (w.setCells b o vs).heap[b]? = some (.cells (writeAt c o vs) t (0, 0))
  | [], _, _, _, h => h
  | v :: r, o, w, c, h => by
    rw [World.setCells]
    exact setCells_blk r (o + 1) _ _ (set_blk h o v)

theorem writeAt_mid : ∀ (new old pre post : List Value), old.length = new.length → writeAt (pre ++ old ++ post).toArray pre.length new = (pre ++ new ++ post).toArray
  | [], [], pre, post, _ => rfl
  | [], _ :: _, _, _, h => by cases h
  | _ :: _, [], _, _, h => by cases h
  | v :: r, u :: o, pre, post, h => by
    have h1 : ((pre ++ u :: o ++ post).toArray).setIfInBounds pre.length v = ((pre ++ [v]) ++ o ++ post).toArray := by
      rw [List.setIfInBounds_toArray]
      congr 1
      simp
    have h2 := writeAt_mid r o (pre ++ [v]) post (by simpa using h)
    rw [writeAt, h1]
    rw [List.length_append, List.length_singleton] at h2
    rw [h2]
    simp

theorem mod_setCells {F : Nat → Prop} {a : World} {pe : Nat} (hF : pe < a.heap.size → F pe) : ∀ (vs : List Value) (o : Nat) (b : World), Mod F a b → Mod F a (b.setCells pe o vs)
  | [], _, _, h => h
  | v :: r, o, b, h => by
    rw [World.setCells]
    exact mod_setCells hF r (o + 1) _ (h.setCell ⟨pe, o, none⟩ v hF)

/-- A whole element is written over. -/
theorem row_setCells {w : World} {base e size n : Nat} {v : Value} {xs : List Value} (h : w.ownsRow base e size v n xs) {g : Nat} (hv : v.ownBlock = some g) (k : Nat) (hk : k < n) (new : List Value) (hl : new.length = size) :
    (w.setCells g (k * size) new).ownsRow base e size v n (xs.take (k * size) ++ new ++ xs.drop (k * size + size)) := by
  rcases h.2 with ⟨rfl, _⟩ | ⟨g', cap, cur, rfl, hb, hg, hn, hc, hs, ht⟩
  · cases hv
  · obtain rfl : g' = g := by simpa [Value.ownBlock] using hv
    have hm : k * size + size ≤ n * size := by
      rw [← Nat.succ_mul]
      exact Nat.mul_le_mul_right _ (by omega)
    have hm2 : n * size ≤ cap * size := Nat.mul_le_mul_right _ hn
    have hcur : cur = (cur.toList.take (k * size) ++ (cur.toList.drop (k * size)).take size ++ cur.toList.drop (k * size + size)).toArray := by
      rw [List.append_assoc, ← List.drop_drop, List.take_append_drop, List.take_append_drop]
    have hcl : cur.toList.length = cap * size := by rw [Array.length_toList, hs]
    have hw : writeAt cur (k * size) new = (cur.toList.take (k * size) ++ new ++ cur.toList.drop (k * size + size)).toArray := by
      have h2 := writeAt_mid new ((cur.toList.drop (k * size)).take size) (cur.toList.take (k * size)) (cur.toList.drop (k * size + size)) (by rw [List.length_take, List.length_drop, hcl, hl]; omega)
      rw [← hcur, List.length_take, hcl, Nat.min_eq_left (by omega)] at h2
      exact h2
    have hxs := h.1
    refine ⟨by rw [List.length_append, List.length_append, List.length_take, List.length_drop, hl]; omega, .inr ⟨g', cap, _, rfl, hb, setCells_blk new (k * size) w cur hg, hn, hc, ?_, ?_⟩⟩
    · rw [hw, List.size_toArray, List.length_append, List.length_append, List.length_take, List.length_drop, hcl, hl]
      omega
    · rw [hw, ← ht, List.take_take, Nat.min_eq_left (by omega), List.drop_take, List.toList_toArray]
      rw [List.take_append, List.take_of_length_le (by rw [List.length_append, List.length_take, hl, hcl]; omega), List.length_append, List.length_take, hl, hcl, Nat.min_eq_left (by omega)]

theorem list_set {α : Type} {xs : List α} {k : Nat} (hk : k < xs.length) (e : α) : xs.set k e = xs.take k ++ [e] ++ xs.drop (k + 1) := by
  rw [List.set_eq_take_append_cons_drop, if_pos hk, List.append_assoc]
  rfl

/-- The write of one cell into a list of one's own, of elements of one cell. -/
theorem row_set {w : World} {base T n : Nat} {v : Value} {xs : List Value} (h : w.ownsRow base T 1 v n xs) {g : Nat} (hv : v.ownBlock = some g) {k : Nat} (hk : k < n) (u : Value) : (w.setCell ⟨g, k, none⟩ u).ownsRow base T 1 v n (xs.set k u) := by
  have h1 := row_setCells h hv k hk [u] rfl
  have hl := h.1
  rw [Nat.mul_one] at h1 hl
  rw [list_set (by omega)]
  exact h1

theorem row_at0 {w : World} {T : TypeId} {sz n : Nat} {v : Value} {xs : List Value} (h : w.ownsRow 0 T sz v n xs) (hn : 0 < n) : ∃ g c, v = .slice (some ⟨g, 0, none⟩) n c := by
  rcases h.2 with ⟨_, h0⟩ | ⟨g, cap, cur, hv, _⟩
  · omega
  · exact ⟨g, cap, hv⟩

/-- A cell of a row of elements of one cell. -/
theorem row_cell1 {w : World} {T : TypeId} {n : Nat} {g c : Nat} {xs : List Value} (h : w.ownsRow 0 T 1 (.slice (some ⟨g, 0, none⟩) n c) n xs) {j : Nat} {u : Value} (hu : xs[j]? = some u) : w.cell? ⟨g, j, none⟩ = some u := by
  have h1 := h.cells (g := g) rfl j u hu
  rwa [show ((⟨g, 0, none⟩ : Addr).add j) = ⟨g, j, none⟩ by unfold Addr.add; split <;> simp_all] at h1

/-- A row that a call made is put. -/
theorem Bg.fresh {w0 w : World} {It : Nat → Item} (h : Bg w0 w It) (k : Nat) {T : TypeId} {sz n : Nat} {v : Value} {vs : List Value} {w2 : World} (hb : Below w.heap.size w w2) (hr : w2.ownsRow 0 T sz v n vs) (hn : ∀ g, v.ownBlock = some g → w.heap.size ≤ g) : Bg w0 w2 (upd It k (rowItem T sz v n vs)) :=
  h.put k _ (Mod.ofBelow hb fun k hk h2 => absurd hk (by omega)) hr (fun g hg => (hr.lt g hg).2) (fun g hg => .inr (hn g hg))

theorem Bg.grow {w0 w : World} {It : Nat → Item} (h : Bg w0 w It) (k : Nat) {T : TypeId} {sz n q : Nat} {v v' : Value} {vs vs' : List Value} {w2 : World} {o : Obj} (hI : It k = rowItem T sz v n vs) (hg : (w.alloc o).grownBy w2 v.ownBlock) (hr : w2.ownsRow 0 T sz v' q vs') (hn : ∀ g, v'.ownBlock = some g → v.ownBlock = some g ∨ (w.alloc o).heap.size ≤ g) : Bg w0 w2 (upd It k (rowItem T sz v' q vs')) := by
  refine h.put k _ ?_ hr (fun g hg => (hr.lt g hg).2) (fun g hg => ?_)
  · rw [hI]
    exact ((Mod.refl _ w).alloc o).grown hg (fun k hk _ => hk)
  · rw [hI]
    rcases hn g hg with q | q
    · exact .inl q
    · refine .inr (Nat.le_trans ?_ q)
      simp

/-- One object is written over. -/
theorem Bg.obj {w0 w : World} {It : Nat → Item} (h : Bg w0 w It) (k : Nat) {b : Nat} {o o' : Obj} {w2 : World} (hI : It k = objItem b o) (hm : Mod (fun g => g = b) w w2) (ho : w2.heap[b]? = some o') : Bg w0 w2 (upd It k (objItem b o')) := by
  refine h.put k _ ?_ ho (fun g hg => ?_) (fun g hg => ?_)
  · rw [hI]; exact hm
  · have : g = b := hg
    rw [this]; exact lt_of_heap ho
  · rw [hI]; exact .inl hg

/-- A new object. -/
theorem Bg.objNew {w0 w : World} {It : Nat → Item} (h : Bg w0 w It) (k : Nat) {b : Nat} {o : Obj} {w2 : World} (hb : Below w.heap.size w w2) (hn : w.heap.size ≤ b) (ho : w2.heap[b]? = some o) : Bg w0 w2 (upd It k (objItem b o)) :=
  h.put k _ (Mod.ofBelow hb fun k hk h2 => absurd hk (by omega)) ho (fun g hg => by have : g = b := hg; rw [this]; exact lt_of_heap ho) (fun g hg => .inr (by have : g = b := hg; rw [this]; exact hn))

/-- A net of the program's. -/
def NI (B n : Nat) (L : Lab) (S : St) : Item :=
  ⟨fun g => L g ≠ none, fun w => NetIs B w L n S, fun w w2 hk h => by
    obtain ⟨cv, mb, bs, h⟩ := h
    have q : ∀ x t, L x = some t → w2.heap[x]? = w.heap[x]? := fun x t hx => hk x (by rw [hx]; exact fun e => by cases e)
    exact ⟨cv, mb, bs, (q n _ h.lab).trans h.blk, h.lab, ownsRow_frame h.row fun g hg => q g _ (h.rlab g hg), h.rlab, ownsMap_frame h.map (q mb _ h.mlab), h.isMap, h.mlab, h.len,
      fun i b c hb hc => (h.conns i b c hb hc).frame fun g k _ hg _ => ⟨q g _ hg, rfl⟩, fun x t hx => ⟨(h.labs x t hx).1, by
        have h1 := (h.labs x t hx).2
        have h2 := q x t hx
        rw [Array.getElem?_eq_getElem h1] at h2
        exact (Array.getElem?_eq_some_iff.1 h2).1⟩⟩⟩

/-- What a call on a net leaves, among the items. -/
theorem Bg.net {w0 w : World} {It : Nat → Item} (h : Bg w0 w It) (k : Nat) {B n : Nat} {L L' : Lab} {S S' : St} {w2 : World} (hI : It k = NI B n L S) (hl : LeftL B w L n S' w2 L') : Bg w0 w2 (upd It k (NI B n L' S')) := by
  refine h.put k _ ?_ hl.1 (fun g hg => ?_) (fun g hg => ?_)
  · rw [hI]; exact hl.2.2
  · obtain ⟨cv, mb, bs, hN⟩ := hl.1
    cases hx : L' g with
    | none => exact absurd hx hg
    | some t => exact (hN.labs g t hx).2
  · rw [hI]
    rcases Nat.lt_or_ge g w.heap.size with q | q
    · rcases hl.2.1 g q with e | e
      · exact .inl (fun e2 => hg (by rw [e]; exact e2))
      · exact absurd e hg
    · exact .inr q

end Go.Proofs.Ytibijonjjkknoaa
