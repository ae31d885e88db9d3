/-
How a net of the reference lies among the items.
-/
import Derived.Test.YtibijonjjkknoaaNetBag
set_option linter.unusedVariables false
set_option linter.unusedSimpArgs false
namespace Go.Proofs.Ytibijonjjkknoaa
open Go Go.RowKit

/-- A connection of the reference: for each side what it wrote, how much passed and was read, closed, ended. -/
structure RC where
  name : ByteArray
  waiting : Bool
  cut : Bool
  W : Nat → List UInt8
  P : Nat → Nat
  Q : Nat → Nat
  C : Nat → Bool
  E : Nat → Bool

def setf {α : Type} (f : Nat → α) (k : Nat) (v : α) : Nat → α := fun i => if i = k then v else f i

structure RS where
  cs : List RC
  names : List ByteArray
  times : List Int

abbrev RC.obj (c : RC) (v0 v1 : Value) : Obj := .cells #[.string c.name, .bool c.waiting, .bool c.cut, v0, v1, .int .i64 (c.P 0 : Int), .int .i64 (c.P 1 : Int), .int .i64 (c.Q 0 : Int), .int .i64 (c.Q 1 : Int), .bool (c.C 0), .bool (c.C 1), .bool (c.E 0), .bool (c.E 1)] 80

def ix (r j : Nat) : Nat := 10 + 2 * j + r

def intVs (l : List Int) : List Value := l.map fun z => Value.int .i64 z
def strVs (l : List ByteArray) : List Value := l.map fun s => Value.string s

structure RefI (It : Nat → Item) (r rb : Nat) (R : RS) (cv nv tv : Value) (bs : List Nat) (vs : Nat → Nat → Value) : Prop where
  hd : It (ix r 0) = objItem rb (.cells #[cv, nv, tv] 48)
  cs : It (ix r 1) = rowItem 81 1 cv bs.length (ptrs bs)
  ns : It (ix r 2) = rowItem 9 1 nv R.names.length (strVs R.names)
  ts : It (ix r 3) = rowItem 3 1 tv R.times.length (intVs R.times)
  len : bs.length = R.cs.length
  cn : ∀ (i b : Nat) (c : RC), bs[i]? = some b → R.cs[i]? = some c → It (ix r (4 + 3 * i)) = objItem b (c.obj (vs i 0) (vs i 1)) ∧ It (ix r (5 + 3 * i)) = rowItem 5 1 (vs i 0) (c.W 0).length (bytes (c.W 0)) ∧ It (ix r (6 + 3 * i)) = rowItem 5 1 (vs i 1) (c.W 1).length (bytes (c.W 1))

def RefIs (It : Nat → Item) (r rb : Nat) (R : RS) : Prop := ∃ cv nv tv bs vs, RefI It r rb R cv nv tv bs vs

/-- What a call leaves. -/
def RPost (w0 w : World) (It : Nat → Item) (r rb : Nat) (R' : RS) (w' : World) : Prop :=
  ∃ It', Bg w0 w' It' ∧ RefIs It' r rb R' ∧ (∀ i, (∀ j, i ≠ ix r j) → It' i = It i) ∧ Mod (fun g => ∃ j, (It (ix r j)).own g) w w'

section
variable {w0 w : World} {It : Nat → Item} {r rb : Nat} {R : RS} {cv nv tv : Value} {bs : List Nat} {vs : Nat → Nat → Value}

theorem ix_inj {r i j : Nat} (h : ix r i = ix r j) : i = j := by unfold ix at h; omega
theorem ix_ne {r i j : Nat} (h : i ≠ j) : ix r i ≠ ix r j := fun e => h (ix_inj e)

theorem RPost.same (hB : Bg w0 w It) (h : RefIs It r rb R) {w' : World} (hb : Below w.heap.size w w') : RPost w0 w It r rb R w' :=
  ⟨It, hB.later hb, h, fun _ _ => rfl, Mod.ofBelow hb fun k hk h2 => absurd hk (by omega)⟩

theorem RPost.put {w' : World} {j : Nat} {x : Item} {R' : RS} (hb : Bg w0 w' (upd It (ix r j) x)) (h : RefIs (upd It (ix r j) x) r rb R') (hm : Mod (It (ix r j)).own w w') : RPost w0 w It r rb R' w' :=
  ⟨_, hb, h, fun i hi => upd_ne _ _ (hi j), hm.mono fun g _ hg => ⟨j, hg⟩⟩

theorem RPost.put2 {w' : World} {j k : Nat} {x y : Item} {R' : RS} (hb : Bg w0 w' (upd (upd It (ix r j) x) (ix r k) y)) (h : RefIs (upd (upd It (ix r j) x) (ix r k) y) r rb R') (hm : Mod (fun g => (It (ix r j)).own g ∨ (It (ix r k)).own g) w w') : RPost w0 w It r rb R' w' :=
  ⟨_, hb, h, fun i hi => by rw [upd_ne _ _ (hi k), upd_ne _ _ (hi j)], hm.mono fun g _ hg => by
    rcases hg with q | q
    · exact ⟨j, q⟩
    · exact ⟨k, q⟩⟩

/-- A connection is turned. -/
theorem RefI.setConn (h : RefI It r rb R cv nv tv bs vs) {It' : Nat → Item} {i b : Nat} (hb : bs[i]? = some b) (c' : RC) (v0 v1 : Value)
    (h4 : It' (ix r (4 + 3 * i)) = objItem b (c'.obj v0 v1)) (h5 : It' (ix r (5 + 3 * i)) = rowItem 5 1 v0 (c'.W 0).length (bytes (c'.W 0))) (h6 : It' (ix r (6 + 3 * i)) = rowItem 5 1 v1 (c'.W 1).length (bytes (c'.W 1)))
    (ho : ∀ j, j ≠ 4 + 3 * i → j ≠ 5 + 3 * i → j ≠ 6 + 3 * i → It' (ix r j) = It (ix r j)) : RefIs It' r rb { R with cs := R.cs.set i c' } := by
  refine ⟨cv, nv, tv, bs, fun j k => if j = i then (if k = 0 then v0 else v1) else vs j k, ?_, ?_, ?_, ?_, by rw [List.length_set]; exact h.len, fun j b' c hbj hcj => ?_⟩
  · rw [ho 0 (by omega) (by omega) (by omega)]; exact h.hd
  · rw [ho 1 (by omega) (by omega) (by omega)]; exact h.cs
  · rw [ho 2 (by omega) (by omega) (by omega)]; exact h.ns
  · rw [ho 3 (by omega) (by omega) (by omega)]; exact h.ts
  · by_cases e : j = i
    · subst e
      rw [hb] at hbj
      cases hbj
      rw [List.getElem?_set, if_pos rfl] at hcj
      split at hcj
      · cases hcj
        simp only [if_pos]
        exact ⟨h4, h5, h6⟩
      · cases hcj
    · rw [List.getElem?_set, if_neg (by omega)] at hcj
      simp only [if_neg e]
      have := h.cn j b' c hbj hcj
      rw [ho _ (by omega) (by omega) (by omega), ho _ (by omega) (by omega) (by omega), ho _ (by omega) (by omega) (by omega)]
      exact this

/-- The header's block. -/
theorem RefI.blk (h : RefI It r rb R cv nv tv bs vs) (hB : Bg w0 w It) : w.heap[rb]? = some (.cells #[cv, nv, tv] 48) := by
  have := hB.bag.holds (ix r 0)
  rw [h.hd] at this
  exact this

theorem RefI.row (h : RefI It r rb R cv nv tv bs vs) (hB : Bg w0 w It) : w.ownsRow 0 81 1 cv bs.length (ptrs bs) := by
  have := hB.bag.holds (ix r 1)
  rw [h.cs] at this
  exact this

theorem RefI.nrow (h : RefI It r rb R cv nv tv bs vs) (hB : Bg w0 w It) : w.ownsRow 0 9 1 nv R.names.length (strVs R.names) := by
  have := hB.bag.holds (ix r 2)
  rw [h.ns] at this
  exact this

theorem RefI.trow (h : RefI It r rb R cv nv tv bs vs) (hB : Bg w0 w It) : w.ownsRow 0 3 1 tv R.times.length (intVs R.times) := by
  have := hB.bag.holds (ix r 3)
  rw [h.ts] at this
  exact this

theorem row_slice {T : TypeId} {sz n : Nat} {v : Value} {xs : List Value} (h : w.ownsRow 0 T sz v n xs) : ∃ ao c, v = .slice ao n c := by
  rcases h.2 with ⟨hv, hn⟩ | ⟨g, cap, cur, hv, _⟩
  · rw [hv, hn]; exact ⟨none, 0, rfl⟩
  · exact ⟨_, _, hv⟩

/-- A connection, as the walks meet it. -/
structure RLook (w : World) (rb i : Nat) (b : Nat) (c : RC) (v0 v1 : Value) (g n cc : Nat) : Prop where
  h0 : w.cell? ⟨rb, 0, none⟩ = some (.slice (some ⟨g, 0, none⟩) n cc)
  hi : w.cell? ⟨g, i, none⟩ = some (.pointer (some ⟨b, 0, none⟩))
  lt : i < n
  blk : w.heap[b]? = some (c.obj v0 v1)
  r0 : w.ownsRow 0 5 1 v0 (c.W 0).length (bytes (c.W 0))
  r1 : w.ownsRow 0 5 1 v1 (c.W 1).length (bytes (c.W 1))

theorem RefI.look (h : RefI It r rb R cv nv tv bs vs) (hB : Bg w0 w It) {i : Nat} {c : RC} (hc : R.cs[i]? = some c) : ∃ b g cc, bs[i]? = some b ∧ RLook w rb i b c (vs i 0) (vs i 1) g bs.length cc := by
  have hlt := (List.getElem?_eq_some_iff.1 hc).1
  have hl := h.len
  obtain ⟨b, hb⟩ : ∃ b, bs[i]? = some b := ⟨_, List.getElem?_eq_getElem (by omega)⟩
  obtain ⟨g, cc, hcv⟩ := row_at0 (h.row hB) (by omega)
  obtain ⟨q4, q5, q6⟩ := h.cn i b c hb hc
  have p4 := hB.bag.holds (ix r (4 + 3 * i))
  have p5 := hB.bag.holds (ix r (5 + 3 * i))
  have p6 := hB.bag.holds (ix r (6 + 3 * i))
  rw [q4] at p4
  rw [q5] at p5
  rw [q6] at p6
  have hrow := h.row hB
  rw [hcv] at hrow
  refine ⟨b, g, cc, hb, ⟨?_, row_cell1 hrow (by unfold ptrs; rw [List.getElem?_map, hb]; rfl), by omega, p4, p5, p6⟩⟩
  rw [cell_blk (h.blk hB), hcv]
  rfl

end

/-- Why there is nothing to be done; 0: there is. -/
def RS.why (R : RS) (i k : Int) : Int :=
  if i < 0 ∨ (R.cs.length : Int) ≤ i ∨ k < 0 ∨ 1 < k then 2 else match R.cs[i.toNat]? with | some c => if c.cut then 40 else 0 | none => 0

section
variable {w0 w : World} {It : Nat → Item} {r rb : Nat} {R : RS}

theorem rwhy_nil (w : World) (i k : Int) : Calls Try.prog 32 #[.pointer none, .int .i64 i, .int .i64 k] w fun e w' => e = .returned (.int .i64 1) ∧ w' = w := by
  go_enter Try.func32, Try.ntmps32
  go_wp2
  go_ret
  exact ⟨rfl, rfl⟩

set_option maxHeartbeats 1000000 in
theorem rwhy_ok (hB : Bg w0 w It) (h : RefIs It r rb R) (i k : Int) : Calls Try.prog 32 #[.pointer (some ⟨rb, 0, none⟩), .int .i64 i, .int .i64 k] w fun e w' => e = .returned (.int .i64 (R.why i k)) ∧ w' = w := by
  obtain ⟨cv, nv, tv, bs, vs, h⟩ := h
  by_cases h1 : i < 0 ∨ (R.cs.length : Int) ≤ i ∨ k < 0 ∨ 1 < k
  · have hy : R.why i k = 2 := by unfold RS.why; rw [if_pos h1]
    rw [hy]
    obtain ⟨ao, c, hcv⟩ := row_slice (h.row hB)
    have y0 : w.cell? ⟨rb, 0, none⟩ = some (.slice ao bs.length c) := by rw [cell_blk (h.blk hB), hcv]; rfl
    have hl : (bs.length : Int) = R.cs.length := by rw [h.len]
    have Hl := Lib.hid hl
    clear h hB hy hl
    by_cases h1 : i < 0
    all_goals by_cases h2 : (bs.length : Int) ≤ i
    all_goals by_cases h3 : k < 0
    all_goals by_cases h4 : 1 < k
    all_goals try (exfalso; have := Hl.out; omega)
    all_goals
      go_enter Try.func32, Try.ntmps32
      go_wp2
      go_ret
      exact ⟨rfl, rfl⟩
  · obtain ⟨j, rfl⟩ : ∃ j : Nat, i = (j : Int) := ⟨i.toNat, by omega⟩
    have hj : j < R.cs.length := by omega
    obtain ⟨c, hc⟩ : ∃ c, R.cs[j]? = some c := ⟨_, List.getElem?_eq_getElem hj⟩
    obtain ⟨b, g, cc, hb, q⟩ := h.look hB hc
    have hy : R.why (j : Int) k = if c.cut then 40 else 0 := by
      unfold RS.why
      rw [if_neg h1, show ((j : Int)).toNat = j from rfl, hc]
    rw [hy]
    have y0 := q.h0
    have y1 := q.hi
    have y2 : w.cell? ⟨b, 2, none⟩ = some (.bool c.cut) := by rw [cell_blk q.blk]; rfl
    have b0 : ¬ ((j : Int) < 0) := by omega
    have b1 : (j : Int) < (bs.length : Int) := by have := q.lt; omega
    have b2 : ¬ (k < 0) := by omega
    have b3 : ¬ (1 < k) := by omega
    clear h hB h1 hc hb q hy
    cases hcut : c.cut with
    | true =>
      rw [hcut] at y2
      go_enter Try.func32, Try.ntmps32
      go_wp2
      go_ret
      exact ⟨rfl, rfl⟩
    | false =>
      rw [hcut] at y2
      go_enter Try.func32, Try.ntmps32
      go_wp2
      go_ret
      exact ⟨rfl, rfl⟩

end

end Go.Proofs.Ytibijonjjkknoaa
