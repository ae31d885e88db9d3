/-
The memory of the program's entry: a struct written cell by cell.
-/
import Derived.Test.YthpflfcgnaichaaDoorTraEnt8
set_option linter.unusedVariables false
set_option linter.unusedSimpArgs false
namespace Go.Proofs.YthpflfcgnaichaaDoor
open Go Go.RowKit

def writeAt (c : Array Value) (o : Nat) : List Value → Array Value
  | [] => c
  | v :: r => writeAt (c.setIfInBounds o v) (o + 1) r

theorem setCells_blk {b : Nat} {t : TypeId} : ∀ (vs : List Value) (o : Nat) (w : World) (c : Array Value), w.heap[b]? = some (.cells c t (0, 0)) → (w.setCells b o vs).heap[b]? = some (.cells (writeAt c o vs) t (0, 0))
  | [], _, _, _, h => h
  | v :: r, o, w, c, h => by
    rw [World.setCells]
    exact setCells_blk r (o + 1) _ _ (set_blk h o v)

theorem writeAt_mid : ∀ (new old pre post : List Value), old.length = new.length → writeAt (pre ++ old ++ post).toArray pre.length new = (pre ++ new ++ post).toArray
  | [], [], pre, post, _ => rfl
  | [], _ :: _, _, _, h => by cases h
  | _ :: _, [], _, _, h => by cases h
  | v :: r, u :: o, pre, post, h => by
    have h1 : ((pre ++ u :: o ++ post).toArray).setIfInBounds pre.length v = ((pre ++ [v]) ++ o ++ post).toArray := by
      rw [List.setIfInBounds_toArray]
      congr 1
      simp
    have h2 := writeAt_mid r o (pre ++ [v]) post (by simpa using h)
    rw [writeAt, h1]
    rw [List.length_append, List.length_singleton] at h2
    rw [h2]
    simp

/-- The whole is written over. -/
theorem writeAt_all {old new : List Value} (h : old.length = new.length) : writeAt old.toArray 0 new = new.toArray := by
  have := writeAt_mid new old [] [] h
  simpa using this

theorem mod_setCells {F : Nat → Prop} {a : World} {pe : Nat} (hF : pe < a.heap.size → F pe) : ∀ (vs : List Value) (o : Nat) (b : World), Mod F a b → Mod F a (b.setCells pe o vs)
  | [], _, _, h => h
  | v :: r, o, b, h => by
    rw [World.setCells]
    exact mod_setCells hF r (o + 1) _ (h.setCell ⟨pe, o, none⟩ v hF)

theorem EN.mod {F : Nat → Prop} {w0 w w2 : World} {pb nb g j : Nat} {ps : List ByteArray} (h : EN w0 w pb nb g ps j) (hm : Mod F w w2) (h1 : ¬ F pb) (h2 : ¬ F nb) (h3 : ¬ F g) (h4 : ¬ F w0.heap.size) (h5 : ∀ k, F k → w0.heap.size ≤ k) : EN w0 w2 pb nb g ps j :=
  ⟨h.glob, h.below.trans (hm.below h.below.size h5), hm.heap h.rest h1, hm.heap h.clo h2, fun i x hi => hm.cell (h.row i x hi) h3, h.len, h.small, h.pb0, h.ne1, h.ne2, Nat.lt_of_lt_of_le h.glt hm.size, hm.heap h.res h4, h.ne3⟩

theorem EN.alloc {w0 w : World} {pb nb g j : Nat} {ps : List ByteArray} (h : EN w0 w pb nb g ps j) (o : Obj) : EN w0 (w.alloc o) pb nb g ps j := h.later ((Below.refl _ w).alloc (Nat.le_refl _) o)

theorem EN.psize {w0 w : World} {pb nb g j : Nat} {ps : List ByteArray} (h : EN w0 w pb nb g ps j) (i : Nat) (hi : i < 15) : (part ps i).size ≤ 40000000 :=
  h.small _ (List.mem_of_getElem? (part_at (by rw [h.len]; exact hi)))

/-- How many words are read ahead of the call number k (region 7, region 8). -/
def jw7 (k : Nat) : Nat := [0, 1, 2, 3, 4, 4, 5, 5, 6, 6, 7, 8].getD k 0
def jw8 (k : Nat) : Nat := [8, 9, 10, 11, 11, 12, 13, 13, 14, 14].getD k 0

theorem c7_of (w0 : World) (pb nb g : Nat) (ps : List ByteArray) : C7 pb nb (max g w0.heap.size + 1) (fun k w => EN w0 w pb nb g ps (jw7 k)) (atoiV (part ps 0)) (atoiV (part ps 1)) (atoiV (part ps 2)) (part ps 3) (part ps 4) (part ps 5) (txtB (part ps 3)) (txtB (part ps 4)) (txtB (part ps 5)) (puintV (part ps 6)) (puintV (part ps 7)) where
  cell k w h := cell_blk h.clo 0
  lt k w h := lt_of_heap h.rest
  lo k w h := by have h1 := h.glt; have h2 := lt_of_heap h.res; omega
  alloc k w o h := h.alloc o
  drew k w h := h.drew
  c0 w h := EN.num (j := 0) h (by decide)
  c1 w h := EN.num (j := 1) h (by decide)
  c2 w h := EN.num (j := 2) h (by decide)
  c3 w h := EN.next (j := 3) h (by decide)
  c4 w h := EN.text (j := 4) h (EN.psize h 3 (by decide))
  c5 w h := EN.next (j := 4) h (by decide)
  c6 w h := EN.text (j := 5) h (EN.psize h 4 (by decide))
  c7 w h := EN.next (j := 5) h (by decide)
  c8 w h := EN.text (j := 6) h (EN.psize h 5 (by decide))
  c9 w h := EN.word (j := 6) h (by decide)
  c10 w h := EN.word (j := 7) h (by decide)

theorem c8_of (w0 : World) (pb nb g : Nat) (ps : List ByteArray) : C8 pb nb (fun k w => EN w0 w pb nb g ps (jw8 k)) (atoiV (part ps 8)) (atoiV (part ps 9)) (part ps 10) (txtB (part ps 10)) (atoiV (part ps 11)) (part ps 12) (part ps 13) (txtB (part ps 12)) (txtB (part ps 13)) where
  cell k w h := cell_blk h.clo 0
  drew k w h := h.drew
  c0 w h := EN.num (j := 8) h (by decide)
  c1 w h := EN.num (j := 9) h (by decide)
  c2 w h := EN.next (j := 10) h (by decide)
  c3 w h := EN.text (j := 11) h (EN.psize h 10 (by decide))
  c4 w h := EN.num (j := 11) h (by decide)
  c5 w h := EN.next (j := 12) h (by decide)
  c6 w h := EN.text (j := 13) h (EN.psize h 12 (by decide))
  c7 w h := EN.next (j := 13) h (by decide)
  c8 w h := EN.text (j := 14) h (EN.psize h 13 (by decide))

def decE (ps : List ByteArray) : Ent := ⟨atoiV (part ps 0), atoiV (part ps 1), atoiV (part ps 2), txtB (part ps 3), txtB (part ps 4), txtB (part ps 5), puintV (part ps 6), puintV (part ps 7), atoiV (part ps 8), atoiV (part ps 9), txtB (part ps 10), atoiV (part ps 11), txtB (part ps 12), txtB (part ps 13), atoiV (part ps 14)⟩

abbrev EO (e : Ent) : Obj := .cells e.cells.toArray 38

end Go.Proofs.YthpflfcgnaichaaDoor
