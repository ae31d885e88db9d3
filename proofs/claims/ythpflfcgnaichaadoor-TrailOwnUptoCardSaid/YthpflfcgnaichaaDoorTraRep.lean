/-
An entry of a log, and how a log lies in memory.
-/
import Derived.Test.YthpflfcgnaichaaDoorProg
import Derived.Test.YthpflfcgnaichaaDoorMem
set_option linter.unusedVariables false
set_option linter.unusedSimpArgs false
namespace Go.Proofs.YthpflfcgnaichaaDoor
open Go Go.RowKit

/-- An entry, its decision's parts among its own. -/
structure Ent where
  number : Int
  version : Int
  epoch : Int
  method : ByteArray
  host : ByteArray
  path : ByteArray
  a : Nat
  b : Nat
  kind : Int
  status : Int
  route : ByteArray
  rule : Int
  service : ByteArray
  endp : ByteArray
  fin : Int

def Ent.cells (e : Ent) : List Value := [.int .i64 e.number, .int .i64 e.version, .int .i64 e.epoch, .string e.method, .string e.host, .string e.path, .int .u64 (e.a : Int), .int .u64 (e.b : Int), .int .i64 e.kind, .int .i64 e.status, .string e.route, .int .i64 e.rule, .string e.service, .string e.endp, .int .i64 e.fin]

def Ent.v (e : Ent) : Value := .agg #[.int .i64 e.number, .int .i64 e.version, .int .i64 e.epoch, .string e.method, .string e.host, .string e.path, .int .u64 (e.a : Int), .int .u64 (e.b : Int), .int .i64 e.kind, .int .i64 e.status, .string e.route, .int .i64 e.rule, .string e.service, .string e.endp, .int .i64 e.fin]

def Ent.zero : Ent := ⟨0, 0, 0, ⟨#[]⟩, ⟨#[]⟩, ⟨#[]⟩, 0, 0, 0, 0, ⟨#[]⟩, 0, ⟨#[]⟩, ⟨#[]⟩, 0⟩

abbrev I64 (n : Int) : Prop := -9223372036854775808 ≤ n ∧ n ≤ 9223372036854775807

/-- May an entry be, its number aside? -/
def Ent.may (e : Ent) : Bool :=
  decide (0 ≤ e.version) && (decide (0 ≤ e.epoch) && (decide (1 ≤ e.kind) && (decide (e.kind ≤ 5) && (decide (0 ≤ e.status) && (decide (e.status ≤ 599) && (decide (-1 ≤ e.rule) && (decide (0 ≤ e.fin) && decide (e.fin ≤ 7))))))))

def ents (l : List Ent) : List Value := l.flatMap Ent.cells

theorem cells_length (e : Ent) : e.cells.length = 15 := rfl

theorem ents_length (l : List Ent) : (ents l).length = l.length * 15 := by
  induction l with
  | nil => rfl
  | cons e r ih =>
    show (e.cells ++ ents r).length = _
    rw [List.length_append, ih, cells_length, List.length_cons]
    omega

theorem ents_append (l m : List Ent) : ents (l ++ m) = ents l ++ ents m := by simp [ents]

theorem ents_get (l : List Ent) : ∀ (i : Nat) (e : Ent), l[i]? = some e → ∀ j, j < 15 → (ents l)[i * 15 + j]? = e.cells[j]? := by
  induction l with
  | nil => intro i e h; simp at h
  | cons d r ih =>
    intro i e h j hj
    show (d.cells ++ ents r)[i * 15 + j]? = _
    cases i with
    | zero =>
      simp only [List.getElem?_cons_zero, Option.some.injEq] at h
      subst h
      rw [Nat.zero_mul, Nat.zero_add, List.getElem?_append_left (by rw [cells_length]; exact hj)]
    | succ i =>
      rw [List.getElem?_cons_succ] at h
      rw [List.getElem?_append_right (by rw [cells_length]; omega), cells_length, ← ih i e h j hj]
      congr 1
      omega

theorem cells_one (e : Ent) : ∀ u ∈ e.cells, u.oneCell' = true := by
  intro u hu
  simp only [Ent.cells, List.mem_cons, List.not_mem_nil, or_false] at hu
  rcases hu with rfl | rfl | rfl | rfl | rfl | rfl | rfl | rfl | rfl | rfl | rfl | rfl | rfl | rfl | rfl <;> rfl

theorem ents_one (l : List Ent) : ∀ u ∈ ents l, u.oneCell' = true := by
  intro u hu
  obtain ⟨e, _, hu⟩ := List.mem_flatMap.1 hu
  exact cells_one e u hu

end Go.Proofs.YthpflfcgnaichaaDoor
