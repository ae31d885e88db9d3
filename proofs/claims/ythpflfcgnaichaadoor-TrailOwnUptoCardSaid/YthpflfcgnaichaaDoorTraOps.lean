/-
A call of the laws' scripts, as it lies in memory.
-/
import Derived.Test.YthpflfcgnaichaaDoorTraLg
set_option linter.unusedVariables false
set_option linter.unusedSimpArgs false
namespace Go.Proofs.YthpflfcgnaichaaDoor
open Go Go.RowKit

structure OpD where
  kind : Int
  e : Ent
  number : Int
  how : Int
  on : Bool

def OpD.cells (o : OpD) : List Value := [.int .i64 o.kind, .int .i64 o.e.number, .int .i64 o.e.version, .int .i64 o.e.epoch, .string o.e.method, .string o.e.host, .string o.e.path, .int .u64 (o.e.a : Int), .int .u64 (o.e.b : Int), .int .i64 o.e.kind, .int .i64 o.e.status, .string o.e.route, .int .i64 o.e.rule, .string o.e.service, .string o.e.endp, .int .i64 o.e.fin, .int .i64 o.number, .int .i64 o.how, .bool o.on]

/-- A call at an address. -/
def OpAt (w : World) (g off : Nat) (o : OpD) : Prop := ∀ j u, o.cells[j]? = some u → w.cell? ⟨g, off + j, none⟩ = some u

theorem OpAt.below {w w2 : World} {B g off : Nat} {o : OpD} (h : OpAt w g off o) (hg : g < B) (hb : Below B w w2) : OpAt w2 g off o := fun j u hj => (hb.cell hg).trans (h j u hj)

def OpObj (o : OpD) : Obj := .cells #[.int .i64 o.kind, .int .i64 o.e.number, .int .i64 o.e.version, .int .i64 o.e.epoch, .string o.e.method, .string o.e.host, .string o.e.path, .int .u64 (o.e.a : Int), .int .u64 (o.e.b : Int), .int .i64 o.e.kind, .int .i64 o.e.status, .string o.e.route, .int .i64 o.e.rule, .string o.e.service, .string o.e.endp, .int .i64 o.e.fin, .int .i64 o.number, .int .i64 o.how, .bool o.on] 34

theorem op_facts {w : World} {g off : Nat} {o : OpD} (h : OpAt w g off o) :
    w.cell? ⟨g, off, none⟩ = some (.int .i64 o.kind) ∧ w.cell? ⟨g, off + 1, none⟩ = some (.int .i64 o.e.number) ∧ w.cell? ⟨g, off + 2, none⟩ = some (.int .i64 o.e.version) ∧ w.cell? ⟨g, off + 3, none⟩ = some (.int .i64 o.e.epoch) ∧ w.cell? ⟨g, off + 4, none⟩ = some (.string o.e.method) ∧ w.cell? ⟨g, off + 5, none⟩ = some (.string o.e.host) ∧ w.cell? ⟨g, off + 6, none⟩ = some (.string o.e.path) ∧ w.cell? ⟨g, off + 7, none⟩ = some (.int .u64 (o.e.a : Int)) ∧ w.cell? ⟨g, off + 8, none⟩ = some (.int .u64 (o.e.b : Int)) ∧ w.cell? ⟨g, off + 9, none⟩ = some (.int .i64 o.e.kind) ∧ w.cell? ⟨g, off + 10, none⟩ = some (.int .i64 o.e.status) ∧ w.cell? ⟨g, off + 11, none⟩ = some (.string o.e.route) ∧ w.cell? ⟨g, off + 12, none⟩ = some (.int .i64 o.e.rule) ∧ w.cell? ⟨g, off + 13, none⟩ = some (.string o.e.service) ∧ w.cell? ⟨g, off + 14, none⟩ = some (.string o.e.endp) ∧ w.cell? ⟨g, off + 15, none⟩ = some (.int .i64 o.e.fin) ∧ w.cell? ⟨g, off + 16, none⟩ = some (.int .i64 o.number) ∧ w.cell? ⟨g, off + 17, none⟩ = some (.int .i64 o.how) ∧ w.cell? ⟨g, off + 18, none⟩ = some (.bool o.on) :=
  ⟨h 0 _ rfl, h 1 _ rfl, h 2 _ rfl, h 3 _ rfl, h 4 _ rfl, h 5 _ rfl, h 6 _ rfl, h 7 _ rfl, h 8 _ rfl, h 9 _ rfl, h 10 _ rfl, h 11 _ rfl, h 12 _ rfl, h 13 _ rfl, h 14 _ rfl, h 15 _ rfl, h 16 _ rfl, h 17 _ rfl, h 18 _ rfl⟩

theorem op_block {w : World} {cb : Nat} {o : OpD} (h : w.heap[cb]? = some (OpObj o)) :
    w.cell? ⟨cb, 0, none⟩ = some (.int .i64 o.kind) ∧ w.cell? ⟨cb, 1, none⟩ = some (.int .i64 o.e.number) ∧ w.cell? ⟨cb, 2, none⟩ = some (.int .i64 o.e.version) ∧ w.cell? ⟨cb, 3, none⟩ = some (.int .i64 o.e.epoch) ∧ w.cell? ⟨cb, 4, none⟩ = some (.string o.e.method) ∧ w.cell? ⟨cb, 5, none⟩ = some (.string o.e.host) ∧ w.cell? ⟨cb, 6, none⟩ = some (.string o.e.path) ∧ w.cell? ⟨cb, 7, none⟩ = some (.int .u64 (o.e.a : Int)) ∧ w.cell? ⟨cb, 8, none⟩ = some (.int .u64 (o.e.b : Int)) ∧ w.cell? ⟨cb, 9, none⟩ = some (.int .i64 o.e.kind) ∧ w.cell? ⟨cb, 10, none⟩ = some (.int .i64 o.e.status) ∧ w.cell? ⟨cb, 11, none⟩ = some (.string o.e.route) ∧ w.cell? ⟨cb, 12, none⟩ = some (.int .i64 o.e.rule) ∧ w.cell? ⟨cb, 13, none⟩ = some (.string o.e.service) ∧ w.cell? ⟨cb, 14, none⟩ = some (.string o.e.endp) ∧ w.cell? ⟨cb, 15, none⟩ = some (.int .i64 o.e.fin) ∧ w.cell? ⟨cb, 16, none⟩ = some (.int .i64 o.number) ∧ w.cell? ⟨cb, 17, none⟩ = some (.int .i64 o.how) ∧ w.cell? ⟨cb, 18, none⟩ = some (.bool o.on) := by
  refine ⟨?_, ?_, ?_, ?_, ?_, ?_, ?_, ?_, ?_, ?_, ?_, ?_, ?_, ?_, ?_, ?_, ?_, ?_, ?_⟩ <;> (rw [cell_blk h]; rfl)

end Go.Proofs.YthpflfcgnaichaaDoor
