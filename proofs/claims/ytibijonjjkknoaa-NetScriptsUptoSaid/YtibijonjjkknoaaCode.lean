/-
A function's code in parts, by paths; small laws to put the parts together.
-/
import Derived.Test.YtibijonjjkknoaaProg
import Derived.Test.YtibijonjjkknoaaMem
import Derived.Deep.CutRange
import Derived.Deep.MidRow
import Derived.Deep.WholeRow
set_option linter.unusedVariables false
set_option linter.unusedSimpArgs false
namespace Go.Proofs.Ytibijonjjkknoaa
open Go Go.RowKit

def ncl : Code → Code
  | .seq a _ => a
  | c => c
def ncr : Code → Code
  | .seq _ b => b
  | c => c
def ncb : Code → Code
  | .block _ b => b
  | c => c
def nco : Code → Code
  | .loop b => b
  | c => c
def nct : Code → Code
  | .cond _ t _ => t
  | c => c
def nce : Code → Code
  | .cond _ _ e => e
  | c => c
def ncx : Option Code → Code
  | some c => c
  | none => .skip

theorem wp_calm {P : Program} {c : Code} {K : Act → World → Prop} {Q : Exit → Act → World → Prop} {a : Act} {w : World} (h : c.wp P (Exit.then K fun _ _ _ => False) a w) : c.wp P (Exit.then K Q) a w :=
  wp_mono h (by intro e a w h; cases e <;> first | exact h | exact h.elim)

theorem getD_of {t : Array Value} {i : Nat} {v : Value} (h : t[i]? = some v) : t.getD i undef = v := by
  rw [Array.getD_eq_getD_getElem?, h]; rfl

theorem out_block {id : Nat} {K : Act → World → Prop} {Q : Exit → Act → World → Prop} {a : Act} {w : World} (h : K a w) : Exit.inBlock id (Exit.then K Q) (.exit id) a w := by
  show (if id = id then K a w else Exit.then K Q (.exit id) a w)
  rw [if_pos rfl]
  exact h

theorem out_loop {id : Nat} {I K : Act → World → Prop} {Q : Exit → Act → World → Prop} {a : Act} {w : World} (h : K a w) : Exit.then I (Exit.inBlock id (Exit.then K Q)) (.exit id) a w := out_block h

theorem in_block {P : Program} {id : Nat} {c : Code} {K : Act → World → Prop} {Q : Exit → Act → World → Prop} {a : Act} {w : World} (h : c.wp P (Exit.then K fun _ _ _ => False) a w) : (Code.block id c).wp P (Exit.then K Q) a w := by
  refine wp_block (wp_mono h ?_)
  intro e a w he
  cases e <;> first | exact he | exact he.elim

/-- A store of a whole variable into the block that was made last. -/
theorem wpList_store_last {P : Program} {ops : Array Oper} {rest : List Oper} {op : Oper} {a : Act} {w0 : World} {Q : Exit → Act → World → Prop} (hgd : op.guard = none) (ty : TypeId) (x y : Operand) (ho : op.op = .store ty x y)
    (c c' : Array Value) (hx : a.eval x = .pointer (some ⟨w0.heap.size, 0, none⟩)) (hy : a.eval y = .agg c') (hi : (P.info? ty).map (·.size) = some c'.size) (hs : c.size = c'.size) (h1 : c'.all (·.oneCell') = true)
    (h : wpList P ops Q rest (a.put op.dst undef) (w0.alloc (.cells c' ty))) : wpList P ops Q (op :: rest) a (w0.alloc (.cells c ty)) := by
  refine wpList_plain hgd fun K hK => ?_
  unfold Oper.wp execOp
  simp only [ho, hx, hy, Instr.storeAt, Instr.sureAddr, Sem.run_bind, Sem.run_pure, Result.andThen_ok, run_storeVar_new w0 ty c c' hi hs h1]
  exact hK _ _ h

end Go.Proofs.Ytibijonjjkknoaa
