/-
Laws for the walk at operations that bear a guard.
-/
import Derived.Test.YtibijonjjkknoaaMem
set_option linter.unusedVariables false
set_option linter.unusedSimpArgs false
namespace Go.Proofs.Ytibijonjjkknoaa
open Go Go.RowKit

/-- 's[m:]' of a slice, at an operation whose guard says yes; the address behind a name. -/
theorem wpList_slice_lo_g {P : Program} {w : World} {ops : Array Oper} {rest : List Oper} {o : Oper} {a : Act} {Q : Exit → Act → World → Prop} (hw : Region.wanted o (yielded ops a.tmps) = true) (x l : Operand) (t e : TypeId)
    (hop : o.op = Op.slice t x (some l) none none) (ht : P.underlying t = some (.slice e)) (i : TypeInfo) (hi : P.info? e = some i) (size : Nat) (hsz : i.size = size)
    (ao : Option Addr) (n cap : Nat) (hx : a.eval x = .slice ao n cap) (kl : IntKind) (m : Nat) (hl : a.eval l = .int kl (m : Int)) (hm : m ≤ n)
    (h : ∀ ao', ao' = (if cap = m then ao else ao.map (·.add (m * size))) → wpList P ops Q rest (a.put o.dst (.slice ao' (n - m) (cap - m))) w) : wpList P ops Q (o :: rest) a w := by
  have he : P.elem t = e := by simp [Program.elem, ht]
  refine wpList_step fun K hK => ?_
  rw [if_pos hw]
  unfold Oper.wp
  have h1 : (0 : Int) ≤ (m : Int) := by omega
  have h2 : (m : Int) ≤ (n : Int) := by omega
  have hr := run_slice_l (P := P) w t ao n cap (by rw [he]; exact ht) kl (m : Int) h1 h2
  have ha := run_sliceAt_slice (P := P) w t (.slice ao n cap) (some (.int kl (m : Int))) none none (by rw [he]; exact ht)
  have hs : (sizeOf (P.elem t)).run P w = .ok size w := by rw [he]; simp [sizeOf, typeInfo, hi, hsz]
  simp only [execOp, hop, hx, hl, Option.map_some, Option.map_none, ha, hr, hs, Sem.run_bind, Result.andThen_ok, Sem.run_pure, Sem.run_map]
  exact hK _ _ (h _ rfl)

end Go.Proofs.Ytibijonjjkknoaa
