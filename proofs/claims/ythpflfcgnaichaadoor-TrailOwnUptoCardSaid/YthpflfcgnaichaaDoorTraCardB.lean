/-
What the row's list of seven gives a walk, and one world that holds it: for the trail's laws that read texts.
-/
import Derived.Test.YthpflfcgnaichaaDoorTraCard
import Derived.Test.YthpflfcgnaichaaDoorTraTxt
import Derived.Shelf.Vars
set_option linter.unusedVariables false
set_option linter.unusedSimpArgs false
namespace Go.Proofs.YthpflfcgnaichaaDoor
open Go.ChangeShapes Go.WideShapes Go.ChangeAt Go.RowKit

theorem gER : Tryd.prog.globalNamed "strconv.ErrRange" = some 3 := by kernel_rfl
theorem gERType : (Tryd.prog.globals[3]?).map (·.type) = some 104 := by kernel_rfl
theorem gES : Tryd.prog.globalNamed "strconv.ErrSyntax" = some 2 := by kernel_rfl
theorem gESType : (Tryd.prog.globals[2]?).map (·.type) = some 104 := by kernel_rfl
theorem cellsES : Tryd.prog.cellsOf 199 = 1 := by kernel_rfl
theorem cellsStr : Tryd.prog.cellsOf 9 = 1 := by kernel_rfl
theorem star : "*" ++ "errors.errorString" = "*errors.errorString" := by decide
theorem rowES (u : TypeId) (h : Tryd.prog.typeName? 3 u = some "*errors.errorString") : u = 197 :=
  typeName_ptr_named (nm := "errors.errorString") (by rw [star]; kernel_rfl) (by kernel_rfl) (by decide) u (by rw [star]; exact h)

def laid7 : List (String × DataW Unit) := [("math/bits.deBruijn32tab", Rows.laid_math_bits_deBruijn32tab), ("math/bits.deBruijn64tab", Rows.laid_math_bits_deBruijn64tab), ("internal/strconv.uint64pow10", Rows.laid_internal_strconv_uint64pow10), ("unicode/utf8.acceptRanges", Rows.laid_unicode_utf8_acceptRanges), ("strconv.ErrRange", Rows.laid_strconv_ErrRange), ("strconv.ErrSyntax", Rows.laid_strconv_ErrSyntax), ("unicode/utf8.first", Rows.laid_unicode_utf8_first)]

set_option maxRecDepth 100000 in
theorem glob_of_laid {W : World} (h : laidMetH Tryd.prog laid7 W) (hs : W.ShapedOpen Tryd.prog) : Glob W := by
  have hL : laidMet Tryd.prog laid7 W := h
  obtain ⟨a1, s1, hv1, -, -, -⟩ := laid_sentinel hL.tail.tail.tail.tail gER gERType Tryd.underlying104 rowES Tryd.underlying197 Tryd.underlying199 rfl rfl Tryd.underlying9 cellsES cellsStr
  obtain ⟨a2, s2, hv2, -, -, -⟩ := laid_sentinel hL.tail.tail.tail.tail.tail gES gESType Tryd.underlying104 rowES Tryd.underlying197 Tryd.underlying199 rfl rfl Tryd.underlying9 cellsES cellsStr
  refine ⟨?_, ⟨_, by have h0 := World.var?_cell gES hv2 0; simpa using h0, Or.inr ⟨_, _, rfl⟩⟩, ⟨_, by have h0 := World.var?_cell gER hv1 0; simpa using h0, Or.inr ⟨_, _, rfl⟩⟩⟩
  exact cell_of_shapedOpen_int (g := 0) (t := 3) (zero := #[.int .i64 0]) (k := .i64) hs (of_decide_eq_true (by kernel_rfl)) (by kernel_rfl) (by kernel_rfl) (by kernel_rfl) (by kernel_rfl) Tryd.underlying3

abbrev synS : ByteArray := { data := #[105, 110, 118, 97, 108, 105, 100, 32, 115, 121, 110, 116, 97, 120] }
abbrev rngS : ByteArray := { data := #[118, 97, 108, 117, 101, 32, 111, 117, 116, 32, 111, 102, 32, 114, 97, 110, 103, 101] }
/-- So many blocks has the settled world. -/
noncomputable def low : Nat := (World.holding Tryd.prog default ⟨#[], #[], []⟩).heap.size

def litV : Lit → Value
  | .int k n => .int k n
  | .bool b => .bool b
  | _ => undef

/-- The cells that a table's datum lays. -/
def flatD : Nat → DataW Unit → List Value
  | 0, _ => []
  | _ + 1, .lit l => [litV l]
  | n + 1, .agg l => l.flatMap (flatD n)
  | _ + 1, _ => []

/-- The settled world, each listed variable holding what its initialiser lays. -/
noncomputable def laidWorld7 (os : Os) : World :=
  let w0 := World.holding Tryd.prog os ⟨#[.cells #[.string synS] 199, .cells #[.string rngS] 199], #[], []⟩
  { w0 with heap := (((((((w0.heap.modify 2 (put1 #[.iface 197 (.pointer (some ⟨low, 0, none⟩))])).modify 3 (put1 #[.iface 197 (.pointer (some ⟨low + 1, 0, none⟩))])).modify 1 (put1 (flatD 4 Rows.laid_internal_strconv_uint64pow10).toArray)).modify 4 (put1 (flatD 4 Rows.laid_math_bits_deBruijn32tab).toArray)).modify 5 (put1 (flatD 4 Rows.laid_math_bits_deBruijn64tab).toArray)).modify 6 (put1 (flatD 4 Rows.laid_unicode_utf8_first).toArray)).modify 7 (put1 (flatD 4 Rows.laid_unicode_utf8_acceptRanges).toArray)) }

theorem laid_met7 (os : Os) (args : Array Value) : laidMet Tryd.prog laid7 ((laidWorld7 os).forCall (fun _ _ => 0) ⟨#[], args, []⟩).memory :=
  laidMet_of_run' 8 (by kernel_rfl) (by kernel_rfl)

end Go.Proofs.YthpflfcgnaichaaDoor
