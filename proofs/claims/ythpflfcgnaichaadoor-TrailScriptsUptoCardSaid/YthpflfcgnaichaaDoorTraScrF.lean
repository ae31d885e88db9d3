/-
TrailScripts' code in parts, and its frames.
-/
import Derived.Test.YthpflfcgnaichaaDoorTraSt
import Derived.Test.YthpflfcgnaichaaDoorCode
set_option linter.unusedVariables false
set_option linter.unusedSimpArgs false
namespace Go.Proofs.YthpflfcgnaichaaDoor
open Go Go.RowKit

noncomputable def scLoop : Code := (ncr (ncl (ncr (ncr (ncr (ncr (ncr (ncr (ncr (ncx Tryd.f4.body))))))))))
noncomputable def scTest : Code := (ncl (nco (ncb (ncr (ncl (ncr (ncr (ncr (ncr (ncr (ncr (ncr (ncx Tryd.f4.body)))))))))))))
noncomputable def scRound : Code := (ncl (ncr (nco (ncb (ncr (ncl (ncr (ncr (ncr (ncr (ncr (ncr (ncr (ncx Tryd.f4.body))))))))))))))
noncomputable def scStep : Code := (ncr (ncr (nco (ncb (ncr (ncl (ncr (ncr (ncr (ncr (ncr (ncr (ncr (ncx Tryd.f4.body))))))))))))))
noncomputable def scOp : Code := (ncl (ncb (ncl (ncr (nco (ncb (ncr (ncl (ncr (ncr (ncr (ncr (ncr (ncr (ncr (ncx Tryd.f4.body))))))))))))))))
noncomputable def scSw : Code := (ncl (ncr (ncb (ncl (ncr (nco (ncb (ncr (ncl (ncr (ncr (ncr (ncr (ncr (ncr (ncr (ncx Tryd.f4.body)))))))))))))))))
noncomputable def scIs : Code := (ncr (ncr (ncb (ncl (ncr (nco (ncb (ncr (ncl (ncr (ncr (ncr (ncr (ncr (ncr (ncr (ncx Tryd.f4.body)))))))))))))))))
noncomputable def scEnd : Code := (ncr (ncr (ncr (ncr (ncr (ncr (ncr (ncr (ncx Tryd.f4.body)))))))))

set_option maxRecDepth 20000 in
theorem sc_act (a : Act) (hs : a.tmps.size = 109) (hd : a.defers = []) : ∃ v : Nat → Value, (∀ (i : Nat) (x : Value), a.tmps[i]? = some x → v i = x) ∧ a = ⟨#[v 0, v 1, v 2, v 3, v 4, v 5, v 6, v 7, v 8, v 9, v 10, v 11, v 12, v 13, v 14, v 15, v 16, v 17, v 18, v 19, v 20, v 21, v 22, v 23, v 24, v 25, v 26, v 27, v 28, v 29, v 30, v 31, v 32, v 33, v 34, v 35, v 36, v 37, v 38, v 39, v 40, v 41, v 42, v 43, v 44, v 45, v 46, v 47, v 48, v 49, v 50, v 51, v 52, v 53, v 54, v 55, v 56, v 57, v 58, v 59, v 60, v 61, v 62, v 63, v 64, v 65, v 66, v 67, v 68, v 69, v 70, v 71, v 72, v 73, v 74, v 75, v 76, v 77, v 78, v 79, v 80, v 81, v 82, v 83, v 84, v 85, v 86, v 87, v 88, v 89, v 90, v 91, v 92, v 93, v 94, v 95, v 96, v 97, v 98, v 99, v 100, v 101, v 102, v 103, v 104, v 105, v 106, v 107, v 108], []⟩ := by
  obtain ⟨t, d⟩ := a
  obtain ⟨l⟩ := t
  obtain rfl : d = [] := hd
  have hl : l.length = 109 := hs
  refine ⟨fun i => l.getD i undef, fun i x hx => ?_, ?_⟩
  · have hx' : l[i]? = some x := by simpa using hx
    simp [List.getD, hx']
  · have e : l = (List.range 109).map (fun i => l.getD i undef) := by
      apply List.ext_getElem
      · simp [hl]
      · intro i h1 h2
        simp [List.getD, h1]
    generalize (fun i => l.getD i undef) = v at e ⊢
    subst e
    rfl

structure ScA (a : Act) (sv : Value) (lv : Value) (dv : Value) (lf : Value) (sd : Value) (i : Int) : Prop where
  size : a.tmps.size = 109
  dfr : a.defers = []
  s0 : a.tmps[0]? = some (sv)
  s5 : a.tmps[5]? = some (lv)
  s6 : a.tmps[6]? = some (dv)
  s7 : a.tmps[7]? = some (lf)
  s8 : a.tmps[8]? = some (sd)
  s9 : a.tmps[9]? = some (.int .i64 i)

set_option maxRecDepth 20000 in
theorem ScA.shape {a : Act} {sv : Value} {lv : Value} {dv : Value} {lf : Value} {sd : Value} {i : Int} (h : ScA a sv lv dv lf sd i) : ∃ v : Nat → Value, a = ⟨#[sv, v 1, v 2, v 3, v 4, lv, dv, lf, sd, .int .i64 i, v 10, v 11, v 12, v 13, v 14, v 15, v 16, v 17, v 18, v 19, v 20, v 21, v 22, v 23, v 24, v 25, v 26, v 27, v 28, v 29, v 30, v 31, v 32, v 33, v 34, v 35, v 36, v 37, v 38, v 39, v 40, v 41, v 42, v 43, v 44, v 45, v 46, v 47, v 48, v 49, v 50, v 51, v 52, v 53, v 54, v 55, v 56, v 57, v 58, v 59, v 60, v 61, v 62, v 63, v 64, v 65, v 66, v 67, v 68, v 69, v 70, v 71, v 72, v 73, v 74, v 75, v 76, v 77, v 78, v 79, v 80, v 81, v 82, v 83, v 84, v 85, v 86, v 87, v 88, v 89, v 90, v 91, v 92, v 93, v 94, v 95, v 96, v 97, v 98, v 99, v 100, v 101, v 102, v 103, v 104, v 105, v 106, v 107, v 108], []⟩ := by
  obtain ⟨v, hv, hd⟩ := sc_act a h.size h.dfr
  have e0 := hv 0 _ h.s0
  have e5 := hv 5 _ h.s5
  have e6 := hv 6 _ h.s6
  have e7 := hv 7 _ h.s7
  have e8 := hv 8 _ h.s8
  have e9 := hv 9 _ h.s9
  refine ⟨v, ?_⟩
  rw [hd]
  simp only [e0, e5, e6, e7, e8, e9]

structure ScB (a : Act) (sv : Value) (lv : Value) (dv : Value) (lf : Value) (sd : Value) (i : Int) (cb : Nat) : Prop where
  size : a.tmps.size = 109
  dfr : a.defers = []
  s0 : a.tmps[0]? = some (sv)
  s5 : a.tmps[5]? = some (lv)
  s6 : a.tmps[6]? = some (dv)
  s7 : a.tmps[7]? = some (lf)
  s8 : a.tmps[8]? = some (sd)
  s9 : a.tmps[9]? = some (.int .i64 i)
  s10 : a.tmps[10]? = some (.pointer (some ⟨cb, 0, none⟩))

set_option maxRecDepth 20000 in
theorem ScB.shape {a : Act} {sv : Value} {lv : Value} {dv : Value} {lf : Value} {sd : Value} {i : Int} {cb : Nat} (h : ScB a sv lv dv lf sd i cb) : ∃ v : Nat → Value, a = ⟨#[sv, v 1, v 2, v 3, v 4, lv, dv, lf, sd, .int .i64 i, .pointer (some ⟨cb, 0, none⟩), v 11, v 12, v 13, v 14, v 15, v 16, v 17, v 18, v 19, v 20, v 21, v 22, v 23, v 24, v 25, v 26, v 27, v 28, v 29, v 30, v 31, v 32, v 33, v 34, v 35, v 36, v 37, v 38, v 39, v 40, v 41, v 42, v 43, v 44, v 45, v 46, v 47, v 48, v 49, v 50, v 51, v 52, v 53, v 54, v 55, v 56, v 57, v 58, v 59, v 60, v 61, v 62, v 63, v 64, v 65, v 66, v 67, v 68, v 69, v 70, v 71, v 72, v 73, v 74, v 75, v 76, v 77, v 78, v 79, v 80, v 81, v 82, v 83, v 84, v 85, v 86, v 87, v 88, v 89, v 90, v 91, v 92, v 93, v 94, v 95, v 96, v 97, v 98, v 99, v 100, v 101, v 102, v 103, v 104, v 105, v 106, v 107, v 108], []⟩ := by
  obtain ⟨v, hv, hd⟩ := sc_act a h.size h.dfr
  have e0 := hv 0 _ h.s0
  have e5 := hv 5 _ h.s5
  have e6 := hv 6 _ h.s6
  have e7 := hv 7 _ h.s7
  have e8 := hv 8 _ h.s8
  have e9 := hv 9 _ h.s9
  have e10 := hv 10 _ h.s10
  refine ⟨v, ?_⟩
  rw [hd]
  simp only [e0, e5, e6, e7, e8, e9, e10]

theorem ScB.toA {a : Act} {sv lv dv lf sd : Value} {i : Int} {cb : Nat} (h : ScB a sv lv dv lf sd i cb) : ScA a sv lv dv lf sd i := ⟨h.size, h.dfr, h.s0, h.s5, h.s6, h.s7, h.s8, h.s9⟩

end Go.Proofs.YthpflfcgnaichaaDoor
