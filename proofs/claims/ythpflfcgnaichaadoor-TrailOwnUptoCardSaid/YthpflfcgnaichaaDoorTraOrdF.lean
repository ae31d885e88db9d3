/-
TrailOrder's code in parts, and its frames.
-/
import Derived.Test.YthpflfcgnaichaaDoorTraAwake
import Derived.Test.YthpflfcgnaichaaDoorTraOps
import Derived.Test.YthpflfcgnaichaaDoorCode
set_option linter.unusedVariables false
set_option linter.unusedSimpArgs false
namespace Go.Proofs.YthpflfcgnaichaaDoor
open Go Go.RowKit

noncomputable def toLoop : Code := (ncr (ncl (ncr (ncr (ncr (ncr (ncx Tryd.f3.body)))))))
noncomputable def toTest : Code := (ncl (nco (ncb (ncr (ncl (ncr (ncr (ncr (ncr (ncx Tryd.f3.body))))))))))
noncomputable def toRound : Code := (ncl (ncr (nco (ncb (ncr (ncl (ncr (ncr (ncr (ncr (ncx Tryd.f3.body)))))))))))
noncomputable def toStep : Code := (ncr (ncr (nco (ncb (ncr (ncl (ncr (ncr (ncr (ncr (ncx Tryd.f3.body)))))))))))
noncomputable def toOp : Code := (ncl (ncb (ncl (ncr (nco (ncb (ncr (ncl (ncr (ncr (ncr (ncr (ncx Tryd.f3.body)))))))))))))
noncomputable def toAdd : Code := (ncl (ncr (ncb (ncl (ncr (nco (ncb (ncr (ncl (ncr (ncr (ncr (ncr (ncx Tryd.f3.body))))))))))))))
noncomputable def toEnd : Code := (ncl (ncr (ncr (ncb (ncl (ncr (nco (ncb (ncr (ncl (ncr (ncr (ncr (ncr (ncx Tryd.f3.body)))))))))))))))
noncomputable def to23 : Code := (ncl (ncr (ncr (ncr (ncb (ncl (ncr (nco (ncb (ncr (ncl (ncr (ncr (ncr (ncr (ncx Tryd.f3.body))))))))))))))))
noncomputable def to24 : Code := (ncl (ncl (ncr (ncr (ncr (ncr (ncb (ncl (ncr (nco (ncb (ncr (ncl (ncr (ncr (ncr (ncr (ncx Tryd.f3.body))))))))))))))))))
noncomputable def toCnt : Code := (ncr (ncl (ncr (ncr (ncr (ncr (ncb (ncl (ncr (nco (ncb (ncr (ncl (ncr (ncr (ncr (ncr (ncx Tryd.f3.body))))))))))))))))))
noncomputable def toCTest : Code := (ncl (nco (ncb (ncr (ncl (ncr (ncr (ncr (ncr (ncb (ncl (ncr (nco (ncb (ncr (ncl (ncr (ncr (ncr (ncr (ncx Tryd.f3.body)))))))))))))))))))))
noncomputable def toCRound : Code := (ncl (ncr (nco (ncb (ncr (ncl (ncr (ncr (ncr (ncr (ncb (ncl (ncr (nco (ncb (ncr (ncl (ncr (ncr (ncr (ncr (ncx Tryd.f3.body))))))))))))))))))))))
noncomputable def toCStep : Code := (ncr (ncr (nco (ncb (ncr (ncl (ncr (ncr (ncr (ncr (ncb (ncl (ncr (nco (ncb (ncr (ncl (ncr (ncr (ncr (ncr (ncx Tryd.f3.body))))))))))))))))))))))
noncomputable def toSame : Code := (ncr (ncr (ncr (ncr (ncr (ncb (ncl (ncr (nco (ncb (ncr (ncl (ncr (ncr (ncr (ncr (ncx Tryd.f3.body)))))))))))))))))
noncomputable def toTrue : Code := (ncr (ncr (ncr (ncr (ncr (ncx Tryd.f3.body))))))

set_option maxRecDepth 20000 in
theorem to_act (a : Act) (hs : a.tmps.size = 138) (hd : a.defers = []) : ∃ v : Nat → Value, (∀ (i : Nat) (x : Value), a.tmps[i]? = some x → v i = x) ∧ a = ⟨#[v 0, v 1, v 2, v 3, v 4, v 5, v 6, v 7, v 8, v 9, v 10, v 11, v 12, v 13, v 14, v 15, v 16, v 17, v 18, v 19, v 20, v 21, v 22, v 23, v 24, v 25, v 26, v 27, v 28, v 29, v 30, v 31, v 32, v 33, v 34, v 35, v 36, v 37, v 38, v 39, v 40, v 41, v 42, v 43, v 44, v 45, v 46, v 47, v 48, v 49, v 50, v 51, v 52, v 53, v 54, v 55, v 56, v 57, v 58, v 59, v 60, v 61, v 62, v 63, v 64, v 65, v 66, v 67, v 68, v 69, v 70, v 71, v 72, v 73, v 74, v 75, v 76, v 77, v 78, v 79, v 80, v 81, v 82, v 83, v 84, v 85, v 86, v 87, v 88, v 89, v 90, v 91, v 92, v 93, v 94, v 95, v 96, v 97, v 98, v 99, v 100, v 101, v 102, v 103, v 104, v 105, v 106, v 107, v 108, v 109, v 110, v 111, v 112, v 113, v 114, v 115, v 116, v 117, v 118, v 119, v 120, v 121, v 122, v 123, v 124, v 125, v 126, v 127, v 128, v 129, v 130, v 131, v 132, v 133, v 134, v 135, v 136, v 137], []⟩ := by
  obtain ⟨t, d⟩ := a
  obtain ⟨l⟩ := t
  obtain rfl : d = [] := hd
  have hl : l.length = 138 := hs
  refine ⟨fun i => l.getD i undef, fun i x hx => ?_, ?_⟩
  · have hx' : l[i]? = some x := by simpa using hx
    simp [List.getD, hx']
  · have e : l = (List.range 138).map (fun i => l.getD i undef) := by
      apply List.ext_getElem
      · simp [hl]
      · intro i h1 h2
        simp [List.getD, h1]
    generalize (fun i => l.getD i undef) = v at e ⊢
    subst e
    rfl

structure ToA (a : Act) (sv : Value) (lb : Nat) (vw : Value) (i : Int) : Prop where
  size : a.tmps.size = 138
  dfr : a.defers = []
  s0 : a.tmps[0]? = some (sv)
  s3 : a.tmps[3]? = some (.pointer (some ⟨lb, 0, none⟩))
  s4 : a.tmps[4]? = some (vw)
  s5 : a.tmps[5]? = some (.int .i64 i)

set_option maxRecDepth 20000 in
theorem ToA.shape {a : Act} {sv : Value} {lb : Nat} {vw : Value} {i : Int} (h : ToA a sv lb vw i) : ∃ v : Nat → Value, a = ⟨#[sv, v 1, v 2, .pointer (some ⟨lb, 0, none⟩), vw, .int .i64 i, v 6, v 7, v 8, v 9, v 10, v 11, v 12, v 13, v 14, v 15, v 16, v 17, v 18, v 19, v 20, v 21, v 22, v 23, v 24, v 25, v 26, v 27, v 28, v 29, v 30, v 31, v 32, v 33, v 34, v 35, v 36, v 37, v 38, v 39, v 40, v 41, v 42, v 43, v 44, v 45, v 46, v 47, v 48, v 49, v 50, v 51, v 52, v 53, v 54, v 55, v 56, v 57, v 58, v 59, v 60, v 61, v 62, v 63, v 64, v 65, v 66, v 67, v 68, v 69, v 70, v 71, v 72, v 73, v 74, v 75, v 76, v 77, v 78, v 79, v 80, v 81, v 82, v 83, v 84, v 85, v 86, v 87, v 88, v 89, v 90, v 91, v 92, v 93, v 94, v 95, v 96, v 97, v 98, v 99, v 100, v 101, v 102, v 103, v 104, v 105, v 106, v 107, v 108, v 109, v 110, v 111, v 112, v 113, v 114, v 115, v 116, v 117, v 118, v 119, v 120, v 121, v 122, v 123, v 124, v 125, v 126, v 127, v 128, v 129, v 130, v 131, v 132, v 133, v 134, v 135, v 136, v 137], []⟩ := by
  obtain ⟨v, hv, hd⟩ := to_act a h.size h.dfr
  have e0 := hv 0 _ h.s0
  have e3 := hv 3 _ h.s3
  have e4 := hv 4 _ h.s4
  have e5 := hv 5 _ h.s5
  refine ⟨v, ?_⟩
  rw [hd]
  simp only [e0, e3, e4, e5]

structure ToB (a : Act) (sv : Value) (lb : Nat) (vw : Value) (i : Int) (cb : Nat) : Prop where
  size : a.tmps.size = 138
  dfr : a.defers = []
  s0 : a.tmps[0]? = some (sv)
  s3 : a.tmps[3]? = some (.pointer (some ⟨lb, 0, none⟩))
  s4 : a.tmps[4]? = some (vw)
  s5 : a.tmps[5]? = some (.int .i64 i)
  s6 : a.tmps[6]? = some (.pointer (some ⟨cb, 0, none⟩))

set_option maxRecDepth 20000 in
theorem ToB.shape {a : Act} {sv : Value} {lb : Nat} {vw : Value} {i : Int} {cb : Nat} (h : ToB a sv lb vw i cb) : ∃ v : Nat → Value, a = ⟨#[sv, v 1, v 2, .pointer (some ⟨lb, 0, none⟩), vw, .int .i64 i, .pointer (some ⟨cb, 0, none⟩), v 7, v 8, v 9, v 10, v 11, v 12, v 13, v 14, v 15, v 16, v 17, v 18, v 19, v 20, v 21, v 22, v 23, v 24, v 25, v 26, v 27, v 28, v 29, v 30, v 31, v 32, v 33, v 34, v 35, v 36, v 37, v 38, v 39, v 40, v 41, v 42, v 43, v 44, v 45, v 46, v 47, v 48, v 49, v 50, v 51, v 52, v 53, v 54, v 55, v 56, v 57, v 58, v 59, v 60, v 61, v 62, v 63, v 64, v 65, v 66, v 67, v 68, v 69, v 70, v 71, v 72, v 73, v 74, v 75, v 76, v 77, v 78, v 79, v 80, v 81, v 82, v 83, v 84, v 85, v 86, v 87, v 88, v 89, v 90, v 91, v 92, v 93, v 94, v 95, v 96, v 97, v 98, v 99, v 100, v 101, v 102, v 103, v 104, v 105, v 106, v 107, v 108, v 109, v 110, v 111, v 112, v 113, v 114, v 115, v 116, v 117, v 118, v 119, v 120, v 121, v 122, v 123, v 124, v 125, v 126, v 127, v 128, v 129, v 130, v 131, v 132, v 133, v 134, v 135, v 136, v 137], []⟩ := by
  obtain ⟨v, hv, hd⟩ := to_act a h.size h.dfr
  have e0 := hv 0 _ h.s0
  have e3 := hv 3 _ h.s3
  have e4 := hv 4 _ h.s4
  have e5 := hv 5 _ h.s5
  have e6 := hv 6 _ h.s6
  refine ⟨v, ?_⟩
  rw [hd]
  simp only [e0, e3, e4, e5, e6]

structure ToC (a : Act) (sv : Value) (lb : Nat) (vw : Value) (i : Int) (cb : Nat) (op : Int) : Prop where
  size : a.tmps.size = 138
  dfr : a.defers = []
  s0 : a.tmps[0]? = some (sv)
  s3 : a.tmps[3]? = some (.pointer (some ⟨lb, 0, none⟩))
  s4 : a.tmps[4]? = some (vw)
  s5 : a.tmps[5]? = some (.int .i64 i)
  s6 : a.tmps[6]? = some (.pointer (some ⟨cb, 0, none⟩))
  s11 : a.tmps[11]? = some (.int .i64 op)

set_option maxRecDepth 20000 in
theorem ToC.shape {a : Act} {sv : Value} {lb : Nat} {vw : Value} {i : Int} {cb : Nat} {op : Int} (h : ToC a sv lb vw i cb op) : ∃ v : Nat → Value, a = ⟨#[sv, v 1, v 2, .pointer (some ⟨lb, 0, none⟩), vw, .int .i64 i, .pointer (some ⟨cb, 0, none⟩), v 7, v 8, v 9, v 10, .int .i64 op, v 12, v 13, v 14, v 15, v 16, v 17, v 18, v 19, v 20, v 21, v 22, v 23, v 24, v 25, v 26, v 27, v 28, v 29, v 30, v 31, v 32, v 33, v 34, v 35, v 36, v 37, v 38, v 39, v 40, v 41, v 42, v 43, v 44, v 45, v 46, v 47, v 48, v 49, v 50, v 51, v 52, v 53, v 54, v 55, v 56, v 57, v 58, v 59, v 60, v 61, v 62, v 63, v 64, v 65, v 66, v 67, v 68, v 69, v 70, v 71, v 72, v 73, v 74, v 75, v 76, v 77, v 78, v 79, v 80, v 81, v 82, v 83, v 84, v 85, v 86, v 87, v 88, v 89, v 90, v 91, v 92, v 93, v 94, v 95, v 96, v 97, v 98, v 99, v 100, v 101, v 102, v 103, v 104, v 105, v 106, v 107, v 108, v 109, v 110, v 111, v 112, v 113, v 114, v 115, v 116, v 117, v 118, v 119, v 120, v 121, v 122, v 123, v 124, v 125, v 126, v 127, v 128, v 129, v 130, v 131, v 132, v 133, v 134, v 135, v 136, v 137], []⟩ := by
  obtain ⟨v, hv, hd⟩ := to_act a h.size h.dfr
  have e0 := hv 0 _ h.s0
  have e3 := hv 3 _ h.s3
  have e4 := hv 4 _ h.s4
  have e5 := hv 5 _ h.s5
  have e6 := hv 6 _ h.s6
  have e11 := hv 11 _ h.s11
  refine ⟨v, ?_⟩
  rw [hd]
  simp only [e0, e3, e4, e5, e6, e11]

structure ToD (a : Act) (sv : Value) (lb : Nat) (vw : Value) (i : Int) (cb : Nat) (op : Int) (k : Int) : Prop where
  size : a.tmps.size = 138
  dfr : a.defers = []
  s0 : a.tmps[0]? = some (sv)
  s3 : a.tmps[3]? = some (.pointer (some ⟨lb, 0, none⟩))
  s4 : a.tmps[4]? = some (vw)
  s5 : a.tmps[5]? = some (.int .i64 i)
  s6 : a.tmps[6]? = some (.pointer (some ⟨cb, 0, none⟩))
  s11 : a.tmps[11]? = some (.int .i64 op)
  s12 : a.tmps[12]? = some (.int .i64 k)

set_option maxRecDepth 20000 in
theorem ToD.shape {a : Act} {sv : Value} {lb : Nat} {vw : Value} {i : Int} {cb : Nat} {op : Int} {k : Int} (h : ToD a sv lb vw i cb op k) : ∃ v : Nat → Value, a = ⟨#[sv, v 1, v 2, .pointer (some ⟨lb, 0, none⟩), vw, .int .i64 i, .pointer (some ⟨cb, 0, none⟩), v 7, v 8, v 9, v 10, .int .i64 op, .int .i64 k, v 13, v 14, v 15, v 16, v 17, v 18, v 19, v 20, v 21, v 22, v 23, v 24, v 25, v 26, v 27, v 28, v 29, v 30, v 31, v 32, v 33, v 34, v 35, v 36, v 37, v 38, v 39, v 40, v 41, v 42, v 43, v 44, v 45, v 46, v 47, v 48, v 49, v 50, v 51, v 52, v 53, v 54, v 55, v 56, v 57, v 58, v 59, v 60, v 61, v 62, v 63, v 64, v 65, v 66, v 67, v 68, v 69, v 70, v 71, v 72, v 73, v 74, v 75, v 76, v 77, v 78, v 79, v 80, v 81, v 82, v 83, v 84, v 85, v 86, v 87, v 88, v 89, v 90, v 91, v 92, v 93, v 94, v 95, v 96, v 97, v 98, v 99, v 100, v 101, v 102, v 103, v 104, v 105, v 106, v 107, v 108, v 109, v 110, v 111, v 112, v 113, v 114, v 115, v 116, v 117, v 118, v 119, v 120, v 121, v 122, v 123, v 124, v 125, v 126, v 127, v 128, v 129, v 130, v 131, v 132, v 133, v 134, v 135, v 136, v 137], []⟩ := by
  obtain ⟨v, hv, hd⟩ := to_act a h.size h.dfr
  have e0 := hv 0 _ h.s0
  have e3 := hv 3 _ h.s3
  have e4 := hv 4 _ h.s4
  have e5 := hv 5 _ h.s5
  have e6 := hv 6 _ h.s6
  have e11 := hv 11 _ h.s11
  have e12 := hv 12 _ h.s12
  refine ⟨v, ?_⟩
  rw [hd]
  simp only [e0, e3, e4, e5, e6, e11, e12]

theorem ToB.toA {a : Act} {sv : Value} {lb : Nat} {vw : Value} {i : Int} {cb : Nat} (h : ToB a sv lb vw i cb) : ToA a sv lb vw i := ⟨h.size, h.dfr, h.s0, h.s3, h.s4, h.s5⟩
theorem ToC.toB {a : Act} {sv : Value} {lb : Nat} {vw : Value} {i : Int} {cb : Nat} {op : Int} (h : ToC a sv lb vw i cb op) : ToB a sv lb vw i cb := ⟨h.size, h.dfr, h.s0, h.s3, h.s4, h.s5, h.s6⟩
theorem ToD.toC {a : Act} {sv : Value} {lb : Nat} {vw : Value} {i : Int} {cb : Nat} {op k : Int} (h : ToD a sv lb vw i cb op k) : ToC a sv lb vw i cb op := ⟨h.size, h.dfr, h.s0, h.s3, h.s4, h.s5, h.s6, h.s11⟩

end Go.Proofs.YthpflfcgnaichaaDoor
