/-
NetOrder's code in parts, and its frame: which slots matter.
-/
import Derived.Test.YtibijonjjkknoaaNetOrdC
import Derived.Test.YtibijonjjkknoaaNetAwake
import Derived.Deep.CutRange
set_option linter.unusedVariables false
set_option linter.unusedSimpArgs false
namespace Go.Proofs.Ytibijonjjkknoaa
open Go Go.RowKit

def ncl : Code → Code
  | .seq a _ => a
  | c => c
def ncr : Code → Code
  | .seq _ b => b
  | c => c
def ncb : Code → Code
  | .block _ b => b
  | c => c
def nco : Code → Code
  | .loop b => b
  | c => c
def ncx : Option Code → Code
  | some c => c
  | none => .skip

noncomputable def codeLoop : Code := (ncr (ncl (ncr (ncr (ncr (ncr (ncr (ncr (ncr (ncr (ncr (ncx Try.f5.body))))))))))))
noncomputable def codeBody : Code := (nco (ncb (ncr (ncl (ncr (ncr (ncr (ncr (ncr (ncr (ncr (ncr (ncr (ncx Try.f5.body))))))))))))))
noncomputable def codeTest : Code := (ncl (nco (ncb (ncr (ncl (ncr (ncr (ncr (ncr (ncr (ncr (ncr (ncr (ncr (ncx Try.f5.body)))))))))))))))
noncomputable def codeRound : Code := (ncl (ncr (nco (ncb (ncr (ncl (ncr (ncr (ncr (ncr (ncr (ncr (ncr (ncr (ncr (ncx Try.f5.body))))))))))))))))
noncomputable def codeStep : Code := (ncr (ncr (nco (ncb (ncr (ncl (ncr (ncr (ncr (ncr (ncr (ncr (ncr (ncr (ncr (ncx Try.f5.body))))))))))))))))
noncomputable def code14 : Code := (ncl (ncb (ncl (ncr (nco (ncb (ncr (ncl (ncr (ncr (ncr (ncr (ncr (ncr (ncr (ncr (ncr (ncx Try.f5.body))))))))))))))))))
noncomputable def code15 : Code := (ncl (ncr (ncb (ncl (ncr (nco (ncb (ncr (ncl (ncr (ncr (ncr (ncr (ncr (ncr (ncr (ncr (ncr (ncx Try.f5.body)))))))))))))))))))
noncomputable def code16 : Code := (ncl (ncr (ncr (ncb (ncl (ncr (nco (ncb (ncr (ncl (ncr (ncr (ncr (ncr (ncr (ncr (ncr (ncr (ncr (ncx Try.f5.body))))))))))))))))))))
noncomputable def code18 : Code := (ncl (ncr (ncr (ncr (ncb (ncl (ncr (nco (ncb (ncr (ncl (ncr (ncr (ncr (ncr (ncr (ncr (ncr (ncr (ncr (ncx Try.f5.body)))))))))))))))))))))
noncomputable def code22 : Code := (ncl (ncr (ncr (ncr (ncr (ncb (ncl (ncr (nco (ncb (ncr (ncl (ncr (ncr (ncr (ncr (ncr (ncr (ncr (ncr (ncr (ncx Try.f5.body))))))))))))))))))))))
noncomputable def code26 : Code := (ncl (ncr (ncr (ncr (ncr (ncr (ncb (ncl (ncr (nco (ncb (ncr (ncl (ncr (ncr (ncr (ncr (ncr (ncr (ncr (ncr (ncr (ncx Try.f5.body)))))))))))))))))))))))
noncomputable def code28 : Code := (ncl (ncr (ncr (ncr (ncr (ncr (ncr (ncb (ncl (ncr (nco (ncb (ncr (ncl (ncr (ncr (ncr (ncr (ncr (ncr (ncr (ncr (ncr (ncx Try.f5.body))))))))))))))))))))))))
noncomputable def code31 : Code := (ncl (ncr (ncr (ncr (ncr (ncr (ncr (ncr (ncb (ncl (ncr (nco (ncb (ncr (ncl (ncr (ncr (ncr (ncr (ncr (ncr (ncr (ncr (ncr (ncx Try.f5.body)))))))))))))))))))))))))
noncomputable def codeIn : Code := (ncr (ncr (ncr (ncr (ncr (ncr (ncr (ncr (ncb (ncl (ncr (nco (ncb (ncr (ncl (ncr (ncr (ncr (ncr (ncr (ncr (ncr (ncr (ncr (ncx Try.f5.body)))))))))))))))))))))))))
noncomputable def codeInTest : Code := (ncl (nco (ncb (ncr (ncr (ncr (ncr (ncr (ncr (ncr (ncr (ncb (ncl (ncr (nco (ncb (ncr (ncl (ncr (ncr (ncr (ncr (ncr (ncr (ncr (ncr (ncr (ncx Try.f5.body))))))))))))))))))))))))))))
noncomputable def codeInRound : Code := (ncb (ncl (ncr (nco (ncb (ncr (ncr (ncr (ncr (ncr (ncr (ncr (ncr (ncb (ncl (ncr (nco (ncb (ncr (ncl (ncr (ncr (ncr (ncr (ncr (ncr (ncr (ncr (ncr (ncx Try.f5.body))))))))))))))))))))))))))))))
noncomputable def codeInStep : Code := (ncr (ncr (nco (ncb (ncr (ncr (ncr (ncr (ncr (ncr (ncr (ncr (ncb (ncl (ncr (nco (ncb (ncr (ncl (ncr (ncr (ncr (ncr (ncr (ncr (ncr (ncr (ncr (ncx Try.f5.body)))))))))))))))))))))))))))))
noncomputable def codeCut : Code := (ncl (ncr (ncr (ncr (ncr (ncr (ncr (ncr (ncr (ncr (ncr (ncx Try.f5.body))))))))))))
noncomputable def code39 : Code := (ncl (ncl (ncr (ncr (ncr (ncr (ncr (ncr (ncr (ncr (ncr (ncr (ncr (ncx Try.f5.body))))))))))))))
noncomputable def codeEnd : Code := (ncr (ncl (ncr (ncr (ncr (ncr (ncr (ncr (ncr (ncr (ncr (ncr (ncr (ncx Try.f5.body))))))))))))))
noncomputable def codeEndTest : Code := (ncl (nco (ncb (ncr (ncl (ncr (ncr (ncr (ncr (ncr (ncr (ncr (ncr (ncr (ncr (ncr (ncx Try.f5.body)))))))))))))))))
noncomputable def codeEndRound : Code := (ncb (ncl (ncr (nco (ncb (ncr (ncl (ncr (ncr (ncr (ncr (ncr (ncr (ncr (ncr (ncr (ncr (ncr (ncx Try.f5.body)))))))))))))))))))
noncomputable def codeEndStep : Code := (ncr (ncr (nco (ncb (ncr (ncl (ncr (ncr (ncr (ncr (ncr (ncr (ncr (ncr (ncr (ncr (ncr (ncx Try.f5.body))))))))))))))))))
noncomputable def codeTrue : Code := (ncr (ncr (ncr (ncr (ncr (ncr (ncr (ncr (ncr (ncr (ncr (ncr (ncx Try.f5.body)))))))))))))
noncomputable def codeAfter : Code := (ncr (ncr (ncr (ncr (ncr (ncr (ncr (ncr (ncr (ncr (ncx Try.f5.body)))))))))))

set_option maxRecDepth 20000 in
theorem act261 (a : Act) (hs : a.tmps.size = 261) (hd : a.defers = []) : ∃ v : Nat → Value, (∀ (i : Nat) (x : Value), a.tmps[i]? = some x → v i = x) ∧ a = ⟨#[v 0, v 1, v 2, v 3, v 4, v 5, v 6, v 7, v 8, v 9, v 10, v 11, v 12, v 13, v 14, v 15, v 16, v 17, v 18, v 19, v 20, v 21, v 22, v 23, v 24, v 25, v 26, v 27, v 28, v 29, v 30, v 31, v 32, v 33, v 34, v 35, v 36, v 37, v 38, v 39, v 40, v 41, v 42, v 43, v 44, v 45, v 46, v 47, v 48, v 49, v 50, v 51, v 52, v 53, v 54, v 55, v 56, v 57, v 58, v 59, v 60, v 61, v 62, v 63, v 64, v 65, v 66, v 67, v 68, v 69, v 70, v 71, v 72, v 73, v 74, v 75, v 76, v 77, v 78, v 79, v 80, v 81, v 82, v 83, v 84, v 85, v 86, v 87, v 88, v 89, v 90, v 91, v 92, v 93, v 94, v 95, v 96, v 97, v 98, v 99, v 100, v 101, v 102, v 103, v 104, v 105, v 106, v 107, v 108, v 109, v 110, v 111, v 112, v 113, v 114, v 115, v 116, v 117, v 118, v 119, v 120, v 121, v 122, v 123, v 124, v 125, v 126, v 127, v 128, v 129, v 130, v 131, v 132, v 133, v 134, v 135, v 136, v 137, v 138, v 139, v 140, v 141, v 142, v 143, v 144, v 145, v 146, v 147, v 148, v 149, v 150, v 151, v 152, v 153, v 154, v 155, v 156, v 157, v 158, v 159, v 160, v 161, v 162, v 163, v 164, v 165, v 166, v 167, v 168, v 169, v 170, v 171, v 172, v 173, v 174, v 175, v 176, v 177, v 178, v 179, v 180, v 181, v 182, v 183, v 184, v 185, v 186, v 187, v 188, v 189, v 190, v 191, v 192, v 193, v 194, v 195, v 196, v 197, v 198, v 199, v 200, v 201, v 202, v 203, v 204, v 205, v 206, v 207, v 208, v 209, v 210, v 211, v 212, v 213, v 214, v 215, v 216, v 217, v 218, v 219, v 220, v 221, v 222, v 223, v 224, v 225, v 226, v 227, v 228, v 229, v 230, v 231, v 232, v 233, v 234, v 235, v 236, v 237, v 238, v 239, v 240, v 241, v 242, v 243, v 244, v 245, v 246, v 247, v 248, v 249, v 250, v 251, v 252, v 253, v 254, v 255, v 256, v 257, v 258, v 259, v 260], []⟩ := by
  obtain ⟨t, d⟩ := a
  obtain ⟨l⟩ := t
  obtain rfl : d = [] := hd
  have hl : l.length = 261 := hs
  refine ⟨fun i => l.getD i undef, fun i x hx => ?_, ?_⟩
  · have hx' : l[i]? = some x := by simpa using hx
    simp [List.getD, hx']
  · have e : l = (List.range 261).map (fun i => l.getD i undef) := by
      apply List.ext_getElem
      · simp [hl]
      · intro i h1 h2
        simp [List.getD, h1]
    generalize (fun i => l.getD i undef) = v at e ⊢
    subst e
    rfl

structure FrO (a : Act) (al : Value) (n : Nat) (bw : Nat) (br : Nat) (cut : Bool) (i : Int) : Prop where
  size : a.tmps.size = 261
  dfr : a.defers = []
  s0 : a.tmps[0]? = some (al)
  s3 : a.tmps[3]? = some (.pointer (some ⟨n, 0, none⟩))
  s6 : a.tmps[6]? = some (.pointer (some ⟨bw, 0, none⟩))
  s7 : a.tmps[7]? = some (.pointer (some ⟨br, 0, none⟩))
  s8 : a.tmps[8]? = some (.bool cut)
  s9 : a.tmps[9]? = some (.int .i64 i)

set_option maxRecDepth 20000 in
theorem FrO.shape {a : Act} {al : Value} {n : Nat} {bw : Nat} {br : Nat} {cut : Bool} {i : Int} (h : FrO a al n bw br cut i) : ∃ v : Nat → Value, a = ⟨#[al, v 1, v 2, .pointer (some ⟨n, 0, none⟩), v 4, v 5, .pointer (some ⟨bw, 0, none⟩), .pointer (some ⟨br, 0, none⟩), .bool cut, .int .i64 i, v 10, v 11, v 12, v 13, v 14, v 15, v 16, v 17, v 18, v 19, v 20, v 21, v 22, v 23, v 24, v 25, v 26, v 27, v 28, v 29, v 30, v 31, v 32, v 33, v 34, v 35, v 36, v 37, v 38, v 39, v 40, v 41, v 42, v 43, v 44, v 45, v 46, v 47, v 48, v 49, v 50, v 51, v 52, v 53, v 54, v 55, v 56, v 57, v 58, v 59, v 60, v 61, v 62, v 63, v 64, v 65, v 66, v 67, v 68, v 69, v 70, v 71, v 72, v 73, v 74, v 75, v 76, v 77, v 78, v 79, v 80, v 81, v 82, v 83, v 84, v 85, v 86, v 87, v 88, v 89, v 90, v 91, v 92, v 93, v 94, v 95, v 96, v 97, v 98, v 99, v 100, v 101, v 102, v 103, v 104, v 105, v 106, v 107, v 108, v 109, v 110, v 111, v 112, v 113, v 114, v 115, v 116, v 117, v 118, v 119, v 120, v 121, v 122, v 123, v 124, v 125, v 126, v 127, v 128, v 129, v 130, v 131, v 132, v 133, v 134, v 135, v 136, v 137, v 138, v 139, v 140, v 141, v 142, v 143, v 144, v 145, v 146, v 147, v 148, v 149, v 150, v 151, v 152, v 153, v 154, v 155, v 156, v 157, v 158, v 159, v 160, v 161, v 162, v 163, v 164, v 165, v 166, v 167, v 168, v 169, v 170, v 171, v 172, v 173, v 174, v 175, v 176, v 177, v 178, v 179, v 180, v 181, v 182, v 183, v 184, v 185, v 186, v 187, v 188, v 189, v 190, v 191, v 192, v 193, v 194, v 195, v 196, v 197, v 198, v 199, v 200, v 201, v 202, v 203, v 204, v 205, v 206, v 207, v 208, v 209, v 210, v 211, v 212, v 213, v 214, v 215, v 216, v 217, v 218, v 219, v 220, v 221, v 222, v 223, v 224, v 225, v 226, v 227, v 228, v 229, v 230, v 231, v 232, v 233, v 234, v 235, v 236, v 237, v 238, v 239, v 240, v 241, v 242, v 243, v 244, v 245, v 246, v 247, v 248, v 249, v 250, v 251, v 252, v 253, v 254, v 255, v 256, v 257, v 258, v 259, v 260], []⟩ := by
  obtain ⟨v, hv, hd⟩ := act261 a h.size h.dfr
  have e0 := hv 0 _ h.s0
  have e3 := hv 3 _ h.s3
  have e6 := hv 6 _ h.s6
  have e7 := hv 7 _ h.s7
  have e8 := hv 8 _ h.s8
  have e9 := hv 9 _ h.s9
  refine ⟨v, ?_⟩
  rw [hd]
  simp only [e0, e3, e6, e7, e8, e9]

structure FrC (a : Act) (al : Value) (n : Nat) (bw : Nat) (br : Nat) (cut : Bool) (i : Int) (cb : Nat) : Prop where
  size : a.tmps.size = 261
  dfr : a.defers = []
  s0 : a.tmps[0]? = some (al)
  s3 : a.tmps[3]? = some (.pointer (some ⟨n, 0, none⟩))
  s6 : a.tmps[6]? = some (.pointer (some ⟨bw, 0, none⟩))
  s7 : a.tmps[7]? = some (.pointer (some ⟨br, 0, none⟩))
  s8 : a.tmps[8]? = some (.bool cut)
  s9 : a.tmps[9]? = some (.int .i64 i)
  s10 : a.tmps[10]? = some (.pointer (some ⟨cb, 0, none⟩))

set_option maxRecDepth 20000 in
theorem FrC.shape {a : Act} {al : Value} {n : Nat} {bw : Nat} {br : Nat} {cut : Bool} {i : Int} {cb : Nat} (h : FrC a al n bw br cut i cb) : ∃ v : Nat → Value, a = ⟨#[al, v 1, v 2, .pointer (some ⟨n, 0, none⟩), v 4, v 5, .pointer (some ⟨bw, 0, none⟩), .pointer (some ⟨br, 0, none⟩), .bool cut, .int .i64 i, .pointer (some ⟨cb, 0, none⟩), v 11, v 12, v 13, v 14, v 15, v 16, v 17, v 18, v 19, v 20, v 21, v 22, v 23, v 24, v 25, v 26, v 27, v 28, v 29, v 30, v 31, v 32, v 33, v 34, v 35, v 36, v 37, v 38, v 39, v 40, v 41, v 42, v 43, v 44, v 45, v 46, v 47, v 48, v 49, v 50, v 51, v 52, v 53, v 54, v 55, v 56, v 57, v 58, v 59, v 60, v 61, v 62, v 63, v 64, v 65, v 66, v 67, v 68, v 69, v 70, v 71, v 72, v 73, v 74, v 75, v 76, v 77, v 78, v 79, v 80, v 81, v 82, v 83, v 84, v 85, v 86, v 87, v 88, v 89, v 90, v 91, v 92, v 93, v 94, v 95, v 96, v 97, v 98, v 99, v 100, v 101, v 102, v 103, v 104, v 105, v 106, v 107, v 108, v 109, v 110, v 111, v 112, v 113, v 114, v 115, v 116, v 117, v 118, v 119, v 120, v 121, v 122, v 123, v 124, v 125, v 126, v 127, v 128, v 129, v 130, v 131, v 132, v 133, v 134, v 135, v 136, v 137, v 138, v 139, v 140, v 141, v 142, v 143, v 144, v 145, v 146, v 147, v 148, v 149, v 150, v 151, v 152, v 153, v 154, v 155, v 156, v 157, v 158, v 159, v 160, v 161, v 162, v 163, v 164, v 165, v 166, v 167, v 168, v 169, v 170, v 171, v 172, v 173, v 174, v 175, v 176, v 177, v 178, v 179, v 180, v 181, v 182, v 183, v 184, v 185, v 186, v 187, v 188, v 189, v 190, v 191, v 192, v 193, v 194, v 195, v 196, v 197, v 198, v 199, v 200, v 201, v 202, v 203, v 204, v 205, v 206, v 207, v 208, v 209, v 210, v 211, v 212, v 213, v 214, v 215, v 216, v 217, v 218, v 219, v 220, v 221, v 222, v 223, v 224, v 225, v 226, v 227, v 228, v 229, v 230, v 231, v 232, v 233, v 234, v 235, v 236, v 237, v 238, v 239, v 240, v 241, v 242, v 243, v 244, v 245, v 246, v 247, v 248, v 249, v 250, v 251, v 252, v 253, v 254, v 255, v 256, v 257, v 258, v 259, v 260], []⟩ := by
  obtain ⟨v, hv, hd⟩ := act261 a h.size h.dfr
  have e0 := hv 0 _ h.s0
  have e3 := hv 3 _ h.s3
  have e6 := hv 6 _ h.s6
  have e7 := hv 7 _ h.s7
  have e8 := hv 8 _ h.s8
  have e9 := hv 9 _ h.s9
  have e10 := hv 10 _ h.s10
  refine ⟨v, ?_⟩
  rw [hd]
  simp only [e0, e3, e6, e7, e8, e9, e10]

structure FrI (a : Act) (al : Value) (n : Nat) (bw : Nat) (br : Nat) (cut : Bool) (i : Int) (cb : Nat) (k : Int) : Prop where
  size : a.tmps.size = 261
  dfr : a.defers = []
  s0 : a.tmps[0]? = some (al)
  s3 : a.tmps[3]? = some (.pointer (some ⟨n, 0, none⟩))
  s6 : a.tmps[6]? = some (.pointer (some ⟨bw, 0, none⟩))
  s7 : a.tmps[7]? = some (.pointer (some ⟨br, 0, none⟩))
  s8 : a.tmps[8]? = some (.bool cut)
  s9 : a.tmps[9]? = some (.int .i64 i)
  s10 : a.tmps[10]? = some (.pointer (some ⟨cb, 0, none⟩))
  s16 : a.tmps[16]? = some (.int .i64 k)

set_option maxRecDepth 20000 in
theorem FrI.shape {a : Act} {al : Value} {n : Nat} {bw : Nat} {br : Nat} {cut : Bool} {i : Int} {cb : Nat} {k : Int} (h : FrI a al n bw br cut i cb k) : ∃ v : Nat → Value, a = ⟨#[al, v 1, v 2, .pointer (some ⟨n, 0, none⟩), v 4, v 5, .pointer (some ⟨bw, 0, none⟩), .pointer (some ⟨br, 0, none⟩), .bool cut, .int .i64 i, .pointer (some ⟨cb, 0, none⟩), v 11, v 12, v 13, v 14, v 15, .int .i64 k, v 17, v 18, v 19, v 20, v 21, v 22, v 23, v 24, v 25, v 26, v 27, v 28, v 29, v 30, v 31, v 32, v 33, v 34, v 35, v 36, v 37, v 38, v 39, v 40, v 41, v 42, v 43, v 44, v 45, v 46, v 47, v 48, v 49, v 50, v 51, v 52, v 53, v 54, v 55, v 56, v 57, v 58, v 59, v 60, v 61, v 62, v 63, v 64, v 65, v 66, v 67, v 68, v 69, v 70, v 71, v 72, v 73, v 74, v 75, v 76, v 77, v 78, v 79, v 80, v 81, v 82, v 83, v 84, v 85, v 86, v 87, v 88, v 89, v 90, v 91, v 92, v 93, v 94, v 95, v 96, v 97, v 98, v 99, v 100, v 101, v 102, v 103, v 104, v 105, v 106, v 107, v 108, v 109, v 110, v 111, v 112, v 113, v 114, v 115, v 116, v 117, v 118, v 119, v 120, v 121, v 122, v 123, v 124, v 125, v 126, v 127, v 128, v 129, v 130, v 131, v 132, v 133, v 134, v 135, v 136, v 137, v 138, v 139, v 140, v 141, v 142, v 143, v 144, v 145, v 146, v 147, v 148, v 149, v 150, v 151, v 152, v 153, v 154, v 155, v 156, v 157, v 158, v 159, v 160, v 161, v 162, v 163, v 164, v 165, v 166, v 167, v 168, v 169, v 170, v 171, v 172, v 173, v 174, v 175, v 176, v 177, v 178, v 179, v 180, v 181, v 182, v 183, v 184, v 185, v 186, v 187, v 188, v 189, v 190, v 191, v 192, v 193, v 194, v 195, v 196, v 197, v 198, v 199, v 200, v 201, v 202, v 203, v 204, v 205, v 206, v 207, v 208, v 209, v 210, v 211, v 212, v 213, v 214, v 215, v 216, v 217, v 218, v 219, v 220, v 221, v 222, v 223, v 224, v 225, v 226, v 227, v 228, v 229, v 230, v 231, v 232, v 233, v 234, v 235, v 236, v 237, v 238, v 239, v 240, v 241, v 242, v 243, v 244, v 245, v 246, v 247, v 248, v 249, v 250, v 251, v 252, v 253, v 254, v 255, v 256, v 257, v 258, v 259, v 260], []⟩ := by
  obtain ⟨v, hv, hd⟩ := act261 a h.size h.dfr
  have e0 := hv 0 _ h.s0
  have e3 := hv 3 _ h.s3
  have e6 := hv 6 _ h.s6
  have e7 := hv 7 _ h.s7
  have e8 := hv 8 _ h.s8
  have e9 := hv 9 _ h.s9
  have e10 := hv 10 _ h.s10
  have e16 := hv 16 _ h.s16
  refine ⟨v, ?_⟩
  rw [hd]
  simp only [e0, e3, e6, e7, e8, e9, e10, e16]

structure FrE (a : Act) (n : Nat) (bw : Nat) (br : Nat) (k : Int) : Prop where
  size : a.tmps.size = 261
  dfr : a.defers = []
  s3 : a.tmps[3]? = some (.pointer (some ⟨n, 0, none⟩))
  s6 : a.tmps[6]? = some (.pointer (some ⟨bw, 0, none⟩))
  s7 : a.tmps[7]? = some (.pointer (some ⟨br, 0, none⟩))
  s20 : a.tmps[20]? = some (.int .i64 k)

set_option maxRecDepth 20000 in
theorem FrE.shape {a : Act} {n : Nat} {bw : Nat} {br : Nat} {k : Int} (h : FrE a n bw br k) : ∃ v : Nat → Value, a = ⟨#[v 0, v 1, v 2, .pointer (some ⟨n, 0, none⟩), v 4, v 5, .pointer (some ⟨bw, 0, none⟩), .pointer (some ⟨br, 0, none⟩), v 8, v 9, v 10, v 11, v 12, v 13, v 14, v 15, v 16, v 17, v 18, v 19, .int .i64 k, v 21, v 22, v 23, v 24, v 25, v 26, v 27, v 28, v 29, v 30, v 31, v 32, v 33, v 34, v 35, v 36, v 37, v 38, v 39, v 40, v 41, v 42, v 43, v 44, v 45, v 46, v 47, v 48, v 49, v 50, v 51, v 52, v 53, v 54, v 55, v 56, v 57, v 58, v 59, v 60, v 61, v 62, v 63, v 64, v 65, v 66, v 67, v 68, v 69, v 70, v 71, v 72, v 73, v 74, v 75, v 76, v 77, v 78, v 79, v 80, v 81, v 82, v 83, v 84, v 85, v 86, v 87, v 88, v 89, v 90, v 91, v 92, v 93, v 94, v 95, v 96, v 97, v 98, v 99, v 100, v 101, v 102, v 103, v 104, v 105, v 106, v 107, v 108, v 109, v 110, v 111, v 112, v 113, v 114, v 115, v 116, v 117, v 118, v 119, v 120, v 121, v 122, v 123, v 124, v 125, v 126, v 127, v 128, v 129, v 130, v 131, v 132, v 133, v 134, v 135, v 136, v 137, v 138, v 139, v 140, v 141, v 142, v 143, v 144, v 145, v 146, v 147, v 148, v 149, v 150, v 151, v 152, v 153, v 154, v 155, v 156, v 157, v 158, v 159, v 160, v 161, v 162, v 163, v 164, v 165, v 166, v 167, v 168, v 169, v 170, v 171, v 172, v 173, v 174, v 175, v 176, v 177, v 178, v 179, v 180, v 181, v 182, v 183, v 184, v 185, v 186, v 187, v 188, v 189, v 190, v 191, v 192, v 193, v 194, v 195, v 196, v 197, v 198, v 199, v 200, v 201, v 202, v 203, v 204, v 205, v 206, v 207, v 208, v 209, v 210, v 211, v 212, v 213, v 214, v 215, v 216, v 217, v 218, v 219, v 220, v 221, v 222, v 223, v 224, v 225, v 226, v 227, v 228, v 229, v 230, v 231, v 232, v 233, v 234, v 235, v 236, v 237, v 238, v 239, v 240, v 241, v 242, v 243, v 244, v 245, v 246, v 247, v 248, v 249, v 250, v 251, v 252, v 253, v 254, v 255, v 256, v 257, v 258, v 259, v 260], []⟩ := by
  obtain ⟨v, hv, hd⟩ := act261 a h.size h.dfr
  have e3 := hv 3 _ h.s3
  have e6 := hv 6 _ h.s6
  have e7 := hv 7 _ h.s7
  have e20 := hv 20 _ h.s20
  refine ⟨v, ?_⟩
  rw [hd]
  simp only [e3, e6, e7, e20]

theorem wp_calm {P : Program} {c : Code} {K : Act → World → Prop} {Q : Exit → Act → World → Prop} {a : Act} {w : World} (h : c.wp P (Exit.then K fun _ _ _ => False) a w) : c.wp P (Exit.then K Q) a w :=
  wp_mono h (by intro e a w h; cases e <;> first | exact h | exact h.elim)

theorem FrC.toO {a : Act} {al : Value} {n bw br : Nat} {cut : Bool} {i : Int} {cb : Nat} (h : FrC a al n bw br cut i cb) : FrO a al n bw br cut i := ⟨h.size, h.dfr, h.s0, h.s3, h.s6, h.s7, h.s8, h.s9⟩

theorem FrI.toC {a : Act} {al : Value} {n bw br : Nat} {cut : Bool} {i : Int} {cb : Nat} {k : Int} (h : FrI a al n bw br cut i cb k) : FrC a al n bw br cut i cb := ⟨h.size, h.dfr, h.s0, h.s3, h.s6, h.s7, h.s8, h.s9, h.s10⟩

/-- The round's own copy of a call. -/
noncomputable abbrev callObj (kd : Int) (nm : ByteArray) (cn sd nk : Int) (ad : Option Addr) (dl dc : Nat) : Obj := .cells #[.int .i64 kd, .string nm, .int .i64 cn, .int .i64 sd, .int .i64 nk, .slice ad dl dc] 40

/-- One call of a script, as it lies in memory. -/
structure CallAt (w : World) (g off : Nat) (kind : Int) (name : ByteArray) (conn side nn : Int) (ad : Option Addr) (dl dc : Nat) (ps : List UInt8) : Prop where
  c0 : w.cell? ⟨g, off, none⟩ = some (.int .i64 kind)
  c1 : w.cell? ⟨g, off + 1, none⟩ = some (.string name)
  c2 : w.cell? ⟨g, off + 2, none⟩ = some (.int .i64 conn)
  c3 : w.cell? ⟨g, off + 3, none⟩ = some (.int .i64 side)
  c4 : w.cell? ⟨g, off + 4, none⟩ = some (.int .i64 nn)
  c5 : w.cell? ⟨g, off + 5, none⟩ = some (.slice ad dl dc)
  len : ps.length = dl
  rd : RdB w ad dc ps
  old : ∀ a, ad = some a → ps ≠ [] → a.block < w.heap.size

def nameX : ByteArray := { data := #[120] }
def nameY : ByteArray := { data := #[121] }

end Go.Proofs.Ytibijonjjkknoaa
