/-
The program's entry: its frames, and the statements one by one.
-/
import Derived.Test.YthpflfcgnaichaaDoorTraEntM
set_option linter.unusedVariables false
set_option linter.unusedSimpArgs false
namespace Go.Proofs.YthpflfcgnaichaaDoor
open Go Go.RowKit

noncomputable def en9 : Code := (ncl (ncr (ncr (ncr (ncr (ncr (ncr (ncr (ncr (ncx Tryd.f43.body))))))))))
noncomputable def en10 : Code := (ncl (ncr (ncr (ncr (ncr (ncr (ncr (ncr (ncr (ncr (ncx Tryd.f43.body)))))))))))
noncomputable def en11 : Code := (ncl (ncr (ncr (ncr (ncr (ncr (ncr (ncr (ncr (ncr (ncr (ncx Tryd.f43.body))))))))))))

set_option maxRecDepth 20000 in
theorem en_act (a : Act) (hs : a.tmps.size = 74) (hd : a.defers = []) : ∃ v : Nat → Value, (∀ (i : Nat) (x : Value), a.tmps[i]? = some x → v i = x) ∧ a = ⟨#[v 0, v 1, v 2, v 3, v 4, v 5, v 6, v 7, v 8, v 9, v 10, v 11, v 12, v 13, v 14, v 15, v 16, v 17, v 18, v 19, v 20, v 21, v 22, v 23, v 24, v 25, v 26, v 27, v 28, v 29, v 30, v 31, v 32, v 33, v 34, v 35, v 36, v 37, v 38, v 39, v 40, v 41, v 42, v 43, v 44, v 45, v 46, v 47, v 48, v 49, v 50, v 51, v 52, v 53, v 54, v 55, v 56, v 57, v 58, v 59, v 60, v 61, v 62, v 63, v 64, v 65, v 66, v 67, v 68, v 69, v 70, v 71, v 72, v 73], []⟩ := by
  obtain ⟨t, d⟩ := a
  obtain ⟨l⟩ := t
  obtain rfl : d = [] := hd
  have hl : l.length = 74 := hs
  refine ⟨fun i => l.getD i undef, fun i x hx => ?_, ?_⟩
  · have hx' : l[i]? = some x := by simpa using hx
    simp [List.getD, hx']
  · have e : l = (List.range 74).map (fun i => l.getD i undef) := by
      apply List.ext_getElem
      · simp [hl]
      · intro i h1 h2
        simp [List.getD, h1]
    generalize (fun i => l.getD i undef) = v at e ⊢
    subst e
    rfl

structure EnA (a : Act) (s : ByteArray) (rb : Nat) (pb : Nat) (nb : Nat) : Prop where
  size : a.tmps.size = 74
  dfr : a.defers = []
  s0 : a.tmps[0]? = some (.string s)
  s2 : a.tmps[2]? = some (.pointer (some ⟨rb, 0, none⟩))
  s4 : a.tmps[4]? = some (.pointer (some ⟨pb, 0, none⟩))
  s5 : a.tmps[5]? = some (.pointer (some ⟨nb, 0, none⟩))
  s6 : a.tmps[6]? = some (cloN nb)
  s7 : a.tmps[7]? = some (cloW nb)

set_option maxRecDepth 20000 in
theorem EnA.shape {a : Act} {s : ByteArray} {rb : Nat} {pb : Nat} {nb : Nat} (h : EnA a s rb pb nb) : ∃ v : Nat → Value, a = ⟨#[.string s, v 1, .pointer (some ⟨rb, 0, none⟩), v 3, .pointer (some ⟨pb, 0, none⟩), .pointer (some ⟨nb, 0, none⟩), cloN nb, cloW nb, v 8, v 9, v 10, v 11, v 12, v 13, v 14, v 15, v 16, v 17, v 18, v 19, v 20, v 21, v 22, v 23, v 24, v 25, v 26, v 27, v 28, v 29, v 30, v 31, v 32, v 33, v 34, v 35, v 36, v 37, v 38, v 39, v 40, v 41, v 42, v 43, v 44, v 45, v 46, v 47, v 48, v 49, v 50, v 51, v 52, v 53, v 54, v 55, v 56, v 57, v 58, v 59, v 60, v 61, v 62, v 63, v 64, v 65, v 66, v 67, v 68, v 69, v 70, v 71, v 72, v 73], []⟩ := by
  obtain ⟨v, hv, hd⟩ := en_act a h.size h.dfr
  have e0 := hv 0 _ h.s0
  have e2 := hv 2 _ h.s2
  have e4 := hv 4 _ h.s4
  have e5 := hv 5 _ h.s5
  have e6 := hv 6 _ h.s6
  have e7 := hv 7 _ h.s7
  refine ⟨v, ?_⟩
  rw [hd]
  simp only [e0, e2, e4, e5, e6, e7]

structure EnB (a : Act) (s : ByteArray) (rb : Nat) (pb : Nat) (nb : Nat) (pe : Nat) : Prop where
  size : a.tmps.size = 74
  dfr : a.defers = []
  s0 : a.tmps[0]? = some (.string s)
  s2 : a.tmps[2]? = some (.pointer (some ⟨rb, 0, none⟩))
  s4 : a.tmps[4]? = some (.pointer (some ⟨pb, 0, none⟩))
  s5 : a.tmps[5]? = some (.pointer (some ⟨nb, 0, none⟩))
  s6 : a.tmps[6]? = some (cloN nb)
  s7 : a.tmps[7]? = some (cloW nb)
  s8 : a.tmps[8]? = some (.pointer (some ⟨pe, 0, none⟩))

set_option maxRecDepth 20000 in
theorem EnB.shape {a : Act} {s : ByteArray} {rb : Nat} {pb : Nat} {nb : Nat} {pe : Nat} (h : EnB a s rb pb nb pe) : ∃ v : Nat → Value, a = ⟨#[.string s, v 1, .pointer (some ⟨rb, 0, none⟩), v 3, .pointer (some ⟨pb, 0, none⟩), .pointer (some ⟨nb, 0, none⟩), cloN nb, cloW nb, .pointer (some ⟨pe, 0, none⟩), v 9, v 10, v 11, v 12, v 13, v 14, v 15, v 16, v 17, v 18, v 19, v 20, v 21, v 22, v 23, v 24, v 25, v 26, v 27, v 28, v 29, v 30, v 31, v 32, v 33, v 34, v 35, v 36, v 37, v 38, v 39, v 40, v 41, v 42, v 43, v 44, v 45, v 46, v 47, v 48, v 49, v 50, v 51, v 52, v 53, v 54, v 55, v 56, v 57, v 58, v 59, v 60, v 61, v 62, v 63, v 64, v 65, v 66, v 67, v 68, v 69, v 70, v 71, v 72, v 73], []⟩ := by
  obtain ⟨v, hv, hd⟩ := en_act a h.size h.dfr
  have e0 := hv 0 _ h.s0
  have e2 := hv 2 _ h.s2
  have e4 := hv 4 _ h.s4
  have e5 := hv 5 _ h.s5
  have e6 := hv 6 _ h.s6
  have e7 := hv 7 _ h.s7
  have e8 := hv 8 _ h.s8
  refine ⟨v, ?_⟩
  rw [hd]
  simp only [e0, e2, e4, e5, e6, e7, e8]

structure EnC (a : Act) (s : ByteArray) (rb : Nat) (pe : Nat) (l : ByteArray) (f : Int) : Prop where
  size : a.tmps.size = 74
  dfr : a.defers = []
  s0 : a.tmps[0]? = some (.string s)
  s2 : a.tmps[2]? = some (.pointer (some ⟨rb, 0, none⟩))
  s8 : a.tmps[8]? = some (.pointer (some ⟨pe, 0, none⟩))
  s9 : a.tmps[9]? = some (.string l)
  s10 : a.tmps[10]? = some (.int .i64 f)

set_option maxRecDepth 20000 in
theorem EnC.shape {a : Act} {s : ByteArray} {rb : Nat} {pe : Nat} {l : ByteArray} {f : Int} (h : EnC a s rb pe l f) : ∃ v : Nat → Value, a = ⟨#[.string s, v 1, .pointer (some ⟨rb, 0, none⟩), v 3, v 4, v 5, v 6, v 7, .pointer (some ⟨pe, 0, none⟩), .string l, .int .i64 f, v 11, v 12, v 13, v 14, v 15, v 16, v 17, v 18, v 19, v 20, v 21, v 22, v 23, v 24, v 25, v 26, v 27, v 28, v 29, v 30, v 31, v 32, v 33, v 34, v 35, v 36, v 37, v 38, v 39, v 40, v 41, v 42, v 43, v 44, v 45, v 46, v 47, v 48, v 49, v 50, v 51, v 52, v 53, v 54, v 55, v 56, v 57, v 58, v 59, v 60, v 61, v 62, v 63, v 64, v 65, v 66, v 67, v 68, v 69, v 70, v 71, v 72, v 73], []⟩ := by
  obtain ⟨v, hv, hd⟩ := en_act a h.size h.dfr
  have e0 := hv 0 _ h.s0
  have e2 := hv 2 _ h.s2
  have e8 := hv 8 _ h.s8
  have e9 := hv 9 _ h.s9
  have e10 := hv 10 _ h.s10
  refine ⟨v, ?_⟩
  rw [hd]
  simp only [e0, e2, e8, e9, e10]

section
variable {w0 w : World} {pb nb g pe : Nat} {ps : List ByteArray} {s : ByteArray} {K : Act → World → Prop} {Q : Exit → Act → World → Prop} {a : Act}

/-- The entry's own variable lies apart. -/
structure EP (w0 w : World) (pb nb g pe : Nat) (e : Ent) : Prop where
  ent : w.heap[pe]? = some (EO e)
  ne1 : pe ≠ pb
  ne2 : pe ≠ nb
  ne3 : pe ≠ g
  ge : w0.heap.size < pe

set_option maxHeartbeats 1000000 in
set_option maxRecDepth 20000 in
theorem en7_step (hf : EnA a s w0.heap.size pb nb) (h : EN w0 w pb nb g ps 0)
    (rest : ∀ a' w' pe, EnB a' s w0.heap.size pb nb pe → EN w0 w' pb nb g ps 8 → EP w0 w' pb nb g pe ⟨atoiV (part ps 0), atoiV (part ps 1), atoiV (part ps 2), txtB (part ps 3), txtB (part ps 4), txtB (part ps 5), puintV (part ps 6), puintV (part ps 7), 0, 0, ⟨#[]⟩, 0, ⟨#[]⟩, ⟨#[]⟩, 0⟩ → K a' w') : en7.wp Tryd.prog (Exit.then K Q) a w := by
  refine wp_calm ?_
  obtain ⟨v, rfl⟩ := hf.shape
  refine e7_run (s := s) (rb := w0.heap.size) (c7_of w0 pb nb g ps) (Lib.hid ?_) w h
  intro w' pe h' hz hp hq hB
  have hg : pe ≠ g := by omega
  have hge : w0.heap.size < pe := by omega
  have h8 : EN w0 w' pb nb g ps 8 := h'
  have hEN := fun L => EN.mod h8 (mod_setCells (F := fun k => k = pe) (a := w') (pe := pe) (fun _ => rfl) L 0 w' (Mod.refl _ _)) (fun e => hp e.symm) (fun e => hq e.symm) (fun e => hg e.symm) (fun e => by omega) (fun k e => by omega)
  have hbk := fun (L : List Value) (hl : L.length = 15) => (setCells_blk L 0 w' _ hz).trans (congrArg (fun c => some (Obj.cells c 38 (0, 0))) (writeAt_all (old := Ent.zero.cells) (new := L) hl.symm))
  refine rest _ _ pe ?_ (hEN _) ⟨?_, hp, hq, hg, hge⟩
  · exact ⟨rfl, rfl, rfl, rfl, rfl, rfl, rfl, rfl, rfl⟩
  · exact hbk _ rfl

end

end Go.Proofs.YthpflfcgnaichaaDoor
