/-
The program's entry: the statement that reads the first eight parts (its operations come up in whatever order).
-/
import Derived.Test.YthpflfcgnaichaaDoorTraWords
import Derived.Test.YthpflfcgnaichaaDoorCode
import Derived.Deep.RegionHeld
set_option linter.unusedVariables false
set_option linter.unusedSimpArgs false
namespace Go.Proofs.YthpflfcgnaichaaDoor
open Go Go.RowKit

def e7ops : Array Oper := #[{ dst := some 20, op := Op.move (Operand.tmp 6), type := 43, pos := "trail.go:203", after := #[], guard := none }, { dst := some 21, op := Op.call { callee := Callee.value (Operand.tmp 20), args := #[], argTypes := #[] }, type := 3, pos := "trail.go:203", after := #[{ on := 0, ground := Ground.data }], guard := none }, { dst := some 22, op := Op.move (Operand.tmp 6), type := 43, pos := "trail.go:203", after := #[], guard := none }, { dst := some 23, op := Op.call { callee := Callee.value (Operand.tmp 22), args := #[], argTypes := #[] }, type := 3, pos := "trail.go:203", after := #[{ on := 2, ground := Ground.data }, { on := 1, ground := Ground.chain }], guard := none }, { dst := some 24, op := Op.move (Operand.tmp 6), type := 43, pos := "trail.go:203", after := #[], guard := none }, { dst := some 25, op := Op.call { callee := Callee.value (Operand.tmp 24), args := #[], argTypes := #[] }, type := 3, pos := "trail.go:203", after := #[{ on := 4, ground := Ground.data }, { on := 3, ground := Ground.chain }], guard := none }, { dst := some 26, op := Op.load 78 (Operand.tmp 5), type := 78, pos := "trail.go:203", after := #[], guard := none }, { dst := some 27, op := Op.call { callee := Callee.value (Operand.tmp 26), args := #[], argTypes := #[] }, type := 9, pos := "trail.go:203", after := #[{ on := 6, ground := Ground.data }, { on := 5, ground := Ground.chain }], guard := none }, { dst := some 28, op := Op.call { callee := Callee.value (Operand.func 64), args := #[Operand.tmp 27], argTypes := #[9] }, type := 9, pos := "trail.go:203", after := #[{ on := 7, ground := Ground.data }, { on := 7, ground := Ground.chain }], guard := none }, { dst := some 29, op := Op.load 78 (Operand.tmp 5), type := 78, pos := "trail.go:203", after := #[], guard := none }, { dst := some 30, op := Op.call { callee := Callee.value (Operand.tmp 29), args := #[], argTypes := #[] }, type := 9, pos := "trail.go:203", after := #[{ on := 9, ground := Ground.data }, { on := 8, ground := Ground.chain }], guard := none }, { dst := some 31, op := Op.call { callee := Callee.value (Operand.func 64), args := #[Operand.tmp 30], argTypes := #[9] }, type := 9, pos := "trail.go:203", after := #[{ on := 10, ground := Ground.data }, { on := 10, ground := Ground.chain }], guard := none }, { dst := some 32, op := Op.load 78 (Operand.tmp 5), type := 78, pos := "trail.go:203", after := #[], guard := none }, { dst := some 33, op := Op.call { callee := Callee.value (Operand.tmp 32), args := #[], argTypes := #[] }, type := 9, pos := "trail.go:203", after := #[{ on := 12, ground := Ground.data }, { on := 11, ground := Ground.chain }], guard := none }, { dst := some 34, op := Op.call { callee := Callee.value (Operand.func 64), args := #[Operand.tmp 33], argTypes := #[9] }, type := 9, pos := "trail.go:203", after := #[{ on := 13, ground := Ground.data }, { on := 13, ground := Ground.chain }], guard := none }, { dst := some 35, op := Op.move (Operand.tmp 7), type := 130, pos := "trail.go:203", after := #[], guard := none }, { dst := some 36, op := Op.call { callee := Callee.value (Operand.tmp 35), args := #[], argTypes := #[] }, type := 28, pos := "trail.go:203", after := #[{ on := 15, ground := Ground.data }, { on := 14, ground := Ground.chain }], guard := none }, { dst := some 37, op := Op.move (Operand.tmp 7), type := 130, pos := "trail.go:203", after := #[], guard := none }, { dst := some 38, op := Op.call { callee := Callee.value (Operand.tmp 37), args := #[], argTypes := #[] }, type := 28, pos := "trail.go:203", after := #[{ on := 17, ground := Ground.data }, { on := 16, ground := Ground.chain }], guard := none }, { dst := some 39, op := Op.build 38 #[(0, Operand.tmp 21), (1, Operand.tmp 23), (2, Operand.tmp 25), (3, Operand.tmp 28), (4, Operand.tmp 31), (5, Operand.tmp 34), (6, Operand.tmp 36), (7, Operand.tmp 38)], type := 38, pos := "trail.go:203", after := #[{ on := 1, ground := Ground.data }, { on := 3, ground := Ground.data }, { on := 5, ground := Ground.data }, { on := 8, ground := Ground.data }, { on := 11, ground := Ground.data }, { on := 14, ground := Ground.data }, { on := 16, ground := Ground.data }, { on := 18, ground := Ground.data }], guard := none }, { dst := some 8, op := Op.alloc 38, type := 0, pos := "trail.go:203", after := #[], guard := none }, { dst := none, op := Op.store 38 (Operand.tmp 8) (Operand.tmp 39), type := 0, pos := "trail.go:203", after := #[{ on := 20, ground := Ground.data }, { on := 19, ground := Ground.data }, { on := 18, ground := Ground.chain }, { on := 0, ground := Ground.phase }, { on := 1, ground := Ground.phase }, { on := 2, ground := Ground.phase }, { on := 3, ground := Ground.phase }, { on := 4, ground := Ground.phase }, { on := 5, ground := Ground.phase }, { on := 6, ground := Ground.phase }, { on := 7, ground := Ground.phase }, { on := 8, ground := Ground.phase }, { on := 9, ground := Ground.phase }, { on := 10, ground := Ground.phase }, { on := 11, ground := Ground.phase }, { on := 12, ground := Ground.phase }, { on := 13, ground := Ground.phase }, { on := 14, ground := Ground.phase }, { on := 15, ground := Ground.phase }, { on := 16, ground := Ground.phase }, { on := 17, ground := Ground.phase }, { on := 18, ground := Ground.phase }, { on := 19, ground := Ground.phase }, { on := 20, ground := Ground.phase }], guard := none }]

noncomputable def en7 : Code := (ncl (ncr (ncr (ncr (ncr (ncr (ncr (ncx Tryd.f43.body))))))))

theorem en7_is : en7 = Code.region 7 e7ops true := by kernel_rfl

abbrev cloN (nb : Nat) : Value := .func (.func 60) #[] #[.pointer (some ⟨nb, 0, none⟩)]
abbrev cloW (nb : Nat) : Value := .func (.func 62) #[] #[.pointer (some ⟨nb, 0, none⟩)]

theorem lst_eq {P : Program} {md : Region.Mode} {ops : Array Oper} {Q : Exit → Act → World → Prop} {S : World → Prop} {n : Nat} {l l' : Array Bool} {a : Act} {w : World} (h : l' = l) (H : wpAnyH P md ops Q S n l a w) : wpAnyH P md ops Q S n l' a w := h ▸ H

/-- What the calls do, in their order: I k holds ahead of the call number k. -/
structure C7 (pb nb B : Nat) (I : Nat → World → Prop) (n0 n1 n2 : Int) (p3 p4 p5 q3 q4 q5 : ByteArray) (u6 u7 : Int) : Prop where
  cell : ∀ k w, I k w → w.cell? ⟨nb, 0, none⟩ = some (cloV pb)
  lt : ∀ k w, I k w → pb < w.heap.size
  lo : ∀ k w, I k w → B ≤ w.heap.size
  alloc : ∀ k w o, I k w → I k (w.alloc o)
  drew : ∀ k w, I k w → I k w.drew
  c0 : ∀ w, I 0 w → Calls Tryd.prog 60 #[.pointer (some ⟨nb, 0, none⟩)] w fun r w' => r = .returned (.int .i64 n0) ∧ I 1 w' ∧ Kp pb w w'
  c1 : ∀ w, I 1 w → Calls Tryd.prog 60 #[.pointer (some ⟨nb, 0, none⟩)] w fun r w' => r = .returned (.int .i64 n1) ∧ I 2 w' ∧ Kp pb w w'
  c2 : ∀ w, I 2 w → Calls Tryd.prog 60 #[.pointer (some ⟨nb, 0, none⟩)] w fun r w' => r = .returned (.int .i64 n2) ∧ I 3 w' ∧ Kp pb w w'
  c3 : ∀ w, I 3 w → Calls Tryd.prog 59 #[.pointer (some ⟨pb, 0, none⟩)] w fun r w' => r = .returned (.string p3) ∧ I 4 w' ∧ Kp pb w w'
  c4 : ∀ w, I 4 w → Calls Tryd.prog 64 #[.string p3] w fun r w' => r = .returned (.string q3) ∧ I 5 w' ∧ Kp pb w w'
  c5 : ∀ w, I 5 w → Calls Tryd.prog 59 #[.pointer (some ⟨pb, 0, none⟩)] w fun r w' => r = .returned (.string p4) ∧ I 6 w' ∧ Kp pb w w'
  c6 : ∀ w, I 6 w → Calls Tryd.prog 64 #[.string p4] w fun r w' => r = .returned (.string q4) ∧ I 7 w' ∧ Kp pb w w'
  c7 : ∀ w, I 7 w → Calls Tryd.prog 59 #[.pointer (some ⟨pb, 0, none⟩)] w fun r w' => r = .returned (.string p5) ∧ I 8 w' ∧ Kp pb w w'
  c8 : ∀ w, I 8 w → Calls Tryd.prog 64 #[.string p5] w fun r w' => r = .returned (.string q5) ∧ I 9 w' ∧ Kp pb w w'
  c9 : ∀ w, I 9 w → Calls Tryd.prog 62 #[.pointer (some ⟨nb, 0, none⟩)] w fun r w' => r = .returned (.int .u64 u6) ∧ I 10 w' ∧ Kp pb w w'
  c10 : ∀ w, I 10 w → Calls Tryd.prog 62 #[.pointer (some ⟨nb, 0, none⟩)] w fun r w' => r = .returned (.int .u64 u7) ∧ I 11 w' ∧ Kp pb w w'

section
variable {v : Nat → Value} {s : ByteArray} {rb pb nb B : Nat} {I : Nat → World → Prop} {n0 n1 n2 : Int} {p3 p4 p5 q3 q4 q5 : ByteArray} {u6 u7 : Int} {K : Act → World → Prop}

def F7 (v : Nat → Value) (s : ByteArray) (rb pb nb B : Nat) (I : Nat → World → Prop) (n0 n1 n2 : Int) (p3 p4 p5 q3 q4 q5 : ByteArray) (u6 u7 : Int) (K : Act → World → Prop) : Prop :=
  ∀ w pe, I 11 w → w.heap[pe]? = some ZObj → pe ≠ pb → pe ≠ nb → B ≤ pe → K ⟨#[.string s, v 1, .pointer (some ⟨rb, 0, none⟩), v 3, .pointer (some ⟨pb, 0, none⟩), .pointer (some ⟨nb, 0, none⟩), cloN nb, cloW nb, .pointer (some ⟨pe, 0, none⟩), v 9, v 10, v 11, v 12, v 13, v 14, v 15, v 16, v 17, v 18, v 19, cloN nb, .int .i64 n0, cloN nb, .int .i64 n1, cloN nb, .int .i64 n2, cloV pb, .string p3, .string q3, cloV pb, .string p4, .string q4, cloV pb, .string p5, .string q5, cloW nb, .int .u64 u6, cloW nb, .int .u64 u7, .agg #[.int .i64 n0, .int .i64 n1, .int .i64 n2, .string q3, .string q4, .string q5, .int .u64 u6, .int .u64 u7, .int .i64 0, .int .i64 0, .string ⟨#[]⟩, .int .i64 0, .string ⟨#[]⟩, .string ⟨#[]⟩, .int .i64 0], v 40, v 41, v 42, v 43, v 44, v 45, v 46, v 47, v 48, v 49, v 50, v 51, v 52, v 53, v 54, v 55, v 56, v 57, v 58, v 59, v 60, v 61, v 62, v 63, v 64, v 65, v 66, v 67, v 68, v 69, v 70, v 71, v 72, v 73], []⟩ (w.setCells pe 0 [.int .i64 n0, .int .i64 n1, .int .i64 n2, .string q3, .string q4, .string q5, .int .u64 u6, .int .u64 u7, .int .i64 0, .int .i64 0, .string ⟨#[]⟩, .int .i64 0, .string ⟨#[]⟩, .string ⟨#[]⟩, .int .i64 0])

abbrev S7 (pb nb : Nat) (w : World) : Prop := w.cell? ⟨nb, 0, none⟩ = some (cloV pb)
abbrev Q7 (K : Act → World → Prop) : Exit → Act → World → Prop := Exit.then K fun _ _ _ => False

set_option maxHeartbeats 1000000 in
set_option maxRecDepth 20000 in
theorem e7_store (C : C7 pb nb B I n0 n1 n2 p3 p4 p5 q3 q4 q5 u6 u7) (F : Hid (F7 v s rb pb nb B I n0 n1 n2 p3 p4 p5 q3 q4 q5 u6 u7 K)) (w : World) (pe : Nat) (h : I 11 w) (hz : w.heap[pe]? = some ZObj) (hp : pe ≠ pb) (hq : pe ≠ nb) (hB : B ≤ pe) : wpAnyH Tryd.prog .any e7ops (Q7 K) (S7 pb nb) 1 #[true, true, true, true, true, true, true, true, true, true, true, true, true, true, true, true, true, true, true, true, true, false] ⟨#[.string s, v 1, .pointer (some ⟨rb, 0, none⟩), v 3, .pointer (some ⟨pb, 0, none⟩), .pointer (some ⟨nb, 0, none⟩), cloN nb, cloW nb, .pointer (some ⟨pe, 0, none⟩), v 9, v 10, v 11, v 12, v 13, v 14, v 15, v 16, v 17, v 18, v 19, cloN nb, .int .i64 n0, cloN nb, .int .i64 n1, cloN nb, .int .i64 n2, cloV pb, .string p3, .string q3, cloV pb, .string p4, .string q4, cloV pb, .string p5, .string q5, cloW nb, .int .u64 u6, cloW nb, .int .u64 u7, .agg #[.int .i64 n0, .int .i64 n1, .int .i64 n2, .string q3, .string q4, .string q5, .int .u64 u6, .int .u64 u7, .int .i64 0, .int .i64 0, .string ⟨#[]⟩, .int .i64 0, .string ⟨#[]⟩, .string ⟨#[]⟩, .int .i64 0], v 40, v 41, v 42, v 43, v 44, v 45, v 46, v 47, v 48, v 49, v 50, v 51, v 52, v 53, v 54, v 55, v 56, v 57, v 58, v 59, v 60, v 61, v 62, v 63, v 64, v 65, v 66, v 67, v 68, v 69, v 70, v 71, v 72, v 73], []⟩ w := by
  have HS := Lib.hid ((World.cell?_setCells_out pe [.int .i64 n0, .int .i64 n1, .int .i64 n2, .string q3, .string q4, .string q5, .int .u64 u6, .int .u64 u7, .int .i64 0, .int .i64 0, .string ⟨#[]⟩, .int .i64 0, .string ⟨#[]⟩, .string ⟨#[]⟩, .int .i64 0] 0 w ⟨nb, 0, none⟩ (fun hb _ => absurd hb.symm hq)).trans (C.cell _ _ h))
  have Hf := Lib.hid (F.out w pe h hz hp hq hB)
  have Ht : w.there pe 0 15 := fun j hj => by
    have h1 := cell_blk hz (0 + j)
    refine ⟨?_, frozen_blk hz _⟩
    rw [h1]
    simp
    omega
  clear hz hp hq hB h
  refine wpAnyH_ready (rs := [21]) (by kernel_rfl) (by simp) ?_
  refine AllReadyH.cons (o := { dst := none, op := Op.store 38 (Operand.tmp 8) (Operand.tmp 39), type := 0, pos := "trail.go:203", after := #[{ on := 20, ground := Ground.data }, { on := 19, ground := Ground.data }, { on := 18, ground := Ground.chain }, { on := 0, ground := Ground.phase }, { on := 1, ground := Ground.phase }, { on := 2, ground := Ground.phase }, { on := 3, ground := Ground.phase }, { on := 4, ground := Ground.phase }, { on := 5, ground := Ground.phase }, { on := 6, ground := Ground.phase }, { on := 7, ground := Ground.phase }, { on := 8, ground := Ground.phase }, { on := 9, ground := Ground.phase }, { on := 10, ground := Ground.phase }, { on := 11, ground := Ground.phase }, { on := 12, ground := Ground.phase }, { on := 13, ground := Ground.phase }, { on := 14, ground := Ground.phase }, { on := 15, ground := Ground.phase }, { on := 16, ground := Ground.phase }, { on := 17, ground := Ground.phase }, { on := 18, ground := Ground.phase }, { on := 19, ground := Ground.phase }, { on := 20, ground := Ground.phase }], guard := none }) rfl (fun K' hK => ?_) AllReadyH.nil
  rw [if_pos (by rfl)]
  refine wp_store_mid _ _ _ rfl pe 0 (List.toArray _) rfl rfl Ht (by kernel_rfl) (by rw [← Array.all_toList]; rfl) ?_
  refine hK.out _ _ ?_ (fun _ => ?_)
  · exact HS.out
  · refine wpAnyH_done (by kernel_rfl) ?_ _
    exact Hf.out

set_option maxHeartbeats 1000000 in
set_option maxRecDepth 20000 in
theorem e7_11_1 (C : C7 pb nb B I n0 n1 n2 p3 p4 p5 q3 q4 q5 u6 u7) (F : Hid (F7 v s rb pb nb B I n0 n1 n2 p3 p4 p5 q3 q4 q5 u6 u7 K)) (w : World) (pe : Nat) (h : I 11 w) (hz : w.heap[pe]? = some ZObj) (hp : pe ≠ pb) (hq : pe ≠ nb) (hB : B ≤ pe) : wpAnyH Tryd.prog .any e7ops (Q7 K) (S7 pb nb) 2 #[true, true, true, true, true, true, true, true, true, true, true, true, true, true, true, true, true, true, true, false, true, false] ⟨#[.string s, v 1, .pointer (some ⟨rb, 0, none⟩), v 3, .pointer (some ⟨pb, 0, none⟩), .pointer (some ⟨nb, 0, none⟩), cloN nb, cloW nb, .pointer (some ⟨pe, 0, none⟩), v 9, v 10, v 11, v 12, v 13, v 14, v 15, v 16, v 17, v 18, v 19, cloN nb, .int .i64 n0, cloN nb, .int .i64 n1, cloN nb, .int .i64 n2, cloV pb, .string p3, .string q3, cloV pb, .string p4, .string q4, cloV pb, .string p5, .string q5, cloW nb, .int .u64 u6, cloW nb, .int .u64 u7, v 39, v 40, v 41, v 42, v 43, v 44, v 45, v 46, v 47, v 48, v 49, v 50, v 51, v 52, v 53, v 54, v 55, v 56, v 57, v 58, v 59, v 60, v 61, v 62, v 63, v 64, v 65, v 66, v 67, v 68, v 69, v 70, v 71, v 72, v 73], []⟩ w := by
  have Hc := Lib.hid (C.cell _ _ h)
  refine wpAnyH_take (i := 19) (oi := { dst := some 39, op := Op.build 38 #[(0, Operand.tmp 21), (1, Operand.tmp 23), (2, Operand.tmp 25), (3, Operand.tmp 28), (4, Operand.tmp 31), (5, Operand.tmp 34), (6, Operand.tmp 36), (7, Operand.tmp 38)], type := 38, pos := "trail.go:203", after := #[{ on := 1, ground := Ground.data }, { on := 3, ground := Ground.data }, { on := 5, ground := Ground.data }, { on := 8, ground := Ground.data }, { on := 11, ground := Ground.data }, { on := 14, ground := Ground.data }, { on := 16, ground := Ground.data }, { on := 18, ground := Ground.data }], guard := none }) (v := .agg #[.int .i64 n0, .int .i64 n1, .int .i64 n2, .string q3, .string q4, .string q5, .int .u64 u6, .int .u64 u7, .int .i64 0, .int .i64 0, .string ⟨#[]⟩, .int .i64 0, .string ⟨#[]⟩, .string ⟨#[]⟩, .int .i64 0]) rfl (by kernel_rfl) (by kernel_rfl) (by kernel_rfl) (fun _ _ _ h => h) (Or.inl ⟨by rfl, ?_⟩) Hc.out ?_
  · intro W hS
    go_simp
  simp only [Act.put, List.setIfInBounds_toArray, List.set_cons_zero, List.set_cons_succ]
  refine lst_eq (l := #[true, true, true, true, true, true, true, true, true, true, true, true, true, true, true, true, true, true, true, true, true, false]) (by kernel_rfl) ?_
  exact e7_store C F w pe h hz hp hq hB

set_option maxHeartbeats 1000000 in
set_option maxRecDepth 20000 in
theorem e7_11_0 (C : C7 pb nb B I n0 n1 n2 p3 p4 p5 q3 q4 q5 u6 u7) (F : Hid (F7 v s rb pb nb B I n0 n1 n2 p3 p4 p5 q3 q4 q5 u6 u7 K)) (w : World) (h : I 11 w) : wpAnyH Tryd.prog .any e7ops (Q7 K) (S7 pb nb) 3 #[true, true, true, true, true, true, true, true, true, true, true, true, true, true, true, true, true, true, true, false, false, false] ⟨#[.string s, v 1, .pointer (some ⟨rb, 0, none⟩), v 3, .pointer (some ⟨pb, 0, none⟩), .pointer (some ⟨nb, 0, none⟩), cloN nb, cloW nb, v 8, v 9, v 10, v 11, v 12, v 13, v 14, v 15, v 16, v 17, v 18, v 19, cloN nb, .int .i64 n0, cloN nb, .int .i64 n1, cloN nb, .int .i64 n2, cloV pb, .string p3, .string q3, cloV pb, .string p4, .string q4, cloV pb, .string p5, .string q5, cloW nb, .int .u64 u6, cloW nb, .int .u64 u7, v 39, v 40, v 41, v 42, v 43, v 44, v 45, v 46, v 47, v 48, v 49, v 50, v 51, v 52, v 53, v 54, v 55, v 56, v 57, v 58, v 59, v 60, v 61, v 62, v 63, v 64, v 65, v 66, v 67, v 68, v 69, v 70, v 71, v 72, v 73], []⟩ w := by
  have Hc := Lib.hid (C.cell _ _ h)
  refine wpAnyH_take (i := 19) (oi := { dst := some 39, op := Op.build 38 #[(0, Operand.tmp 21), (1, Operand.tmp 23), (2, Operand.tmp 25), (3, Operand.tmp 28), (4, Operand.tmp 31), (5, Operand.tmp 34), (6, Operand.tmp 36), (7, Operand.tmp 38)], type := 38, pos := "trail.go:203", after := #[{ on := 1, ground := Ground.data }, { on := 3, ground := Ground.data }, { on := 5, ground := Ground.data }, { on := 8, ground := Ground.data }, { on := 11, ground := Ground.data }, { on := 14, ground := Ground.data }, { on := 16, ground := Ground.data }, { on := 18, ground := Ground.data }], guard := none }) (v := .agg #[.int .i64 n0, .int .i64 n1, .int .i64 n2, .string q3, .string q4, .string q5, .int .u64 u6, .int .u64 u7, .int .i64 0, .int .i64 0, .string ⟨#[]⟩, .int .i64 0, .string ⟨#[]⟩, .string ⟨#[]⟩, .int .i64 0]) rfl (by kernel_rfl) (by kernel_rfl) (by kernel_rfl) (fun _ _ _ h => h) (Or.inl ⟨by rfl, ?_⟩) Hc.out ?_
  · intro W hS
    go_simp
  simp only [Act.put, List.setIfInBounds_toArray, List.set_cons_zero, List.set_cons_succ]
  refine wpAnyH_ready (rs := [20]) (by kernel_rfl) (by simp) ?_
  refine AllReadyH.cons (o := { dst := some 8, op := Op.alloc 38, type := 0, pos := "trail.go:203", after := #[], guard := none }) rfl (fun K' hK => ?_) AllReadyH.nil
  have HA := Lib.hid (e7_store C F (w.alloc ZObj) w.heap.size (C.alloc _ _ _ h) (alloc_new _) (Nat.ne_of_gt (C.lt _ _ h)) (Nat.ne_of_gt (World.block_lt_of_cell? w _ (C.cell _ _ h))) (C.lo _ _ h))
  have HS := Lib.hid (C.cell _ _ (C.alloc _ _ ZObj h))
  clear h
  go_simp
  refine hK.out _ _ HS.out (fun _ => ?_)
  refine lst_eq (l := #[true, true, true, true, true, true, true, true, true, true, true, true, true, true, true, true, true, true, true, true, true, false]) (by kernel_rfl) ?_
  exact HA.out

set_option maxHeartbeats 1000000 in
set_option maxRecDepth 20000 in
theorem e7_10_1 (C : C7 pb nb B I n0 n1 n2 p3 p4 p5 q3 q4 q5 u6 u7) (F : Hid (F7 v s rb pb nb B I n0 n1 n2 p3 p4 p5 q3 q4 q5 u6 u7 K)) (w : World) (pe : Nat) (h : I 10 w) (hz : w.heap[pe]? = some ZObj) (hp : pe ≠ pb) (hq : pe ≠ nb) (hB : B ≤ pe) : wpAnyH Tryd.prog .any e7ops (Q7 K) (S7 pb nb) 3 #[true, true, true, true, true, true, true, true, true, true, true, true, true, true, true, true, true, true, false, false, true, false] ⟨#[.string s, v 1, .pointer (some ⟨rb, 0, none⟩), v 3, .pointer (some ⟨pb, 0, none⟩), .pointer (some ⟨nb, 0, none⟩), cloN nb, cloW nb, .pointer (some ⟨pe, 0, none⟩), v 9, v 10, v 11, v 12, v 13, v 14, v 15, v 16, v 17, v 18, v 19, cloN nb, .int .i64 n0, cloN nb, .int .i64 n1, cloN nb, .int .i64 n2, cloV pb, .string p3, .string q3, cloV pb, .string p4, .string q4, cloV pb, .string p5, .string q5, cloW nb, .int .u64 u6, cloW nb, v 38, v 39, v 40, v 41, v 42, v 43, v 44, v 45, v 46, v 47, v 48, v 49, v 50, v 51, v 52, v 53, v 54, v 55, v 56, v 57, v 58, v 59, v 60, v 61, v 62, v 63, v 64, v 65, v 66, v 67, v 68, v 69, v 70, v 71, v 72, v 73], []⟩ w := by
  have Hn := Lib.hid (C.c10 _ h)
  have HB := Lib.hid (fun w' (h' : I 11 w') (hk : Kp pb w w') => e7_11_1 (v := v) C F w' pe h' (hk pe _ hp hz) hp hq hB)
  have HC := Lib.hid (fun w' (h' : I 11 w') => C.cell _ _ h')
  clear h hz hp hq hB
  refine wpAnyH_ready (rs := [18]) (by kernel_rfl) (by simp) ?_
  refine AllReadyH.cons (o := { dst := some 38, op := Op.call { callee := Callee.value (Operand.tmp 37), args := #[], argTypes := #[] }, type := 28, pos := "trail.go:203", after := #[{ on := 17, ground := Ground.data }, { on := 16, ground := Ground.chain }], guard := none }) rfl (fun K' hK => ?_) AllReadyH.nil
  go_simp
  go_wp2_with (go_at_call 62; (with_reducible refine Hn.out.mono ?_); rintro r w1 ⟨rfl, h1, hk⟩)
  refine hK.out _ _ (HC.out _ h1) (fun _ => ?_)
  refine lst_eq (l := #[true, true, true, true, true, true, true, true, true, true, true, true, true, true, true, true, true, true, true, false, true, false]) (by kernel_rfl) ?_
  exact HB.out _ h1 hk

set_option maxHeartbeats 1000000 in
set_option maxRecDepth 20000 in
theorem e7_10_0 (C : C7 pb nb B I n0 n1 n2 p3 p4 p5 q3 q4 q5 u6 u7) (F : Hid (F7 v s rb pb nb B I n0 n1 n2 p3 p4 p5 q3 q4 q5 u6 u7 K)) (w : World) (h : I 10 w) : wpAnyH Tryd.prog .any e7ops (Q7 K) (S7 pb nb) 4 #[true, true, true, true, true, true, true, true, true, true, true, true, true, true, true, true, true, true, false, false, false, false] ⟨#[.string s, v 1, .pointer (some ⟨rb, 0, none⟩), v 3, .pointer (some ⟨pb, 0, none⟩), .pointer (some ⟨nb, 0, none⟩), cloN nb, cloW nb, v 8, v 9, v 10, v 11, v 12, v 13, v 14, v 15, v 16, v 17, v 18, v 19, cloN nb, .int .i64 n0, cloN nb, .int .i64 n1, cloN nb, .int .i64 n2, cloV pb, .string p3, .string q3, cloV pb, .string p4, .string q4, cloV pb, .string p5, .string q5, cloW nb, .int .u64 u6, cloW nb, v 38, v 39, v 40, v 41, v 42, v 43, v 44, v 45, v 46, v 47, v 48, v 49, v 50, v 51, v 52, v 53, v 54, v 55, v 56, v 57, v 58, v 59, v 60, v 61, v 62, v 63, v 64, v 65, v 66, v 67, v 68, v 69, v 70, v 71, v 72, v 73], []⟩ w := by
  have Hn := Lib.hid (C.c10 _ h)
  have HB := Lib.hid (fun w' (h' : I 11 w') (_ : Kp pb w w') => e7_11_0 (v := v) C F w' h')
  have HC := Lib.hid (fun w' (h' : I 11 w') => C.cell _ _ h')
  have HA := Lib.hid (e7_10_1 C F (w.alloc ZObj) w.heap.size (C.alloc _ _ _ h) (alloc_new _) (Nat.ne_of_gt (C.lt _ _ h)) (Nat.ne_of_gt (World.block_lt_of_cell? w _ (C.cell _ _ h))) (C.lo _ _ h))
  have HS := Lib.hid (C.cell _ _ (C.alloc _ _ ZObj h))
  clear h
  refine wpAnyH_ready (rs := [18, 20]) (by kernel_rfl) (by simp) ?_
  refine AllReadyH.cons (o := { dst := some 38, op := Op.call { callee := Callee.value (Operand.tmp 37), args := #[], argTypes := #[] }, type := 28, pos := "trail.go:203", after := #[{ on := 17, ground := Ground.data }, { on := 16, ground := Ground.chain }], guard := none }) rfl (fun K' hK => ?_) ?_
  · go_simp
    go_wp2_with (go_at_call 62; (with_reducible refine Hn.out.mono ?_); rintro r w1 ⟨rfl, h1, hk⟩)
    refine hK.out _ _ (HC.out _ h1) (fun _ => ?_)
    refine lst_eq (l := #[true, true, true, true, true, true, true, true, true, true, true, true, true, true, true, true, true, true, true, false, false, false]) (by kernel_rfl) ?_
    exact HB.out _ h1 hk
  · refine AllReadyH.cons (o := { dst := some 8, op := Op.alloc 38, type := 0, pos := "trail.go:203", after := #[], guard := none }) rfl (fun K' hK => ?_) AllReadyH.nil
    go_simp
    refine hK.out _ _ HS.out (fun _ => ?_)
    refine lst_eq (l := #[true, true, true, true, true, true, true, true, true, true, true, true, true, true, true, true, true, true, false, false, true, false]) (by kernel_rfl) ?_
    exact HA.out

set_option maxHeartbeats 1000000 in
set_option maxRecDepth 20000 in
theorem e7_9_1 (C : C7 pb nb B I n0 n1 n2 p3 p4 p5 q3 q4 q5 u6 u7) (F : Hid (F7 v s rb pb nb B I n0 n1 n2 p3 p4 p5 q3 q4 q5 u6 u7 K)) (w : World) (pe : Nat) (h : I 9 w) (hz : w.heap[pe]? = some ZObj) (hp : pe ≠ pb) (hq : pe ≠ nb) (hB : B ≤ pe) : wpAnyH Tryd.prog .any e7ops (Q7 K) (S7 pb nb) 4 #[true, true, true, true, true, true, true, true, true, true, true, true, true, true, true, true, false, true, false, false, true, false] ⟨#[.string s, v 1, .pointer (some ⟨rb, 0, none⟩), v 3, .pointer (some ⟨pb, 0, none⟩), .pointer (some ⟨nb, 0, none⟩), cloN nb, cloW nb, .pointer (some ⟨pe, 0, none⟩), v 9, v 10, v 11, v 12, v 13, v 14, v 15, v 16, v 17, v 18, v 19, cloN nb, .int .i64 n0, cloN nb, .int .i64 n1, cloN nb, .int .i64 n2, cloV pb, .string p3, .string q3, cloV pb, .string p4, .string q4, cloV pb, .string p5, .string q5, cloW nb, v 36, cloW nb, v 38, v 39, v 40, v 41, v 42, v 43, v 44, v 45, v 46, v 47, v 48, v 49, v 50, v 51, v 52, v 53, v 54, v 55, v 56, v 57, v 58, v 59, v 60, v 61, v 62, v 63, v 64, v 65, v 66, v 67, v 68, v 69, v 70, v 71, v 72, v 73], []⟩ w := by
  have Hn := Lib.hid (C.c9 _ h)
  have HB := Lib.hid (fun w' (h' : I 10 w') (hk : Kp pb w w') => e7_10_1 (v := v) C F w' pe h' (hk pe _ hp hz) hp hq hB)
  have HC := Lib.hid (fun w' (h' : I 10 w') => C.cell _ _ h')
  clear h hz hp hq hB
  refine wpAnyH_ready (rs := [16]) (by kernel_rfl) (by simp) ?_
  refine AllReadyH.cons (o := { dst := some 36, op := Op.call { callee := Callee.value (Operand.tmp 35), args := #[], argTypes := #[] }, type := 28, pos := "trail.go:203", after := #[{ on := 15, ground := Ground.data }, { on := 14, ground := Ground.chain }], guard := none }) rfl (fun K' hK => ?_) AllReadyH.nil
  go_simp
  go_wp2_with (go_at_call 62; (with_reducible refine Hn.out.mono ?_); rintro r w1 ⟨rfl, h1, hk⟩)
  refine hK.out _ _ (HC.out _ h1) (fun _ => ?_)
  refine lst_eq (l := #[true, true, true, true, true, true, true, true, true, true, true, true, true, true, true, true, true, true, false, false, true, false]) (by kernel_rfl) ?_
  exact HB.out _ h1 hk

set_option maxHeartbeats 1000000 in
set_option maxRecDepth 20000 in
theorem e7_9_0 (C : C7 pb nb B I n0 n1 n2 p3 p4 p5 q3 q4 q5 u6 u7) (F : Hid (F7 v s rb pb nb B I n0 n1 n2 p3 p4 p5 q3 q4 q5 u6 u7 K)) (w : World) (h : I 9 w) : wpAnyH Tryd.prog .any e7ops (Q7 K) (S7 pb nb) 5 #[true, true, true, true, true, true, true, true, true, true, true, true, true, true, true, true, false, true, false, false, false, false] ⟨#[.string s, v 1, .pointer (some ⟨rb, 0, none⟩), v 3, .pointer (some ⟨pb, 0, none⟩), .pointer (some ⟨nb, 0, none⟩), cloN nb, cloW nb, v 8, v 9, v 10, v 11, v 12, v 13, v 14, v 15, v 16, v 17, v 18, v 19, cloN nb, .int .i64 n0, cloN nb, .int .i64 n1, cloN nb, .int .i64 n2, cloV pb, .string p3, .string q3, cloV pb, .string p4, .string q4, cloV pb, .string p5, .string q5, cloW nb, v 36, cloW nb, v 38, v 39, v 40, v 41, v 42, v 43, v 44, v 45, v 46, v 47, v 48, v 49, v 50, v 51, v 52, v 53, v 54, v 55, v 56, v 57, v 58, v 59, v 60, v 61, v 62, v 63, v 64, v 65, v 66, v 67, v 68, v 69, v 70, v 71, v 72, v 73], []⟩ w := by
  have Hn := Lib.hid (C.c9 _ h)
  have HB := Lib.hid (fun w' (h' : I 10 w') (_ : Kp pb w w') => e7_10_0 (v := v) C F w' h')
  have HC := Lib.hid (fun w' (h' : I 10 w') => C.cell _ _ h')
  have HA := Lib.hid (e7_9_1 C F (w.alloc ZObj) w.heap.size (C.alloc _ _ _ h) (alloc_new _) (Nat.ne_of_gt (C.lt _ _ h)) (Nat.ne_of_gt (World.block_lt_of_cell? w _ (C.cell _ _ h))) (C.lo _ _ h))
  have HS := Lib.hid (C.cell _ _ (C.alloc _ _ ZObj h))
  clear h
  refine wpAnyH_ready (rs := [16, 20]) (by kernel_rfl) (by simp) ?_
  refine AllReadyH.cons (o := { dst := some 36, op := Op.call { callee := Callee.value (Operand.tmp 35), args := #[], argTypes := #[] }, type := 28, pos := "trail.go:203", after := #[{ on := 15, ground := Ground.data }, { on := 14, ground := Ground.chain }], guard := none }) rfl (fun K' hK => ?_) ?_
  · go_simp
    go_wp2_with (go_at_call 62; (with_reducible refine Hn.out.mono ?_); rintro r w1 ⟨rfl, h1, hk⟩)
    refine hK.out _ _ (HC.out _ h1) (fun _ => ?_)
    refine lst_eq (l := #[true, true, true, true, true, true, true, true, true, true, true, true, true, true, true, true, true, true, false, false, false, false]) (by kernel_rfl) ?_
    exact HB.out _ h1 hk
  · refine AllReadyH.cons (o := { dst := some 8, op := Op.alloc 38, type := 0, pos := "trail.go:203", after := #[], guard := none }) rfl (fun K' hK => ?_) AllReadyH.nil
    go_simp
    refine hK.out _ _ HS.out (fun _ => ?_)
    refine lst_eq (l := #[true, true, true, true, true, true, true, true, true, true, true, true, true, true, true, true, false, true, false, false, true, false]) (by kernel_rfl) ?_
    exact HA.out

set_option maxHeartbeats 1000000 in
set_option maxRecDepth 20000 in
theorem e7_8_1 (C : C7 pb nb B I n0 n1 n2 p3 p4 p5 q3 q4 q5 u6 u7) (F : Hid (F7 v s rb pb nb B I n0 n1 n2 p3 p4 p5 q3 q4 q5 u6 u7 K)) (w : World) (pe : Nat) (h : I 8 w) (hz : w.heap[pe]? = some ZObj) (hp : pe ≠ pb) (hq : pe ≠ nb) (hB : B ≤ pe) : wpAnyH Tryd.prog .any e7ops (Q7 K) (S7 pb nb) 5 #[true, true, true, true, true, true, true, true, true, true, true, true, true, true, false, true, false, true, false, false, true, false] ⟨#[.string s, v 1, .pointer (some ⟨rb, 0, none⟩), v 3, .pointer (some ⟨pb, 0, none⟩), .pointer (some ⟨nb, 0, none⟩), cloN nb, cloW nb, .pointer (some ⟨pe, 0, none⟩), v 9, v 10, v 11, v 12, v 13, v 14, v 15, v 16, v 17, v 18, v 19, cloN nb, .int .i64 n0, cloN nb, .int .i64 n1, cloN nb, .int .i64 n2, cloV pb, .string p3, .string q3, cloV pb, .string p4, .string q4, cloV pb, .string p5, v 34, cloW nb, v 36, cloW nb, v 38, v 39, v 40, v 41, v 42, v 43, v 44, v 45, v 46, v 47, v 48, v 49, v 50, v 51, v 52, v 53, v 54, v 55, v 56, v 57, v 58, v 59, v 60, v 61, v 62, v 63, v 64, v 65, v 66, v 67, v 68, v 69, v 70, v 71, v 72, v 73], []⟩ w := by
  have Hn := Lib.hid (C.c8 _ h)
  have HB := Lib.hid (fun w' (h' : I 9 w') (hk : Kp pb w w') => e7_9_1 (v := v) C F w' pe h' (hk pe _ hp hz) hp hq hB)
  have HC := Lib.hid (fun w' (h' : I 9 w') => C.cell _ _ h')
  clear h hz hp hq hB
  refine wpAnyH_ready (rs := [14]) (by kernel_rfl) (by simp) ?_
  refine AllReadyH.cons (o := { dst := some 34, op := Op.call { callee := Callee.value (Operand.func 64), args := #[Operand.tmp 33], argTypes := #[9] }, type := 9, pos := "trail.go:203", after := #[{ on := 13, ground := Ground.data }, { on := 13, ground := Ground.chain }], guard := none }) rfl (fun K' hK => ?_) AllReadyH.nil
  go_simp
  go_wp2_with (go_at_call 64; (with_reducible refine Hn.out.mono ?_); rintro r w1 ⟨rfl, h1, hk⟩)
  refine hK.out _ _ (HC.out _ h1) (fun _ => ?_)
  refine lst_eq (l := #[true, true, true, true, true, true, true, true, true, true, true, true, true, true, true, true, false, true, false, false, true, false]) (by kernel_rfl) ?_
  exact HB.out _ h1 hk

set_option maxHeartbeats 1000000 in
set_option maxRecDepth 20000 in
theorem e7_8_0 (C : C7 pb nb B I n0 n1 n2 p3 p4 p5 q3 q4 q5 u6 u7) (F : Hid (F7 v s rb pb nb B I n0 n1 n2 p3 p4 p5 q3 q4 q5 u6 u7 K)) (w : World) (h : I 8 w) : wpAnyH Tryd.prog .any e7ops (Q7 K) (S7 pb nb) 6 #[true, true, true, true, true, true, true, true, true, true, true, true, true, true, false, true, false, true, false, false, false, false] ⟨#[.string s, v 1, .pointer (some ⟨rb, 0, none⟩), v 3, .pointer (some ⟨pb, 0, none⟩), .pointer (some ⟨nb, 0, none⟩), cloN nb, cloW nb, v 8, v 9, v 10, v 11, v 12, v 13, v 14, v 15, v 16, v 17, v 18, v 19, cloN nb, .int .i64 n0, cloN nb, .int .i64 n1, cloN nb, .int .i64 n2, cloV pb, .string p3, .string q3, cloV pb, .string p4, .string q4, cloV pb, .string p5, v 34, cloW nb, v 36, cloW nb, v 38, v 39, v 40, v 41, v 42, v 43, v 44, v 45, v 46, v 47, v 48, v 49, v 50, v 51, v 52, v 53, v 54, v 55, v 56, v 57, v 58, v 59, v 60, v 61, v 62, v 63, v 64, v 65, v 66, v 67, v 68, v 69, v 70, v 71, v 72, v 73], []⟩ w := by
  have Hn := Lib.hid (C.c8 _ h)
  have HB := Lib.hid (fun w' (h' : I 9 w') (_ : Kp pb w w') => e7_9_0 (v := v) C F w' h')
  have HC := Lib.hid (fun w' (h' : I 9 w') => C.cell _ _ h')
  have HA := Lib.hid (e7_8_1 C F (w.alloc ZObj) w.heap.size (C.alloc _ _ _ h) (alloc_new _) (Nat.ne_of_gt (C.lt _ _ h)) (Nat.ne_of_gt (World.block_lt_of_cell? w _ (C.cell _ _ h))) (C.lo _ _ h))
  have HS := Lib.hid (C.cell _ _ (C.alloc _ _ ZObj h))
  clear h
  refine wpAnyH_ready (rs := [14, 20]) (by kernel_rfl) (by simp) ?_
  refine AllReadyH.cons (o := { dst := some 34, op := Op.call { callee := Callee.value (Operand.func 64), args := #[Operand.tmp 33], argTypes := #[9] }, type := 9, pos := "trail.go:203", after := #[{ on := 13, ground := Ground.data }, { on := 13, ground := Ground.chain }], guard := none }) rfl (fun K' hK => ?_) ?_
  · go_simp
    go_wp2_with (go_at_call 64; (with_reducible refine Hn.out.mono ?_); rintro r w1 ⟨rfl, h1, hk⟩)
    refine hK.out _ _ (HC.out _ h1) (fun _ => ?_)
    refine lst_eq (l := #[true, true, true, true, true, true, true, true, true, true, true, true, true, true, true, true, false, true, false, false, false, false]) (by kernel_rfl) ?_
    exact HB.out _ h1 hk
  · refine AllReadyH.cons (o := { dst := some 8, op := Op.alloc 38, type := 0, pos := "trail.go:203", after := #[], guard := none }) rfl (fun K' hK => ?_) AllReadyH.nil
    go_simp
    refine hK.out _ _ HS.out (fun _ => ?_)
    refine lst_eq (l := #[true, true, true, true, true, true, true, true, true, true, true, true, true, true, false, true, false, true, false, false, true, false]) (by kernel_rfl) ?_
    exact HA.out

set_option maxHeartbeats 1000000 in
set_option maxRecDepth 20000 in
theorem e7_7_1 (C : C7 pb nb B I n0 n1 n2 p3 p4 p5 q3 q4 q5 u6 u7) (F : Hid (F7 v s rb pb nb B I n0 n1 n2 p3 p4 p5 q3 q4 q5 u6 u7 K)) (w : World) (pe : Nat) (h : I 7 w) (hz : w.heap[pe]? = some ZObj) (hp : pe ≠ pb) (hq : pe ≠ nb) (hB : B ≤ pe) : wpAnyH Tryd.prog .any e7ops (Q7 K) (S7 pb nb) 6 #[true, true, true, true, true, true, true, true, true, true, true, true, true, false, false, true, false, true, false, false, true, false] ⟨#[.string s, v 1, .pointer (some ⟨rb, 0, none⟩), v 3, .pointer (some ⟨pb, 0, none⟩), .pointer (some ⟨nb, 0, none⟩), cloN nb, cloW nb, .pointer (some ⟨pe, 0, none⟩), v 9, v 10, v 11, v 12, v 13, v 14, v 15, v 16, v 17, v 18, v 19, cloN nb, .int .i64 n0, cloN nb, .int .i64 n1, cloN nb, .int .i64 n2, cloV pb, .string p3, .string q3, cloV pb, .string p4, .string q4, cloV pb, v 33, v 34, cloW nb, v 36, cloW nb, v 38, v 39, v 40, v 41, v 42, v 43, v 44, v 45, v 46, v 47, v 48, v 49, v 50, v 51, v 52, v 53, v 54, v 55, v 56, v 57, v 58, v 59, v 60, v 61, v 62, v 63, v 64, v 65, v 66, v 67, v 68, v 69, v 70, v 71, v 72, v 73], []⟩ w := by
  have Hn := Lib.hid (C.c7 _ h)
  have HB := Lib.hid (fun w' (h' : I 8 w') (hk : Kp pb w w') => e7_8_1 (v := v) C F w' pe h' (hk pe _ hp hz) hp hq hB)
  have HC := Lib.hid (fun w' (h' : I 8 w') => C.cell _ _ h')
  clear h hz hp hq hB
  refine wpAnyH_ready (rs := [13]) (by kernel_rfl) (by simp) ?_
  refine AllReadyH.cons (o := { dst := some 33, op := Op.call { callee := Callee.value (Operand.tmp 32), args := #[], argTypes := #[] }, type := 9, pos := "trail.go:203", after := #[{ on := 12, ground := Ground.data }, { on := 11, ground := Ground.chain }], guard := none }) rfl (fun K' hK => ?_) AllReadyH.nil
  go_simp
  go_wp2_with (go_at_call 59; (with_reducible refine Hn.out.mono ?_); rintro r w1 ⟨rfl, h1, hk⟩)
  refine hK.out _ _ (HC.out _ h1) (fun _ => ?_)
  refine lst_eq (l := #[true, true, true, true, true, true, true, true, true, true, true, true, true, true, false, true, false, true, false, false, true, false]) (by kernel_rfl) ?_
  exact HB.out _ h1 hk

set_option maxHeartbeats 1000000 in
set_option maxRecDepth 20000 in
theorem e7_7_0 (C : C7 pb nb B I n0 n1 n2 p3 p4 p5 q3 q4 q5 u6 u7) (F : Hid (F7 v s rb pb nb B I n0 n1 n2 p3 p4 p5 q3 q4 q5 u6 u7 K)) (w : World) (h : I 7 w) : wpAnyH Tryd.prog .any e7ops (Q7 K) (S7 pb nb) 7 #[true, true, true, true, true, true, true, true, true, true, true, true, true, false, false, true, false, true, false, false, false, false] ⟨#[.string s, v 1, .pointer (some ⟨rb, 0, none⟩), v 3, .pointer (some ⟨pb, 0, none⟩), .pointer (some ⟨nb, 0, none⟩), cloN nb, cloW nb, v 8, v 9, v 10, v 11, v 12, v 13, v 14, v 15, v 16, v 17, v 18, v 19, cloN nb, .int .i64 n0, cloN nb, .int .i64 n1, cloN nb, .int .i64 n2, cloV pb, .string p3, .string q3, cloV pb, .string p4, .string q4, cloV pb, v 33, v 34, cloW nb, v 36, cloW nb, v 38, v 39, v 40, v 41, v 42, v 43, v 44, v 45, v 46, v 47, v 48, v 49, v 50, v 51, v 52, v 53, v 54, v 55, v 56, v 57, v 58, v 59, v 60, v 61, v 62, v 63, v 64, v 65, v 66, v 67, v 68, v 69, v 70, v 71, v 72, v 73], []⟩ w := by
  have Hn := Lib.hid (C.c7 _ h)
  have HB := Lib.hid (fun w' (h' : I 8 w') (_ : Kp pb w w') => e7_8_0 (v := v) C F w' h')
  have HC := Lib.hid (fun w' (h' : I 8 w') => C.cell _ _ h')
  have HA := Lib.hid (e7_7_1 C F (w.alloc ZObj) w.heap.size (C.alloc _ _ _ h) (alloc_new _) (Nat.ne_of_gt (C.lt _ _ h)) (Nat.ne_of_gt (World.block_lt_of_cell? w _ (C.cell _ _ h))) (C.lo _ _ h))
  have HS := Lib.hid (C.cell _ _ (C.alloc _ _ ZObj h))
  clear h
  refine wpAnyH_ready (rs := [13, 20]) (by kernel_rfl) (by simp) ?_
  refine AllReadyH.cons (o := { dst := some 33, op := Op.call { callee := Callee.value (Operand.tmp 32), args := #[], argTypes := #[] }, type := 9, pos := "trail.go:203", after := #[{ on := 12, ground := Ground.data }, { on := 11, ground := Ground.chain }], guard := none }) rfl (fun K' hK => ?_) ?_
  · go_simp
    go_wp2_with (go_at_call 59; (with_reducible refine Hn.out.mono ?_); rintro r w1 ⟨rfl, h1, hk⟩)
    refine hK.out _ _ (HC.out _ h1) (fun _ => ?_)
    refine lst_eq (l := #[true, true, true, true, true, true, true, true, true, true, true, true, true, true, false, true, false, true, false, false, false, false]) (by kernel_rfl) ?_
    exact HB.out _ h1 hk
  · refine AllReadyH.cons (o := { dst := some 8, op := Op.alloc 38, type := 0, pos := "trail.go:203", after := #[], guard := none }) rfl (fun K' hK => ?_) AllReadyH.nil
    go_simp
    refine hK.out _ _ HS.out (fun _ => ?_)
    refine lst_eq (l := #[true, true, true, true, true, true, true, true, true, true, true, true, true, false, false, true, false, true, false, false, true, false]) (by kernel_rfl) ?_
    exact HA.out

set_option maxHeartbeats 1000000 in
set_option maxRecDepth 20000 in
theorem e7_6_1 (C : C7 pb nb B I n0 n1 n2 p3 p4 p5 q3 q4 q5 u6 u7) (F : Hid (F7 v s rb pb nb B I n0 n1 n2 p3 p4 p5 q3 q4 q5 u6 u7 K)) (w : World) (pe : Nat) (h : I 6 w) (hz : w.heap[pe]? = some ZObj) (hp : pe ≠ pb) (hq : pe ≠ nb) (hB : B ≤ pe) : wpAnyH Tryd.prog .any e7ops (Q7 K) (S7 pb nb) 7 #[true, true, true, true, true, true, true, true, true, true, true, false, true, false, false, true, false, true, false, false, true, false] ⟨#[.string s, v 1, .pointer (some ⟨rb, 0, none⟩), v 3, .pointer (some ⟨pb, 0, none⟩), .pointer (some ⟨nb, 0, none⟩), cloN nb, cloW nb, .pointer (some ⟨pe, 0, none⟩), v 9, v 10, v 11, v 12, v 13, v 14, v 15, v 16, v 17, v 18, v 19, cloN nb, .int .i64 n0, cloN nb, .int .i64 n1, cloN nb, .int .i64 n2, cloV pb, .string p3, .string q3, cloV pb, .string p4, v 31, cloV pb, v 33, v 34, cloW nb, v 36, cloW nb, v 38, v 39, v 40, v 41, v 42, v 43, v 44, v 45, v 46, v 47, v 48, v 49, v 50, v 51, v 52, v 53, v 54, v 55, v 56, v 57, v 58, v 59, v 60, v 61, v 62, v 63, v 64, v 65, v 66, v 67, v 68, v 69, v 70, v 71, v 72, v 73], []⟩ w := by
  have Hn := Lib.hid (C.c6 _ h)
  have HB := Lib.hid (fun w' (h' : I 7 w') (hk : Kp pb w w') => e7_7_1 (v := v) C F w' pe h' (hk pe _ hp hz) hp hq hB)
  have HC := Lib.hid (fun w' (h' : I 7 w') => C.cell _ _ h')
  clear h hz hp hq hB
  refine wpAnyH_ready (rs := [11]) (by kernel_rfl) (by simp) ?_
  refine AllReadyH.cons (o := { dst := some 31, op := Op.call { callee := Callee.value (Operand.func 64), args := #[Operand.tmp 30], argTypes := #[9] }, type := 9, pos := "trail.go:203", after := #[{ on := 10, ground := Ground.data }, { on := 10, ground := Ground.chain }], guard := none }) rfl (fun K' hK => ?_) AllReadyH.nil
  go_simp
  go_wp2_with (go_at_call 64; (with_reducible refine Hn.out.mono ?_); rintro r w1 ⟨rfl, h1, hk⟩)
  refine hK.out _ _ (HC.out _ h1) (fun _ => ?_)
  refine lst_eq (l := #[true, true, true, true, true, true, true, true, true, true, true, true, true, false, false, true, false, true, false, false, true, false]) (by kernel_rfl) ?_
  exact HB.out _ h1 hk

set_option maxHeartbeats 1000000 in
set_option maxRecDepth 20000 in
theorem e7_6_0 (C : C7 pb nb B I n0 n1 n2 p3 p4 p5 q3 q4 q5 u6 u7) (F : Hid (F7 v s rb pb nb B I n0 n1 n2 p3 p4 p5 q3 q4 q5 u6 u7 K)) (w : World) (h : I 6 w) : wpAnyH Tryd.prog .any e7ops (Q7 K) (S7 pb nb) 8 #[true, true, true, true, true, true, true, true, true, true, true, false, true, false, false, true, false, true, false, false, false, false] ⟨#[.string s, v 1, .pointer (some ⟨rb, 0, none⟩), v 3, .pointer (some ⟨pb, 0, none⟩), .pointer (some ⟨nb, 0, none⟩), cloN nb, cloW nb, v 8, v 9, v 10, v 11, v 12, v 13, v 14, v 15, v 16, v 17, v 18, v 19, cloN nb, .int .i64 n0, cloN nb, .int .i64 n1, cloN nb, .int .i64 n2, cloV pb, .string p3, .string q3, cloV pb, .string p4, v 31, cloV pb, v 33, v 34, cloW nb, v 36, cloW nb, v 38, v 39, v 40, v 41, v 42, v 43, v 44, v 45, v 46, v 47, v 48, v 49, v 50, v 51, v 52, v 53, v 54, v 55, v 56, v 57, v 58, v 59, v 60, v 61, v 62, v 63, v 64, v 65, v 66, v 67, v 68, v 69, v 70, v 71, v 72, v 73], []⟩ w := by
  have Hn := Lib.hid (C.c6 _ h)
  have HB := Lib.hid (fun w' (h' : I 7 w') (_ : Kp pb w w') => e7_7_0 (v := v) C F w' h')
  have HC := Lib.hid (fun w' (h' : I 7 w') => C.cell _ _ h')
  have HA := Lib.hid (e7_6_1 C F (w.alloc ZObj) w.heap.size (C.alloc _ _ _ h) (alloc_new _) (Nat.ne_of_gt (C.lt _ _ h)) (Nat.ne_of_gt (World.block_lt_of_cell? w _ (C.cell _ _ h))) (C.lo _ _ h))
  have HS := Lib.hid (C.cell _ _ (C.alloc _ _ ZObj h))
  clear h
  refine wpAnyH_ready (rs := [11, 20]) (by kernel_rfl) (by simp) ?_
  refine AllReadyH.cons (o := { dst := some 31, op := Op.call { callee := Callee.value (Operand.func 64), args := #[Operand.tmp 30], argTypes := #[9] }, type := 9, pos := "trail.go:203", after := #[{ on := 10, ground := Ground.data }, { on := 10, ground := Ground.chain }], guard := none }) rfl (fun K' hK => ?_) ?_
  · go_simp
    go_wp2_with (go_at_call 64; (with_reducible refine Hn.out.mono ?_); rintro r w1 ⟨rfl, h1, hk⟩)
    refine hK.out _ _ (HC.out _ h1) (fun _ => ?_)
    refine lst_eq (l := #[true, true, true, true, true, true, true, true, true, true, true, true, true, false, false, true, false, true, false, false, false, false]) (by kernel_rfl) ?_
    exact HB.out _ h1 hk
  · refine AllReadyH.cons (o := { dst := some 8, op := Op.alloc 38, type := 0, pos := "trail.go:203", after := #[], guard := none }) rfl (fun K' hK => ?_) AllReadyH.nil
    go_simp
    refine hK.out _ _ HS.out (fun _ => ?_)
    refine lst_eq (l := #[true, true, true, true, true, true, true, true, true, true, true, false, true, false, false, true, false, true, false, false, true, false]) (by kernel_rfl) ?_
    exact HA.out

set_option maxHeartbeats 1000000 in
set_option maxRecDepth 20000 in
theorem e7_5_1 (C : C7 pb nb B I n0 n1 n2 p3 p4 p5 q3 q4 q5 u6 u7) (F : Hid (F7 v s rb pb nb B I n0 n1 n2 p3 p4 p5 q3 q4 q5 u6 u7 K)) (w : World) (pe : Nat) (h : I 5 w) (hz : w.heap[pe]? = some ZObj) (hp : pe ≠ pb) (hq : pe ≠ nb) (hB : B ≤ pe) : wpAnyH Tryd.prog .any e7ops (Q7 K) (S7 pb nb) 8 #[true, true, true, true, true, true, true, true, true, true, false, false, true, false, false, true, false, true, false, false, true, false] ⟨#[.string s, v 1, .pointer (some ⟨rb, 0, none⟩), v 3, .pointer (some ⟨pb, 0, none⟩), .pointer (some ⟨nb, 0, none⟩), cloN nb, cloW nb, .pointer (some ⟨pe, 0, none⟩), v 9, v 10, v 11, v 12, v 13, v 14, v 15, v 16, v 17, v 18, v 19, cloN nb, .int .i64 n0, cloN nb, .int .i64 n1, cloN nb, .int .i64 n2, cloV pb, .string p3, .string q3, cloV pb, v 30, v 31, cloV pb, v 33, v 34, cloW nb, v 36, cloW nb, v 38, v 39, v 40, v 41, v 42, v 43, v 44, v 45, v 46, v 47, v 48, v 49, v 50, v 51, v 52, v 53, v 54, v 55, v 56, v 57, v 58, v 59, v 60, v 61, v 62, v 63, v 64, v 65, v 66, v 67, v 68, v 69, v 70, v 71, v 72, v 73], []⟩ w := by
  have Hn := Lib.hid (C.c5 _ h)
  have HB := Lib.hid (fun w' (h' : I 6 w') (hk : Kp pb w w') => e7_6_1 (v := v) C F w' pe h' (hk pe _ hp hz) hp hq hB)
  have HC := Lib.hid (fun w' (h' : I 6 w') => C.cell _ _ h')
  clear h hz hp hq hB
  refine wpAnyH_ready (rs := [10]) (by kernel_rfl) (by simp) ?_
  refine AllReadyH.cons (o := { dst := some 30, op := Op.call { callee := Callee.value (Operand.tmp 29), args := #[], argTypes := #[] }, type := 9, pos := "trail.go:203", after := #[{ on := 9, ground := Ground.data }, { on := 8, ground := Ground.chain }], guard := none }) rfl (fun K' hK => ?_) AllReadyH.nil
  go_simp
  go_wp2_with (go_at_call 59; (with_reducible refine Hn.out.mono ?_); rintro r w1 ⟨rfl, h1, hk⟩)
  refine hK.out _ _ (HC.out _ h1) (fun _ => ?_)
  refine lst_eq (l := #[true, true, true, true, true, true, true, true, true, true, true, false, true, false, false, true, false, true, false, false, true, false]) (by kernel_rfl) ?_
  exact HB.out _ h1 hk

set_option maxHeartbeats 1000000 in
set_option maxRecDepth 20000 in
theorem e7_5_0 (C : C7 pb nb B I n0 n1 n2 p3 p4 p5 q3 q4 q5 u6 u7) (F : Hid (F7 v s rb pb nb B I n0 n1 n2 p3 p4 p5 q3 q4 q5 u6 u7 K)) (w : World) (h : I 5 w) : wpAnyH Tryd.prog .any e7ops (Q7 K) (S7 pb nb) 9 #[true, true, true, true, true, true, true, true, true, true, false, false, true, false, false, true, false, true, false, false, false, false] ⟨#[.string s, v 1, .pointer (some ⟨rb, 0, none⟩), v 3, .pointer (some ⟨pb, 0, none⟩), .pointer (some ⟨nb, 0, none⟩), cloN nb, cloW nb, v 8, v 9, v 10, v 11, v 12, v 13, v 14, v 15, v 16, v 17, v 18, v 19, cloN nb, .int .i64 n0, cloN nb, .int .i64 n1, cloN nb, .int .i64 n2, cloV pb, .string p3, .string q3, cloV pb, v 30, v 31, cloV pb, v 33, v 34, cloW nb, v 36, cloW nb, v 38, v 39, v 40, v 41, v 42, v 43, v 44, v 45, v 46, v 47, v 48, v 49, v 50, v 51, v 52, v 53, v 54, v 55, v 56, v 57, v 58, v 59, v 60, v 61, v 62, v 63, v 64, v 65, v 66, v 67, v 68, v 69, v 70, v 71, v 72, v 73], []⟩ w := by
  have Hn := Lib.hid (C.c5 _ h)
  have HB := Lib.hid (fun w' (h' : I 6 w') (_ : Kp pb w w') => e7_6_0 (v := v) C F w' h')
  have HC := Lib.hid (fun w' (h' : I 6 w') => C.cell _ _ h')
  have HA := Lib.hid (e7_5_1 C F (w.alloc ZObj) w.heap.size (C.alloc _ _ _ h) (alloc_new _) (Nat.ne_of_gt (C.lt _ _ h)) (Nat.ne_of_gt (World.block_lt_of_cell? w _ (C.cell _ _ h))) (C.lo _ _ h))
  have HS := Lib.hid (C.cell _ _ (C.alloc _ _ ZObj h))
  clear h
  refine wpAnyH_ready (rs := [10, 20]) (by kernel_rfl) (by simp) ?_
  refine AllReadyH.cons (o := { dst := some 30, op := Op.call { callee := Callee.value (Operand.tmp 29), args := #[], argTypes := #[] }, type := 9, pos := "trail.go:203", after := #[{ on := 9, ground := Ground.data }, { on := 8, ground := Ground.chain }], guard := none }) rfl (fun K' hK => ?_) ?_
  · go_simp
    go_wp2_with (go_at_call 59; (with_reducible refine Hn.out.mono ?_); rintro r w1 ⟨rfl, h1, hk⟩)
    refine hK.out _ _ (HC.out _ h1) (fun _ => ?_)
    refine lst_eq (l := #[true, true, true, true, true, true, true, true, true, true, true, false, true, false, false, true, false, true, false, false, false, false]) (by kernel_rfl) ?_
    exact HB.out _ h1 hk
  · refine AllReadyH.cons (o := { dst := some 8, op := Op.alloc 38, type := 0, pos := "trail.go:203", after := #[], guard := none }) rfl (fun K' hK => ?_) AllReadyH.nil
    go_simp
    refine hK.out _ _ HS.out (fun _ => ?_)
    refine lst_eq (l := #[true, true, true, true, true, true, true, true, true, true, false, false, true, false, false, true, false, true, false, false, true, false]) (by kernel_rfl) ?_
    exact HA.out

set_option maxHeartbeats 1000000 in
set_option maxRecDepth 20000 in
theorem e7_4_1 (C : C7 pb nb B I n0 n1 n2 p3 p4 p5 q3 q4 q5 u6 u7) (F : Hid (F7 v s rb pb nb B I n0 n1 n2 p3 p4 p5 q3 q4 q5 u6 u7 K)) (w : World) (pe : Nat) (h : I 4 w) (hz : w.heap[pe]? = some ZObj) (hp : pe ≠ pb) (hq : pe ≠ nb) (hB : B ≤ pe) : wpAnyH Tryd.prog .any e7ops (Q7 K) (S7 pb nb) 9 #[true, true, true, true, true, true, true, true, false, true, false, false, true, false, false, true, false, true, false, false, true, false] ⟨#[.string s, v 1, .pointer (some ⟨rb, 0, none⟩), v 3, .pointer (some ⟨pb, 0, none⟩), .pointer (some ⟨nb, 0, none⟩), cloN nb, cloW nb, .pointer (some ⟨pe, 0, none⟩), v 9, v 10, v 11, v 12, v 13, v 14, v 15, v 16, v 17, v 18, v 19, cloN nb, .int .i64 n0, cloN nb, .int .i64 n1, cloN nb, .int .i64 n2, cloV pb, .string p3, v 28, cloV pb, v 30, v 31, cloV pb, v 33, v 34, cloW nb, v 36, cloW nb, v 38, v 39, v 40, v 41, v 42, v 43, v 44, v 45, v 46, v 47, v 48, v 49, v 50, v 51, v 52, v 53, v 54, v 55, v 56, v 57, v 58, v 59, v 60, v 61, v 62, v 63, v 64, v 65, v 66, v 67, v 68, v 69, v 70, v 71, v 72, v 73], []⟩ w := by
  have Hn := Lib.hid (C.c4 _ h)
  have HB := Lib.hid (fun w' (h' : I 5 w') (hk : Kp pb w w') => e7_5_1 (v := v) C F w' pe h' (hk pe _ hp hz) hp hq hB)
  have HC := Lib.hid (fun w' (h' : I 5 w') => C.cell _ _ h')
  clear h hz hp hq hB
  refine wpAnyH_ready (rs := [8]) (by kernel_rfl) (by simp) ?_
  refine AllReadyH.cons (o := { dst := some 28, op := Op.call { callee := Callee.value (Operand.func 64), args := #[Operand.tmp 27], argTypes := #[9] }, type := 9, pos := "trail.go:203", after := #[{ on := 7, ground := Ground.data }, { on := 7, ground := Ground.chain }], guard := none }) rfl (fun K' hK => ?_) AllReadyH.nil
  go_simp
  go_wp2_with (go_at_call 64; (with_reducible refine Hn.out.mono ?_); rintro r w1 ⟨rfl, h1, hk⟩)
  refine hK.out _ _ (HC.out _ h1) (fun _ => ?_)
  refine lst_eq (l := #[true, true, true, true, true, true, true, true, true, true, false, false, true, false, false, true, false, true, false, false, true, false]) (by kernel_rfl) ?_
  exact HB.out _ h1 hk

set_option maxHeartbeats 1000000 in
set_option maxRecDepth 20000 in
theorem e7_4_0 (C : C7 pb nb B I n0 n1 n2 p3 p4 p5 q3 q4 q5 u6 u7) (F : Hid (F7 v s rb pb nb B I n0 n1 n2 p3 p4 p5 q3 q4 q5 u6 u7 K)) (w : World) (h : I 4 w) : wpAnyH Tryd.prog .any e7ops (Q7 K) (S7 pb nb) 10 #[true, true, true, true, true, true, true, true, false, true, false, false, true, false, false, true, false, true, false, false, false, false] ⟨#[.string s, v 1, .pointer (some ⟨rb, 0, none⟩), v 3, .pointer (some ⟨pb, 0, none⟩), .pointer (some ⟨nb, 0, none⟩), cloN nb, cloW nb, v 8, v 9, v 10, v 11, v 12, v 13, v 14, v 15, v 16, v 17, v 18, v 19, cloN nb, .int .i64 n0, cloN nb, .int .i64 n1, cloN nb, .int .i64 n2, cloV pb, .string p3, v 28, cloV pb, v 30, v 31, cloV pb, v 33, v 34, cloW nb, v 36, cloW nb, v 38, v 39, v 40, v 41, v 42, v 43, v 44, v 45, v 46, v 47, v 48, v 49, v 50, v 51, v 52, v 53, v 54, v 55, v 56, v 57, v 58, v 59, v 60, v 61, v 62, v 63, v 64, v 65, v 66, v 67, v 68, v 69, v 70, v 71, v 72, v 73], []⟩ w := by
  have Hn := Lib.hid (C.c4 _ h)
  have HB := Lib.hid (fun w' (h' : I 5 w') (_ : Kp pb w w') => e7_5_0 (v := v) C F w' h')
  have HC := Lib.hid (fun w' (h' : I 5 w') => C.cell _ _ h')
  have HA := Lib.hid (e7_4_1 C F (w.alloc ZObj) w.heap.size (C.alloc _ _ _ h) (alloc_new _) (Nat.ne_of_gt (C.lt _ _ h)) (Nat.ne_of_gt (World.block_lt_of_cell? w _ (C.cell _ _ h))) (C.lo _ _ h))
  have HS := Lib.hid (C.cell _ _ (C.alloc _ _ ZObj h))
  clear h
  refine wpAnyH_ready (rs := [8, 20]) (by kernel_rfl) (by simp) ?_
  refine AllReadyH.cons (o := { dst := some 28, op := Op.call { callee := Callee.value (Operand.func 64), args := #[Operand.tmp 27], argTypes := #[9] }, type := 9, pos := "trail.go:203", after := #[{ on := 7, ground := Ground.data }, { on := 7, ground := Ground.chain }], guard := none }) rfl (fun K' hK => ?_) ?_
  · go_simp
    go_wp2_with (go_at_call 64; (with_reducible refine Hn.out.mono ?_); rintro r w1 ⟨rfl, h1, hk⟩)
    refine hK.out _ _ (HC.out _ h1) (fun _ => ?_)
    refine lst_eq (l := #[true, true, true, true, true, true, true, true, true, true, false, false, true, false, false, true, false, true, false, false, false, false]) (by kernel_rfl) ?_
    exact HB.out _ h1 hk
  · refine AllReadyH.cons (o := { dst := some 8, op := Op.alloc 38, type := 0, pos := "trail.go:203", after := #[], guard := none }) rfl (fun K' hK => ?_) AllReadyH.nil
    go_simp
    refine hK.out _ _ HS.out (fun _ => ?_)
    refine lst_eq (l := #[true, true, true, true, true, true, true, true, false, true, false, false, true, false, false, true, false, true, false, false, true, false]) (by kernel_rfl) ?_
    exact HA.out

set_option maxHeartbeats 1000000 in
set_option maxRecDepth 20000 in
theorem e7_3_1 (C : C7 pb nb B I n0 n1 n2 p3 p4 p5 q3 q4 q5 u6 u7) (F : Hid (F7 v s rb pb nb B I n0 n1 n2 p3 p4 p5 q3 q4 q5 u6 u7 K)) (w : World) (pe : Nat) (h : I 3 w) (hz : w.heap[pe]? = some ZObj) (hp : pe ≠ pb) (hq : pe ≠ nb) (hB : B ≤ pe) : wpAnyH Tryd.prog .any e7ops (Q7 K) (S7 pb nb) 10 #[true, true, true, true, true, true, true, false, false, true, false, false, true, false, false, true, false, true, false, false, true, false] ⟨#[.string s, v 1, .pointer (some ⟨rb, 0, none⟩), v 3, .pointer (some ⟨pb, 0, none⟩), .pointer (some ⟨nb, 0, none⟩), cloN nb, cloW nb, .pointer (some ⟨pe, 0, none⟩), v 9, v 10, v 11, v 12, v 13, v 14, v 15, v 16, v 17, v 18, v 19, cloN nb, .int .i64 n0, cloN nb, .int .i64 n1, cloN nb, .int .i64 n2, cloV pb, v 27, v 28, cloV pb, v 30, v 31, cloV pb, v 33, v 34, cloW nb, v 36, cloW nb, v 38, v 39, v 40, v 41, v 42, v 43, v 44, v 45, v 46, v 47, v 48, v 49, v 50, v 51, v 52, v 53, v 54, v 55, v 56, v 57, v 58, v 59, v 60, v 61, v 62, v 63, v 64, v 65, v 66, v 67, v 68, v 69, v 70, v 71, v 72, v 73], []⟩ w := by
  have Hn := Lib.hid (C.c3 _ h)
  have HB := Lib.hid (fun w' (h' : I 4 w') (hk : Kp pb w w') => e7_4_1 (v := v) C F w' pe h' (hk pe _ hp hz) hp hq hB)
  have HC := Lib.hid (fun w' (h' : I 4 w') => C.cell _ _ h')
  clear h hz hp hq hB
  refine wpAnyH_ready (rs := [7]) (by kernel_rfl) (by simp) ?_
  refine AllReadyH.cons (o := { dst := some 27, op := Op.call { callee := Callee.value (Operand.tmp 26), args := #[], argTypes := #[] }, type := 9, pos := "trail.go:203", after := #[{ on := 6, ground := Ground.data }, { on := 5, ground := Ground.chain }], guard := none }) rfl (fun K' hK => ?_) AllReadyH.nil
  go_simp
  go_wp2_with (go_at_call 59; (with_reducible refine Hn.out.mono ?_); rintro r w1 ⟨rfl, h1, hk⟩)
  refine hK.out _ _ (HC.out _ h1) (fun _ => ?_)
  refine lst_eq (l := #[true, true, true, true, true, true, true, true, false, true, false, false, true, false, false, true, false, true, false, false, true, false]) (by kernel_rfl) ?_
  exact HB.out _ h1 hk

set_option maxHeartbeats 1000000 in
set_option maxRecDepth 20000 in
theorem e7_3_0 (C : C7 pb nb B I n0 n1 n2 p3 p4 p5 q3 q4 q5 u6 u7) (F : Hid (F7 v s rb pb nb B I n0 n1 n2 p3 p4 p5 q3 q4 q5 u6 u7 K)) (w : World) (h : I 3 w) : wpAnyH Tryd.prog .any e7ops (Q7 K) (S7 pb nb) 11 #[true, true, true, true, true, true, true, false, false, true, false, false, true, false, false, true, false, true, false, false, false, false] ⟨#[.string s, v 1, .pointer (some ⟨rb, 0, none⟩), v 3, .pointer (some ⟨pb, 0, none⟩), .pointer (some ⟨nb, 0, none⟩), cloN nb, cloW nb, v 8, v 9, v 10, v 11, v 12, v 13, v 14, v 15, v 16, v 17, v 18, v 19, cloN nb, .int .i64 n0, cloN nb, .int .i64 n1, cloN nb, .int .i64 n2, cloV pb, v 27, v 28, cloV pb, v 30, v 31, cloV pb, v 33, v 34, cloW nb, v 36, cloW nb, v 38, v 39, v 40, v 41, v 42, v 43, v 44, v 45, v 46, v 47, v 48, v 49, v 50, v 51, v 52, v 53, v 54, v 55, v 56, v 57, v 58, v 59, v 60, v 61, v 62, v 63, v 64, v 65, v 66, v 67, v 68, v 69, v 70, v 71, v 72, v 73], []⟩ w := by
  have Hn := Lib.hid (C.c3 _ h)
  have HB := Lib.hid (fun w' (h' : I 4 w') (_ : Kp pb w w') => e7_4_0 (v := v) C F w' h')
  have HC := Lib.hid (fun w' (h' : I 4 w') => C.cell _ _ h')
  have HA := Lib.hid (e7_3_1 C F (w.alloc ZObj) w.heap.size (C.alloc _ _ _ h) (alloc_new _) (Nat.ne_of_gt (C.lt _ _ h)) (Nat.ne_of_gt (World.block_lt_of_cell? w _ (C.cell _ _ h))) (C.lo _ _ h))
  have HS := Lib.hid (C.cell _ _ (C.alloc _ _ ZObj h))
  clear h
  refine wpAnyH_ready (rs := [7, 20]) (by kernel_rfl) (by simp) ?_
  refine AllReadyH.cons (o := { dst := some 27, op := Op.call { callee := Callee.value (Operand.tmp 26), args := #[], argTypes := #[] }, type := 9, pos := "trail.go:203", after := #[{ on := 6, ground := Ground.data }, { on := 5, ground := Ground.chain }], guard := none }) rfl (fun K' hK => ?_) ?_
  · go_simp
    go_wp2_with (go_at_call 59; (with_reducible refine Hn.out.mono ?_); rintro r w1 ⟨rfl, h1, hk⟩)
    refine hK.out _ _ (HC.out _ h1) (fun _ => ?_)
    refine lst_eq (l := #[true, true, true, true, true, true, true, true, false, true, false, false, true, false, false, true, false, true, false, false, false, false]) (by kernel_rfl) ?_
    exact HB.out _ h1 hk
  · refine AllReadyH.cons (o := { dst := some 8, op := Op.alloc 38, type := 0, pos := "trail.go:203", after := #[], guard := none }) rfl (fun K' hK => ?_) AllReadyH.nil
    go_simp
    refine hK.out _ _ HS.out (fun _ => ?_)
    refine lst_eq (l := #[true, true, true, true, true, true, true, false, false, true, false, false, true, false, false, true, false, true, false, false, true, false]) (by kernel_rfl) ?_
    exact HA.out

set_option maxHeartbeats 1000000 in
set_option maxRecDepth 20000 in
theorem e7_2_1 (C : C7 pb nb B I n0 n1 n2 p3 p4 p5 q3 q4 q5 u6 u7) (F : Hid (F7 v s rb pb nb B I n0 n1 n2 p3 p4 p5 q3 q4 q5 u6 u7 K)) (w : World) (pe : Nat) (h : I 2 w) (hz : w.heap[pe]? = some ZObj) (hp : pe ≠ pb) (hq : pe ≠ nb) (hB : B ≤ pe) : wpAnyH Tryd.prog .any e7ops (Q7 K) (S7 pb nb) 11 #[true, true, true, true, true, false, true, false, false, true, false, false, true, false, false, true, false, true, false, false, true, false] ⟨#[.string s, v 1, .pointer (some ⟨rb, 0, none⟩), v 3, .pointer (some ⟨pb, 0, none⟩), .pointer (some ⟨nb, 0, none⟩), cloN nb, cloW nb, .pointer (some ⟨pe, 0, none⟩), v 9, v 10, v 11, v 12, v 13, v 14, v 15, v 16, v 17, v 18, v 19, cloN nb, .int .i64 n0, cloN nb, .int .i64 n1, cloN nb, v 25, cloV pb, v 27, v 28, cloV pb, v 30, v 31, cloV pb, v 33, v 34, cloW nb, v 36, cloW nb, v 38, v 39, v 40, v 41, v 42, v 43, v 44, v 45, v 46, v 47, v 48, v 49, v 50, v 51, v 52, v 53, v 54, v 55, v 56, v 57, v 58, v 59, v 60, v 61, v 62, v 63, v 64, v 65, v 66, v 67, v 68, v 69, v 70, v 71, v 72, v 73], []⟩ w := by
  have Hn := Lib.hid (C.c2 _ h)
  have HB := Lib.hid (fun w' (h' : I 3 w') (hk : Kp pb w w') => e7_3_1 (v := v) C F w' pe h' (hk pe _ hp hz) hp hq hB)
  have HC := Lib.hid (fun w' (h' : I 3 w') => C.cell _ _ h')
  clear h hz hp hq hB
  refine wpAnyH_ready (rs := [5]) (by kernel_rfl) (by simp) ?_
  refine AllReadyH.cons (o := { dst := some 25, op := Op.call { callee := Callee.value (Operand.tmp 24), args := #[], argTypes := #[] }, type := 3, pos := "trail.go:203", after := #[{ on := 4, ground := Ground.data }, { on := 3, ground := Ground.chain }], guard := none }) rfl (fun K' hK => ?_) AllReadyH.nil
  go_simp
  go_wp2_with (go_at_call 60; (with_reducible refine Hn.out.mono ?_); rintro r w1 ⟨rfl, h1, hk⟩)
  refine hK.out _ _ (HC.out _ h1) (fun _ => ?_)
  refine lst_eq (l := #[true, true, true, true, true, true, true, false, false, true, false, false, true, false, false, true, false, true, false, false, true, false]) (by kernel_rfl) ?_
  exact HB.out _ h1 hk

set_option maxHeartbeats 1000000 in
set_option maxRecDepth 20000 in
theorem e7_2_0 (C : C7 pb nb B I n0 n1 n2 p3 p4 p5 q3 q4 q5 u6 u7) (F : Hid (F7 v s rb pb nb B I n0 n1 n2 p3 p4 p5 q3 q4 q5 u6 u7 K)) (w : World) (h : I 2 w) : wpAnyH Tryd.prog .any e7ops (Q7 K) (S7 pb nb) 12 #[true, true, true, true, true, false, true, false, false, true, false, false, true, false, false, true, false, true, false, false, false, false] ⟨#[.string s, v 1, .pointer (some ⟨rb, 0, none⟩), v 3, .pointer (some ⟨pb, 0, none⟩), .pointer (some ⟨nb, 0, none⟩), cloN nb, cloW nb, v 8, v 9, v 10, v 11, v 12, v 13, v 14, v 15, v 16, v 17, v 18, v 19, cloN nb, .int .i64 n0, cloN nb, .int .i64 n1, cloN nb, v 25, cloV pb, v 27, v 28, cloV pb, v 30, v 31, cloV pb, v 33, v 34, cloW nb, v 36, cloW nb, v 38, v 39, v 40, v 41, v 42, v 43, v 44, v 45, v 46, v 47, v 48, v 49, v 50, v 51, v 52, v 53, v 54, v 55, v 56, v 57, v 58, v 59, v 60, v 61, v 62, v 63, v 64, v 65, v 66, v 67, v 68, v 69, v 70, v 71, v 72, v 73], []⟩ w := by
  have Hn := Lib.hid (C.c2 _ h)
  have HB := Lib.hid (fun w' (h' : I 3 w') (_ : Kp pb w w') => e7_3_0 (v := v) C F w' h')
  have HC := Lib.hid (fun w' (h' : I 3 w') => C.cell _ _ h')
  have HA := Lib.hid (e7_2_1 C F (w.alloc ZObj) w.heap.size (C.alloc _ _ _ h) (alloc_new _) (Nat.ne_of_gt (C.lt _ _ h)) (Nat.ne_of_gt (World.block_lt_of_cell? w _ (C.cell _ _ h))) (C.lo _ _ h))
  have HS := Lib.hid (C.cell _ _ (C.alloc _ _ ZObj h))
  clear h
  refine wpAnyH_ready (rs := [5, 20]) (by kernel_rfl) (by simp) ?_
  refine AllReadyH.cons (o := { dst := some 25, op := Op.call { callee := Callee.value (Operand.tmp 24), args := #[], argTypes := #[] }, type := 3, pos := "trail.go:203", after := #[{ on := 4, ground := Ground.data }, { on := 3, ground := Ground.chain }], guard := none }) rfl (fun K' hK => ?_) ?_
  · go_simp
    go_wp2_with (go_at_call 60; (with_reducible refine Hn.out.mono ?_); rintro r w1 ⟨rfl, h1, hk⟩)
    refine hK.out _ _ (HC.out _ h1) (fun _ => ?_)
    refine lst_eq (l := #[true, true, true, true, true, true, true, false, false, true, false, false, true, false, false, true, false, true, false, false, false, false]) (by kernel_rfl) ?_
    exact HB.out _ h1 hk
  · refine AllReadyH.cons (o := { dst := some 8, op := Op.alloc 38, type := 0, pos := "trail.go:203", after := #[], guard := none }) rfl (fun K' hK => ?_) AllReadyH.nil
    go_simp
    refine hK.out _ _ HS.out (fun _ => ?_)
    refine lst_eq (l := #[true, true, true, true, true, false, true, false, false, true, false, false, true, false, false, true, false, true, false, false, true, false]) (by kernel_rfl) ?_
    exact HA.out

set_option maxHeartbeats 1000000 in
set_option maxRecDepth 20000 in
theorem e7_1_1 (C : C7 pb nb B I n0 n1 n2 p3 p4 p5 q3 q4 q5 u6 u7) (F : Hid (F7 v s rb pb nb B I n0 n1 n2 p3 p4 p5 q3 q4 q5 u6 u7 K)) (w : World) (pe : Nat) (h : I 1 w) (hz : w.heap[pe]? = some ZObj) (hp : pe ≠ pb) (hq : pe ≠ nb) (hB : B ≤ pe) : wpAnyH Tryd.prog .any e7ops (Q7 K) (S7 pb nb) 12 #[true, true, true, false, true, false, true, false, false, true, false, false, true, false, false, true, false, true, false, false, true, false] ⟨#[.string s, v 1, .pointer (some ⟨rb, 0, none⟩), v 3, .pointer (some ⟨pb, 0, none⟩), .pointer (some ⟨nb, 0, none⟩), cloN nb, cloW nb, .pointer (some ⟨pe, 0, none⟩), v 9, v 10, v 11, v 12, v 13, v 14, v 15, v 16, v 17, v 18, v 19, cloN nb, .int .i64 n0, cloN nb, v 23, cloN nb, v 25, cloV pb, v 27, v 28, cloV pb, v 30, v 31, cloV pb, v 33, v 34, cloW nb, v 36, cloW nb, v 38, v 39, v 40, v 41, v 42, v 43, v 44, v 45, v 46, v 47, v 48, v 49, v 50, v 51, v 52, v 53, v 54, v 55, v 56, v 57, v 58, v 59, v 60, v 61, v 62, v 63, v 64, v 65, v 66, v 67, v 68, v 69, v 70, v 71, v 72, v 73], []⟩ w := by
  have Hn := Lib.hid (C.c1 _ h)
  have HB := Lib.hid (fun w' (h' : I 2 w') (hk : Kp pb w w') => e7_2_1 (v := v) C F w' pe h' (hk pe _ hp hz) hp hq hB)
  have HC := Lib.hid (fun w' (h' : I 2 w') => C.cell _ _ h')
  clear h hz hp hq hB
  refine wpAnyH_ready (rs := [3]) (by kernel_rfl) (by simp) ?_
  refine AllReadyH.cons (o := { dst := some 23, op := Op.call { callee := Callee.value (Operand.tmp 22), args := #[], argTypes := #[] }, type := 3, pos := "trail.go:203", after := #[{ on := 2, ground := Ground.data }, { on := 1, ground := Ground.chain }], guard := none }) rfl (fun K' hK => ?_) AllReadyH.nil
  go_simp
  go_wp2_with (go_at_call 60; (with_reducible refine Hn.out.mono ?_); rintro r w1 ⟨rfl, h1, hk⟩)
  refine hK.out _ _ (HC.out _ h1) (fun _ => ?_)
  refine lst_eq (l := #[true, true, true, true, true, false, true, false, false, true, false, false, true, false, false, true, false, true, false, false, true, false]) (by kernel_rfl) ?_
  exact HB.out _ h1 hk

set_option maxHeartbeats 1000000 in
set_option maxRecDepth 20000 in
theorem e7_1_0 (C : C7 pb nb B I n0 n1 n2 p3 p4 p5 q3 q4 q5 u6 u7) (F : Hid (F7 v s rb pb nb B I n0 n1 n2 p3 p4 p5 q3 q4 q5 u6 u7 K)) (w : World) (h : I 1 w) : wpAnyH Tryd.prog .any e7ops (Q7 K) (S7 pb nb) 13 #[true, true, true, false, true, false, true, false, false, true, false, false, true, false, false, true, false, true, false, false, false, false] ⟨#[.string s, v 1, .pointer (some ⟨rb, 0, none⟩), v 3, .pointer (some ⟨pb, 0, none⟩), .pointer (some ⟨nb, 0, none⟩), cloN nb, cloW nb, v 8, v 9, v 10, v 11, v 12, v 13, v 14, v 15, v 16, v 17, v 18, v 19, cloN nb, .int .i64 n0, cloN nb, v 23, cloN nb, v 25, cloV pb, v 27, v 28, cloV pb, v 30, v 31, cloV pb, v 33, v 34, cloW nb, v 36, cloW nb, v 38, v 39, v 40, v 41, v 42, v 43, v 44, v 45, v 46, v 47, v 48, v 49, v 50, v 51, v 52, v 53, v 54, v 55, v 56, v 57, v 58, v 59, v 60, v 61, v 62, v 63, v 64, v 65, v 66, v 67, v 68, v 69, v 70, v 71, v 72, v 73], []⟩ w := by
  have Hn := Lib.hid (C.c1 _ h)
  have HB := Lib.hid (fun w' (h' : I 2 w') (_ : Kp pb w w') => e7_2_0 (v := v) C F w' h')
  have HC := Lib.hid (fun w' (h' : I 2 w') => C.cell _ _ h')
  have HA := Lib.hid (e7_1_1 C F (w.alloc ZObj) w.heap.size (C.alloc _ _ _ h) (alloc_new _) (Nat.ne_of_gt (C.lt _ _ h)) (Nat.ne_of_gt (World.block_lt_of_cell? w _ (C.cell _ _ h))) (C.lo _ _ h))
  have HS := Lib.hid (C.cell _ _ (C.alloc _ _ ZObj h))
  clear h
  refine wpAnyH_ready (rs := [3, 20]) (by kernel_rfl) (by simp) ?_
  refine AllReadyH.cons (o := { dst := some 23, op := Op.call { callee := Callee.value (Operand.tmp 22), args := #[], argTypes := #[] }, type := 3, pos := "trail.go:203", after := #[{ on := 2, ground := Ground.data }, { on := 1, ground := Ground.chain }], guard := none }) rfl (fun K' hK => ?_) ?_
  · go_simp
    go_wp2_with (go_at_call 60; (with_reducible refine Hn.out.mono ?_); rintro r w1 ⟨rfl, h1, hk⟩)
    refine hK.out _ _ (HC.out _ h1) (fun _ => ?_)
    refine lst_eq (l := #[true, true, true, true, true, false, true, false, false, true, false, false, true, false, false, true, false, true, false, false, false, false]) (by kernel_rfl) ?_
    exact HB.out _ h1 hk
  · refine AllReadyH.cons (o := { dst := some 8, op := Op.alloc 38, type := 0, pos := "trail.go:203", after := #[], guard := none }) rfl (fun K' hK => ?_) AllReadyH.nil
    go_simp
    refine hK.out _ _ HS.out (fun _ => ?_)
    refine lst_eq (l := #[true, true, true, false, true, false, true, false, false, true, false, false, true, false, false, true, false, true, false, false, true, false]) (by kernel_rfl) ?_
    exact HA.out

set_option maxHeartbeats 1000000 in
set_option maxRecDepth 20000 in
theorem e7_0_1 (C : C7 pb nb B I n0 n1 n2 p3 p4 p5 q3 q4 q5 u6 u7) (F : Hid (F7 v s rb pb nb B I n0 n1 n2 p3 p4 p5 q3 q4 q5 u6 u7 K)) (w : World) (pe : Nat) (h : I 0 w) (hz : w.heap[pe]? = some ZObj) (hp : pe ≠ pb) (hq : pe ≠ nb) (hB : B ≤ pe) : wpAnyH Tryd.prog .any e7ops (Q7 K) (S7 pb nb) 13 #[true, false, true, false, true, false, true, false, false, true, false, false, true, false, false, true, false, true, false, false, true, false] ⟨#[.string s, v 1, .pointer (some ⟨rb, 0, none⟩), v 3, .pointer (some ⟨pb, 0, none⟩), .pointer (some ⟨nb, 0, none⟩), cloN nb, cloW nb, .pointer (some ⟨pe, 0, none⟩), v 9, v 10, v 11, v 12, v 13, v 14, v 15, v 16, v 17, v 18, v 19, cloN nb, v 21, cloN nb, v 23, cloN nb, v 25, cloV pb, v 27, v 28, cloV pb, v 30, v 31, cloV pb, v 33, v 34, cloW nb, v 36, cloW nb, v 38, v 39, v 40, v 41, v 42, v 43, v 44, v 45, v 46, v 47, v 48, v 49, v 50, v 51, v 52, v 53, v 54, v 55, v 56, v 57, v 58, v 59, v 60, v 61, v 62, v 63, v 64, v 65, v 66, v 67, v 68, v 69, v 70, v 71, v 72, v 73], []⟩ w := by
  have Hn := Lib.hid (C.c0 _ h)
  have HB := Lib.hid (fun w' (h' : I 1 w') (hk : Kp pb w w') => e7_1_1 (v := v) C F w' pe h' (hk pe _ hp hz) hp hq hB)
  have HC := Lib.hid (fun w' (h' : I 1 w') => C.cell _ _ h')
  clear h hz hp hq hB
  refine wpAnyH_ready (rs := [1]) (by kernel_rfl) (by simp) ?_
  refine AllReadyH.cons (o := { dst := some 21, op := Op.call { callee := Callee.value (Operand.tmp 20), args := #[], argTypes := #[] }, type := 3, pos := "trail.go:203", after := #[{ on := 0, ground := Ground.data }], guard := none }) rfl (fun K' hK => ?_) AllReadyH.nil
  go_simp
  go_wp2_with (go_at_call 60; (with_reducible refine Hn.out.mono ?_); rintro r w1 ⟨rfl, h1, hk⟩)
  refine hK.out _ _ (HC.out _ h1) (fun _ => ?_)
  refine lst_eq (l := #[true, true, true, false, true, false, true, false, false, true, false, false, true, false, false, true, false, true, false, false, true, false]) (by kernel_rfl) ?_
  exact HB.out _ h1 hk

set_option maxHeartbeats 1000000 in
set_option maxRecDepth 20000 in
theorem e7_0_0 (C : C7 pb nb B I n0 n1 n2 p3 p4 p5 q3 q4 q5 u6 u7) (F : Hid (F7 v s rb pb nb B I n0 n1 n2 p3 p4 p5 q3 q4 q5 u6 u7 K)) (w : World) (h : I 0 w) : wpAnyH Tryd.prog .any e7ops (Q7 K) (S7 pb nb) 14 #[true, false, true, false, true, false, true, false, false, true, false, false, true, false, false, true, false, true, false, false, false, false] ⟨#[.string s, v 1, .pointer (some ⟨rb, 0, none⟩), v 3, .pointer (some ⟨pb, 0, none⟩), .pointer (some ⟨nb, 0, none⟩), cloN nb, cloW nb, v 8, v 9, v 10, v 11, v 12, v 13, v 14, v 15, v 16, v 17, v 18, v 19, cloN nb, v 21, cloN nb, v 23, cloN nb, v 25, cloV pb, v 27, v 28, cloV pb, v 30, v 31, cloV pb, v 33, v 34, cloW nb, v 36, cloW nb, v 38, v 39, v 40, v 41, v 42, v 43, v 44, v 45, v 46, v 47, v 48, v 49, v 50, v 51, v 52, v 53, v 54, v 55, v 56, v 57, v 58, v 59, v 60, v 61, v 62, v 63, v 64, v 65, v 66, v 67, v 68, v 69, v 70, v 71, v 72, v 73], []⟩ w := by
  have Hn := Lib.hid (C.c0 _ h)
  have HB := Lib.hid (fun w' (h' : I 1 w') (_ : Kp pb w w') => e7_1_0 (v := v) C F w' h')
  have HC := Lib.hid (fun w' (h' : I 1 w') => C.cell _ _ h')
  have HA := Lib.hid (e7_0_1 C F (w.alloc ZObj) w.heap.size (C.alloc _ _ _ h) (alloc_new _) (Nat.ne_of_gt (C.lt _ _ h)) (Nat.ne_of_gt (World.block_lt_of_cell? w _ (C.cell _ _ h))) (C.lo _ _ h))
  have HS := Lib.hid (C.cell _ _ (C.alloc _ _ ZObj h))
  clear h
  refine wpAnyH_ready (rs := [1, 20]) (by kernel_rfl) (by simp) ?_
  refine AllReadyH.cons (o := { dst := some 21, op := Op.call { callee := Callee.value (Operand.tmp 20), args := #[], argTypes := #[] }, type := 3, pos := "trail.go:203", after := #[{ on := 0, ground := Ground.data }], guard := none }) rfl (fun K' hK => ?_) ?_
  · go_simp
    go_wp2_with (go_at_call 60; (with_reducible refine Hn.out.mono ?_); rintro r w1 ⟨rfl, h1, hk⟩)
    refine hK.out _ _ (HC.out _ h1) (fun _ => ?_)
    refine lst_eq (l := #[true, true, true, false, true, false, true, false, false, true, false, false, true, false, false, true, false, true, false, false, false, false]) (by kernel_rfl) ?_
    exact HB.out _ h1 hk
  · refine AllReadyH.cons (o := { dst := some 8, op := Op.alloc 38, type := 0, pos := "trail.go:203", after := #[], guard := none }) rfl (fun K' hK => ?_) AllReadyH.nil
    go_simp
    refine hK.out _ _ HS.out (fun _ => ?_)
    refine lst_eq (l := #[true, false, true, false, true, false, true, false, false, true, false, false, true, false, false, true, false, true, false, false, true, false]) (by kernel_rfl) ?_
    exact HA.out

set_option maxHeartbeats 1000000 in
set_option maxRecDepth 20000 in
theorem e7_run (C : C7 pb nb B I n0 n1 n2 p3 p4 p5 q3 q4 q5 u6 u7) (F : Hid (F7 v s rb pb nb B I n0 n1 n2 p3 p4 p5 q3 q4 q5 u6 u7 K)) (w : World) (h : I 0 w) : en7.wp Tryd.prog (Q7 K) ⟨#[.string s, v 1, .pointer (some ⟨rb, 0, none⟩), v 3, .pointer (some ⟨pb, 0, none⟩), .pointer (some ⟨nb, 0, none⟩), cloN nb, cloW nb, v 8, v 9, v 10, v 11, v 12, v 13, v 14, v 15, v 16, v 17, v 18, v 19, v 20, v 21, v 22, v 23, v 24, v 25, v 26, v 27, v 28, v 29, v 30, v 31, v 32, v 33, v 34, v 35, v 36, v 37, v 38, v 39, v 40, v 41, v 42, v 43, v 44, v 45, v 46, v 47, v 48, v 49, v 50, v 51, v 52, v 53, v 54, v 55, v 56, v 57, v 58, v 59, v 60, v 61, v 62, v 63, v 64, v 65, v 66, v 67, v 68, v 69, v 70, v 71, v 72, v 73], []⟩ w := by
  have Hc := Lib.hid (C.cell _ _ (C.drew _ _ h))
  have H0 := Lib.hid (e7_0_0 (v := v) C F w.drew (C.drew _ _ h))
  clear h
  rw [en7_is]
  refine wp_region_held_drew (S := S7 pb nb) (by kernel_rfl) Hc.out (fun _ => ?_)
  refine wpAnyH_take (i := 0) (oi := { dst := some 20, op := Op.move (Operand.tmp 6), type := 43, pos := "trail.go:203", after := #[], guard := none }) (v := cloN nb) rfl (by kernel_rfl) (by kernel_rfl) (by kernel_rfl) (fun _ _ _ h => h) (Or.inl ⟨by rfl, ?_⟩) Hc.out ?_
  · intro W hS
    go_simp
  simp only [Act.put, List.setIfInBounds_toArray, List.set_cons_zero, List.set_cons_succ]
  refine wpAnyH_take (i := 2) (oi := { dst := some 22, op := Op.move (Operand.tmp 6), type := 43, pos := "trail.go:203", after := #[], guard := none }) (v := cloN nb) rfl (by kernel_rfl) (by kernel_rfl) (by kernel_rfl) (fun _ _ _ h => h) (Or.inl ⟨by rfl, ?_⟩) Hc.out ?_
  · intro W hS
    go_simp
  simp only [Act.put, List.setIfInBounds_toArray, List.set_cons_zero, List.set_cons_succ]
  refine wpAnyH_take (i := 4) (oi := { dst := some 24, op := Op.move (Operand.tmp 6), type := 43, pos := "trail.go:203", after := #[], guard := none }) (v := cloN nb) rfl (by kernel_rfl) (by kernel_rfl) (by kernel_rfl) (fun _ _ _ h => h) (Or.inl ⟨by rfl, ?_⟩) Hc.out ?_
  · intro W hS
    go_simp
  simp only [Act.put, List.setIfInBounds_toArray, List.set_cons_zero, List.set_cons_succ]
  refine wpAnyH_take (i := 6) (oi := { dst := some 26, op := Op.load 78 (Operand.tmp 5), type := 78, pos := "trail.go:203", after := #[], guard := none }) (v := cloV pb) rfl (by kernel_rfl) (by kernel_rfl) (by kernel_rfl) (fun _ _ _ h => h) (Or.inl ⟨by rfl, ?_⟩) Hc.out ?_
  · intro W hS
    go_simp
  simp only [Act.put, List.setIfInBounds_toArray, List.set_cons_zero, List.set_cons_succ]
  refine wpAnyH_take (i := 9) (oi := { dst := some 29, op := Op.load 78 (Operand.tmp 5), type := 78, pos := "trail.go:203", after := #[], guard := none }) (v := cloV pb) rfl (by kernel_rfl) (by kernel_rfl) (by kernel_rfl) (fun _ _ _ h => h) (Or.inl ⟨by rfl, ?_⟩) Hc.out ?_
  · intro W hS
    go_simp
  simp only [Act.put, List.setIfInBounds_toArray, List.set_cons_zero, List.set_cons_succ]
  refine wpAnyH_take (i := 12) (oi := { dst := some 32, op := Op.load 78 (Operand.tmp 5), type := 78, pos := "trail.go:203", after := #[], guard := none }) (v := cloV pb) rfl (by kernel_rfl) (by kernel_rfl) (by kernel_rfl) (fun _ _ _ h => h) (Or.inl ⟨by rfl, ?_⟩) Hc.out ?_
  · intro W hS
    go_simp
  simp only [Act.put, List.setIfInBounds_toArray, List.set_cons_zero, List.set_cons_succ]
  refine wpAnyH_take (i := 15) (oi := { dst := some 35, op := Op.move (Operand.tmp 7), type := 130, pos := "trail.go:203", after := #[], guard := none }) (v := cloW nb) rfl (by kernel_rfl) (by kernel_rfl) (by kernel_rfl) (fun _ _ _ h => h) (Or.inl ⟨by rfl, ?_⟩) Hc.out ?_
  · intro W hS
    go_simp
  simp only [Act.put, List.setIfInBounds_toArray, List.set_cons_zero, List.set_cons_succ]
  refine wpAnyH_take (i := 17) (oi := { dst := some 37, op := Op.move (Operand.tmp 7), type := 130, pos := "trail.go:203", after := #[], guard := none }) (v := cloW nb) rfl (by kernel_rfl) (by kernel_rfl) (by kernel_rfl) (fun _ _ _ h => h) (Or.inl ⟨by rfl, ?_⟩) Hc.out ?_
  · intro W hS
    go_simp
  simp only [Act.put, List.setIfInBounds_toArray, List.set_cons_zero, List.set_cons_succ]
  refine lst_eq (l := #[true, false, true, false, true, false, true, false, false, true, false, false, true, false, false, true, false, true, false, false, false, false]) (by kernel_rfl) ?_
  exact H0.out

end

end Go.Proofs.YthpflfcgnaichaaDoor
