/-
The program's entry: the statement that reads the decision.
-/
import Derived.Test.YthpflfcgnaichaaDoorTraEnt7
set_option linter.unusedVariables false
set_option linter.unusedSimpArgs false
namespace Go.Proofs.YthpflfcgnaichaaDoor
open Go Go.RowKit

def e8ops : Array Oper := #[{ dst := some 40, op := Op.move (Operand.tmp 6), type := 43, pos := "trail.go:204", after := #[], guard := none }, { dst := some 41, op := Op.call { callee := Callee.value (Operand.tmp 40), args := #[], argTypes := #[] }, type := 3, pos := "trail.go:204", after := #[{ on := 0, ground := Ground.data }], guard := none }, { dst := some 42, op := Op.move (Operand.tmp 6), type := 43, pos := "trail.go:204", after := #[], guard := none }, { dst := some 43, op := Op.call { callee := Callee.value (Operand.tmp 42), args := #[], argTypes := #[] }, type := 3, pos := "trail.go:204", after := #[{ on := 2, ground := Ground.data }, { on := 1, ground := Ground.chain }], guard := none }, { dst := some 44, op := Op.load 78 (Operand.tmp 5), type := 78, pos := "trail.go:204", after := #[], guard := none }, { dst := some 45, op := Op.call { callee := Callee.value (Operand.tmp 44), args := #[], argTypes := #[] }, type := 9, pos := "trail.go:204", after := #[{ on := 4, ground := Ground.data }, { on := 3, ground := Ground.chain }], guard := none }, { dst := some 46, op := Op.call { callee := Callee.value (Operand.func 64), args := #[Operand.tmp 45], argTypes := #[9] }, type := 9, pos := "trail.go:204", after := #[{ on := 5, ground := Ground.data }, { on := 5, ground := Ground.chain }], guard := none }, { dst := some 47, op := Op.move (Operand.tmp 6), type := 43, pos := "trail.go:204", after := #[], guard := none }, { dst := some 48, op := Op.call { callee := Callee.value (Operand.tmp 47), args := #[], argTypes := #[] }, type := 3, pos := "trail.go:204", after := #[{ on := 7, ground := Ground.data }, { on := 6, ground := Ground.chain }], guard := none }, { dst := some 49, op := Op.load 78 (Operand.tmp 5), type := 78, pos := "trail.go:204", after := #[], guard := none }, { dst := some 50, op := Op.call { callee := Callee.value (Operand.tmp 49), args := #[], argTypes := #[] }, type := 9, pos := "trail.go:204", after := #[{ on := 9, ground := Ground.data }, { on := 8, ground := Ground.chain }], guard := none }, { dst := some 51, op := Op.call { callee := Callee.value (Operand.func 64), args := #[Operand.tmp 50], argTypes := #[9] }, type := 9, pos := "trail.go:204", after := #[{ on := 10, ground := Ground.data }, { on := 10, ground := Ground.chain }], guard := none }, { dst := some 52, op := Op.load 78 (Operand.tmp 5), type := 78, pos := "trail.go:204", after := #[], guard := none }, { dst := some 53, op := Op.call { callee := Callee.value (Operand.tmp 52), args := #[], argTypes := #[] }, type := 9, pos := "trail.go:204", after := #[{ on := 12, ground := Ground.data }, { on := 11, ground := Ground.chain }], guard := none }, { dst := some 54, op := Op.call { callee := Callee.value (Operand.func 64), args := #[Operand.tmp 53], argTypes := #[9] }, type := 9, pos := "trail.go:204", after := #[{ on := 13, ground := Ground.data }, { on := 13, ground := Ground.chain }], guard := none }, { dst := some 55, op := Op.build 30 #[(0, Operand.tmp 41), (1, Operand.tmp 43), (2, Operand.tmp 46), (3, Operand.tmp 48), (4, Operand.tmp 51), (5, Operand.tmp 54)], type := 30, pos := "trail.go:204", after := #[{ on := 1, ground := Ground.data }, { on := 3, ground := Ground.data }, { on := 6, ground := Ground.data }, { on := 8, ground := Ground.data }, { on := 11, ground := Ground.data }, { on := 14, ground := Ground.data }], guard := none }, { dst := some 56, op := Op.fieldAddr 38 (Operand.tmp 8) 8, type := 0, pos := "trail.go:204", after := #[{ on := 0, ground := Ground.phase }, { on := 1, ground := Ground.phase }, { on := 2, ground := Ground.phase }, { on := 3, ground := Ground.phase }, { on := 4, ground := Ground.phase }, { on := 5, ground := Ground.phase }, { on := 6, ground := Ground.phase }, { on := 7, ground := Ground.phase }, { on := 8, ground := Ground.phase }, { on := 9, ground := Ground.phase }, { on := 10, ground := Ground.phase }, { on := 11, ground := Ground.phase }, { on := 12, ground := Ground.phase }, { on := 13, ground := Ground.phase }, { on := 14, ground := Ground.phase }, { on := 15, ground := Ground.phase }], guard := none }, { dst := none, op := Op.store 30 (Operand.tmp 56) (Operand.tmp 55), type := 0, pos := "trail.go:204", after := #[{ on := 16, ground := Ground.data }, { on := 15, ground := Ground.data }, { on := 14, ground := Ground.chain }, { on := 0, ground := Ground.phase }, { on := 1, ground := Ground.phase }, { on := 2, ground := Ground.phase }, { on := 3, ground := Ground.phase }, { on := 4, ground := Ground.phase }, { on := 5, ground := Ground.phase }, { on := 6, ground := Ground.phase }, { on := 7, ground := Ground.phase }, { on := 8, ground := Ground.phase }, { on := 9, ground := Ground.phase }, { on := 10, ground := Ground.phase }, { on := 11, ground := Ground.phase }, { on := 12, ground := Ground.phase }, { on := 13, ground := Ground.phase }, { on := 14, ground := Ground.phase }, { on := 15, ground := Ground.phase }], guard := none }]

noncomputable def en8 : Code := (ncl (ncr (ncr (ncr (ncr (ncr (ncr (ncr (ncx Tryd.f43.body)))))))))

theorem en8_is : en8 = Code.region 8 e8ops true := by kernel_rfl

structure C8 (pb nb : Nat) (I : Nat → World → Prop) (n0 n1 : Int) (p2 q2 : ByteArray) (n3 : Int) (p4 p5 q4 q5 : ByteArray) : Prop where
  cell : ∀ k w, I k w → w.cell? ⟨nb, 0, none⟩ = some (cloV pb)
  drew : ∀ k w, I k w → I k w.drew
  c0 : ∀ w, I 0 w → Calls Tryd.prog 60 #[.pointer (some ⟨nb, 0, none⟩)] w fun r w' => r = .returned (.int .i64 n0) ∧ I 1 w' ∧ Kp pb w w'
  c1 : ∀ w, I 1 w → Calls Tryd.prog 60 #[.pointer (some ⟨nb, 0, none⟩)] w fun r w' => r = .returned (.int .i64 n1) ∧ I 2 w' ∧ Kp pb w w'
  c2 : ∀ w, I 2 w → Calls Tryd.prog 59 #[.pointer (some ⟨pb, 0, none⟩)] w fun r w' => r = .returned (.string p2) ∧ I 3 w' ∧ Kp pb w w'
  c3 : ∀ w, I 3 w → Calls Tryd.prog 64 #[.string p2] w fun r w' => r = .returned (.string q2) ∧ I 4 w' ∧ Kp pb w w'
  c4 : ∀ w, I 4 w → Calls Tryd.prog 60 #[.pointer (some ⟨nb, 0, none⟩)] w fun r w' => r = .returned (.int .i64 n3) ∧ I 5 w' ∧ Kp pb w w'
  c5 : ∀ w, I 5 w → Calls Tryd.prog 59 #[.pointer (some ⟨pb, 0, none⟩)] w fun r w' => r = .returned (.string p4) ∧ I 6 w' ∧ Kp pb w w'
  c6 : ∀ w, I 6 w → Calls Tryd.prog 64 #[.string p4] w fun r w' => r = .returned (.string q4) ∧ I 7 w' ∧ Kp pb w w'
  c7 : ∀ w, I 7 w → Calls Tryd.prog 59 #[.pointer (some ⟨pb, 0, none⟩)] w fun r w' => r = .returned (.string p5) ∧ I 8 w' ∧ Kp pb w w'
  c8 : ∀ w, I 8 w → Calls Tryd.prog 64 #[.string p5] w fun r w' => r = .returned (.string q5) ∧ I 9 w' ∧ Kp pb w w'

section
variable {v : Nat → Value} {s : ByteArray} {rb pb nb pe : Nat} {I : Nat → World → Prop} {n0 n1 : Int} {p2 q2 : ByteArray} {n3 : Int} {p4 p5 q4 q5 : ByteArray} {c : Array Value} {T : TypeId} {K : Act → World → Prop}

def F8 (v : Nat → Value) (s : ByteArray) (rb pb nb pe : Nat) (I : Nat → World → Prop) (n0 n1 : Int) (p2 p4 p5 q2 : ByteArray) (n3 : Int) (q4 q5 : ByteArray) (c : Array Value) (T : TypeId) (K : Act → World → Prop) : Prop :=
  ∀ w, I 9 w → w.heap[pe]? = some (.cells c T (0, 0)) → K ⟨#[.string s, v 1, .pointer (some ⟨rb, 0, none⟩), v 3, .pointer (some ⟨pb, 0, none⟩), .pointer (some ⟨nb, 0, none⟩), cloN nb, cloW nb, .pointer (some ⟨pe, 0, none⟩), v 9, v 10, v 11, v 12, v 13, v 14, v 15, v 16, v 17, v 18, v 19, v 20, v 21, v 22, v 23, v 24, v 25, v 26, v 27, v 28, v 29, v 30, v 31, v 32, v 33, v 34, v 35, v 36, v 37, v 38, v 39, cloN nb, .int .i64 n0, cloN nb, .int .i64 n1, cloV pb, .string p2, .string q2, cloN nb, .int .i64 n3, cloV pb, .string p4, .string q4, cloV pb, .string p5, .string q5, .agg #[.int .i64 n0, .int .i64 n1, .string q2, .int .i64 n3, .string q4, .string q5], .pointer (some ⟨pe, 8, none⟩), v 57, v 58, v 59, v 60, v 61, v 62, v 63, v 64, v 65, v 66, v 67, v 68, v 69, v 70, v 71, v 72, v 73], []⟩ (w.setCells pe 8 [.int .i64 n0, .int .i64 n1, .string q2, .int .i64 n3, .string q4, .string q5])

set_option maxHeartbeats 1000000 in
set_option maxRecDepth 20000 in
theorem e8_9 (C : C8 pb nb I n0 n1 p2 q2 n3 p4 p5 q4 q5) (F : Hid (F8 v s rb pb nb pe I n0 n1 p2 p4 p5 q2 n3 q4 q5 c T K)) (hp : pe ≠ pb) (hq : pe ≠ nb) (h15 : c.size = 15) (w : World) (h : I 9 w) (hz : w.heap[pe]? = some (.cells c T (0, 0))) : wpAnyH Tryd.prog .any e8ops (Q7 K) (S7 pb nb) 3 #[true, true, true, true, true, true, true, true, true, true, true, true, true, true, true, false, false, false] ⟨#[.string s, v 1, .pointer (some ⟨rb, 0, none⟩), v 3, .pointer (some ⟨pb, 0, none⟩), .pointer (some ⟨nb, 0, none⟩), cloN nb, cloW nb, .pointer (some ⟨pe, 0, none⟩), v 9, v 10, v 11, v 12, v 13, v 14, v 15, v 16, v 17, v 18, v 19, v 20, v 21, v 22, v 23, v 24, v 25, v 26, v 27, v 28, v 29, v 30, v 31, v 32, v 33, v 34, v 35, v 36, v 37, v 38, v 39, cloN nb, .int .i64 n0, cloN nb, .int .i64 n1, cloV pb, .string p2, .string q2, cloN nb, .int .i64 n3, cloV pb, .string p4, .string q4, cloV pb, .string p5, .string q5, v 55, v 56, v 57, v 58, v 59, v 60, v 61, v 62, v 63, v 64, v 65, v 66, v 67, v 68, v 69, v 70, v 71, v 72, v 73], []⟩ w := by
  have Hc := Lib.hid (C.cell _ _ h)
  have HS := Lib.hid ((World.cell?_setCells_out pe [.int .i64 n0, .int .i64 n1, .string q2, .int .i64 n3, .string q4, .string q5] 8 w ⟨nb, 0, none⟩ (fun hb _ => absurd hb.symm hq)).trans (C.cell _ _ h))
  have Hf := Lib.hid (F.out w h hz)
  have Ht : w.there pe 8 6 := fun j hj => by
    have h1 := cell_blk hz (8 + j)
    refine ⟨?_, frozen_blk hz _⟩
    rw [h1, Array.getElem?_eq_getElem (by omega)]
    rfl
  clear hz hp hq h
  refine wpAnyH_take (i := 15) (oi := { dst := some 55, op := Op.build 30 #[(0, Operand.tmp 41), (1, Operand.tmp 43), (2, Operand.tmp 46), (3, Operand.tmp 48), (4, Operand.tmp 51), (5, Operand.tmp 54)], type := 30, pos := "trail.go:204", after := #[{ on := 1, ground := Ground.data }, { on := 3, ground := Ground.data }, { on := 6, ground := Ground.data }, { on := 8, ground := Ground.data }, { on := 11, ground := Ground.data }, { on := 14, ground := Ground.data }], guard := none }) (v := .agg #[.int .i64 n0, .int .i64 n1, .string q2, .int .i64 n3, .string q4, .string q5]) rfl (by kernel_rfl) (by kernel_rfl) (by kernel_rfl) (fun _ _ _ h => h) (Or.inl ⟨by rfl, ?_⟩) Hc.out ?_
  · intro W hS
    go_simp
  simp only [Act.put, List.setIfInBounds_toArray, List.set_cons_zero, List.set_cons_succ]
  refine wpAnyH_take (i := 16) (oi := { dst := some 56, op := Op.fieldAddr 38 (Operand.tmp 8) 8, type := 0, pos := "trail.go:204", after := #[{ on := 0, ground := Ground.phase }, { on := 1, ground := Ground.phase }, { on := 2, ground := Ground.phase }, { on := 3, ground := Ground.phase }, { on := 4, ground := Ground.phase }, { on := 5, ground := Ground.phase }, { on := 6, ground := Ground.phase }, { on := 7, ground := Ground.phase }, { on := 8, ground := Ground.phase }, { on := 9, ground := Ground.phase }, { on := 10, ground := Ground.phase }, { on := 11, ground := Ground.phase }, { on := 12, ground := Ground.phase }, { on := 13, ground := Ground.phase }, { on := 14, ground := Ground.phase }, { on := 15, ground := Ground.phase }], guard := none }) (v := .pointer (some ⟨pe, 8, none⟩)) rfl (by kernel_rfl) (by kernel_rfl) (by kernel_rfl) (fun _ _ _ h => h) (Or.inl ⟨by rfl, ?_⟩) Hc.out ?_
  · intro W hS
    go_simp
  simp only [Act.put, List.setIfInBounds_toArray, List.set_cons_zero, List.set_cons_succ]
  refine wpAnyH_ready (rs := [17]) (by kernel_rfl) (by simp) ?_
  refine AllReadyH.cons (o := { dst := none, op := Op.store 30 (Operand.tmp 56) (Operand.tmp 55), type := 0, pos := "trail.go:204", after := #[{ on := 16, ground := Ground.data }, { on := 15, ground := Ground.data }, { on := 14, ground := Ground.chain }, { on := 0, ground := Ground.phase }, { on := 1, ground := Ground.phase }, { on := 2, ground := Ground.phase }, { on := 3, ground := Ground.phase }, { on := 4, ground := Ground.phase }, { on := 5, ground := Ground.phase }, { on := 6, ground := Ground.phase }, { on := 7, ground := Ground.phase }, { on := 8, ground := Ground.phase }, { on := 9, ground := Ground.phase }, { on := 10, ground := Ground.phase }, { on := 11, ground := Ground.phase }, { on := 12, ground := Ground.phase }, { on := 13, ground := Ground.phase }, { on := 14, ground := Ground.phase }, { on := 15, ground := Ground.phase }], guard := none }) rfl (fun K' hK => ?_) AllReadyH.nil
  rw [if_pos (by rfl)]
  refine wp_store_mid _ _ _ rfl pe 8 (List.toArray _) rfl rfl Ht (by kernel_rfl) (by rw [← Array.all_toList]; rfl) ?_
  refine hK.out _ _ ?_ (fun _ => ?_)
  · exact HS.out
  · refine wpAnyH_done (by kernel_rfl) ?_ _
    exact Hf.out

set_option maxHeartbeats 1000000 in
set_option maxRecDepth 20000 in
theorem e8_8 (C : C8 pb nb I n0 n1 p2 q2 n3 p4 p5 q4 q5) (F : Hid (F8 v s rb pb nb pe I n0 n1 p2 p4 p5 q2 n3 q4 q5 c T K)) (hp : pe ≠ pb) (hq : pe ≠ nb) (h15 : c.size = 15) (w : World) (h : I 8 w) (hz : w.heap[pe]? = some (.cells c T (0, 0))) : wpAnyH Tryd.prog .any e8ops (Q7 K) (S7 pb nb) 4 #[true, true, true, true, true, true, true, true, true, true, true, true, true, true, false, false, false, false] ⟨#[.string s, v 1, .pointer (some ⟨rb, 0, none⟩), v 3, .pointer (some ⟨pb, 0, none⟩), .pointer (some ⟨nb, 0, none⟩), cloN nb, cloW nb, .pointer (some ⟨pe, 0, none⟩), v 9, v 10, v 11, v 12, v 13, v 14, v 15, v 16, v 17, v 18, v 19, v 20, v 21, v 22, v 23, v 24, v 25, v 26, v 27, v 28, v 29, v 30, v 31, v 32, v 33, v 34, v 35, v 36, v 37, v 38, v 39, cloN nb, .int .i64 n0, cloN nb, .int .i64 n1, cloV pb, .string p2, .string q2, cloN nb, .int .i64 n3, cloV pb, .string p4, .string q4, cloV pb, .string p5, v 54, v 55, v 56, v 57, v 58, v 59, v 60, v 61, v 62, v 63, v 64, v 65, v 66, v 67, v 68, v 69, v 70, v 71, v 72, v 73], []⟩ w := by
  have Hn := Lib.hid (C.c8 _ h)
  have HB := Lib.hid (fun w' (h' : I 9 w') (hk : Kp pb w w') => e8_9 (v := v) C F hp hq h15 w' h' (hk pe _ hp hz))
  have HC := Lib.hid (fun w' (h' : I 9 w') => C.cell _ _ h')
  clear h hz hp hq h15
  refine wpAnyH_ready (rs := [14]) (by kernel_rfl) (by simp) ?_
  refine AllReadyH.cons (o := { dst := some 54, op := Op.call { callee := Callee.value (Operand.func 64), args := #[Operand.tmp 53], argTypes := #[9] }, type := 9, pos := "trail.go:204", after := #[{ on := 13, ground := Ground.data }, { on := 13, ground := Ground.chain }], guard := none }) rfl (fun K' hK => ?_) AllReadyH.nil
  go_simp
  go_wp2_with (go_at_call 64; (with_reducible refine Hn.out.mono ?_); rintro r w1 ⟨rfl, h1, hk⟩)
  refine hK.out _ _ (HC.out _ h1) (fun _ => ?_)
  refine lst_eq (l := #[true, true, true, true, true, true, true, true, true, true, true, true, true, true, true, false, false, false]) (by kernel_rfl) ?_
  exact HB.out _ h1 hk

set_option maxHeartbeats 1000000 in
set_option maxRecDepth 20000 in
theorem e8_7 (C : C8 pb nb I n0 n1 p2 q2 n3 p4 p5 q4 q5) (F : Hid (F8 v s rb pb nb pe I n0 n1 p2 p4 p5 q2 n3 q4 q5 c T K)) (hp : pe ≠ pb) (hq : pe ≠ nb) (h15 : c.size = 15) (w : World) (h : I 7 w) (hz : w.heap[pe]? = some (.cells c T (0, 0))) : wpAnyH Tryd.prog .any e8ops (Q7 K) (S7 pb nb) 5 #[true, true, true, true, true, true, true, true, true, true, true, true, true, false, false, false, false, false] ⟨#[.string s, v 1, .pointer (some ⟨rb, 0, none⟩), v 3, .pointer (some ⟨pb, 0, none⟩), .pointer (some ⟨nb, 0, none⟩), cloN nb, cloW nb, .pointer (some ⟨pe, 0, none⟩), v 9, v 10, v 11, v 12, v 13, v 14, v 15, v 16, v 17, v 18, v 19, v 20, v 21, v 22, v 23, v 24, v 25, v 26, v 27, v 28, v 29, v 30, v 31, v 32, v 33, v 34, v 35, v 36, v 37, v 38, v 39, cloN nb, .int .i64 n0, cloN nb, .int .i64 n1, cloV pb, .string p2, .string q2, cloN nb, .int .i64 n3, cloV pb, .string p4, .string q4, cloV pb, v 53, v 54, v 55, v 56, v 57, v 58, v 59, v 60, v 61, v 62, v 63, v 64, v 65, v 66, v 67, v 68, v 69, v 70, v 71, v 72, v 73], []⟩ w := by
  have Hn := Lib.hid (C.c7 _ h)
  have HB := Lib.hid (fun w' (h' : I 8 w') (hk : Kp pb w w') => e8_8 (v := v) C F hp hq h15 w' h' (hk pe _ hp hz))
  have HC := Lib.hid (fun w' (h' : I 8 w') => C.cell _ _ h')
  clear h hz hp hq h15
  refine wpAnyH_ready (rs := [13]) (by kernel_rfl) (by simp) ?_
  refine AllReadyH.cons (o := { dst := some 53, op := Op.call { callee := Callee.value (Operand.tmp 52), args := #[], argTypes := #[] }, type := 9, pos := "trail.go:204", after := #[{ on := 12, ground := Ground.data }, { on := 11, ground := Ground.chain }], guard := none }) rfl (fun K' hK => ?_) AllReadyH.nil
  go_simp
  go_wp2_with (go_at_call 59; (with_reducible refine Hn.out.mono ?_); rintro r w1 ⟨rfl, h1, hk⟩)
  refine hK.out _ _ (HC.out _ h1) (fun _ => ?_)
  refine lst_eq (l := #[true, true, true, true, true, true, true, true, true, true, true, true, true, true, false, false, false, false]) (by kernel_rfl) ?_
  exact HB.out _ h1 hk

set_option maxHeartbeats 1000000 in
set_option maxRecDepth 20000 in
theorem e8_6 (C : C8 pb nb I n0 n1 p2 q2 n3 p4 p5 q4 q5) (F : Hid (F8 v s rb pb nb pe I n0 n1 p2 p4 p5 q2 n3 q4 q5 c T K)) (hp : pe ≠ pb) (hq : pe ≠ nb) (h15 : c.size = 15) (w : World) (h : I 6 w) (hz : w.heap[pe]? = some (.cells c T (0, 0))) : wpAnyH Tryd.prog .any e8ops (Q7 K) (S7 pb nb) 6 #[true, true, true, true, true, true, true, true, true, true, true, false, true, false, false, false, false, false] ⟨#[.string s, v 1, .pointer (some ⟨rb, 0, none⟩), v 3, .pointer (some ⟨pb, 0, none⟩), .pointer (some ⟨nb, 0, none⟩), cloN nb, cloW nb, .pointer (some ⟨pe, 0, none⟩), v 9, v 10, v 11, v 12, v 13, v 14, v 15, v 16, v 17, v 18, v 19, v 20, v 21, v 22, v 23, v 24, v 25, v 26, v 27, v 28, v 29, v 30, v 31, v 32, v 33, v 34, v 35, v 36, v 37, v 38, v 39, cloN nb, .int .i64 n0, cloN nb, .int .i64 n1, cloV pb, .string p2, .string q2, cloN nb, .int .i64 n3, cloV pb, .string p4, v 51, cloV pb, v 53, v 54, v 55, v 56, v 57, v 58, v 59, v 60, v 61, v 62, v 63, v 64, v 65, v 66, v 67, v 68, v 69, v 70, v 71, v 72, v 73], []⟩ w := by
  have Hn := Lib.hid (C.c6 _ h)
  have HB := Lib.hid (fun w' (h' : I 7 w') (hk : Kp pb w w') => e8_7 (v := v) C F hp hq h15 w' h' (hk pe _ hp hz))
  have HC := Lib.hid (fun w' (h' : I 7 w') => C.cell _ _ h')
  clear h hz hp hq h15
  refine wpAnyH_ready (rs := [11]) (by kernel_rfl) (by simp) ?_
  refine AllReadyH.cons (o := { dst := some 51, op := Op.call { callee := Callee.value (Operand.func 64), args := #[Operand.tmp 50], argTypes := #[9] }, type := 9, pos := "trail.go:204", after := #[{ on := 10, ground := Ground.data }, { on := 10, ground := Ground.chain }], guard := none }) rfl (fun K' hK => ?_) AllReadyH.nil
  go_simp
  go_wp2_with (go_at_call 64; (with_reducible refine Hn.out.mono ?_); rintro r w1 ⟨rfl, h1, hk⟩)
  refine hK.out _ _ (HC.out _ h1) (fun _ => ?_)
  refine lst_eq (l := #[true, true, true, true, true, true, true, true, true, true, true, true, true, false, false, false, false, false]) (by kernel_rfl) ?_
  exact HB.out _ h1 hk

set_option maxHeartbeats 1000000 in
set_option maxRecDepth 20000 in
theorem e8_5 (C : C8 pb nb I n0 n1 p2 q2 n3 p4 p5 q4 q5) (F : Hid (F8 v s rb pb nb pe I n0 n1 p2 p4 p5 q2 n3 q4 q5 c T K)) (hp : pe ≠ pb) (hq : pe ≠ nb) (h15 : c.size = 15) (w : World) (h : I 5 w) (hz : w.heap[pe]? = some (.cells c T (0, 0))) : wpAnyH Tryd.prog .any e8ops (Q7 K) (S7 pb nb) 7 #[true, true, true, true, true, true, true, true, true, true, false, false, true, false, false, false, false, false] ⟨#[.string s, v 1, .pointer (some ⟨rb, 0, none⟩), v 3, .pointer (some ⟨pb, 0, none⟩), .pointer (some ⟨nb, 0, none⟩), cloN nb, cloW nb, .pointer (some ⟨pe, 0, none⟩), v 9, v 10, v 11, v 12, v 13, v 14, v 15, v 16, v 17, v 18, v 19, v 20, v 21, v 22, v 23, v 24, v 25, v 26, v 27, v 28, v 29, v 30, v 31, v 32, v 33, v 34, v 35, v 36, v 37, v 38, v 39, cloN nb, .int .i64 n0, cloN nb, .int .i64 n1, cloV pb, .string p2, .string q2, cloN nb, .int .i64 n3, cloV pb, v 50, v 51, cloV pb, v 53, v 54, v 55, v 56, v 57, v 58, v 59, v 60, v 61, v 62, v 63, v 64, v 65, v 66, v 67, v 68, v 69, v 70, v 71, v 72, v 73], []⟩ w := by
  have Hn := Lib.hid (C.c5 _ h)
  have HB := Lib.hid (fun w' (h' : I 6 w') (hk : Kp pb w w') => e8_6 (v := v) C F hp hq h15 w' h' (hk pe _ hp hz))
  have HC := Lib.hid (fun w' (h' : I 6 w') => C.cell _ _ h')
  clear h hz hp hq h15
  refine wpAnyH_ready (rs := [10]) (by kernel_rfl) (by simp) ?_
  refine AllReadyH.cons (o := { dst := some 50, op := Op.call { callee := Callee.value (Operand.tmp 49), args := #[], argTypes := #[] }, type := 9, pos := "trail.go:204", after := #[{ on := 9, ground := Ground.data }, { on := 8, ground := Ground.chain }], guard := none }) rfl (fun K' hK => ?_) AllReadyH.nil
  go_simp
  go_wp2_with (go_at_call 59; (with_reducible refine Hn.out.mono ?_); rintro r w1 ⟨rfl, h1, hk⟩)
  refine hK.out _ _ (HC.out _ h1) (fun _ => ?_)
  refine lst_eq (l := #[true, true, true, true, true, true, true, true, true, true, true, false, true, false, false, false, false, false]) (by kernel_rfl) ?_
  exact HB.out _ h1 hk

set_option maxHeartbeats 1000000 in
set_option maxRecDepth 20000 in
theorem e8_4 (C : C8 pb nb I n0 n1 p2 q2 n3 p4 p5 q4 q5) (F : Hid (F8 v s rb pb nb pe I n0 n1 p2 p4 p5 q2 n3 q4 q5 c T K)) (hp : pe ≠ pb) (hq : pe ≠ nb) (h15 : c.size = 15) (w : World) (h : I 4 w) (hz : w.heap[pe]? = some (.cells c T (0, 0))) : wpAnyH Tryd.prog .any e8ops (Q7 K) (S7 pb nb) 8 #[true, true, true, true, true, true, true, true, false, true, false, false, true, false, false, false, false, false] ⟨#[.string s, v 1, .pointer (some ⟨rb, 0, none⟩), v 3, .pointer (some ⟨pb, 0, none⟩), .pointer (some ⟨nb, 0, none⟩), cloN nb, cloW nb, .pointer (some ⟨pe, 0, none⟩), v 9, v 10, v 11, v 12, v 13, v 14, v 15, v 16, v 17, v 18, v 19, v 20, v 21, v 22, v 23, v 24, v 25, v 26, v 27, v 28, v 29, v 30, v 31, v 32, v 33, v 34, v 35, v 36, v 37, v 38, v 39, cloN nb, .int .i64 n0, cloN nb, .int .i64 n1, cloV pb, .string p2, .string q2, cloN nb, v 48, cloV pb, v 50, v 51, cloV pb, v 53, v 54, v 55, v 56, v 57, v 58, v 59, v 60, v 61, v 62, v 63, v 64, v 65, v 66, v 67, v 68, v 69, v 70, v 71, v 72, v 73], []⟩ w := by
  have Hn := Lib.hid (C.c4 _ h)
  have HB := Lib.hid (fun w' (h' : I 5 w') (hk : Kp pb w w') => e8_5 (v := v) C F hp hq h15 w' h' (hk pe _ hp hz))
  have HC := Lib.hid (fun w' (h' : I 5 w') => C.cell _ _ h')
  clear h hz hp hq h15
  refine wpAnyH_ready (rs := [8]) (by kernel_rfl) (by simp) ?_
  refine AllReadyH.cons (o := { dst := some 48, op := Op.call { callee := Callee.value (Operand.tmp 47), args := #[], argTypes := #[] }, type := 3, pos := "trail.go:204", after := #[{ on := 7, ground := Ground.data }, { on := 6, ground := Ground.chain }], guard := none }) rfl (fun K' hK => ?_) AllReadyH.nil
  go_simp
  go_wp2_with (go_at_call 60; (with_reducible refine Hn.out.mono ?_); rintro r w1 ⟨rfl, h1, hk⟩)
  refine hK.out _ _ (HC.out _ h1) (fun _ => ?_)
  refine lst_eq (l := #[true, true, true, true, true, true, true, true, true, true, false, false, true, false, false, false, false, false]) (by kernel_rfl) ?_
  exact HB.out _ h1 hk

set_option maxHeartbeats 1000000 in
set_option maxRecDepth 20000 in
theorem e8_3 (C : C8 pb nb I n0 n1 p2 q2 n3 p4 p5 q4 q5) (F : Hid (F8 v s rb pb nb pe I n0 n1 p2 p4 p5 q2 n3 q4 q5 c T K)) (hp : pe ≠ pb) (hq : pe ≠ nb) (h15 : c.size = 15) (w : World) (h : I 3 w) (hz : w.heap[pe]? = some (.cells c T (0, 0))) : wpAnyH Tryd.prog .any e8ops (Q7 K) (S7 pb nb) 9 #[true, true, true, true, true, true, false, true, false, true, false, false, true, false, false, false, false, false] ⟨#[.string s, v 1, .pointer (some ⟨rb, 0, none⟩), v 3, .pointer (some ⟨pb, 0, none⟩), .pointer (some ⟨nb, 0, none⟩), cloN nb, cloW nb, .pointer (some ⟨pe, 0, none⟩), v 9, v 10, v 11, v 12, v 13, v 14, v 15, v 16, v 17, v 18, v 19, v 20, v 21, v 22, v 23, v 24, v 25, v 26, v 27, v 28, v 29, v 30, v 31, v 32, v 33, v 34, v 35, v 36, v 37, v 38, v 39, cloN nb, .int .i64 n0, cloN nb, .int .i64 n1, cloV pb, .string p2, v 46, cloN nb, v 48, cloV pb, v 50, v 51, cloV pb, v 53, v 54, v 55, v 56, v 57, v 58, v 59, v 60, v 61, v 62, v 63, v 64, v 65, v 66, v 67, v 68, v 69, v 70, v 71, v 72, v 73], []⟩ w := by
  have Hn := Lib.hid (C.c3 _ h)
  have HB := Lib.hid (fun w' (h' : I 4 w') (hk : Kp pb w w') => e8_4 (v := v) C F hp hq h15 w' h' (hk pe _ hp hz))
  have HC := Lib.hid (fun w' (h' : I 4 w') => C.cell _ _ h')
  clear h hz hp hq h15
  refine wpAnyH_ready (rs := [6]) (by kernel_rfl) (by simp) ?_
  refine AllReadyH.cons (o := { dst := some 46, op := Op.call { callee := Callee.value (Operand.func 64), args := #[Operand.tmp 45], argTypes := #[9] }, type := 9, pos := "trail.go:204", after := #[{ on := 5, ground := Ground.data }, { on := 5, ground := Ground.chain }], guard := none }) rfl (fun K' hK => ?_) AllReadyH.nil
  go_simp
  go_wp2_with (go_at_call 64; (with_reducible refine Hn.out.mono ?_); rintro r w1 ⟨rfl, h1, hk⟩)
  refine hK.out _ _ (HC.out _ h1) (fun _ => ?_)
  refine lst_eq (l := #[true, true, true, true, true, true, true, true, false, true, false, false, true, false, false, false, false, false]) (by kernel_rfl) ?_
  exact HB.out _ h1 hk

set_option maxHeartbeats 1000000 in
set_option maxRecDepth 20000 in
theorem e8_2 (C : C8 pb nb I n0 n1 p2 q2 n3 p4 p5 q4 q5) (F : Hid (F8 v s rb pb nb pe I n0 n1 p2 p4 p5 q2 n3 q4 q5 c T K)) (hp : pe ≠ pb) (hq : pe ≠ nb) (h15 : c.size = 15) (w : World) (h : I 2 w) (hz : w.heap[pe]? = some (.cells c T (0, 0))) : wpAnyH Tryd.prog .any e8ops (Q7 K) (S7 pb nb) 10 #[true, true, true, true, true, false, false, true, false, true, false, false, true, false, false, false, false, false] ⟨#[.string s, v 1, .pointer (some ⟨rb, 0, none⟩), v 3, .pointer (some ⟨pb, 0, none⟩), .pointer (some ⟨nb, 0, none⟩), cloN nb, cloW nb, .pointer (some ⟨pe, 0, none⟩), v 9, v 10, v 11, v 12, v 13, v 14, v 15, v 16, v 17, v 18, v 19, v 20, v 21, v 22, v 23, v 24, v 25, v 26, v 27, v 28, v 29, v 30, v 31, v 32, v 33, v 34, v 35, v 36, v 37, v 38, v 39, cloN nb, .int .i64 n0, cloN nb, .int .i64 n1, cloV pb, v 45, v 46, cloN nb, v 48, cloV pb, v 50, v 51, cloV pb, v 53, v 54, v 55, v 56, v 57, v 58, v 59, v 60, v 61, v 62, v 63, v 64, v 65, v 66, v 67, v 68, v 69, v 70, v 71, v 72, v 73], []⟩ w := by
  have Hn := Lib.hid (C.c2 _ h)
  have HB := Lib.hid (fun w' (h' : I 3 w') (hk : Kp pb w w') => e8_3 (v := v) C F hp hq h15 w' h' (hk pe _ hp hz))
  have HC := Lib.hid (fun w' (h' : I 3 w') => C.cell _ _ h')
  clear h hz hp hq h15
  refine wpAnyH_ready (rs := [5]) (by kernel_rfl) (by simp) ?_
  refine AllReadyH.cons (o := { dst := some 45, op := Op.call { callee := Callee.value (Operand.tmp 44), args := #[], argTypes := #[] }, type := 9, pos := "trail.go:204", after := #[{ on := 4, ground := Ground.data }, { on := 3, ground := Ground.chain }], guard := none }) rfl (fun K' hK => ?_) AllReadyH.nil
  go_simp
  go_wp2_with (go_at_call 59; (with_reducible refine Hn.out.mono ?_); rintro r w1 ⟨rfl, h1, hk⟩)
  refine hK.out _ _ (HC.out _ h1) (fun _ => ?_)
  refine lst_eq (l := #[true, true, true, true, true, true, false, true, false, true, false, false, true, false, false, false, false, false]) (by kernel_rfl) ?_
  exact HB.out _ h1 hk

set_option maxHeartbeats 1000000 in
set_option maxRecDepth 20000 in
theorem e8_1 (C : C8 pb nb I n0 n1 p2 q2 n3 p4 p5 q4 q5) (F : Hid (F8 v s rb pb nb pe I n0 n1 p2 p4 p5 q2 n3 q4 q5 c T K)) (hp : pe ≠ pb) (hq : pe ≠ nb) (h15 : c.size = 15) (w : World) (h : I 1 w) (hz : w.heap[pe]? = some (.cells c T (0, 0))) : wpAnyH Tryd.prog .any e8ops (Q7 K) (S7 pb nb) 11 #[true, true, true, false, true, false, false, true, false, true, false, false, true, false, false, false, false, false] ⟨#[.string s, v 1, .pointer (some ⟨rb, 0, none⟩), v 3, .pointer (some ⟨pb, 0, none⟩), .pointer (some ⟨nb, 0, none⟩), cloN nb, cloW nb, .pointer (some ⟨pe, 0, none⟩), v 9, v 10, v 11, v 12, v 13, v 14, v 15, v 16, v 17, v 18, v 19, v 20, v 21, v 22, v 23, v 24, v 25, v 26, v 27, v 28, v 29, v 30, v 31, v 32, v 33, v 34, v 35, v 36, v 37, v 38, v 39, cloN nb, .int .i64 n0, cloN nb, v 43, cloV pb, v 45, v 46, cloN nb, v 48, cloV pb, v 50, v 51, cloV pb, v 53, v 54, v 55, v 56, v 57, v 58, v 59, v 60, v 61, v 62, v 63, v 64, v 65, v 66, v 67, v 68, v 69, v 70, v 71, v 72, v 73], []⟩ w := by
  have Hn := Lib.hid (C.c1 _ h)
  have HB := Lib.hid (fun w' (h' : I 2 w') (hk : Kp pb w w') => e8_2 (v := v) C F hp hq h15 w' h' (hk pe _ hp hz))
  have HC := Lib.hid (fun w' (h' : I 2 w') => C.cell _ _ h')
  clear h hz hp hq h15
  refine wpAnyH_ready (rs := [3]) (by kernel_rfl) (by simp) ?_
  refine AllReadyH.cons (o := { dst := some 43, op := Op.call { callee := Callee.value (Operand.tmp 42), args := #[], argTypes := #[] }, type := 3, pos := "trail.go:204", after := #[{ on := 2, ground := Ground.data }, { on := 1, ground := Ground.chain }], guard := none }) rfl (fun K' hK => ?_) AllReadyH.nil
  go_simp
  go_wp2_with (go_at_call 60; (with_reducible refine Hn.out.mono ?_); rintro r w1 ⟨rfl, h1, hk⟩)
  refine hK.out _ _ (HC.out _ h1) (fun _ => ?_)
  refine lst_eq (l := #[true, true, true, true, true, false, false, true, false, true, false, false, true, false, false, false, false, false]) (by kernel_rfl) ?_
  exact HB.out _ h1 hk

set_option maxHeartbeats 1000000 in
set_option maxRecDepth 20000 in
theorem e8_0 (C : C8 pb nb I n0 n1 p2 q2 n3 p4 p5 q4 q5) (F : Hid (F8 v s rb pb nb pe I n0 n1 p2 p4 p5 q2 n3 q4 q5 c T K)) (hp : pe ≠ pb) (hq : pe ≠ nb) (h15 : c.size = 15) (w : World) (h : I 0 w) (hz : w.heap[pe]? = some (.cells c T (0, 0))) : wpAnyH Tryd.prog .any e8ops (Q7 K) (S7 pb nb) 12 #[true, false, true, false, true, false, false, true, false, true, false, false, true, false, false, false, false, false] ⟨#[.string s, v 1, .pointer (some ⟨rb, 0, none⟩), v 3, .pointer (some ⟨pb, 0, none⟩), .pointer (some ⟨nb, 0, none⟩), cloN nb, cloW nb, .pointer (some ⟨pe, 0, none⟩), v 9, v 10, v 11, v 12, v 13, v 14, v 15, v 16, v 17, v 18, v 19, v 20, v 21, v 22, v 23, v 24, v 25, v 26, v 27, v 28, v 29, v 30, v 31, v 32, v 33, v 34, v 35, v 36, v 37, v 38, v 39, cloN nb, v 41, cloN nb, v 43, cloV pb, v 45, v 46, cloN nb, v 48, cloV pb, v 50, v 51, cloV pb, v 53, v 54, v 55, v 56, v 57, v 58, v 59, v 60, v 61, v 62, v 63, v 64, v 65, v 66, v 67, v 68, v 69, v 70, v 71, v 72, v 73], []⟩ w := by
  have Hn := Lib.hid (C.c0 _ h)
  have HB := Lib.hid (fun w' (h' : I 1 w') (hk : Kp pb w w') => e8_1 (v := v) C F hp hq h15 w' h' (hk pe _ hp hz))
  have HC := Lib.hid (fun w' (h' : I 1 w') => C.cell _ _ h')
  clear h hz hp hq h15
  refine wpAnyH_ready (rs := [1]) (by kernel_rfl) (by simp) ?_
  refine AllReadyH.cons (o := { dst := some 41, op := Op.call { callee := Callee.value (Operand.tmp 40), args := #[], argTypes := #[] }, type := 3, pos := "trail.go:204", after := #[{ on := 0, ground := Ground.data }], guard := none }) rfl (fun K' hK => ?_) AllReadyH.nil
  go_simp
  go_wp2_with (go_at_call 60; (with_reducible refine Hn.out.mono ?_); rintro r w1 ⟨rfl, h1, hk⟩)
  refine hK.out _ _ (HC.out _ h1) (fun _ => ?_)
  refine lst_eq (l := #[true, true, true, false, true, false, false, true, false, true, false, false, true, false, false, false, false, false]) (by kernel_rfl) ?_
  exact HB.out _ h1 hk

set_option maxHeartbeats 1000000 in
set_option maxRecDepth 20000 in
theorem e8_run (C : C8 pb nb I n0 n1 p2 q2 n3 p4 p5 q4 q5) (F : Hid (F8 v s rb pb nb pe I n0 n1 p2 p4 p5 q2 n3 q4 q5 c T K)) (hp : pe ≠ pb) (hq : pe ≠ nb) (h15 : c.size = 15) (w : World) (h : I 0 w) (hz : w.heap[pe]? = some (.cells c T (0, 0))) : en8.wp Tryd.prog (Q7 K) ⟨#[.string s, v 1, .pointer (some ⟨rb, 0, none⟩), v 3, .pointer (some ⟨pb, 0, none⟩), .pointer (some ⟨nb, 0, none⟩), cloN nb, cloW nb, .pointer (some ⟨pe, 0, none⟩), v 9, v 10, v 11, v 12, v 13, v 14, v 15, v 16, v 17, v 18, v 19, v 20, v 21, v 22, v 23, v 24, v 25, v 26, v 27, v 28, v 29, v 30, v 31, v 32, v 33, v 34, v 35, v 36, v 37, v 38, v 39, v 40, v 41, v 42, v 43, v 44, v 45, v 46, v 47, v 48, v 49, v 50, v 51, v 52, v 53, v 54, v 55, v 56, v 57, v 58, v 59, v 60, v 61, v 62, v 63, v 64, v 65, v 66, v 67, v 68, v 69, v 70, v 71, v 72, v 73], []⟩ w := by
  have Hc := Lib.hid (C.cell _ _ (C.drew _ _ h))
  have H0 := Lib.hid (e8_0 (v := v) C F hp hq h15 w.drew (C.drew _ _ h) hz)
  clear h hz hp hq
  rw [en8_is]
  refine wp_region_held_drew (S := S7 pb nb) (by kernel_rfl) Hc.out (fun _ => ?_)
  refine wpAnyH_take (i := 0) (oi := { dst := some 40, op := Op.move (Operand.tmp 6), type := 43, pos := "trail.go:204", after := #[], guard := none }) (v := cloN nb) rfl (by kernel_rfl) (by kernel_rfl) (by kernel_rfl) (fun _ _ _ h => h) (Or.inl ⟨by rfl, ?_⟩) Hc.out ?_
  · intro W hS
    go_simp
  simp only [Act.put, List.setIfInBounds_toArray, List.set_cons_zero, List.set_cons_succ]
  refine wpAnyH_take (i := 2) (oi := { dst := some 42, op := Op.move (Operand.tmp 6), type := 43, pos := "trail.go:204", after := #[], guard := none }) (v := cloN nb) rfl (by kernel_rfl) (by kernel_rfl) (by kernel_rfl) (fun _ _ _ h => h) (Or.inl ⟨by rfl, ?_⟩) Hc.out ?_
  · intro W hS
    go_simp
  simp only [Act.put, List.setIfInBounds_toArray, List.set_cons_zero, List.set_cons_succ]
  refine wpAnyH_take (i := 4) (oi := { dst := some 44, op := Op.load 78 (Operand.tmp 5), type := 78, pos := "trail.go:204", after := #[], guard := none }) (v := cloV pb) rfl (by kernel_rfl) (by kernel_rfl) (by kernel_rfl) (fun _ _ _ h => h) (Or.inl ⟨by rfl, ?_⟩) Hc.out ?_
  · intro W hS
    go_simp
  simp only [Act.put, List.setIfInBounds_toArray, List.set_cons_zero, List.set_cons_succ]
  refine wpAnyH_take (i := 7) (oi := { dst := some 47, op := Op.move (Operand.tmp 6), type := 43, pos := "trail.go:204", after := #[], guard := none }) (v := cloN nb) rfl (by kernel_rfl) (by kernel_rfl) (by kernel_rfl) (fun _ _ _ h => h) (Or.inl ⟨by rfl, ?_⟩) Hc.out ?_
  · intro W hS
    go_simp
  simp only [Act.put, List.setIfInBounds_toArray, List.set_cons_zero, List.set_cons_succ]
  refine wpAnyH_take (i := 9) (oi := { dst := some 49, op := Op.load 78 (Operand.tmp 5), type := 78, pos := "trail.go:204", after := #[], guard := none }) (v := cloV pb) rfl (by kernel_rfl) (by kernel_rfl) (by kernel_rfl) (fun _ _ _ h => h) (Or.inl ⟨by rfl, ?_⟩) Hc.out ?_
  · intro W hS
    go_simp
  simp only [Act.put, List.setIfInBounds_toArray, List.set_cons_zero, List.set_cons_succ]
  refine wpAnyH_take (i := 12) (oi := { dst := some 52, op := Op.load 78 (Operand.tmp 5), type := 78, pos := "trail.go:204", after := #[], guard := none }) (v := cloV pb) rfl (by kernel_rfl) (by kernel_rfl) (by kernel_rfl) (fun _ _ _ h => h) (Or.inl ⟨by rfl, ?_⟩) Hc.out ?_
  · intro W hS
    go_simp
  simp only [Act.put, List.setIfInBounds_toArray, List.set_cons_zero, List.set_cons_succ]
  refine lst_eq (l := #[true, false, true, false, true, false, false, true, false, true, false, false, true, false, false, false, false, false]) (by kernel_rfl) ?_
  exact H0.out

end

end Go.Proofs.YthpflfcgnaichaaDoor
