/-
The reference's entry: May, and the answer.
-/
import Derived.Test.YthpflfcgnaichaaDoorTraRefE
import Derived.Test.YthpflfcgnaichaaDoorTraEnt7
set_option linter.unusedVariables false
set_option linter.unusedSimpArgs false
namespace Go.Proofs.YthpflfcgnaichaaDoor
open Go Go.RowKit

def e29ops : Array Oper := #[{ dst := some 95, op := Op.load 32 (Operand.tmp 8), type := 32, pos := "ref.go:244", after := #[], guard := none }, { dst := some 96, op := Op.move (Operand.tmp 7), type := 131, pos := "ref.go:244", after := #[], guard := none }, { dst := some 97, op := Op.nilCheck (Operand.tmp 96), type := 0, pos := "ref.go:244", after := #[{ on := 1, ground := Ground.data }], guard := none }, { dst := some 98, op := Op.fieldAddr 133 (Operand.tmp 97) 2, type := 0, pos := "ref.go:244", after := #[{ on := 2, ground := Ground.data }], guard := none }, { dst := some 99, op := Op.load 4 (Operand.tmp 98), type := 4, pos := "ref.go:244", after := #[{ on := 3, ground := Ground.data }], guard := none }, { dst := some 100, op := Op.unOp UnOp.not 4 (Operand.tmp 99), type := 4, pos := "ref.go:244", after := #[{ on := 4, ground := Ground.data }], guard := none }, { dst := some 101, op := Op.move (Operand.tmp 100), type := 4, pos := "ref.go:244", after := #[{ on := 5, ground := Ground.data }], guard := none }, { dst := some 102, op := Op.move (Operand.tmp 9), type := 4, pos := "ref.go:244", after := #[{ on := 6, ground := Ground.guard }], guard := some (6, true) }, { dst := some 103, op := Op.pick (Operand.tmp 101) (Operand.tmp 102) (Operand.const (Value.bool false)), type := 4, pos := "ref.go:244", after := #[{ on := 6, ground := Ground.data }, { on := 7, ground := Ground.data }], guard := none }, { dst := some 104, op := Op.move (Operand.tmp 103), type := 4, pos := "ref.go:244", after := #[{ on := 8, ground := Ground.data }, { on := 6, ground := Ground.chain }], guard := none }, { dst := some 105, op := Op.fieldAddr 32 (Operand.tmp 8) 0, type := 0, pos := "ref.go:244", after := #[{ on := 9, ground := Ground.guard }, { on := 14, ground := Ground.gcOnly Departure.lateStores }], guard := some (9, true) }, { dst := some 106, op := Op.load 3 (Operand.tmp 105), type := 3, pos := "ref.go:244", after := #[{ on := 10, ground := Ground.data }, { on := 9, ground := Ground.guard }, { on := 14, ground := Ground.gcOnly Departure.lateStores }], guard := some (9, true) }, { dst := some 107, op := Op.binOp BinOp.geq 3 (Operand.tmp 106) (Operand.const (Value.int IntKind.i64 0)) 3, type := 4, pos := "ref.go:244", after := #[{ on := 11, ground := Ground.data }, { on := 9, ground := Ground.guard }, { on := 14, ground := Ground.gcOnly Departure.lateStores }], guard := some (9, true) }, { dst := some 108, op := Op.pick (Operand.tmp 104) (Operand.tmp 107) (Operand.const (Value.bool false)), type := 4, pos := "ref.go:244", after := #[{ on := 9, ground := Ground.data }, { on := 12, ground := Ground.data }, { on := 14, ground := Ground.gcOnly Departure.lateStores }], guard := none }, { dst := none, op := Op.store 32 (Operand.tmp 2) (Operand.tmp 95), type := 0, pos := "ref.go:244", after := #[{ on := 0, ground := Ground.data }, { on := 9, ground := Ground.chain }, { on := 0, ground := Ground.phase }, { on := 1, ground := Ground.textOnly Departure.lateStores }, { on := 2, ground := Ground.textOnly Departure.lateStores }, { on := 3, ground := Ground.textOnly Departure.lateStores }, { on := 4, ground := Ground.textOnly Departure.lateStores }, { on := 5, ground := Ground.textOnly Departure.lateStores }, { on := 6, ground := Ground.textOnly Departure.lateStores }, { on := 7, ground := Ground.textOnly Departure.lateStores }, { on := 8, ground := Ground.textOnly Departure.lateStores }, { on := 9, ground := Ground.textOnly Departure.lateStores }, { on := 10, ground := Ground.textOnly Departure.lateStores }, { on := 11, ground := Ground.textOnly Departure.lateStores }, { on := 12, ground := Ground.textOnly Departure.lateStores }, { on := 13, ground := Ground.textOnly Departure.lateStores }], guard := none }, { dst := some 3, op := Op.assign (Operand.tmp 108), type := 4, pos := "ref.go:244", after := #[{ on := 13, ground := Ground.data }, { on := 14, ground := Ground.chain }, { on := 0, ground := Ground.phase }, { on := 1, ground := Ground.phase }, { on := 2, ground := Ground.phase }, { on := 3, ground := Ground.phase }, { on := 4, ground := Ground.phase }, { on := 5, ground := Ground.phase }, { on := 6, ground := Ground.phase }, { on := 7, ground := Ground.phase }, { on := 8, ground := Ground.phase }, { on := 9, ground := Ground.phase }, { on := 10, ground := Ground.phase }, { on := 11, ground := Ground.phase }, { on := 12, ground := Ground.phase }, { on := 13, ground := Ground.phase }, { on := 14, ground := Ground.phase }], guard := none }]

noncomputable def re16 : Code := (ncl (ncr (ncr (ncr (ncr (ncr (ncr (ncr (ncr (ncr (ncr (ncr (ncr (ncr (ncr (ncr (ncr (ncr (ncr (ncr (ncr (ncr (ncr (ncr (ncx Tryd.f44.body)))))))))))))))))))))))))

theorem re16_is : re16 = Code.region 29 e29ops true := by kernel_rfl

structure S29 (pe rb : Nat) (e : Ent) (bad : Bool) (w : World) : Prop where
  rng : w.rangeAt pe 0 e.cells
  bad : w.cell? ⟨rb, 2, none⟩ = some (.bool bad)
  num : w.cell? ⟨pe, 0, none⟩ = some (.int .i64 e.number)

theorem ent_range2 {w : World} {b : Nat} {e : Ent} (h : w.heap[b]? = some (EO2 e)) : w.rangeAt b 0 e.cells := fun j v hv => by
  rw [cell_blk h (0 + j), Nat.zero_add, List.getElem?_toArray]
  exact hv

theorem ent_size2 (e : Ent) : (Tryd.prog.info? 32).map (·.size) = some e.cells.length := by
  show _ = some 15
  kernel_rfl

section
variable {v : Nat → Value} {w0 w : World} {zb rb g pe c : Nat} {ps : List ByteArray} {e : Ent} {bad : Bool} {K : Act → World → Prop} {Q : Exit → Act → World → Prop} {a : Act}

set_option maxHeartbeats 2000000 in
set_option maxRecDepth 20000 in
theorem e29_a {nb : Bool} {m : Bool} (hS : S29 pe rb e true w) (hp : zb ≠ pe) (hq : zb ≠ rb) (ht : w.there zb 0 15) (hK : K ⟨#[v 0, v 1, .pointer (some ⟨zb, 0, none⟩), .bool false, v 4, v 5, v 6, .pointer (some ⟨rb, 0, none⟩), .pointer (some ⟨pe, 0, none⟩), .bool m, v 10, v 11, v 12, v 13, v 14, v 15, v 16, v 17, v 18, v 19, v 20, v 21, v 22, v 23, v 24, v 25, v 26, v 27, v 28, v 29, v 30, v 31, v 32, v 33, v 34, v 35, v 36, v 37, v 38, v 39, v 40, v 41, v 42, v 43, v 44, v 45, v 46, v 47, v 48, v 49, v 50, v 51, v 52, v 53, v 54, v 55, v 56, v 57, v 58, v 59, v 60, v 61, v 62, v 63, v 64, v 65, v 66, v 67, v 68, v 69, v 70, v 71, v 72, v 73, v 74, v 75, v 76, v 77, v 78, v 79, v 80, v 81, v 82, v 83, v 84, v 85, v 86, v 87, v 88, v 89, v 90, v 91, v 92, v 93, v 94, .agg #[.int .i64 e.number, .int .i64 e.version, .int .i64 e.epoch, .string e.method, .string e.host, .string e.path, .int .u64 (e.a : Int), .int .u64 (e.b : Int), .int .i64 e.kind, .int .i64 e.status, .string e.route, .int .i64 e.rule, .string e.service, .string e.endp, .int .i64 e.fin], .pointer (some ⟨rb, 0, none⟩), .pointer (some ⟨rb, 0, none⟩), .pointer (some ⟨rb, 2, none⟩), .bool true, .bool false, .bool false, undef, .bool false, .bool false, undef, undef, undef, .bool false], []⟩ (w.drew.setCells zb 0 e.cells)) : re16.wp Tryd.prog (Exit.then K fun _ _ _ => False) ⟨#[v 0, v 1, .pointer (some ⟨zb, 0, none⟩), v 3, v 4, v 5, v 6, .pointer (some ⟨rb, 0, none⟩), .pointer (some ⟨pe, 0, none⟩), .bool m, v 10, v 11, v 12, v 13, v 14, v 15, v 16, v 17, v 18, v 19, v 20, v 21, v 22, v 23, v 24, v 25, v 26, v 27, v 28, v 29, v 30, v 31, v 32, v 33, v 34, v 35, v 36, v 37, v 38, v 39, v 40, v 41, v 42, v 43, v 44, v 45, v 46, v 47, v 48, v 49, v 50, v 51, v 52, v 53, v 54, v 55, v 56, v 57, v 58, v 59, v 60, v 61, v 62, v 63, v 64, v 65, v 66, v 67, v 68, v 69, v 70, v 71, v 72, v 73, v 74, v 75, v 76, v 77, v 78, v 79, v 80, v 81, v 82, v 83, v 84, v 85, v 86, v 87, v 88, v 89, v 90, v 91, v 92, v 93, v 94, v 95, v 96, v 97, v 98, v 99, v 100, v 101, v 102, v 103, v 104, v 105, v 106, v 107, v 108], []⟩ w := by
  have Hc : S29 pe rb e true w.drew := ⟨by simpa using hS.rng, by simpa using hS.bad, by simpa using hS.num⟩
  have HS := Lib.hid (show S29 pe rb e true (w.drew.setCells zb 0 e.cells) from ⟨World.rangeAt_setCells_apart Hc.rng _ _ _ (Or.inl (fun q => hp q.symm)), (World.cell?_setCells_out zb _ 0 _ ⟨rb, 2, none⟩ (fun hb _ => absurd hb.symm hq)).trans Hc.bad, (World.cell?_setCells_out zb _ 0 _ ⟨pe, 0, none⟩ (fun hb _ => absurd hb.symm hp)).trans Hc.num⟩)
  have Ht : w.drew.there zb 0 15 := by simpa using ht
  have HK := Lib.hid hK
  have HC := Lib.hid Hc
  clear hS hp hq ht hK Hc
  rw [re16_is]
  refine wp_region_held_drew (S := S29 pe rb e true) (by kernel_rfl) HC.out (fun _ => ?_)
  refine wpAnyH_take (i := 0) (oi := { dst := some 95, op := Op.load 32 (Operand.tmp 8), type := 32, pos := "ref.go:244", after := #[], guard := none }) (v := .agg e.cells.toArray) rfl (by kernel_rfl) (by kernel_rfl) (by kernel_rfl) (fun _ _ _ h => h) (yieldsIf_load_mid (by rfl) 32 _ rfl pe 0 rfl e.cells _ (fun W hW => hW.rng) Tryd.underlying32 rfl (ent_size2 e)) HC.out ?_
  simp only [Act.put, List.setIfInBounds_toArray, List.set_cons_zero, List.set_cons_succ]
  refine wpAnyH_take (i := 1) (oi := { dst := some 96, op := Op.move (Operand.tmp 7), type := 131, pos := "ref.go:244", after := #[], guard := none }) (v := .pointer (some ⟨rb, 0, none⟩)) rfl (by kernel_rfl) (by kernel_rfl) (by kernel_rfl) (fun _ _ _ h => h) (Or.inl ⟨by rfl, ?_⟩) HC.out ?_
  · intro W hS
    obtain ⟨hS1, hS2, hS3⟩ := hS
    clear hS1 HC HS HK Ht
    go_simp
  simp only [Act.put, List.setIfInBounds_toArray, List.set_cons_zero, List.set_cons_succ]
  refine wpAnyH_take (i := 2) (oi := { dst := some 97, op := Op.nilCheck (Operand.tmp 96), type := 0, pos := "ref.go:244", after := #[{ on := 1, ground := Ground.data }], guard := none }) (v := .pointer (some ⟨rb, 0, none⟩)) rfl (by kernel_rfl) (by kernel_rfl) (by kernel_rfl) (fun _ _ _ h => h) (Or.inl ⟨by rfl, ?_⟩) HC.out ?_
  · intro W hS
    obtain ⟨hS1, hS2, hS3⟩ := hS
    clear hS1 HC HS HK Ht
    go_simp
  simp only [Act.put, List.setIfInBounds_toArray, List.set_cons_zero, List.set_cons_succ]
  refine wpAnyH_take (i := 3) (oi := { dst := some 98, op := Op.fieldAddr 133 (Operand.tmp 97) 2, type := 0, pos := "ref.go:244", after := #[{ on := 2, ground := Ground.data }], guard := none }) (v := .pointer (some ⟨rb, 2, none⟩)) rfl (by kernel_rfl) (by kernel_rfl) (by kernel_rfl) (fun _ _ _ h => h) (Or.inl ⟨by rfl, ?_⟩) HC.out ?_
  · intro W hS
    obtain ⟨hS1, hS2, hS3⟩ := hS
    clear hS1 HC HS HK Ht
    go_simp
  simp only [Act.put, List.setIfInBounds_toArray, List.set_cons_zero, List.set_cons_succ]
  refine wpAnyH_take (i := 4) (oi := { dst := some 99, op := Op.load 4 (Operand.tmp 98), type := 4, pos := "ref.go:244", after := #[{ on := 3, ground := Ground.data }], guard := none }) (v := .bool true) rfl (by kernel_rfl) (by kernel_rfl) (by kernel_rfl) (fun _ _ _ h => h) (Or.inl ⟨by rfl, ?_⟩) HC.out ?_
  · intro W hS
    obtain ⟨hS1, hS2, hS3⟩ := hS
    clear hS1 HC HS HK Ht
    go_simp
  simp only [Act.put, List.setIfInBounds_toArray, List.set_cons_zero, List.set_cons_succ]
  refine wpAnyH_take (i := 5) (oi := { dst := some 100, op := Op.unOp UnOp.not 4 (Operand.tmp 99), type := 4, pos := "ref.go:244", after := #[{ on := 4, ground := Ground.data }], guard := none }) (v := .bool false) rfl (by kernel_rfl) (by kernel_rfl) (by kernel_rfl) (fun _ _ _ h => h) (Or.inl ⟨by rfl, ?_⟩) HC.out ?_
  · intro W hS
    obtain ⟨hS1, hS2, hS3⟩ := hS
    clear hS1 HC HS HK Ht
    go_simp
  simp only [Act.put, List.setIfInBounds_toArray, List.set_cons_zero, List.set_cons_succ]
  refine wpAnyH_take (i := 6) (oi := { dst := some 101, op := Op.move (Operand.tmp 100), type := 4, pos := "ref.go:244", after := #[{ on := 5, ground := Ground.data }], guard := none }) (v := .bool false) rfl (by kernel_rfl) (by kernel_rfl) (by kernel_rfl) (fun _ _ _ h => h) (Or.inl ⟨by rfl, ?_⟩) HC.out ?_
  · intro W hS
    obtain ⟨hS1, hS2, hS3⟩ := hS
    clear hS1 HC HS HK Ht
    go_simp
  simp only [Act.put, List.setIfInBounds_toArray, List.set_cons_zero, List.set_cons_succ]
  refine wpAnyH_take (i := 7) (oi := { dst := some 102, op := Op.move (Operand.tmp 9), type := 4, pos := "ref.go:244", after := #[{ on := 6, ground := Ground.guard }], guard := some (6, true) }) (v := undef) rfl (by kernel_rfl) (by kernel_rfl) (by kernel_rfl) (fun _ _ _ h => h) (Or.inr ⟨by rfl, rfl⟩) HC.out ?_
  simp only [Act.put, List.setIfInBounds_toArray, List.set_cons_zero, List.set_cons_succ]
  refine wpAnyH_take (i := 8) (oi := { dst := some 103, op := Op.pick (Operand.tmp 101) (Operand.tmp 102) (Operand.const (Value.bool false)), type := 4, pos := "ref.go:244", after := #[{ on := 6, ground := Ground.data }, { on := 7, ground := Ground.data }], guard := none }) (v := .bool false) rfl (by kernel_rfl) (by kernel_rfl) (by kernel_rfl) (fun _ _ _ h => h) (Or.inl ⟨by rfl, ?_⟩) HC.out ?_
  · intro W hS
    obtain ⟨hS1, hS2, hS3⟩ := hS
    clear hS1 HC HS HK Ht
    go_simp
  simp only [Act.put, List.setIfInBounds_toArray, List.set_cons_zero, List.set_cons_succ]
  refine wpAnyH_take (i := 9) (oi := { dst := some 104, op := Op.move (Operand.tmp 103), type := 4, pos := "ref.go:244", after := #[{ on := 8, ground := Ground.data }, { on := 6, ground := Ground.chain }], guard := none }) (v := .bool false) rfl (by kernel_rfl) (by kernel_rfl) (by kernel_rfl) (fun _ _ _ h => h) (Or.inl ⟨by rfl, ?_⟩) HC.out ?_
  · intro W hS
    obtain ⟨hS1, hS2, hS3⟩ := hS
    clear hS1 HC HS HK Ht
    go_simp
  simp only [Act.put, List.setIfInBounds_toArray, List.set_cons_zero, List.set_cons_succ]
  refine wpAnyH_take (i := 10) (oi := { dst := some 105, op := Op.fieldAddr 32 (Operand.tmp 8) 0, type := 0, pos := "ref.go:244", after := #[{ on := 9, ground := Ground.guard }, { on := 14, ground := Ground.gcOnly Departure.lateStores }], guard := some (9, true) }) (v := undef) rfl (by kernel_rfl) (by kernel_rfl) (by kernel_rfl) (fun _ _ _ h => h) (Or.inr ⟨by rfl, rfl⟩) HC.out ?_
  simp only [Act.put, List.setIfInBounds_toArray, List.set_cons_zero, List.set_cons_succ]
  refine wpAnyH_take (i := 11) (oi := { dst := some 106, op := Op.load 3 (Operand.tmp 105), type := 3, pos := "ref.go:244", after := #[{ on := 10, ground := Ground.data }, { on := 9, ground := Ground.guard }, { on := 14, ground := Ground.gcOnly Departure.lateStores }], guard := some (9, true) }) (v := undef) rfl (by kernel_rfl) (by kernel_rfl) (by kernel_rfl) (fun _ _ _ h => h) (Or.inr ⟨by rfl, rfl⟩) HC.out ?_
  simp only [Act.put, List.setIfInBounds_toArray, List.set_cons_zero, List.set_cons_succ]
  refine wpAnyH_take (i := 12) (oi := { dst := some 107, op := Op.binOp BinOp.geq 3 (Operand.tmp 106) (Operand.const (Value.int IntKind.i64 0)) 3, type := 4, pos := "ref.go:244", after := #[{ on := 11, ground := Ground.data }, { on := 9, ground := Ground.guard }, { on := 14, ground := Ground.gcOnly Departure.lateStores }], guard := some (9, true) }) (v := undef) rfl (by kernel_rfl) (by kernel_rfl) (by kernel_rfl) (fun _ _ _ h => h) (Or.inr ⟨by rfl, rfl⟩) HC.out ?_
  simp only [Act.put, List.setIfInBounds_toArray, List.set_cons_zero, List.set_cons_succ]
  refine wpAnyH_take (i := 13) (oi := { dst := some 108, op := Op.pick (Operand.tmp 104) (Operand.tmp 107) (Operand.const (Value.bool false)), type := 4, pos := "ref.go:244", after := #[{ on := 9, ground := Ground.data }, { on := 12, ground := Ground.data }, { on := 14, ground := Ground.gcOnly Departure.lateStores }], guard := none }) (v := .bool false) rfl (by kernel_rfl) (by kernel_rfl) (by kernel_rfl) (fun _ _ _ h => h) (Or.inl ⟨by rfl, ?_⟩) HC.out ?_
  · intro W hS
    obtain ⟨hS1, hS2, hS3⟩ := hS
    clear hS1 HC HS HK Ht
    go_simp
  simp only [Act.put, List.setIfInBounds_toArray, List.set_cons_zero, List.set_cons_succ]
  refine wpAnyH_ready (rs := [14]) (by kernel_rfl) (by simp) ?_
  refine AllReadyH.cons (o := { dst := none, op := Op.store 32 (Operand.tmp 2) (Operand.tmp 95), type := 0, pos := "ref.go:244", after := #[{ on := 0, ground := Ground.data }, { on := 9, ground := Ground.chain }, { on := 0, ground := Ground.phase }, { on := 1, ground := Ground.textOnly Departure.lateStores }, { on := 2, ground := Ground.textOnly Departure.lateStores }, { on := 3, ground := Ground.textOnly Departure.lateStores }, { on := 4, ground := Ground.textOnly Departure.lateStores }, { on := 5, ground := Ground.textOnly Departure.lateStores }, { on := 6, ground := Ground.textOnly Departure.lateStores }, { on := 7, ground := Ground.textOnly Departure.lateStores }, { on := 8, ground := Ground.textOnly Departure.lateStores }, { on := 9, ground := Ground.textOnly Departure.lateStores }, { on := 10, ground := Ground.textOnly Departure.lateStores }, { on := 11, ground := Ground.textOnly Departure.lateStores }, { on := 12, ground := Ground.textOnly Departure.lateStores }, { on := 13, ground := Ground.textOnly Departure.lateStores }], guard := none }) rfl (fun K' hK => ?_) AllReadyH.nil
  rw [if_pos (by rfl)]
  refine wp_store_mid _ _ _ rfl zb 0 e.cells.toArray rfl rfl Ht (by exact ent_size2 e) (by rw [← Array.all_toList]; rfl) ?_
  refine hK.out _ _ HS.out (fun _ => ?_)
  simp only [Act.put]
  refine wpAnyH_take (i := 15) (oi := { dst := some 3, op := Op.assign (Operand.tmp 108), type := 4, pos := "ref.go:244", after := #[{ on := 13, ground := Ground.data }, { on := 14, ground := Ground.chain }, { on := 0, ground := Ground.phase }, { on := 1, ground := Ground.phase }, { on := 2, ground := Ground.phase }, { on := 3, ground := Ground.phase }, { on := 4, ground := Ground.phase }, { on := 5, ground := Ground.phase }, { on := 6, ground := Ground.phase }, { on := 7, ground := Ground.phase }, { on := 8, ground := Ground.phase }, { on := 9, ground := Ground.phase }, { on := 10, ground := Ground.phase }, { on := 11, ground := Ground.phase }, { on := 12, ground := Ground.phase }, { on := 13, ground := Ground.phase }, { on := 14, ground := Ground.phase }], guard := none }) (v := .bool false) rfl (by kernel_rfl) (by kernel_rfl) (by kernel_rfl) (fun _ _ _ h => h) (Or.inl ⟨by rfl, ?_⟩) HS.out ?_
  · intro W hS
    clear HC HS HK Ht
    go_simp
  simp only [Act.put, List.setIfInBounds_toArray, List.set_cons_zero, List.set_cons_succ]
  refine wpAnyH_done (by kernel_rfl) ?_ _
  exact HK.out

set_option maxHeartbeats 2000000 in
set_option maxRecDepth 20000 in
theorem e29_b {nb : Bool} (hS : S29 pe rb e false w) (hp : zb ≠ pe) (hq : zb ≠ rb) (ht : w.there zb 0 15) (hK : K ⟨#[v 0, v 1, .pointer (some ⟨zb, 0, none⟩), .bool false, v 4, v 5, v 6, .pointer (some ⟨rb, 0, none⟩), .pointer (some ⟨pe, 0, none⟩), .bool false, v 10, v 11, v 12, v 13, v 14, v 15, v 16, v 17, v 18, v 19, v 20, v 21, v 22, v 23, v 24, v 25, v 26, v 27, v 28, v 29, v 30, v 31, v 32, v 33, v 34, v 35, v 36, v 37, v 38, v 39, v 40, v 41, v 42, v 43, v 44, v 45, v 46, v 47, v 48, v 49, v 50, v 51, v 52, v 53, v 54, v 55, v 56, v 57, v 58, v 59, v 60, v 61, v 62, v 63, v 64, v 65, v 66, v 67, v 68, v 69, v 70, v 71, v 72, v 73, v 74, v 75, v 76, v 77, v 78, v 79, v 80, v 81, v 82, v 83, v 84, v 85, v 86, v 87, v 88, v 89, v 90, v 91, v 92, v 93, v 94, .agg #[.int .i64 e.number, .int .i64 e.version, .int .i64 e.epoch, .string e.method, .string e.host, .string e.path, .int .u64 (e.a : Int), .int .u64 (e.b : Int), .int .i64 e.kind, .int .i64 e.status, .string e.route, .int .i64 e.rule, .string e.service, .string e.endp, .int .i64 e.fin], .pointer (some ⟨rb, 0, none⟩), .pointer (some ⟨rb, 0, none⟩), .pointer (some ⟨rb, 2, none⟩), .bool false, .bool true, .bool true, .bool false, .bool false, .bool false, undef, undef, undef, .bool false], []⟩ (w.drew.setCells zb 0 e.cells)) : re16.wp Tryd.prog (Exit.then K fun _ _ _ => False) ⟨#[v 0, v 1, .pointer (some ⟨zb, 0, none⟩), v 3, v 4, v 5, v 6, .pointer (some ⟨rb, 0, none⟩), .pointer (some ⟨pe, 0, none⟩), .bool false, v 10, v 11, v 12, v 13, v 14, v 15, v 16, v 17, v 18, v 19, v 20, v 21, v 22, v 23, v 24, v 25, v 26, v 27, v 28, v 29, v 30, v 31, v 32, v 33, v 34, v 35, v 36, v 37, v 38, v 39, v 40, v 41, v 42, v 43, v 44, v 45, v 46, v 47, v 48, v 49, v 50, v 51, v 52, v 53, v 54, v 55, v 56, v 57, v 58, v 59, v 60, v 61, v 62, v 63, v 64, v 65, v 66, v 67, v 68, v 69, v 70, v 71, v 72, v 73, v 74, v 75, v 76, v 77, v 78, v 79, v 80, v 81, v 82, v 83, v 84, v 85, v 86, v 87, v 88, v 89, v 90, v 91, v 92, v 93, v 94, v 95, v 96, v 97, v 98, v 99, v 100, v 101, v 102, v 103, v 104, v 105, v 106, v 107, v 108], []⟩ w := by
  have Hc : S29 pe rb e false w.drew := ⟨by simpa using hS.rng, by simpa using hS.bad, by simpa using hS.num⟩
  have HS := Lib.hid (show S29 pe rb e false (w.drew.setCells zb 0 e.cells) from ⟨World.rangeAt_setCells_apart Hc.rng _ _ _ (Or.inl (fun q => hp q.symm)), (World.cell?_setCells_out zb _ 0 _ ⟨rb, 2, none⟩ (fun hb _ => absurd hb.symm hq)).trans Hc.bad, (World.cell?_setCells_out zb _ 0 _ ⟨pe, 0, none⟩ (fun hb _ => absurd hb.symm hp)).trans Hc.num⟩)
  have Ht : w.drew.there zb 0 15 := by simpa using ht
  have HK := Lib.hid hK
  have HC := Lib.hid Hc
  clear hS hp hq ht hK Hc
  rw [re16_is]
  refine wp_region_held_drew (S := S29 pe rb e false) (by kernel_rfl) HC.out (fun _ => ?_)
  refine wpAnyH_take (i := 0) (oi := { dst := some 95, op := Op.load 32 (Operand.tmp 8), type := 32, pos := "ref.go:244", after := #[], guard := none }) (v := .agg e.cells.toArray) rfl (by kernel_rfl) (by kernel_rfl) (by kernel_rfl) (fun _ _ _ h => h) (yieldsIf_load_mid (by rfl) 32 _ rfl pe 0 rfl e.cells _ (fun W hW => hW.rng) Tryd.underlying32 rfl (ent_size2 e)) HC.out ?_
  simp only [Act.put, List.setIfInBounds_toArray, List.set_cons_zero, List.set_cons_succ]
  refine wpAnyH_take (i := 1) (oi := { dst := some 96, op := Op.move (Operand.tmp 7), type := 131, pos := "ref.go:244", after := #[], guard := none }) (v := .pointer (some ⟨rb, 0, none⟩)) rfl (by kernel_rfl) (by kernel_rfl) (by kernel_rfl) (fun _ _ _ h => h) (Or.inl ⟨by rfl, ?_⟩) HC.out ?_
  · intro W hS
    obtain ⟨hS1, hS2, hS3⟩ := hS
    clear hS1 HC HS HK Ht
    go_simp
  simp only [Act.put, List.setIfInBounds_toArray, List.set_cons_zero, List.set_cons_succ]
  refine wpAnyH_take (i := 2) (oi := { dst := some 97, op := Op.nilCheck (Operand.tmp 96), type := 0, pos := "ref.go:244", after := #[{ on := 1, ground := Ground.data }], guard := none }) (v := .pointer (some ⟨rb, 0, none⟩)) rfl (by kernel_rfl) (by kernel_rfl) (by kernel_rfl) (fun _ _ _ h => h) (Or.inl ⟨by rfl, ?_⟩) HC.out ?_
  · intro W hS
    obtain ⟨hS1, hS2, hS3⟩ := hS
    clear hS1 HC HS HK Ht
    go_simp
  simp only [Act.put, List.setIfInBounds_toArray, List.set_cons_zero, List.set_cons_succ]
  refine wpAnyH_take (i := 3) (oi := { dst := some 98, op := Op.fieldAddr 133 (Operand.tmp 97) 2, type := 0, pos := "ref.go:244", after := #[{ on := 2, ground := Ground.data }], guard := none }) (v := .pointer (some ⟨rb, 2, none⟩)) rfl (by kernel_rfl) (by kernel_rfl) (by kernel_rfl) (fun _ _ _ h => h) (Or.inl ⟨by rfl, ?_⟩) HC.out ?_
  · intro W hS
    obtain ⟨hS1, hS2, hS3⟩ := hS
    clear hS1 HC HS HK Ht
    go_simp
  simp only [Act.put, List.setIfInBounds_toArray, List.set_cons_zero, List.set_cons_succ]
  refine wpAnyH_take (i := 4) (oi := { dst := some 99, op := Op.load 4 (Operand.tmp 98), type := 4, pos := "ref.go:244", after := #[{ on := 3, ground := Ground.data }], guard := none }) (v := .bool false) rfl (by kernel_rfl) (by kernel_rfl) (by kernel_rfl) (fun _ _ _ h => h) (Or.inl ⟨by rfl, ?_⟩) HC.out ?_
  · intro W hS
    obtain ⟨hS1, hS2, hS3⟩ := hS
    clear hS1 HC HS HK Ht
    go_simp
  simp only [Act.put, List.setIfInBounds_toArray, List.set_cons_zero, List.set_cons_succ]
  refine wpAnyH_take (i := 5) (oi := { dst := some 100, op := Op.unOp UnOp.not 4 (Operand.tmp 99), type := 4, pos := "ref.go:244", after := #[{ on := 4, ground := Ground.data }], guard := none }) (v := .bool true) rfl (by kernel_rfl) (by kernel_rfl) (by kernel_rfl) (fun _ _ _ h => h) (Or.inl ⟨by rfl, ?_⟩) HC.out ?_
  · intro W hS
    obtain ⟨hS1, hS2, hS3⟩ := hS
    clear hS1 HC HS HK Ht
    go_simp
  simp only [Act.put, List.setIfInBounds_toArray, List.set_cons_zero, List.set_cons_succ]
  refine wpAnyH_take (i := 6) (oi := { dst := some 101, op := Op.move (Operand.tmp 100), type := 4, pos := "ref.go:244", after := #[{ on := 5, ground := Ground.data }], guard := none }) (v := .bool true) rfl (by kernel_rfl) (by kernel_rfl) (by kernel_rfl) (fun _ _ _ h => h) (Or.inl ⟨by rfl, ?_⟩) HC.out ?_
  · intro W hS
    obtain ⟨hS1, hS2, hS3⟩ := hS
    clear hS1 HC HS HK Ht
    go_simp
  simp only [Act.put, List.setIfInBounds_toArray, List.set_cons_zero, List.set_cons_succ]
  refine wpAnyH_take (i := 7) (oi := { dst := some 102, op := Op.move (Operand.tmp 9), type := 4, pos := "ref.go:244", after := #[{ on := 6, ground := Ground.guard }], guard := some (6, true) }) (v := .bool false) rfl (by kernel_rfl) (by kernel_rfl) (by kernel_rfl) (fun _ _ _ h => h) (Or.inl ⟨by rfl, ?_⟩) HC.out ?_
  · intro W hS
    obtain ⟨hS1, hS2, hS3⟩ := hS
    clear hS1 HC HS HK Ht
    go_simp
  simp only [Act.put, List.setIfInBounds_toArray, List.set_cons_zero, List.set_cons_succ]
  refine wpAnyH_take (i := 8) (oi := { dst := some 103, op := Op.pick (Operand.tmp 101) (Operand.tmp 102) (Operand.const (Value.bool false)), type := 4, pos := "ref.go:244", after := #[{ on := 6, ground := Ground.data }, { on := 7, ground := Ground.data }], guard := none }) (v := .bool false) rfl (by kernel_rfl) (by kernel_rfl) (by kernel_rfl) (fun _ _ _ h => h) (Or.inl ⟨by rfl, ?_⟩) HC.out ?_
  · intro W hS
    obtain ⟨hS1, hS2, hS3⟩ := hS
    clear hS1 HC HS HK Ht
    go_simp
  simp only [Act.put, List.setIfInBounds_toArray, List.set_cons_zero, List.set_cons_succ]
  refine wpAnyH_take (i := 9) (oi := { dst := some 104, op := Op.move (Operand.tmp 103), type := 4, pos := "ref.go:244", after := #[{ on := 8, ground := Ground.data }, { on := 6, ground := Ground.chain }], guard := none }) (v := .bool false) rfl (by kernel_rfl) (by kernel_rfl) (by kernel_rfl) (fun _ _ _ h => h) (Or.inl ⟨by rfl, ?_⟩) HC.out ?_
  · intro W hS
    obtain ⟨hS1, hS2, hS3⟩ := hS
    clear hS1 HC HS HK Ht
    go_simp
  simp only [Act.put, List.setIfInBounds_toArray, List.set_cons_zero, List.set_cons_succ]
  refine wpAnyH_take (i := 10) (oi := { dst := some 105, op := Op.fieldAddr 32 (Operand.tmp 8) 0, type := 0, pos := "ref.go:244", after := #[{ on := 9, ground := Ground.guard }, { on := 14, ground := Ground.gcOnly Departure.lateStores }], guard := some (9, true) }) (v := undef) rfl (by kernel_rfl) (by kernel_rfl) (by kernel_rfl) (fun _ _ _ h => h) (Or.inr ⟨by rfl, rfl⟩) HC.out ?_
  simp only [Act.put, List.setIfInBounds_toArray, List.set_cons_zero, List.set_cons_succ]
  refine wpAnyH_take (i := 11) (oi := { dst := some 106, op := Op.load 3 (Operand.tmp 105), type := 3, pos := "ref.go:244", after := #[{ on := 10, ground := Ground.data }, { on := 9, ground := Ground.guard }, { on := 14, ground := Ground.gcOnly Departure.lateStores }], guard := some (9, true) }) (v := undef) rfl (by kernel_rfl) (by kernel_rfl) (by kernel_rfl) (fun _ _ _ h => h) (Or.inr ⟨by rfl, rfl⟩) HC.out ?_
  simp only [Act.put, List.setIfInBounds_toArray, List.set_cons_zero, List.set_cons_succ]
  refine wpAnyH_take (i := 12) (oi := { dst := some 107, op := Op.binOp BinOp.geq 3 (Operand.tmp 106) (Operand.const (Value.int IntKind.i64 0)) 3, type := 4, pos := "ref.go:244", after := #[{ on := 11, ground := Ground.data }, { on := 9, ground := Ground.guard }, { on := 14, ground := Ground.gcOnly Departure.lateStores }], guard := some (9, true) }) (v := undef) rfl (by kernel_rfl) (by kernel_rfl) (by kernel_rfl) (fun _ _ _ h => h) (Or.inr ⟨by rfl, rfl⟩) HC.out ?_
  simp only [Act.put, List.setIfInBounds_toArray, List.set_cons_zero, List.set_cons_succ]
  refine wpAnyH_take (i := 13) (oi := { dst := some 108, op := Op.pick (Operand.tmp 104) (Operand.tmp 107) (Operand.const (Value.bool false)), type := 4, pos := "ref.go:244", after := #[{ on := 9, ground := Ground.data }, { on := 12, ground := Ground.data }, { on := 14, ground := Ground.gcOnly Departure.lateStores }], guard := none }) (v := .bool false) rfl (by kernel_rfl) (by kernel_rfl) (by kernel_rfl) (fun _ _ _ h => h) (Or.inl ⟨by rfl, ?_⟩) HC.out ?_
  · intro W hS
    obtain ⟨hS1, hS2, hS3⟩ := hS
    clear hS1 HC HS HK Ht
    go_simp
  simp only [Act.put, List.setIfInBounds_toArray, List.set_cons_zero, List.set_cons_succ]
  refine wpAnyH_ready (rs := [14]) (by kernel_rfl) (by simp) ?_
  refine AllReadyH.cons (o := { dst := none, op := Op.store 32 (Operand.tmp 2) (Operand.tmp 95), type := 0, pos := "ref.go:244", after := #[{ on := 0, ground := Ground.data }, { on := 9, ground := Ground.chain }, { on := 0, ground := Ground.phase }, { on := 1, ground := Ground.textOnly Departure.lateStores }, { on := 2, ground := Ground.textOnly Departure.lateStores }, { on := 3, ground := Ground.textOnly Departure.lateStores }, { on := 4, ground := Ground.textOnly Departure.lateStores }, { on := 5, ground := Ground.textOnly Departure.lateStores }, { on := 6, ground := Ground.textOnly Departure.lateStores }, { on := 7, ground := Ground.textOnly Departure.lateStores }, { on := 8, ground := Ground.textOnly Departure.lateStores }, { on := 9, ground := Ground.textOnly Departure.lateStores }, { on := 10, ground := Ground.textOnly Departure.lateStores }, { on := 11, ground := Ground.textOnly Departure.lateStores }, { on := 12, ground := Ground.textOnly Departure.lateStores }, { on := 13, ground := Ground.textOnly Departure.lateStores }], guard := none }) rfl (fun K' hK => ?_) AllReadyH.nil
  rw [if_pos (by rfl)]
  refine wp_store_mid _ _ _ rfl zb 0 e.cells.toArray rfl rfl Ht (by exact ent_size2 e) (by rw [← Array.all_toList]; rfl) ?_
  refine hK.out _ _ HS.out (fun _ => ?_)
  simp only [Act.put]
  refine wpAnyH_take (i := 15) (oi := { dst := some 3, op := Op.assign (Operand.tmp 108), type := 4, pos := "ref.go:244", after := #[{ on := 13, ground := Ground.data }, { on := 14, ground := Ground.chain }, { on := 0, ground := Ground.phase }, { on := 1, ground := Ground.phase }, { on := 2, ground := Ground.phase }, { on := 3, ground := Ground.phase }, { on := 4, ground := Ground.phase }, { on := 5, ground := Ground.phase }, { on := 6, ground := Ground.phase }, { on := 7, ground := Ground.phase }, { on := 8, ground := Ground.phase }, { on := 9, ground := Ground.phase }, { on := 10, ground := Ground.phase }, { on := 11, ground := Ground.phase }, { on := 12, ground := Ground.phase }, { on := 13, ground := Ground.phase }, { on := 14, ground := Ground.phase }], guard := none }) (v := .bool false) rfl (by kernel_rfl) (by kernel_rfl) (by kernel_rfl) (fun _ _ _ h => h) (Or.inl ⟨by rfl, ?_⟩) HS.out ?_
  · intro W hS
    clear HC HS HK Ht
    go_simp
  simp only [Act.put, List.setIfInBounds_toArray, List.set_cons_zero, List.set_cons_succ]
  refine wpAnyH_done (by kernel_rfl) ?_ _
  exact HK.out

set_option maxHeartbeats 2000000 in
set_option maxRecDepth 20000 in
theorem e29_c {nb : Bool} (hnb : decide (0 ≤ e.number) = nb) (hS : S29 pe rb e false w) (hp : zb ≠ pe) (hq : zb ≠ rb) (ht : w.there zb 0 15) (hK : K ⟨#[v 0, v 1, .pointer (some ⟨zb, 0, none⟩), .bool nb, v 4, v 5, v 6, .pointer (some ⟨rb, 0, none⟩), .pointer (some ⟨pe, 0, none⟩), .bool true, v 10, v 11, v 12, v 13, v 14, v 15, v 16, v 17, v 18, v 19, v 20, v 21, v 22, v 23, v 24, v 25, v 26, v 27, v 28, v 29, v 30, v 31, v 32, v 33, v 34, v 35, v 36, v 37, v 38, v 39, v 40, v 41, v 42, v 43, v 44, v 45, v 46, v 47, v 48, v 49, v 50, v 51, v 52, v 53, v 54, v 55, v 56, v 57, v 58, v 59, v 60, v 61, v 62, v 63, v 64, v 65, v 66, v 67, v 68, v 69, v 70, v 71, v 72, v 73, v 74, v 75, v 76, v 77, v 78, v 79, v 80, v 81, v 82, v 83, v 84, v 85, v 86, v 87, v 88, v 89, v 90, v 91, v 92, v 93, v 94, .agg #[.int .i64 e.number, .int .i64 e.version, .int .i64 e.epoch, .string e.method, .string e.host, .string e.path, .int .u64 (e.a : Int), .int .u64 (e.b : Int), .int .i64 e.kind, .int .i64 e.status, .string e.route, .int .i64 e.rule, .string e.service, .string e.endp, .int .i64 e.fin], .pointer (some ⟨rb, 0, none⟩), .pointer (some ⟨rb, 0, none⟩), .pointer (some ⟨rb, 2, none⟩), .bool false, .bool true, .bool true, .bool true, .bool true, .bool true, .pointer (some ⟨pe, 0, none⟩), .int .i64 e.number, .bool nb, .bool nb], []⟩ (w.drew.setCells zb 0 e.cells)) : re16.wp Tryd.prog (Exit.then K fun _ _ _ => False) ⟨#[v 0, v 1, .pointer (some ⟨zb, 0, none⟩), v 3, v 4, v 5, v 6, .pointer (some ⟨rb, 0, none⟩), .pointer (some ⟨pe, 0, none⟩), .bool true, v 10, v 11, v 12, v 13, v 14, v 15, v 16, v 17, v 18, v 19, v 20, v 21, v 22, v 23, v 24, v 25, v 26, v 27, v 28, v 29, v 30, v 31, v 32, v 33, v 34, v 35, v 36, v 37, v 38, v 39, v 40, v 41, v 42, v 43, v 44, v 45, v 46, v 47, v 48, v 49, v 50, v 51, v 52, v 53, v 54, v 55, v 56, v 57, v 58, v 59, v 60, v 61, v 62, v 63, v 64, v 65, v 66, v 67, v 68, v 69, v 70, v 71, v 72, v 73, v 74, v 75, v 76, v 77, v 78, v 79, v 80, v 81, v 82, v 83, v 84, v 85, v 86, v 87, v 88, v 89, v 90, v 91, v 92, v 93, v 94, v 95, v 96, v 97, v 98, v 99, v 100, v 101, v 102, v 103, v 104, v 105, v 106, v 107, v 108], []⟩ w := by
  have Hc : S29 pe rb e false w.drew := ⟨by simpa using hS.rng, by simpa using hS.bad, by simpa using hS.num⟩
  have HS := Lib.hid (show S29 pe rb e false (w.drew.setCells zb 0 e.cells) from ⟨World.rangeAt_setCells_apart Hc.rng _ _ _ (Or.inl (fun q => hp q.symm)), (World.cell?_setCells_out zb _ 0 _ ⟨rb, 2, none⟩ (fun hb _ => absurd hb.symm hq)).trans Hc.bad, (World.cell?_setCells_out zb _ 0 _ ⟨pe, 0, none⟩ (fun hb _ => absurd hb.symm hp)).trans Hc.num⟩)
  have Ht : w.drew.there zb 0 15 := by simpa using ht
  have HK := Lib.hid hK
  have HC := Lib.hid Hc
  clear hS hp hq ht hK Hc
  rw [re16_is]
  refine wp_region_held_drew (S := S29 pe rb e false) (by kernel_rfl) HC.out (fun _ => ?_)
  refine wpAnyH_take (i := 0) (oi := { dst := some 95, op := Op.load 32 (Operand.tmp 8), type := 32, pos := "ref.go:244", after := #[], guard := none }) (v := .agg e.cells.toArray) rfl (by kernel_rfl) (by kernel_rfl) (by kernel_rfl) (fun _ _ _ h => h) (yieldsIf_load_mid (by rfl) 32 _ rfl pe 0 rfl e.cells _ (fun W hW => hW.rng) Tryd.underlying32 rfl (ent_size2 e)) HC.out ?_
  simp only [Act.put, List.setIfInBounds_toArray, List.set_cons_zero, List.set_cons_succ]
  refine wpAnyH_take (i := 1) (oi := { dst := some 96, op := Op.move (Operand.tmp 7), type := 131, pos := "ref.go:244", after := #[], guard := none }) (v := .pointer (some ⟨rb, 0, none⟩)) rfl (by kernel_rfl) (by kernel_rfl) (by kernel_rfl) (fun _ _ _ h => h) (Or.inl ⟨by rfl, ?_⟩) HC.out ?_
  · intro W hS
    obtain ⟨hS1, hS2, hS3⟩ := hS
    clear hS1 HC HS HK Ht
    go_simp
  simp only [Act.put, List.setIfInBounds_toArray, List.set_cons_zero, List.set_cons_succ]
  refine wpAnyH_take (i := 2) (oi := { dst := some 97, op := Op.nilCheck (Operand.tmp 96), type := 0, pos := "ref.go:244", after := #[{ on := 1, ground := Ground.data }], guard := none }) (v := .pointer (some ⟨rb, 0, none⟩)) rfl (by kernel_rfl) (by kernel_rfl) (by kernel_rfl) (fun _ _ _ h => h) (Or.inl ⟨by rfl, ?_⟩) HC.out ?_
  · intro W hS
    obtain ⟨hS1, hS2, hS3⟩ := hS
    clear hS1 HC HS HK Ht
    go_simp
  simp only [Act.put, List.setIfInBounds_toArray, List.set_cons_zero, List.set_cons_succ]
  refine wpAnyH_take (i := 3) (oi := { dst := some 98, op := Op.fieldAddr 133 (Operand.tmp 97) 2, type := 0, pos := "ref.go:244", after := #[{ on := 2, ground := Ground.data }], guard := none }) (v := .pointer (some ⟨rb, 2, none⟩)) rfl (by kernel_rfl) (by kernel_rfl) (by kernel_rfl) (fun _ _ _ h => h) (Or.inl ⟨by rfl, ?_⟩) HC.out ?_
  · intro W hS
    obtain ⟨hS1, hS2, hS3⟩ := hS
    clear hS1 HC HS HK Ht
    go_simp
  simp only [Act.put, List.setIfInBounds_toArray, List.set_cons_zero, List.set_cons_succ]
  refine wpAnyH_take (i := 4) (oi := { dst := some 99, op := Op.load 4 (Operand.tmp 98), type := 4, pos := "ref.go:244", after := #[{ on := 3, ground := Ground.data }], guard := none }) (v := .bool false) rfl (by kernel_rfl) (by kernel_rfl) (by kernel_rfl) (fun _ _ _ h => h) (Or.inl ⟨by rfl, ?_⟩) HC.out ?_
  · intro W hS
    obtain ⟨hS1, hS2, hS3⟩ := hS
    clear hS1 HC HS HK Ht
    go_simp
  simp only [Act.put, List.setIfInBounds_toArray, List.set_cons_zero, List.set_cons_succ]
  refine wpAnyH_take (i := 5) (oi := { dst := some 100, op := Op.unOp UnOp.not 4 (Operand.tmp 99), type := 4, pos := "ref.go:244", after := #[{ on := 4, ground := Ground.data }], guard := none }) (v := .bool true) rfl (by kernel_rfl) (by kernel_rfl) (by kernel_rfl) (fun _ _ _ h => h) (Or.inl ⟨by rfl, ?_⟩) HC.out ?_
  · intro W hS
    obtain ⟨hS1, hS2, hS3⟩ := hS
    clear hS1 HC HS HK Ht
    go_simp
  simp only [Act.put, List.setIfInBounds_toArray, List.set_cons_zero, List.set_cons_succ]
  refine wpAnyH_take (i := 6) (oi := { dst := some 101, op := Op.move (Operand.tmp 100), type := 4, pos := "ref.go:244", after := #[{ on := 5, ground := Ground.data }], guard := none }) (v := .bool true) rfl (by kernel_rfl) (by kernel_rfl) (by kernel_rfl) (fun _ _ _ h => h) (Or.inl ⟨by rfl, ?_⟩) HC.out ?_
  · intro W hS
    obtain ⟨hS1, hS2, hS3⟩ := hS
    clear hS1 HC HS HK Ht
    go_simp
  simp only [Act.put, List.setIfInBounds_toArray, List.set_cons_zero, List.set_cons_succ]
  refine wpAnyH_take (i := 7) (oi := { dst := some 102, op := Op.move (Operand.tmp 9), type := 4, pos := "ref.go:244", after := #[{ on := 6, ground := Ground.guard }], guard := some (6, true) }) (v := .bool true) rfl (by kernel_rfl) (by kernel_rfl) (by kernel_rfl) (fun _ _ _ h => h) (Or.inl ⟨by rfl, ?_⟩) HC.out ?_
  · intro W hS
    obtain ⟨hS1, hS2, hS3⟩ := hS
    clear hS1 HC HS HK Ht
    go_simp
  simp only [Act.put, List.setIfInBounds_toArray, List.set_cons_zero, List.set_cons_succ]
  refine wpAnyH_take (i := 8) (oi := { dst := some 103, op := Op.pick (Operand.tmp 101) (Operand.tmp 102) (Operand.const (Value.bool false)), type := 4, pos := "ref.go:244", after := #[{ on := 6, ground := Ground.data }, { on := 7, ground := Ground.data }], guard := none }) (v := .bool true) rfl (by kernel_rfl) (by kernel_rfl) (by kernel_rfl) (fun _ _ _ h => h) (Or.inl ⟨by rfl, ?_⟩) HC.out ?_
  · intro W hS
    obtain ⟨hS1, hS2, hS3⟩ := hS
    clear hS1 HC HS HK Ht
    go_simp
  simp only [Act.put, List.setIfInBounds_toArray, List.set_cons_zero, List.set_cons_succ]
  refine wpAnyH_take (i := 9) (oi := { dst := some 104, op := Op.move (Operand.tmp 103), type := 4, pos := "ref.go:244", after := #[{ on := 8, ground := Ground.data }, { on := 6, ground := Ground.chain }], guard := none }) (v := .bool true) rfl (by kernel_rfl) (by kernel_rfl) (by kernel_rfl) (fun _ _ _ h => h) (Or.inl ⟨by rfl, ?_⟩) HC.out ?_
  · intro W hS
    obtain ⟨hS1, hS2, hS3⟩ := hS
    clear hS1 HC HS HK Ht
    go_simp
  simp only [Act.put, List.setIfInBounds_toArray, List.set_cons_zero, List.set_cons_succ]
  refine wpAnyH_take (i := 10) (oi := { dst := some 105, op := Op.fieldAddr 32 (Operand.tmp 8) 0, type := 0, pos := "ref.go:244", after := #[{ on := 9, ground := Ground.guard }, { on := 14, ground := Ground.gcOnly Departure.lateStores }], guard := some (9, true) }) (v := .pointer (some ⟨pe, 0, none⟩)) rfl (by kernel_rfl) (by kernel_rfl) (by kernel_rfl) (fun _ _ _ h => h) (Or.inl ⟨by rfl, ?_⟩) HC.out ?_
  · intro W hS
    obtain ⟨hS1, hS2, hS3⟩ := hS
    clear hS1 HC HS HK Ht
    go_simp
  simp only [Act.put, List.setIfInBounds_toArray, List.set_cons_zero, List.set_cons_succ]
  refine wpAnyH_take (i := 11) (oi := { dst := some 106, op := Op.load 3 (Operand.tmp 105), type := 3, pos := "ref.go:244", after := #[{ on := 10, ground := Ground.data }, { on := 9, ground := Ground.guard }, { on := 14, ground := Ground.gcOnly Departure.lateStores }], guard := some (9, true) }) (v := .int .i64 e.number) rfl (by kernel_rfl) (by kernel_rfl) (by kernel_rfl) (fun _ _ _ h => h) (Or.inl ⟨by rfl, ?_⟩) HC.out ?_
  · intro W hS
    obtain ⟨hS1, hS2, hS3⟩ := hS
    clear hS1 HC HS HK Ht
    go_simp
  simp only [Act.put, List.setIfInBounds_toArray, List.set_cons_zero, List.set_cons_succ]
  refine wpAnyH_take (i := 12) (oi := { dst := some 107, op := Op.binOp BinOp.geq 3 (Operand.tmp 106) (Operand.const (Value.int IntKind.i64 0)) 3, type := 4, pos := "ref.go:244", after := #[{ on := 11, ground := Ground.data }, { on := 9, ground := Ground.guard }, { on := 14, ground := Ground.gcOnly Departure.lateStores }], guard := some (9, true) }) (v := .bool nb) rfl (by kernel_rfl) (by kernel_rfl) (by kernel_rfl) (fun _ _ _ h => h) (Or.inl ⟨by rfl, ?_⟩) HC.out ?_
  · intro W hS
    obtain ⟨hS1, hS2, hS3⟩ := hS
    clear hS1 HC HS HK Ht
    go_simp
  simp only [Act.put, List.setIfInBounds_toArray, List.set_cons_zero, List.set_cons_succ]
  refine wpAnyH_take (i := 13) (oi := { dst := some 108, op := Op.pick (Operand.tmp 104) (Operand.tmp 107) (Operand.const (Value.bool false)), type := 4, pos := "ref.go:244", after := #[{ on := 9, ground := Ground.data }, { on := 12, ground := Ground.data }, { on := 14, ground := Ground.gcOnly Departure.lateStores }], guard := none }) (v := .bool nb) rfl (by kernel_rfl) (by kernel_rfl) (by kernel_rfl) (fun _ _ _ h => h) (Or.inl ⟨by rfl, ?_⟩) HC.out ?_
  · intro W hS
    obtain ⟨hS1, hS2, hS3⟩ := hS
    clear hS1 HC HS HK Ht
    go_simp
  simp only [Act.put, List.setIfInBounds_toArray, List.set_cons_zero, List.set_cons_succ]
  refine wpAnyH_ready (rs := [14]) (by kernel_rfl) (by simp) ?_
  refine AllReadyH.cons (o := { dst := none, op := Op.store 32 (Operand.tmp 2) (Operand.tmp 95), type := 0, pos := "ref.go:244", after := #[{ on := 0, ground := Ground.data }, { on := 9, ground := Ground.chain }, { on := 0, ground := Ground.phase }, { on := 1, ground := Ground.textOnly Departure.lateStores }, { on := 2, ground := Ground.textOnly Departure.lateStores }, { on := 3, ground := Ground.textOnly Departure.lateStores }, { on := 4, ground := Ground.textOnly Departure.lateStores }, { on := 5, ground := Ground.textOnly Departure.lateStores }, { on := 6, ground := Ground.textOnly Departure.lateStores }, { on := 7, ground := Ground.textOnly Departure.lateStores }, { on := 8, ground := Ground.textOnly Departure.lateStores }, { on := 9, ground := Ground.textOnly Departure.lateStores }, { on := 10, ground := Ground.textOnly Departure.lateStores }, { on := 11, ground := Ground.textOnly Departure.lateStores }, { on := 12, ground := Ground.textOnly Departure.lateStores }, { on := 13, ground := Ground.textOnly Departure.lateStores }], guard := none }) rfl (fun K' hK => ?_) AllReadyH.nil
  rw [if_pos (by rfl)]
  refine wp_store_mid _ _ _ rfl zb 0 e.cells.toArray rfl rfl Ht (by exact ent_size2 e) (by rw [← Array.all_toList]; rfl) ?_
  refine hK.out _ _ HS.out (fun _ => ?_)
  simp only [Act.put]
  refine wpAnyH_take (i := 15) (oi := { dst := some 3, op := Op.assign (Operand.tmp 108), type := 4, pos := "ref.go:244", after := #[{ on := 13, ground := Ground.data }, { on := 14, ground := Ground.chain }, { on := 0, ground := Ground.phase }, { on := 1, ground := Ground.phase }, { on := 2, ground := Ground.phase }, { on := 3, ground := Ground.phase }, { on := 4, ground := Ground.phase }, { on := 5, ground := Ground.phase }, { on := 6, ground := Ground.phase }, { on := 7, ground := Ground.phase }, { on := 8, ground := Ground.phase }, { on := 9, ground := Ground.phase }, { on := 10, ground := Ground.phase }, { on := 11, ground := Ground.phase }, { on := 12, ground := Ground.phase }, { on := 13, ground := Ground.phase }, { on := 14, ground := Ground.phase }], guard := none }) (v := .bool nb) rfl (by kernel_rfl) (by kernel_rfl) (by kernel_rfl) (fun _ _ _ h => h) (Or.inl ⟨by rfl, ?_⟩) HS.out ?_
  · intro W hS
    clear HC HS HK Ht
    go_simp
  simp only [Act.put, List.setIfInBounds_toArray, List.set_cons_zero, List.set_cons_succ]
  refine wpAnyH_done (by kernel_rfl) ?_ _
  exact HK.out

end

end Go.Proofs.YthpflfcgnaichaaDoor
