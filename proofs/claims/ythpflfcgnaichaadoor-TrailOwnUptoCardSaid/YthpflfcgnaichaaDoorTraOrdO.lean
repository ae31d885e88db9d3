/-
TrailOrder's round: the op.
-/
import Derived.Test.YthpflfcgnaichaaDoorTraOrdS
import Derived.Deep.MidRow
set_option linter.unusedVariables false
set_option linter.unusedSimpArgs false
namespace Go.Proofs.YthpflfcgnaichaaDoor
open Go Go.RowKit

theorem op_one (o : OpD) : (#[.int .i64 o.kind, .int .i64 o.e.number, .int .i64 o.e.version, .int .i64 o.e.epoch, .string o.e.method, .string o.e.host, .string o.e.path, .int .u64 (o.e.a : Int), .int .u64 (o.e.b : Int), .int .i64 o.e.kind, .int .i64 o.e.status, .string o.e.route, .int .i64 o.e.rule, .string o.e.service, .string o.e.endp, .int .i64 o.e.fin, .int .i64 o.number, .int .i64 o.how, .bool o.on] : Array Value).all (·.oneCell') = true := by
  rw [← Array.all_toList]
  rfl

section
variable {w0 w : World} {lb cb : Nat} {v vw : Value} {xs : List Ent} {o : OpD} {sv : Value} {i : Int} {K : Act → World → Prop} {Q : Exit → Act → World → Prop} {a : Act}

set_option maxRecDepth 100000 in
set_option maxHeartbeats 1600000 in
theorem to_op {gl ol len cl kk : Nat} (hf : ToA a (.slice (some ⟨gl, ol, none⟩) len cl) lb vw (kk : Int)) (h : OInv w0 w lb v vw xs) (hkk : kk < len) (ho : OpAt w gl (ol + kk * 19) o)
    (rest : ∀ a' w' cb, ToB a' (.slice (some ⟨gl, ol, none⟩) len cl) lb vw (kk : Int) cb → OInv w0 w' lb v vw xs → w'.heap[cb]? = some (OpObj o) → K a' w') : toOp.wp Tryd.prog (Exit.then K Q) a w := by
  refine wp_cut (fun a' w' => ∃ cb, ToB a' (.slice (some ⟨gl, ol, none⟩) len cl) lb vw (kk : Int) cb ∧ OInv w0 w' lb v vw xs ∧ w'.heap[cb]? = some (OpObj o)) (fun a' w' ⟨cb, h⟩ => rest a' w' cb h.1 h.2.1 h.2.2) ?_
  clear rest
  intro J K' hJ hK
  obtain ⟨vv, rfl⟩ := hf.shape
  clear hf
  dsimp only [toOp, ncl, ncr, ncb, nco, ncx, Tryd.f3]
  have Hr := Lib.hid (show w.rangeAt gl (ol + kk * 19) o.cells from ho)
  have Hi := Lib.hid (show (Tryd.prog.info? 34).map (·.size) = some o.cells.length by kernel_rfl)
  have Hfin := Lib.hid (And.intro (h.later ((Below.refl _ w).alloc (Nat.le_refl _) (OpObj o))) (alloc_new (w := w) (OpObj o)))
  clear h ho
  have b1 : (kk : Int) < (len : Int) := by omega
  refine wp_region_lit ?_
  refine wpList_plain rfl fun K1 hK1 => ?_
  go_simp
  refine hK1 _ _ ?_
  clear hK1 K1
  refine wpList_plain rfl fun K2 hK2 => ?_
  go_simp
  refine hK2 _ _ ?_
  clear hK2 K2
  refine wpList_plain rfl fun K3 hK3 => ?_
  go_simp
  refine hK3 _ _ ?_
  clear hK3 K3
  refine wpList_load_mid rfl 34 _ rfl gl (ol + kk * 19) rfl o.cells _ Hr.out Tryd.underlying34 rfl Hi.out ?_
  unfold OpD.cells
  refine wpList_plain rfl fun K4 hK4 => ?_
  go_simp
  refine hK4 _ _ ?_
  clear hK4 K4
  refine wpList_store_last rfl 34 _ _ rfl _ #[.int .i64 o.kind, .int .i64 o.e.number, .int .i64 o.e.version, .int .i64 o.e.epoch, .string o.e.method, .string o.e.host, .string o.e.path, .int .u64 (o.e.a : Int), .int .u64 (o.e.b : Int), .int .i64 o.e.kind, .int .i64 o.e.status, .string o.e.route, .int .i64 o.e.rule, .string o.e.service, .string o.e.endp, .int .i64 o.e.fin, .int .i64 o.number, .int .i64 o.how, .bool o.on] rfl rfl Hi.out rfl (op_one o) ?_
  refine wpList_nil ?_
  refine hK _ _ ?_
  exact Met.intro (hJ _ _ ⟨_, ⟨rfl, rfl, rfl, rfl, rfl, rfl, rfl⟩, Hfin.out.1, Hfin.out.2⟩)

end

end Go.Proofs.YthpflfcgnaichaaDoor
