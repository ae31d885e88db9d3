/-
For every input NetEnds returns true, and each argument reads behind the call as it read before. No condition.
-/
import Derived.Test.YtibijonjjkknoaaRows
import Derived.Test.YtibijonjjkknoaaNetEnds
import Derived.ProofKit
import Derived.OpenShut
import Derived.ShutString
import Derived.ChangeOld
namespace Go.Proofs.Ytibijonjjkknoaa.netEnds
open Go.ChangeShapes Go.WideShapes Go.ChangeAt Go.RowKit
open Go.ChangeMaps (open_string shut_string)
set_option linter.unusedVariables false
set_option linter.unusedSimpArgs false

theorem own : ownKnob Try.prog.godebug = none := by kernel_rfl
theorem laidOut : laidOutB Try.prog = true := by kernel_rfl

/-- A slice of bytes that came in, as the walk wants it. -/
def Came (w : World) (a : Option Addr) (len cap : Nat) : Prop := ∃ ps : List UInt8, ps.length = len ∧ RdB w a cap ps ∧ (∀ ad, a = some ad → ps ≠ [] → ad.block < w.heap.size)

theorem came_nil (w : World) : Came w none 0 0 := ⟨[], rfl, ⟨fun _ => ⟨rfl, rfl⟩, (fun ad h => by cases h), Nat.le_refl _, Nat.zero_le _⟩, (fun ad h => by cases h)⟩

theorem came_row {w : World} {x : Addr} {len cap : Nat} {zs : List Int} (hl : len ≤ cap) (hm : cap ≤ maxLen) (hz : zs.length = cap) (hc : ∀ i, i < zs.length → w.cell? (x.add i) = some (.int .u8 (zs.getD i 0)))
    (hw : ∀ n ∈ zs, (Lit.int .u8 n).wf = true) : Came w (some x) len cap := by
  refine ⟨(zs.take len).map fun n => UInt8.ofNat n.toNat, by simp; omega, ⟨(fun h => by cases h), ?_, by simp; omega, hm⟩, ?_⟩
  · intro ad had j u hu
    obtain rfl := Option.some.inj had
    have hj : j < len := by
      have := (List.getElem?_eq_some_iff.1 hu).1
      simp at this; omega
    have hjz : j < zs.length := by omega
    rw [hc j hjz]
    have hn : zs[j] ∈ zs := List.getElem_mem hjz
    have hr : 0 ≤ zs[j] ∧ zs[j] ≤ 255 := by simpa [Lit.wf, IntKind.min, IntKind.max, IntKind.signed, IntKind.bits] using hw _ hn
    simp only [bytes, List.map_map, List.getElem?_map, List.getElem?_take, hj, if_true, List.getElem?_eq_getElem hjz, Option.map_some, Option.some.injEq, Function.comp] at hu
    rw [← hu]
    simp only [List.getD, List.getElem?_eq_getElem hjz, Option.getD_some, Option.some.injEq, Value.int.injEq, true_and]
    have : (UInt8.ofNat zs[j].toNat).toNat = zs[j].toNat := UInt8.toNat_ofNat_of_lt (by show zs[j].toNat < 256; omega)
    rw [this]; omega
  · intro ad had hne
    obtain rfl := Option.some.inj had
    have h0 : 0 < zs.length := by
      rcases Nat.eq_zero_or_pos zs.length with e | e
      · have : zs = [] := List.eq_nil_of_length_eq_zero e
        subst this; simp at hne
      · exact e
    have := World.block_lt_of_cell? w _ (hc 0 h0)
    simpa [Addr.add] using this

set_option maxRecDepth 100000 in
theorem lifted (os : Os) (started : os.Started) (H : Type) (enc : TypeId × Value → H) :
    ReturnsInHanded {} Try.checked os 4 .any (Rows.netEndsSpec.pre6 enc Try.prog Try.f4 Rows.netEndsRow.domain false) (Rows.netEndsSpec.post enc Try.prog Try.f4 false true false false) := by
  refine returnsInHanded_of_change (C := Try.checked) own started (by kernel_rfl) Try.func4
    (ChangeSpec.witness6 (enc := enc) (C := Try.checked) false ⟨#[], #[.slice none 0 0, .slice none 0 0], []⟩ 8 (by kernel_rfl) (by kernel_rfl) (by kernel_rfl) (by kernel_rfl)) ?_
  intro W base args ds gs before hval0 hW hcnd _
  have hval : ∀ (j : Nat) t v, Try.f4.params[j]? = some t → args[j]? = some v → Value.okWide Try.prog W .any base t v := hval0
  have hW' := hW
  obtain ⟨p, q, hA0, hV, rfl, hfz, hnd⟩ := hW
  have hA : DataW.TrodAll enc Try.prog W 0 (fun _ => true) true Try.f4.params.toList args.toList ds p := hA0
  rw [Try.params4] at hA hval
  obtain ⟨v0, vs0, d0, ds0, p0, q0, hargs, rfl, rfl, h0, r0⟩ := trodAll_cons hA
  obtain ⟨v1, vs1, d1, ds1, p1, q1, rfl, rfl, rfl, h1, r1⟩ := trodAll_cons r0
  obtain ⟨rfl, rfl, rfl⟩ := trodAll_nil r1
  obtain rfl : args = #[v0, v1] := by cases args; simp_all
  obtain ⟨rfl, rfl⟩ := trodVars_none hV
  obtain ⟨a0, len0, cap0, rfl⟩ := okWide_slice Try.underlying22 (hval 0 22 v0 rfl rfl)
  have k0 := h0
  have lt0 : ∀ x ∈ p0, x.block < W.heap.size := by obtain ⟨m, hm⟩ := k0; exact DataW.trod_lt m _ _ _ hm
  have w0 : Came W a0 len0 cap0 := by
    obtain ⟨fuel, hf⟩ := h0
    rcases open_ints Try.underlying22 Try.underlying5 (by kernel_rfl) hf with ⟨hcs, _⟩ | ⟨x, l, c, zs, hcs, _, hl, hm, hz, hx, hcell, hwz⟩
    · simp [Value.cells] at hcs
      obtain ⟨rfl, rfl, rfl⟩ := hcs
      exact came_nil W
    · simp [Value.cells] at hcs
      obtain ⟨rfl, rfl, rfl⟩ := hcs
      exact came_row hl hm (by simpa using hz) hcell hwz
  obtain ⟨a1, len1, cap1, rfl⟩ := okWide_slice Try.underlying34 (hval 1 34 v1 rfl rfl)
  have k1 := h1
  have lt1 : ∀ x ∈ p1, x.block < W.heap.size := by obtain ⟨m, hm⟩ := k1; exact DataW.trod_lt m _ _ _ hm
  have w1 : len1 ≤ 9223372036854775807 ∧ ∃ zs : List Int, 0 < len1 → ∃ g off, a1 = some ⟨g, off, none⟩ ∧ g < W.heap.size ∧ ∀ j, j < len1 → W.cell? ⟨g, off + j, none⟩ = some (.int .i64 (zs.getD j 0)) := by
    obtain ⟨fuel, hf⟩ := h1
    rcases open_ints Try.underlying34 Try.underlying3 (by kernel_rfl) hf with ⟨hcs, _⟩ | ⟨x, l, c, zs, hcs, _, hl, hm, hz, _, hcell, hwz⟩
    · simp [Value.cells] at hcs
      obtain ⟨rfl, rfl, rfl⟩ := hcs
      exact ⟨by omega, [], fun h => by omega⟩
    · simp [Value.cells] at hcs
      obtain ⟨rfl, rfl, rfl⟩ := hcs
      have hzl : zs.length = cap1 := by simpa using hz
      refine ⟨by unfold maxLen at hm; omega, zs, fun hpos => ?_⟩
      obtain ⟨g, off, rfl, hc⟩ := ints_at hcell (by omega)
      have hcj : ∀ j, j < len1 → W.cell? ⟨g, off + j, none⟩ = some (.int .i64 (zs.getD j 0)) := fun j hj => hc j (by omega)
      exact ⟨g, off, rfl, World.block_lt_of_cell? W _ (hcj 0 hpos), hcj⟩
  clear hA0 hval0
  obtain ⟨ps, rfl, hp, hpb⟩ := w0
  obtain ⟨l1, zs, hz⟩ := w1
  refine (netEnds_walk W a0 a1 cap0 cap1 len1 ps zs hp hpb l1 (by have := hp.le; have := hp.cap; unfold maxLen at this; omega) hz).mono fun e W' ⟨he, bel⟩ => ?_
  subst he
  exact ⟨_, rfl, _, _, _, [], _, [], hW', trodAll_mk1 (shut_bool Try.underlying4 _), (trodAll_cons_mk (Below.trod laidOut (by kernel_rfl) (of_decide_eq_true (by kernel_rfl)) k0 bel lt0) (trodAll_cons_mk (Below.trod laidOut (by kernel_rfl) (of_decide_eq_true (by kernel_rfl)) k1 bel lt1) trodAll_mk0)), rfl, bel.frame _, fun h => by cases h⟩

theorem over : Rows.netEndsRow.holds Try.pinned (OpenSpec.ofChange Rows.netEndsSpec) :=
  OpenClaim.holds_of_wide 4 Try.f4 rfl rfl rfl rfl rfl rfl rfl ⟨rfl, rfl, rfl, rfl, rfl⟩ rfl rfl rfl rfl rfl (by kernel_rfl) Try.func4 (by kernel_rfl)
    (of_decide_eq_true (by kernel_rfl)) (by unfold Func.isWrapper; first | (rw [if_pos (by decide +kernel)]; kernel_rfl) | (rw [if_neg (by decide +kernel)]; exact ⟨rfl, rfl⟩))
    (fun os started H enc _ => lifted os started H enc)

theorem proved : Rows.NetEndsSaid := over
#print axioms proved
end Go.Proofs.Ytibijonjjkknoaa.netEnds
