/-
The reference's entry: what it answers to any line.
-/
import Derived.Test.YthpflfcgnaichaaDoorTraRefE9
import Derived.Test.YthpflfcgnaichaaDoorTraSplit
set_option linter.unusedVariables false
set_option linter.unusedSimpArgs false
namespace Go.Proofs.YthpflfcgnaichaaDoor
open Go Go.RowKit

section
variable {w0 w : World} {rb g pe c : Nat} {ps : List ByteArray} {e : Ent} {bad : Bool} {K : Act → World → Prop} {Q : Exit → Act → World → Prop} {a : Act}

set_option maxHeartbeats 1000000 in
set_option maxRecDepth 20000 in
theorem re15_step (hf : ReA a w0.heap.size rb pe) (h : RS w0 w rb g pe ps c 15 e bad)
    (rest : ∀ a' w', ReB a' w0.heap.size rb pe e.may → RS w0 w' rb g pe ps c 15 e bad → K a' w') : re15.wp Tryd.prog (Exit.then K Q) a w := by
  refine wp_cut (fun a' w' => ReB a' w0.heap.size rb pe e.may ∧ RS w0 w' rb g pe ps c 15 e bad) (fun a' w' ⟨h1, h2⟩ => rest a' w' h1 h2) ?_
  clear rest
  intro J K' hJ hK
  obtain ⟨v, rfl⟩ := hf.shape
  clear hf
  dsimp only [re15, ncl, ncr, ncb, nco, ncx, Tryd.f44]
  have Hl := Lib.hid (refMay_walk w e)
  have Hr := Lib.hid (ent_range2 h.ent)
  have HE := Lib.hid (fun w1 (hb : Below w.heap.size w w1) => show RS w0 w1 rb g pe ps c 15 e bad from ⟨h.rd.later hb, (hb.block _ (lt_of_heap h.ent)).trans h.ent, (hb.block _ (lt_of_heap h.res)).trans h.res, h.ne1, h.ne2, h.ne3, h.ne4, h.ge, h.rdi⟩)
  clear h
  refine wp_region_lit ?_
  refine wpList_load_mid rfl 32 _ rfl pe 0 rfl e.cells _ Hr.out Tryd.underlying32 rfl (ent_size2 e) ?_
  unfold Ent.v at Hl
  unfold Ent.cells
  generalize e.may = m at *
  go_wp2_with fail
  refine Hl.out.mono ?_
  rintro r w1 ⟨rfl, hb⟩
  have HF := Lib.hid (HE.out w1 hb)
  clear HE Hl hb Hr
  go_wp2
  exact Met.intro (hJ _ _ ⟨⟨rfl, rfl, rfl, rfl, rfl, rfl⟩, HF.out⟩)

/-- The reference's answer. -/
def okR (e : Ent) (bad : Bool) : Bool := !bad && e.may && decide (0 ≤ e.number)

theorem re16_step (hf : ReB a w0.heap.size rb pe e.may) (h : RS w0 w rb g pe ps c 15 e bad)
    (rest : ∀ a' w', a'.defers = [] → a'.tmps[2]? = some (.pointer (some ⟨w0.heap.size, 0, none⟩)) → a'.tmps[3]? = some (.bool (okR e bad)) → Below w0.heap.size w0 w' → w'.heap[w0.heap.size]? = some (EO2 e) → K a' w') : re16.wp Tryd.prog (Exit.then K Q) a w := by
  refine wp_calm ?_
  obtain ⟨v, rfl⟩ := hf.shape
  have Ht : w.there w0.heap.size 0 15 := fun j hj => by
    have h1 := cell_blk h.res (0 + j)
    refine ⟨?_, frozen_blk h.res _⟩
    rw [h1, Array.getElem?_eq_getElem (by show 0 + j < 15; omega)]
    rfl
  have hb : w.cell? ⟨rb, 2, none⟩ = some (.bool bad) := cell_blk h.rd.blk 2
  have hn : w.cell? ⟨pe, 0, none⟩ = some (.int .i64 e.number) := cell_blk h.ent 0
  have hm := mod_setCells (F := fun k => k = w0.heap.size) (a := w.drew) (pe := w0.heap.size) (fun _ => rfl) e.cells 0 w.drew (Mod.refl _ _)
  have hB : Below w0.heap.size w0 (w.drew.setCells w0.heap.size 0 e.cells) := h.rd.below.drew.trans (hm.below h.rd.below.size (fun k hk => by omega))
  have hR : (w.drew.setCells w0.heap.size 0 e.cells).heap[w0.heap.size]? = some (EO2 e) := (setCells_blk e.cells 0 w.drew _ h.res).trans (congrArg (fun c => some (Obj.cells c 32 (0, 0))) (writeAt_all (old := Ent.zero.cells) (new := e.cells) rfl))
  cases hbad : bad with
  | true =>
    subst hbad
    exact e29_a (nb := true) ⟨ent_range2 h.ent, hb, hn⟩ (fun q => h.ne3 q.symm) h.ne4 Ht (rest _ _ rfl rfl rfl hB hR)
  | false =>
    subst hbad
    cases hmay : e.may with
    | false => exact e29_b (nb := true) ⟨ent_range2 h.ent, hb, hn⟩ (fun q => h.ne3 q.symm) h.ne4 Ht (rest _ _ rfl rfl (by unfold okR; rw [hmay]; rfl) hB hR)
    | true => exact e29_c rfl ⟨ent_range2 h.ent, hb, hn⟩ (fun q => h.ne3 q.symm) h.ne4 Ht (rest _ _ rfl rfl (by unfold okR; rw [hmay]; rfl) hB hR)

end

theorem cells_inj {e e' : Ent} (h : ∀ k, k < 15 → e.cells[k]? = e'.cells[k]?) : e = e' := by
  have h0 := h 0 (by decide)
  have h1 := h 1 (by decide)
  have h2 := h 2 (by decide)
  have h3 := h 3 (by decide)
  have h4 := h 4 (by decide)
  have h5 := h 5 (by decide)
  have h6 := h 6 (by decide)
  have h7 := h 7 (by decide)
  have h8 := h 8 (by decide)
  have h9 := h 9 (by decide)
  have h10 := h 10 (by decide)
  have h11 := h 11 (by decide)
  have h12 := h 12 (by decide)
  have h13 := h 13 (by decide)
  have h14 := h 14 (by decide)
  obtain ⟨⟩ := e
  obtain ⟨⟩ := e'
  simp only [Ent.cells, List.getElem?_cons_succ, List.getElem?_cons_zero, Option.some.injEq, Value.int.injEq, Value.string.injEq, true_and] at h0 h1 h2 h3 h4 h5 h6 h7 h8 h9 h10 h11 h12 h13 h14
  subst h0 h1 h2 h3 h4 h5 h8 h9 h10 h11 h12 h13 h14
  have h6' := Int.ofNat.inj h6
  have h7' := Int.ofNat.inj h7
  subst h6' h7'
  rfl

/-- A line whose parts are all read says the entry; one that says any is read. -/
theorem rdi_end {s : ByteArray} {ps : List ByteArray} {e : Ent} {bad : Bool} (hps : ps.map (·.data.toList) = wordsL s.data.toList) (hl : ps.length = 15) (h : RdI ps 15 e bad) :
    (okR e bad = true → IsL s.data.toList e) ∧ (okR e bad = false → ∀ e0, ¬ IsL s.data.toList e0) := by
  constructor
  · intro hok
    unfold okR at hok
    rw [Bool.and_eq_true, Bool.and_eq_true, decide_eq_true_eq] at hok
    obtain ⟨⟨hb, hm⟩, hn⟩ := hok
    have hbad : bad = false := by simpa using hb
    have hpp : partsB e = ps := by
      apply List.ext_getElem?
      intro k
      by_cases hk : k < 15
      · rw [h.told hbad k hk, part_at (by omega)]
      · rw [List.getElem?_eq_none (by show (partsB e).length ≤ k; show 15 ≤ k; omega), List.getElem?_eq_none (by omega)]
    refine ⟨h.fit, hm, hn, ?_⟩
    unfold lineL
    rw [hpp, hps, words_join]
  · intro hok e0 hi
    have hpp : ∀ k, k < 15 → (partsB e0)[k]? = some (part ps k) := fun k hk => by
      have h1 : (ps.map (·.data.toList))[k]? = ((partsB e0).map (·.data.toList))[k]? := by rw [hps, hi.words]
      rw [List.getElem?_map, List.getElem?_map, part_at (by omega)] at h1
      cases hq : (partsB e0)[k]? with
      | none => rw [hq] at h1; cases h1
      | some y =>
        rw [hq] at h1
        have h2 : (part ps k).data.toList = y.data.toList := Option.some.inj h1
        rw [ByteArray.ext (Array.ext' h2)]
    obtain ⟨h1, h2⟩ := h.back e0 hi.fit (may_parts hi.may hi.num) hpp
    have he := cells_inj h2
    subst he
    unfold okR at hok
    rw [h1, hi.may, decide_eq_true hi.num] at hok
    cases hok

theorem rdi_first (ps : List ByteArray) : RdI ps 0 Ent.zero false :=
  ⟨by constructor <;> decide, fun _ k hk => absurd hk (Nat.not_lt_zero _), fun _ _ _ _ => ⟨rfl, fun k hk => absurd hk (Nat.not_lt_zero _)⟩⟩

end Go.Proofs.YthpflfcgnaichaaDoor
