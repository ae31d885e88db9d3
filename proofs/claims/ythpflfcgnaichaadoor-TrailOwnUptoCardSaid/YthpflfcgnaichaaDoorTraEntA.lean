/-
The program's entry: the decision, the end, the line, the answer.
-/
import Derived.Test.YthpflfcgnaichaaDoorTraEnt9
import Derived.Test.YthpflfcgnaichaaDoorTraSame
set_option linter.unusedVariables false
set_option linter.unusedSimpArgs false
namespace Go.Proofs.YthpflfcgnaichaaDoor
open Go Go.RowKit

section
variable {w0 w : World} {pb nb g pe : Nat} {ps : List ByteArray} {s : ByteArray} {K : Act → World → Prop} {Q : Exit → Act → World → Prop} {a : Act}

def e7v (ps : List ByteArray) : Ent := ⟨atoiV (part ps 0), atoiV (part ps 1), atoiV (part ps 2), txtB (part ps 3), txtB (part ps 4), txtB (part ps 5), puintV (part ps 6), puintV (part ps 7), 0, 0, ⟨#[]⟩, 0, ⟨#[]⟩, ⟨#[]⟩, 0⟩
def e8v (ps : List ByteArray) : Ent := { decE ps with fin := 0 }

theorem EP.mod {F : Nat → Prop} {w2 : World} {e : Ent} (h : EP w0 w pb nb g pe e) (hm : Mod F w w2) (h1 : ¬ F pe) : EP w0 w2 pb nb g pe e := ⟨hm.heap h.ent h1, h.ne1, h.ne2, h.ne3, h.ge⟩

set_option maxHeartbeats 1000000 in
set_option maxRecDepth 20000 in
theorem en8_step (hf : EnB a s w0.heap.size pb nb pe) (h : EN w0 w pb nb g ps 8) (hp : EP w0 w pb nb g pe (e7v ps))
    (rest : ∀ a' w', EnB a' s w0.heap.size pb nb pe → EN w0 w' pb nb g ps 14 → EP w0 w' pb nb g pe (e8v ps) → K a' w') : en8.wp Tryd.prog (Exit.then K Q) a w := by
  refine wp_calm ?_
  obtain ⟨v, rfl⟩ := hf.shape
  refine e8_run (s := s) (rb := w0.heap.size) (c8_of w0 pb nb g ps) (Lib.hid ?_) hp.ne1 hp.ne2 rfl w h hp.ent
  intro w' h' hz
  have h8 : EN w0 w' pb nb g ps 14 := h'
  have hEN := fun L => EN.mod h8 (mod_setCells (F := fun k => k = pe) (a := w') (pe := pe) (fun _ => rfl) L 8 w' (Mod.refl _ _)) (fun e => hp.ne1 e.symm) (fun e => hp.ne2 e.symm) (fun e => hp.ne3 e.symm) (fun e => by have := hp.ge; omega) (fun k e => by have := hp.ge; omega)
  have hbk := fun (L : List Value) (hl : L.length = 6) => (setCells_blk L 8 w' _ hz).trans (congrArg (fun c => some (Obj.cells c 38 (0, 0))) (writeAt_mid L ((e7v ps).cells.extract 8 14) ((e7v ps).cells.take 8) [.int .i64 0] hl.symm))
  refine rest _ _ ?_ (hEN _) ⟨?_, hp.ne1, hp.ne2, hp.ne3, hp.ge⟩
  · exact ⟨rfl, rfl, rfl, rfl, rfl, rfl, rfl, rfl, rfl⟩
  · exact hbk _ rfl

set_option maxHeartbeats 1000000 in
set_option maxRecDepth 20000 in
theorem en9_step (hf : EnB a s w0.heap.size pb nb pe) (h : EN w0 w pb nb g ps 14) (hp : EP w0 w pb nb g pe (e8v ps))
    (rest : ∀ a' w', EnB a' s w0.heap.size pb nb pe → EN w0 w' pb nb g ps 15 → EP w0 w' pb nb g pe (decE ps) → K a' w') : en9.wp Tryd.prog (Exit.then K Q) a w := by
  refine wp_cut (fun a' w' => EnB a' s w0.heap.size pb nb pe ∧ EN w0 w' pb nb g ps 15 ∧ EP w0 w' pb nb g pe (decE ps)) (fun a' w' ⟨h1, h2, h3⟩ => rest a' w' h1 h2 h3) ?_
  clear rest
  intro J K' hJ hK
  obtain ⟨v, rfl⟩ := hf.shape
  clear hf
  have Hn := Lib.hid (EN.num (j := 14) h (by decide))
  have HE := Lib.hid (fun (w1 : World) (h1 : EN w0 w1 pb nb g ps 15) (hk : Kp pb w w1) => show (w1.cell? ⟨pe, 14, none⟩ = some (.int .i64 0) ∧ w1.frozen? ⟨pe, 14, none⟩ = false) ∧ Hid (EN w0 (w1.setCell ⟨pe, 14, none⟩ (.int .i64 (atoiV (part ps 14)))) pb nb g ps 15 ∧ EP w0 (w1.setCell ⟨pe, 14, none⟩ (.int .i64 (atoiV (part ps 14)))) pb nb g pe (decE ps)) from by
    have hz := hk pe _ hp.ne1 hp.ent
    have hm : Mod (fun k => k = pe) w1 (w1.setCell ⟨pe, 14, none⟩ (.int .i64 (atoiV (part ps 14)))) := (Mod.refl _ w1).setCell _ _ (fun _ => rfl)
    refine ⟨⟨cell_blk hz 14, frozen_blk hz 14⟩, EN.mod h1 hm (fun e => hp.ne1 e.symm) (fun e => hp.ne2 e.symm) (fun e => hp.ne3 e.symm) (fun e => by have := hp.ge; omega) (fun k e => by have := hp.ge; omega), ⟨?_, hp.ne1, hp.ne2, hp.ne3, hp.ge⟩⟩
    rw [set_blk hz 14]
    unfold EO decE e8v Ent.cells
    rw [List.setIfInBounds_toArray]
    rfl)
  clear h hp
  dsimp only [en9, ncl, ncr, ncb, nco, ncx, Tryd.f43]
  generalize atoiV (part ps 14) = n14 at *
  go_wp2_with fail
  refine Hn.out.mono ?_
  rintro r w1 ⟨rfl, h1, hk⟩
  obtain ⟨⟨c0, f0⟩, HF⟩ := HE.out w1 h1 hk
  clear HE Hn h1 hk
  go_wp2
  exact Met.intro (hJ _ _ ⟨⟨rfl, rfl, rfl, rfl, rfl, rfl, rfl, rfl, rfl⟩, HF.out.1, HF.out.2⟩)

/-- The last part of the memory: what was there, and the entry. -/
structure EQ (w0 w : World) (pe : Nat) (e : Ent) : Prop where
  below : Below w0.heap.size w0 w
  res : w.heap[w0.heap.size]? = some ZObj
  ent : w.heap[pe]? = some (EO e)
  ge : w0.heap.size < pe

theorem EQ.later {w2 : World} {e : Ent} (h : EQ w0 w pe e) (hb : Below w.heap.size w w2) : EQ w0 w2 pe e :=
  ⟨h.below.trans (hb.mono h.below.size), (hb.block _ (lt_of_heap h.res)).trans h.res, (hb.block _ (lt_of_heap h.ent)).trans h.ent, h.ge⟩

theorem ent_range {w : World} {b : Nat} {e : Ent} (h : w.heap[b]? = some (EO e)) : w.rangeAt b 0 e.cells := fun j v hv => by
  rw [cell_blk h (0 + j), Nat.zero_add, List.getElem?_toArray]
  exact hv

theorem ent_size (e : Ent) : (Tryd.prog.info? 38).map (·.size) = some e.cells.length := by
  show _ = some 15
  kernel_rfl

set_option maxHeartbeats 1000000 in
set_option maxRecDepth 20000 in
theorem en10_step {e : Ent} (htab : Tab w0) (hfit : e.Fit) (hf : EnB a s w0.heap.size pb nb pe) (h : EQ w0 w pe e)
    (rest : ∀ a' w', EnC a' s w0.heap.size pe (lineOf e).1 (lineOf e).2 → EQ w0 w' pe e → K a' w') : en10.wp Tryd.prog (Exit.then K Q) a w := by
  refine wp_cut (fun a' w' => EnC a' s w0.heap.size pe (lineOf e).1 (lineOf e).2 ∧ EQ w0 w' pe e) (fun a' w' ⟨h1, h2⟩ => rest a' w' h1 h2) ?_
  clear rest
  intro J K' hJ hK
  obtain ⟨v, rfl⟩ := hf.shape
  clear hf
  dsimp only [en10, ncl, ncr, ncb, nco, ncx, Tryd.f43]
  have Hl := Lib.hid (pline_walk w e hfit (tab_later htab h.below))
  have Hr := Lib.hid (ent_range h.ent)
  have HE := Lib.hid (fun w1 (hb : Below w.heap.size w w1) => h.later hb)
  clear h htab hfit
  refine wp_region_lit ?_
  refine wpList_load_mid rfl 38 _ rfl pe 0 rfl e.cells _ Hr.out Tryd.underlying38 rfl (ent_size e) ?_
  unfold Ent.cells
  generalize lineOf e = lf at *
  go_wp2_with fail
  refine Hl.out.mono ?_
  rintro r w1 ⟨rfl, hb⟩
  have HF := Lib.hid (HE.out w1 hb)
  clear HE Hl hb Hr
  go_wp2
  exact Met.intro (hJ _ _ ⟨⟨rfl, rfl, rfl, rfl, rfl, rfl, rfl⟩, HF.out⟩)

theorem ent_one (e : Ent) : (#[.int .i64 e.number, .int .i64 e.version, .int .i64 e.epoch, .string e.method, .string e.host, .string e.path, .int .u64 (e.a : Int), .int .u64 (e.b : Int), .int .i64 e.kind, .int .i64 e.status, .string e.route, .int .i64 e.rule, .string e.service, .string e.endp, .int .i64 e.fin] : Array Value).all (·.oneCell') = true := by
  rw [← Array.all_toList]
  rfl

/-- The answer: the entry, and whether the line is its. -/
def okOf (e : Ent) (s : ByteArray) : Bool := decide ((lineOf e).2 = 0) && decide ((lineOf e).1 = s ++ ⟨#[10]⟩)

set_option maxHeartbeats 1000000 in
set_option maxRecDepth 20000 in
theorem en11_step {e : Ent} (hs : s.size ≤ 40000000) (hf : EnC a s w0.heap.size pe (lineOf e).1 (lineOf e).2) (h : EQ w0 w pe e)
    (rest : ∀ a' w', a'.defers = [] → a'.tmps[2]? = some (.pointer (some ⟨w0.heap.size, 0, none⟩)) → a'.tmps[3]? = some (.bool (okOf e s)) → Below w0.heap.size w0 w' → w'.heap[w0.heap.size]? = some (EO e) → K a' w') : en11.wp Tryd.prog (Exit.then K Q) a w := by
  refine wp_cut (fun a' w' => a'.defers = [] ∧ a'.tmps[2]? = some (.pointer (some ⟨w0.heap.size, 0, none⟩)) ∧ a'.tmps[3]? = some (.bool (okOf e s)) ∧ Below w0.heap.size w0 w' ∧ w'.heap[w0.heap.size]? = some (EO e)) (fun a' w' ⟨h1, h2, h3, h4, h5⟩ => rest a' w' h1 h2 h3 h4 h5) ?_
  clear rest
  intro J K' hJ hK
  obtain ⟨v, rfl⟩ := hf.shape
  clear hf
  dsimp only [en11, ncl, ncr, ncb, nco, ncx, Tryd.f43]
  have Hr := Lib.hid (ent_range h.ent)
  have Ht : w.there w0.heap.size 0 15 := fun j hj => by
    have h1 := cell_blk h.res (0 + j)
    refine ⟨?_, frozen_blk h.res _⟩
    rw [h1, Array.getElem?_eq_getElem (by simpa using hj)]
    rfl
  have HE := Lib.hid (show Below w0.heap.size w0 (w.setCells w0.heap.size 0 e.cells) ∧ (w.setCells w0.heap.size 0 e.cells).heap[w0.heap.size]? = some (EO e) from by
    have hm := mod_setCells (F := fun k => k = w0.heap.size) (a := w) (pe := w0.heap.size) (fun _ => rfl) e.cells 0 w (Mod.refl _ _)
    exact ⟨h.below.trans (hm.below h.below.size (fun k hk => by omega)), (setCells_blk e.cells 0 w _ h.res).trans (congrArg (fun c => some (Obj.cells c 38 (0, 0))) (writeAt_all (old := Ent.zero.cells) (new := e.cells) rfl))⟩)
  have Ho := Lib.hid (show okOf e s = (decide ((lineOf e).2 = 0) && decide ((lineOf e).1 = s ++ ⟨#[10]⟩)) from rfl)
  clear h
  generalize okOf e s = ok at *
  have hf0 : (lineOf e).2 = 0 ∨ (lineOf e).2 = 2 := by unfold lineOf; split <;> simp
  generalize lineOf e = lf at *
  obtain ⟨l, f⟩ := lf
  dsimp only at *
  refine wp_region_lit ?_
  refine wpList_load_mid rfl 38 _ rfl pe 0 rfl e.cells _ Hr.out Tryd.underlying38 rfl (ent_size e) ?_
  unfold Ent.cells
  obtain ⟨T, hT⟩ : ∃ T : ByteArray, T = s ++ ⟨#[10]⟩ := ⟨_, rfl⟩
  have hadd : ∀ w1, (Op.stringOp .add s ⟨#[10]⟩).run Tryd.prog w1 = .ok (.string T) w1 := fun w1 => sum_run (m := 1) hT (by omega) (by decide) (by decide) w1
  have Hone := Lib.hid (ent_one e)
  have Hsz := Lib.hid (ent_size e)
  rw [← hT] at Ho
  clear hT hs
  rcases hf0 with rfl | rfl
  · by_cases hl : l = T
    · have b1 : (l.toList == T.toList) = true := by rw [hl]; exact beq_self_eq_true _
      have hok : ok = true := by rw [Ho.out, decide_eq_true hl]; rfl
      subst hok
      clear Ho hl
      go_wp2_with (refine wpList_store_mid rfl 38 _ _ rfl w0.heap.size 0 _ rfl rfl Ht Hsz.out Hone.out ?_)
      exact Met.intro (hJ _ _ ⟨rfl, rfl, rfl, HE.out.1, HE.out.2⟩)
    · have b1 : (l.toList == T.toList) = false := by
        cases hb : (l.toList == T.toList) with
        | false => rfl
        | true => exact absurd (bytes_eq hb) hl
      have hok : ok = false := by rw [Ho.out, decide_eq_false hl]; rfl
      subst hok
      clear Ho hl
      go_wp2_with (refine wpList_store_mid rfl 38 _ _ rfl w0.heap.size 0 _ rfl rfl Ht Hsz.out Hone.out ?_)
      exact Met.intro (hJ _ _ ⟨rfl, rfl, rfl, HE.out.1, HE.out.2⟩)
  · have hok : ok = false := by rw [Ho.out]; rfl
    subst hok
    clear Ho
    go_wp2_with (refine wpList_store_mid rfl 38 _ _ rfl w0.heap.size 0 _ rfl rfl Ht Hsz.out Hone.out ?_)
    exact Met.intro (hJ _ _ ⟨rfl, rfl, rfl, HE.out.1, HE.out.2⟩)

end

end Go.Proofs.YthpflfcgnaichaaDoor
