/-
TrailOrder's round, statement by statement: End, the count, the comparison.
-/
import Derived.Test.YthpflfcgnaichaaDoorTraOrdO
set_option linter.unusedVariables false
set_option linter.unusedSimpArgs false
namespace Go.Proofs.YthpflfcgnaichaaDoor
open Go Go.RowKit

theorem ends_true {xs : List Ent} {i how : Int} (h : endsB xs i how = true) : ∃ (k : Nat) (e : Ent), i = (k : Int) ∧ xs[k]? = some e ∧ e.fin = 0 ∧ 1 ≤ how ∧ how ≤ 7 := by
  unfold endsB at h
  rw [Bool.and_eq_true, decide_eq_true_eq] at h
  obtain ⟨⟨h1, h2, h3, h4⟩, h5⟩ := h
  obtain ⟨k, rfl⟩ : ∃ k : Nat, i = (k : Int) := ⟨i.toNat, by omega⟩
  rw [show ((k : Int)).toNat = k from rfl] at h5
  cases he : xs[k]? with
  | none => rw [he] at h5; cases h5
  | some e =>
    rw [he] at h5
    exact ⟨k, e, rfl, he, by simpa using h5, h3, h4⟩

/-- The law's own list, its entry ended. -/
theorem was_set {w0 w : World} {lb g n c : Nat} {v : Value} {xs : List Ent} (hn : n = xs.length) {k : Nat} {e : Ent} (hk : xs[k]? = some e) (how : Int)
    (hl : Lg w0 w lb v (xs.set k (e.ended how))) (hr : EntRow w 38 (.slice (some ⟨g, 0, none⟩) n c) xs) (hw : w0.heap.size ≤ g ∧ g ≠ lb ∧ v.ownBlock ≠ some g) :
    OInv w0 (w.setCell ⟨g, k * 15 + 14, none⟩ (.int .i64 how)) lb v (.slice (some ⟨g, 0, none⟩) n c) (xs.set k (e.ended how)) := by
  subst hn
  refine ⟨hl.mod (F := fun k => k = g) ((Mod.refl _ w).setCell _ _ (fun _ => rfl)) (fun q => hw.2.1 q.symm) (fun g' hg q => hw.2.2 (q ▸ hg)) (fun k q => q ▸ hw.1), ?_, fun g' hg' => ?_⟩
  · have h := hr.stored (k * 15 + 14) (.int .i64 how)
    show (World.setCell _ _ _).ownsRow 0 _ 15 _ (xs.set k (e.ended how)).length (ents (xs.set k (e.ended how)))
    rw [List.length_set, ents_set xs k e how hk]
    exact h.1
  · obtain rfl : g = g' := by simpa [Value.ownBlock] using hg'
    exact hw

/-- How many entries are open. -/
def openN (xs : List Ent) : Nat := (opensL xs).length

theorem openN_next {xs : List Ent} {k : Nat} {e : Ent} (h : xs[k]? = some e) : openN (xs.take (k + 1)) = openN (xs.take k) + (if e.fin = 0 then 1 else 0) := by
  unfold openN opensL
  rw [List.take_add_one, h]
  by_cases hf : e.fin = 0
  · simp [hf]
  · simp [hf]

theorem openN_le (xs : List Ent) (k : Nat) : openN (xs.take k) ≤ k := by
  unfold openN opensL
  rw [List.length_map]
  exact Nat.le_trans (List.length_filter_le _ _) (by rw [List.length_take]; omega)

section
variable {w0 w : World} {lb cb : Nat} {v vw : Value} {xs : List Ent} {o : OpD} {sv : Value} {i : Int} {K : Act → World → Prop} {Q : Exit → Act → World → Prop} {a : Act}

set_option maxRecDepth 100000 in
set_option maxHeartbeats 4000000 in
theorem to_end (hf : ToB a sv lb vw i cb) (h : OInv w0 w lb v vw xs) (ho : w.heap[cb]? = some (OpObj o)) (hlen : xs.length < 65537)
    (rest : ∀ a' w' xs', ToB a' sv lb vw i cb → OInv w0 w' lb v vw xs' → xs'.length = xs.length → K a' w') : toEnd.wp Tryd.prog (Exit.then K Q) a w := by
  refine wp_cut (fun a' w' => ∃ xs', ToB a' sv lb vw i cb ∧ OInv w0 w' lb v vw xs' ∧ xs'.length = xs.length) (fun a' w' ⟨xs', h⟩ => rest a' w' xs' h.1 h.2.1 h.2.2) ?_
  clear rest
  intro J K' hJ hK
  refine wp_calm ?_
  obtain ⟨vv, rfl⟩ := hf.shape
  clear hf
  dsimp only [toEnd, ncl, ncr, ncb, nco, nct, nce, ncx, Tryd.f3]
  have y0 := (op_block ho).1
  have y16 : w.cell? ⟨cb, 16, none⟩ = some (.int .i64 o.number) := by rw [cell_blk ho]; rfl
  have y17 : w.cell? ⟨cb, 17, none⟩ = some (.int .i64 o.how) := by rw [cell_blk ho]; rfl
  by_cases hk : o.kind = 1
  rotate_left
  · have hkb : (o.kind == 1) = false := beq_eq_false_iff_ne.2 hk
    have Hfin := Lib.hid h
    clear h ho hk
    go_wp2
    exact Met.intro (hJ _ _ ⟨_, ⟨rfl, rfl, rfl, rfl, rfl, rfl, rfl⟩, Hfin.out, rfl⟩)
  have hkb : (o.kind == 1) = true := by rw [hk]; rfl
  clear hk
  cases he : endsB xs o.number o.how with
  | false =>
    have HE := Lib.hid (pendBad_walk w lb v xs h.lg.log hlen o.number o.how he)
    have Hfin := Lib.hid h
    clear h ho he
    go_wp2_with fail
    refine HE.out.mono ?_
    rintro r w1 ⟨rfl, hw⟩
    obtain rfl := hw.symm
    clear HE hw
    go_wp2
    exact Met.intro (hJ _ _ ⟨_, ⟨rfl, rfl, rfl, rfl, rfl, rfl, rfl⟩, Hfin.out, rfl⟩)
  | true =>
    obtain ⟨k, e, hnum, hke, hf0, h1, h7⟩ := ends_true he
    obtain ⟨g, cw, hvw⟩ := row_some h.was (by have := (List.getElem?_eq_some_iff.1 hke).1; omega)
    have hlt := (List.getElem?_eq_some_iff.1 hke).1
    obtain ⟨n, hn⟩ : ∃ n, n = xs.length := ⟨_, rfl⟩
    rw [← hn] at hvw hlt
    subst hvw
    obtain ⟨kd, ee, number, how, on⟩ := o
    dsimp only at hnum h1 h7 y0 y16 y17 hkb
    subst hnum
    have HE := Lib.hid (show Calls Tryd.prog 12 #[.pointer (some ⟨lb, 0, none⟩), .int .i64 (k : Int), .int .i64 how] w fun r w' => r = .returned (.int .i64 0) ∧
        (Lg w0 w' lb v (xs.set k (e.ended how)) ∧ EntRow w' 38 (.slice (some ⟨g, 0, none⟩) n cw) xs ∧ w'.heap[cb]? = some (OpObj ⟨kd, ee, (k : Int), how, on⟩)) from
      (h.lg.fin hlen k e how hke hf0 h1 h7).mono fun r w' ⟨hr, hl, hm⟩ => ⟨hr, hl, ownsRow_frame h.was fun g' hg' => hm.block g' (h.was.lt g' hg').2 (h.wnew g' hg').2.2, hm.heap ho (fun q => op_apart h.lg ho (.inr q))⟩)
    have Hw := Lib.hid (h.wnew g rfl)
    have Hn := Lib.hid hn
    have Hk := Lib.hid hke
    have Hf := Lib.hid hf0
    have hd1 : decide ((k : Int) < 0) = false := decide_eq_false (by omega)
    have hd2 : decide ((n : Int) ≤ (k : Int)) = false := decide_eq_false (by omega)
    have hd3 : decide (how < 1) = false := decide_eq_false (by omega)
    have hd4 : decide (7 < how) = false := decide_eq_false (by omega)
    have b1 : (k : Int) < (n : Int) := by omega
    clear h ho he hn hke hf0 h1 h7 hlt hlen
    go_wp2_with fail
    refine HE.out.mono ?_
    rintro r w1 ⟨rfl, hl, hr, hb⟩
    have Hend := Lib.hid (And.intro (was_set Hn.out Hk.out how hl hr Hw.out) (show (xs.set k (e.ended how)).length = xs.length from List.length_set))
    have d1 : w1.cell? ⟨g, k * 15 + 14, none⟩ = some (.int .i64 0) := by rw [← Hf.out]; exact row_cell Hn.out hr Hk.out 14 (by decide)
    have f1 := row_frozen Hn.out hr (k * 15 + 14)
    clear y0 y16 y17
    have y16 : w1.cell? ⟨cb, 16, none⟩ = some (.int .i64 (k : Int)) := by rw [cell_blk hb]; rfl
    have y17 : w1.cell? ⟨cb, 17, none⟩ = some (.int .i64 how) := by rw [cell_blk hb]; rfl
    clear hl hr hb HE
    go_wp2
    exact Met.intro (hJ _ _ ⟨_, ⟨rfl, rfl, rfl, rfl, rfl, rfl, rfl⟩, Hend.out.1, Hend.out.2⟩)

set_option maxRecDepth 100000 in
set_option maxHeartbeats 1600000 in
theorem to_23 (hf : ToB a sv lb vw i cb) (rest : ∀ a', ToC a' sv lb vw i cb 0 → K a' w) : to23.wp Tryd.prog (Exit.then K Q) a w := by
  refine wp_cut (fun a' w' => ToC a' sv lb vw i cb 0 ∧ w' = w) (fun a' w' ⟨h, e⟩ => by subst e; exact rest a' h) ?_
  clear rest
  intro J K' hJ hK
  obtain ⟨vv, rfl⟩ := hf.shape
  clear hf
  dsimp only [to23, ncl, ncr, ncb, nco, nct, nce, ncx, Tryd.f3]
  go_wp2
  exact Met.intro (hJ _ _ ⟨⟨rfl, rfl, rfl, rfl, rfl, rfl, rfl, rfl⟩, rfl⟩)

set_option maxRecDepth 100000 in
set_option maxHeartbeats 1600000 in
theorem to_24 {op : Int} (hf : ToC a sv lb vw i cb op) (rest : ∀ a', ToD a' sv lb vw i cb op 0 → K a' w) : to24.wp Tryd.prog (Exit.then K Q) a w := by
  refine wp_cut (fun a' w' => ToD a' sv lb vw i cb op 0 ∧ w' = w) (fun a' w' ⟨h, e⟩ => by subst e; exact rest a' h) ?_
  clear rest
  intro J K' hJ hK
  obtain ⟨vv, rfl⟩ := hf.shape
  clear hf
  dsimp only [to24, ncl, ncr, ncb, nco, nct, nce, ncx, Tryd.f3]
  go_wp2
  exact Met.intro (hJ _ _ ⟨⟨rfl, rfl, rfl, rfl, rfl, rfl, rfl, rfl, rfl⟩, rfl⟩)

set_option maxRecDepth 100000 in
set_option maxHeartbeats 1600000 in
theorem to_ctest {op : Int} {k n c : Nat} {ao : Option Addr} (hf : ToD a sv lb (.slice ao n c) i cb op (k : Int))
    (rest : ∀ a', k < n → ToD a' sv lb (.slice ao n c) i cb op (k : Int) → K a' w) (out : ∀ a', n ≤ k → ToD a' sv lb (.slice ao n c) i cb op (k : Int) → Q (.exit 2) a' w) : toCTest.wp Tryd.prog (Exit.then K Q) a w := by
  obtain ⟨vv, rfl⟩ := hf.shape
  clear hf
  dsimp only [toCTest, ncl, ncr, ncb, nco, nct, nce, ncx, Tryd.f3]
  by_cases hk : k < n
  · have Hr := Lib.hid (fun a' h => rest a' hk h)
    have b1 : (k : Int) < (n : Int) := by omega
    clear rest out hk
    go_wp2
    exact Hr.out _ ⟨rfl, rfl, rfl, rfl, rfl, rfl, rfl, rfl, rfl⟩
  · have Hr := Lib.hid (fun a' h => out a' (by omega) h)
    have b1 : (n : Int) ≤ (k : Int) := by omega
    clear rest out hk
    go_wp2
    exact Hr.out _ ⟨rfl, rfl, rfl, rfl, rfl, rfl, rfl, rfl, rfl⟩

set_option maxRecDepth 100000 in
set_option maxHeartbeats 1600000 in
theorem to_cround {op k n c g : Nat} {e : Ent} (hf : ToD a sv lb (.slice (some ⟨g, 0, none⟩) n c) i cb (op : Int) (k : Int)) (hn : n = xs.length) (hr : EntRow w 38 (.slice (some ⟨g, 0, none⟩) n c) xs) (hk : xs[k]? = some e) (hop : op ≤ 60)
    (rest : ∀ a', ToD a' sv lb (.slice (some ⟨g, 0, none⟩) n c) i cb ((op + (if e.fin = 0 then 1 else 0) : Nat) : Int) (k : Int) → K a' w) : toCRound.wp Tryd.prog (Exit.then K Q) a w := by
  refine wp_cut (fun a' w' => ToD a' sv lb (.slice (some ⟨g, 0, none⟩) n c) i cb ((op + (if e.fin = 0 then 1 else 0) : Nat) : Int) (k : Int) ∧ w' = w) (fun a' w' ⟨h, e⟩ => by subst e; exact rest a' h) ?_
  clear rest
  intro J K' hJ hK
  refine wp_calm ?_
  obtain ⟨vv, rfl⟩ := hf.shape
  clear hf
  dsimp only [toCRound, ncl, ncr, ncb, nco, nct, nce, ncx, Tryd.f3]
  have d1 : w.cell? ⟨g, k * 15 + 14, none⟩ = some (.int .i64 e.fin) := row_cell hn hr hk 14 (by decide)
  have b1 : (k : Int) < (n : Int) := by have := (List.getElem?_eq_some_iff.1 hk).1; omega
  clear hn hr hk
  by_cases h0 : e.fin = 0
  · have hb : (e.fin == 0) = true := by rw [h0]; rfl
    have Hop := Lib.hid (go_step (wrap_small (show op < 65537 by omega)))
    rw [if_pos h0] at hJ
    clear h0 hop
    go_wp2
    exact Met.intro (hJ _ _ ⟨⟨rfl, rfl, rfl, rfl, rfl, rfl, rfl, congrArg some Hop.out, rfl⟩, rfl⟩)
  · have hb : (e.fin == 0) = false := beq_eq_false_iff_ne.2 h0
    rw [if_neg h0] at hJ
    clear h0 hop
    go_wp2
    exact Met.intro (hJ _ _ ⟨⟨rfl, rfl, rfl, rfl, rfl, rfl, rfl, rfl, rfl⟩, rfl⟩)

set_option maxRecDepth 100000 in
set_option maxHeartbeats 1600000 in
theorem to_cstep {op : Int} {k : Nat} (hf : ToD a sv lb vw i cb op (k : Int)) (hk : k < 65537) (rest : ∀ a', ToD a' sv lb vw i cb op ((k + 1 : Nat) : Int) → K a' w) : toCStep.wp Tryd.prog (Exit.then K Q) a w := by
  refine wp_cut (fun a' w' => ToD a' sv lb vw i cb op ((k + 1 : Nat) : Int) ∧ w' = w) (fun a' w' ⟨h, e⟩ => by subst e; exact rest a' h) ?_
  clear rest
  intro J K' hJ hK
  obtain ⟨vv, rfl⟩ := hf.shape
  clear hf
  dsimp only [toCStep, ncl, ncr, ncb, nco, nct, nce, ncx, Tryd.f3]
  have Hop := Lib.hid (go_step (wrap_small hk))
  clear hk
  go_wp2
  exact Met.intro (hJ _ _ ⟨⟨rfl, rfl, rfl, rfl, rfl, rfl, rfl, rfl, congrArg some Hop.out⟩, rfl⟩)

set_option maxRecDepth 100000 in
set_option maxHeartbeats 4000000 in
theorem to_same (hf : ToC a sv lb vw i cb (openN xs : Int)) (h : OInv w0 w lb v vw xs) (hlen : xs.length < 65537)
    (rest : ∀ a' w', ToA a' sv lb vw i → OInv w0 w' lb v vw xs → K a' w') : toSame.wp Tryd.prog (Exit.then K Q) a w := by
  refine wp_cut (fun a' w' => ToA a' sv lb vw i ∧ OInv w0 w' lb v vw xs) (fun a' w' h => rest a' w' h.1 h.2) ?_
  clear rest
  intro J K' hJ hK
  refine wp_calm ?_
  obtain ⟨ao, cw, rfl⟩ := row_form h.was
  obtain ⟨vv, rfl⟩ := hf.shape
  clear hf
  dsimp only [toSame, ncl, ncr, ncb, nco, nct, nce, ncx, Tryd.f3]
  obtain ⟨n, hn⟩ : ∃ n, n = xs.length := ⟨_, rfl⟩
  obtain ⟨q, hq⟩ : ∃ q, q = openN xs := ⟨_, rfl⟩
  have He := Lib.hid (entries_walk w lb v xs h.lg.log hlen)
  have Hs := Lib.hid (show ∀ ao' c' w1, Below w.heap.size w w1 → EntRow w1 38 (.slice ao' n c') xs → Calls Tryd.prog 13 #[.slice ao' n c', .slice ao n cw] w1 fun r w' => r = .returned (.bool true) ∧ OInv w0 w' lb v (.slice ao n cw) xs from
    fun ao' c' w1 hb hr => by
      have hw := (h.later hb)
      rw [← hn] at hw
      refine (same_walk w1 _ _ xs xs hr hw.was hlen).mono ?_
      rintro r w' ⟨hr, m, hm⟩
      subst hm
      refine ⟨by rw [hr, sameL_iff.2 rfl], ?_⟩
      exact hw.later ⟨rfl, rfl, rfl, Nat.le_refl _, fun _ _ => rfl⟩)
  have Hc := Lib.hid (show ∀ w1, OInv w0 w1 lb v (.slice ao n cw) xs → Calls Tryd.prog 15 #[.pointer (some ⟨lb, 0, none⟩)] w1 fun r w' => r = .returned (.int .i64 (n : Int)) ∧ w' = w1 from fun w1 h1 => by
    rw [hn]
    exact count_walk w1 lb v xs h1.lg.log)
  have Hp := Lib.hid (show ∀ w1, OInv w0 w1 lb v (.slice ao n cw) xs → Calls Tryd.prog 16 #[.pointer (some ⟨lb, 0, none⟩)] w1 fun r w' => ∃ ao c, r = .returned (.slice ao q c) ∧ Below w1.heap.size w1 w' from fun w1 h1 => (open_walk w1 lb v xs h1.lg.log hlen).mono fun r w' ⟨ao, c, hr, _, hb, _⟩ => ⟨ao, c, by rw [hq]; exact hr, hb⟩)
  rw [← hn] at hJ ⊢
  rw [← hq]
  have t1 : ((n : Int) != (n : Int)) = false := by simp
  have t2 : ((q : Int) != (q : Int)) = false := by simp
  have Hn := Lib.hid hn
  clear h hn hq hlen
  go_wp2_with fail
  refine He.out.mono ?_
  rintro r w1 ⟨ao', c', rfl, h1, h2, _⟩
  rw [← Hn.out] at h1 ⊢
  have Hs1 := Lib.hid (Hs.out ao' c' w1 h2 h1)
  clear h1 h2 He Hs
  go_wp2_with fail
  refine Hs1.out.mono ?_
  rintro r w2 ⟨rfl, h2⟩
  have Hc2 := Lib.hid (Hc.out w2 h2)
  have Hp2 := Lib.hid (Hp.out w2 h2)
  have H2 := Lib.hid h2
  clear h2 Hs1 Hc Hp
  go_wp2_with fail
  refine Hc2.out.mono ?_
  rintro r w3 ⟨rfl, hw⟩
  obtain rfl := hw.symm
  clear Hc2 hw
  go_wp2_with fail
  refine Hp2.out.mono ?_
  rintro r w4 ⟨ao2, c2, rfl, hb⟩
  have H4 := Lib.hid (H2.out.later hb)
  clear hb Hp2 H2
  go_wp2
  exact Met.intro (hJ _ _ ⟨⟨rfl, rfl, rfl, rfl, rfl, rfl⟩, H4.out⟩)

set_option maxRecDepth 100000 in
set_option maxHeartbeats 1600000 in
theorem to_step {k : Nat} (hf : ToA a sv lb vw (k : Int)) (hk : k < 65537) (rest : ∀ a', ToA a' sv lb vw ((k + 1 : Nat) : Int) → K a' w) : toStep.wp Tryd.prog (Exit.then K Q) a w := by
  refine wp_cut (fun a' w' => ToA a' sv lb vw ((k + 1 : Nat) : Int) ∧ w' = w) (fun a' w' ⟨h, e⟩ => by subst e; exact rest a' h) ?_
  clear rest
  intro J K' hJ hK
  obtain ⟨vv, rfl⟩ := hf.shape
  clear hf
  dsimp only [toStep, ncl, ncr, ncb, nco, nct, nce, ncx, Tryd.f3]
  have Hop := Lib.hid (go_step (wrap_small hk))
  clear hk
  go_wp2
  exact Met.intro (hJ _ _ ⟨⟨rfl, rfl, rfl, rfl, rfl, congrArg some Hop.out⟩, rfl⟩)

set_option maxRecDepth 100000 in
set_option maxHeartbeats 1600000 in
theorem to_test {k n c : Nat} {ao : Option Addr} (hf : ToA a (.slice ao n c) lb vw (k : Int))
    (rest : ∀ a', k < n → k < 60 → ToA a' (.slice ao n c) lb vw (k : Int) → K a' w) (out : ∀ a', ToA a' (.slice ao n c) lb vw (k : Int) → Q (.exit 0) a' w) : toTest.wp Tryd.prog (Exit.then K Q) a w := by
  obtain ⟨vv, rfl⟩ := hf.shape
  clear hf
  dsimp only [toTest, ncl, ncr, ncb, nco, nct, nce, ncx, Tryd.f3]
  by_cases hk : k < n
  · by_cases hk2 : k < 60
    · have Hr := Lib.hid (fun a' h => rest a' hk hk2 h)
      have b1 : (k : Int) < (n : Int) := by omega
      have b2 : decide ((k : Int) < 60) = true := decide_eq_true (by omega)
      clear rest out hk hk2
      go_wp2
      exact Hr.out _ ⟨rfl, rfl, rfl, rfl, rfl, rfl⟩
    · have Hr := Lib.hid (fun a' h => out a' h)
      have b1 : (k : Int) < (n : Int) := by omega
      have b2 : decide ((k : Int) < 60) = false := decide_eq_false (by omega)
      clear rest out hk hk2
      go_wp2
      exact Hr.out _ ⟨rfl, rfl, rfl, rfl, rfl, rfl⟩
  · have Hr := Lib.hid (fun a' h => out a' h)
    have b1 : (n : Int) ≤ (k : Int) := by omega
    clear rest out hk
    go_wp2
    exact Hr.out _ ⟨rfl, rfl, rfl, rfl, rfl, rfl⟩

end

end Go.Proofs.YthpflfcgnaichaaDoor
