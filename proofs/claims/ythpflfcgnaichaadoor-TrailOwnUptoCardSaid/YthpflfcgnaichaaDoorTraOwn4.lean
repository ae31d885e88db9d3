/-
TrailOwn: the looks, the calls upon the copy, the whole walk.
-/
import Derived.Test.YthpflfcgnaichaaDoorTraOwn3
import Derived.Test.YthpflfcgnaichaaDoorTraAwake
import Derived.Test.YthpflfcgnaichaaDoorTraBackW
set_option linter.unusedVariables false
set_option linter.unusedSimpArgs false
namespace Go.Proofs.YthpflfcgnaichaaDoor
open Go Go.RowKit

theorem bd_drew {w : World} : Below w.heap.size w w.drew := ⟨rfl, rfl, rfl, Nat.le_refl _, fun _ _ => rfl⟩

section
variable {w0 w : World} {It : Nat → Item} {p : OP} {q : OQ} {vl vc : Value} {xs : List Ent} {vals vos : List Value} {vL vW : Value} {longs wides : List Value} {K : Act → World → Prop} {Q : Exit → Act → World → Prop} {a : Act}


/-! Stage G -/

set_option maxRecDepth 100000 in
set_option maxHeartbeats 4000000 in
theorem owG_w {i k gl cl n c g g2 c2 : Nat} (hf : OwK2 a p q (.slice (some ⟨gl, 0, none⟩) 6 cl) vW (i : Int) (k : Int)) (y0 : w.cell? ⟨q.ga, i, none⟩ = some (.slice (some ⟨g, 0, none⟩) n c)) (y1 : w.cell? ⟨g, k * 15, none⟩ = some (.int .i64 (-(i : Int) - 1)))
    (y2 : w.cell? ⟨gl, i, none⟩ = some (.slice (some ⟨g2, 0, none⟩) (n + 1) c2)) (y3 : w.cell? ⟨g2, k * 15, none⟩ = some (.int .i64 (-(i : Int) - 1))) (hi : i < q.na) (hN : i < 6) (hk : k < n)
    (rest : ∀ a', OwK2 a' p q (.slice (some ⟨gl, 0, none⟩) 6 cl) vW (i : Int) (k : Int) → K a' w) : owGc.wp Tryd.prog (Exit.then K Q) a w := by
  show (Code.block 17 owGw).wp Tryd.prog (Exit.then K Q) a w
  refine in_block ?_
  refine wp_cut (fun a' w' => OwK2 a' p q (.slice (some ⟨gl, 0, none⟩) 6 cl) vW (i : Int) (k : Int) ∧ w' = w) (fun a' w' ⟨h, e⟩ => by subst e; exact rest a' h) ?_
  clear rest
  intro J K' hJ hK
  refine wp_calm ?_
  obtain ⟨vv, rfl⟩ := hf.shape
  clear hf
  dsimp only [owGw, ncl, ncr, ncb, nco, nct, nce, ncx, Tryd.f8]
  rw [← neg_mark (show i < 65537 by omega)] at y1 y3
  have b0 : (i : Int) < (q.na : Int) := by omega
  have b1 : (k : Int) < (n : Int) := by omega
  have b2 : (k : Int) < ((n + 1 : Nat) : Int) := by omega
  have b3 : (i : Int) < 6 := by omega
  clear hi hN hk
  go_wp2
  exact Met.intro (hJ _ _ ⟨⟨rfl, rfl, rfl, rfl, rfl, rfl, rfl, rfl, rfl, rfl, rfl, rfl⟩, rfl⟩)

set_option maxRecDepth 100000 in
set_option maxHeartbeats 4000000 in
theorem owG_y {i gl cl n c g2 c2 : Nat} {ao : Option Addr} {k : Int} (hf : OwK2 a p q (.slice (some ⟨gl, 0, none⟩) 6 cl) vW (i : Int) k) (y0 : w.cell? ⟨q.ga, i, none⟩ = some (.slice ao n c))
    (y2 : w.cell? ⟨gl, i, none⟩ = some (.slice (some ⟨g2, 0, none⟩) (n + 1) c2)) (y3 : w.cell? ⟨g2, n * 15, none⟩ = some (.int .i64 (100 + (i : Int)))) (hi : i < q.na) (hN : i < 6)
    (rest : ∀ a' w', Below w.heap.size w w' → OwK1 a' p q (.slice (some ⟨gl, 0, none⟩) 6 cl) vW (i : Int) → K a' w') : owGy.wp Tryd.prog (Exit.then K Q) a w := by
  refine wp_cut (fun a' w' => Below w.heap.size w w' ∧ OwK1 a' p q (.slice (some ⟨gl, 0, none⟩) 6 cl) vW (i : Int)) (fun a' w' h => rest a' w' h.1 h.2) ?_
  clear rest
  intro J K' hJ hK
  refine wp_calm ?_
  obtain ⟨vv, rfl⟩ := hf.shape
  clear hf
  dsimp only [owGy, ncl, ncr, ncb, nco, nct, nce, ncx, Tryd.f8]
  have b0 : (i : Int) < (q.na : Int) := by omega
  have b2 : (n : Int) < (n : Int) + 1 := by omega
  have b3 : (i : Int) < 6 := by omega
  have Hfm := Lib.hid (fin_mark (show i < 65537 by omega))
  clear hi hN
  have z0 : w.drew.cell? ⟨q.ga, i, none⟩ = some (.slice ao n c) := y0
  have z2 : w.drew.cell? ⟨gl, i, none⟩ = some (.slice (some ⟨g2, 0, none⟩) (n + 1) c2) := y2
  have z3 : w.drew.cell? ⟨g2, n * 15, none⟩ = some (.int .i64 (100 + (i : Int))) := y3
  clear y0 y2 y3
  go_wp2_with fail
  go_region_held3 (fun w' => (w'.cell? ⟨q.ga, i, none⟩ = some (.slice ao n c) ∧ w'.cell? ⟨gl, i, none⟩ = some (.slice (some ⟨g2, 0, none⟩) (n + 1) c2) ∧ w'.cell? ⟨g2, n * 15, none⟩ = some (.int .i64 (100 + (i : Int)))) ∧ Below w.heap.size w w') (first | exact ⟨⟨z0, z2, z3⟩, bd_drew⟩ | assumption) (fail)
  go_wp2
  · rename_i h
    rw [Hfm.out] at h
    simp at h
  · exact Met.intro (hJ _ _ ⟨bd_drew, ⟨rfl, rfl, rfl, rfl, rfl, rfl, rfl, rfl, rfl, rfl, rfl⟩⟩)

set_option maxRecDepth 100000 in
set_option maxHeartbeats 4000000 in
theorem owG_0 (hf : OwT a p q vL vW) (rest : ∀ a', OwK1 a' p q vL vW ((0 : Nat) : Int) → K a' w) : owG0.wp Tryd.prog (Exit.then K Q) a w := by
  refine wp_cut (fun a' w' => OwK1 a' p q vL vW ((0 : Nat) : Int) ∧ w' = w) (fun a' w' ⟨h, e⟩ => by subst e; exact rest a' h) ?_
  clear rest
  intro J K' hJ hK
  refine wp_calm ?_
  obtain ⟨vv, rfl⟩ := hf.shape
  clear hf
  dsimp only [owG0, ncl, ncr, ncb, nco, nct, nce, ncx, Tryd.f8]
  go_wp2
  exact Met.intro (hJ _ _ ⟨⟨rfl, rfl, rfl, rfl, rfl, rfl, rfl, rfl, rfl, rfl, rfl⟩, rfl⟩)

set_option maxRecDepth 100000 in
set_option maxHeartbeats 4000000 in
theorem owG_i {i : Int} (hf : OwK1 a p q vL vW i) (rest : ∀ a', OwK2 a' p q vL vW i ((0 : Nat) : Int) → K a' w) : owGi.wp Tryd.prog (Exit.then K Q) a w := by
  refine wp_cut (fun a' w' => OwK2 a' p q vL vW i ((0 : Nat) : Int) ∧ w' = w) (fun a' w' ⟨h, e⟩ => by subst e; exact rest a' h) ?_
  clear rest
  intro J K' hJ hK
  refine wp_calm ?_
  obtain ⟨vv, rfl⟩ := hf.shape
  clear hf
  dsimp only [owGi, ncl, ncr, ncb, nco, nct, nce, ncx, Tryd.f8]
  go_wp2
  exact Met.intro (hJ _ _ ⟨⟨rfl, rfl, rfl, rfl, rfl, rfl, rfl, rfl, rfl, rfl, rfl, rfl⟩, rfl⟩)

set_option maxRecDepth 100000 in
set_option maxHeartbeats 4000000 in
theorem owG_u {ao : Option Addr} {n c i k : Nat} (hf : OwK2 a p q vL vW (i : Int) (k : Int)) (hc : w.cell? ⟨q.ga, i, none⟩ = some (.slice ao n c)) (hi : i < q.na)
    (rest : ∀ a', k < n → OwK2 a' p q vL vW (i : Int) (k : Int) → K a' w) (out : ∀ a', n ≤ k → OwK2 a' p q vL vW (i : Int) (k : Int) → Q (.exit 16) a' w) : owGu.wp Tryd.prog (Exit.then K Q) a w := by
  obtain ⟨vv, rfl⟩ := hf.shape
  clear hf
  dsimp only [owGu, ncl, ncr, ncb, nco, nct, nce, ncx, Tryd.f8]
  have b0 : (i : Int) < (q.na : Int) := by omega
  by_cases hk : k < n
  · have Hr := Lib.hid (fun a' h => rest a' hk h)
    have b1 : (k : Int) < (n : Int) := by omega
    clear rest out hk hi
    go_wp2
    exact Hr.out _ ⟨rfl, rfl, rfl, rfl, rfl, rfl, rfl, rfl, rfl, rfl, rfl, rfl⟩
  · have Hr := Lib.hid (fun a' h => out a' (by omega) h)
    have b1 : (n : Int) ≤ (k : Int) := by omega
    clear rest out hk hi
    go_wp2
    exact Hr.out _ ⟨rfl, rfl, rfl, rfl, rfl, rfl, rfl, rfl, rfl, rfl, rfl, rfl⟩

set_option maxRecDepth 100000 in
set_option maxHeartbeats 4000000 in
theorem owG_v {i k : Nat} (hf : OwK2 a p q vL vW (i : Int) (k : Int)) (hk : k < 65537) (rest : ∀ a', OwK2 a' p q vL vW (i : Int) ((k + 1 : Nat) : Int) → K a' w) : owGv.wp Tryd.prog (Exit.then K Q) a w := by
  refine wp_cut (fun a' w' => OwK2 a' p q vL vW (i : Int) ((k + 1 : Nat) : Int) ∧ w' = w) (fun a' w' ⟨h, e⟩ => by subst e; exact rest a' h) ?_
  clear rest
  intro J K' hJ hK
  refine wp_calm ?_
  obtain ⟨vv, rfl⟩ := hf.shape
  clear hf
  dsimp only [owGv, ncl, ncr, ncb, nco, nct, nce, ncx, Tryd.f8]
  have Hop := Lib.hid (go_step (wrap_small hk))
  clear hk
  go_wp2
  exact Met.intro (hJ _ _ ⟨⟨rfl, rfl, rfl, rfl, rfl, rfl, rfl, rfl, rfl, rfl, rfl, congrArg some Hop.out⟩, rfl⟩)

set_option maxRecDepth 100000 in
set_option maxHeartbeats 4000000 in
theorem owG_t {i : Nat} (hf : OwK1 a p q vL vW (i : Int)) (rest : ∀ a', i < q.na → OwK1 a' p q vL vW (i : Int) → K a' w) (out : ∀ a', q.na ≤ i → OwK1 a' p q vL vW (i : Int) → Q (.exit 14) a' w) : owGt.wp Tryd.prog (Exit.then K Q) a w := by
  obtain ⟨vv, rfl⟩ := hf.shape
  clear hf
  dsimp only [owGt, ncl, ncr, ncb, nco, nct, nce, ncx, Tryd.f8]
  by_cases hk : i < q.na
  · have Hr := Lib.hid (fun a' h => rest a' hk h)
    have b1 : (i : Int) < (q.na : Int) := by omega
    clear rest out hk
    go_wp2
    exact Hr.out _ ⟨rfl, rfl, rfl, rfl, rfl, rfl, rfl, rfl, rfl, rfl, rfl⟩
  · have Hr := Lib.hid (fun a' h => out a' (by omega) h)
    have b1 : (q.na : Int) ≤ (i : Int) := by omega
    clear rest out hk
    go_wp2
    exact Hr.out _ ⟨rfl, rfl, rfl, rfl, rfl, rfl, rfl, rfl, rfl, rfl, rfl⟩

set_option maxRecDepth 100000 in
set_option maxHeartbeats 4000000 in
theorem owG_s {i : Nat} (hf : OwK1 a p q vL vW (i : Int)) (hk : i < 65537) (rest : ∀ a', OwK1 a' p q vL vW ((i + 1 : Nat) : Int) → K a' w) : owGs.wp Tryd.prog (Exit.then K Q) a w := by
  refine wp_cut (fun a' w' => OwK1 a' p q vL vW ((i + 1 : Nat) : Int) ∧ w' = w) (fun a' w' ⟨h, e⟩ => by subst e; exact rest a' h) ?_
  clear rest
  intro J K' hJ hK
  refine wp_calm ?_
  obtain ⟨vv, rfl⟩ := hf.shape
  clear hf
  dsimp only [owGs, ncl, ncr, ncb, nco, nct, nce, ncx, Tryd.f8]
  have Hop := Lib.hid (go_step (wrap_small hk))
  clear hk
  go_wp2
  exact Met.intro (hJ _ _ ⟨⟨rfl, rfl, rfl, rfl, rfl, rfl, rfl, rfl, rfl, rfl, congrArg some Hop.out⟩, rfl⟩)

theorem owG_b {i : Nat} (hf : OwK1 a p q vL vW (i : Int)) (h : OwDS w0 w It p q vl vc xs vals vos vL vW longs longs wides wides) (hl : longs.length = 6) (hN : i < 6)
    (rest : ∀ a' w', OwK1 a' p q vL vW (i : Int) → OwDS w0 w' It p q vl vc xs vals vos vL vW longs longs wides wides → K a' w') : owGb.wp Tryd.prog (Exit.then K Q) a w := by
  obtain ⟨gl, cl, hV⟩ := row_at0 h.rows.2.2.1 (by omega)
  rw [hl] at hV
  subst hV
  have hi : i < q.na := by have h1 := h.na; have h2 := h.no; omega
  obtain ⟨v, hv⟩ : ∃ v, vals[i]? = some v := ⟨_, List.getElem?_eq_getElem (by have h1 := h.lens.1; omega)⟩
  obtain ⟨ao, n, c, g2, c2, rfl, hn, hll, hr1, hr2, hr3⟩ := h.a.looks h.m.bg (by have h1 := h.lens.1; omega) (fun _ => rfl) (fun _ => rfl) (by decide) hv
  have y0 := h.cellA hv
  have y2 : w.cell? ⟨gl, i, none⟩ = some (.slice (some ⟨g2, 0, none⟩) (n + 1) c2) := row_cell1 (n := longs.length) (c := cl) (by have := h.rows.2.2.1; rw [hl] at this ⊢; exact this) hll
  show (Code.block 15 (Code.seq (Code.seq owGi (Code.block 16 (Code.loop (Code.seq owGu (Code.seq owGc owGv))))) owGy)).wp Tryd.prog (Exit.then K Q) a w
  refine in_block (wp_seq (wp_seq (owG_i hf (fun a1 f1 => wp_block ?_))))
  refine wp_loop (fun a' w' => ∃ k : Nat, k ≤ n ∧ OwK2 a' p q (.slice (some ⟨gl, 0, none⟩) 6 cl) vW (i : Int) (k : Int) ∧ w' = w) (fun a' _ => n - (intOf (a'.tmps.getD 24 undef)).toNat) ⟨0, Nat.zero_le _, f1, rfl⟩ ?_
  rintro a' w' ⟨k, hk, hf', rfl⟩
  refine wp_seq (owG_u hf' y0 hi (fun a2 hlt hf2 => ?_) (fun a2 hge hf2 => ?_))
  · obtain ⟨g, rfl, hg⟩ := hr1 (by omega)
    refine wp_seq (owG_w hf2 y0 (by have := hg k hlt; exact this) y2 (by have := hr2 k hlt; exact this) hi hN hlt (fun a3 hf3 => owG_v hf3 (by omega) (fun a4 hf4 => ⟨⟨k + 1, hlt, hf4, rfl⟩, ?_⟩)))
    show n - (intOf (a4.tmps.getD 24 undef)).toNat < n - (intOf (a'.tmps.getD 24 undef)).toNat
    rw [getD_of hf4.s24, getD_of hf'.s24]
    simp only [intOf]
    omega
  · refine out_loop (owG_y hf2 y0 y2 (by exact hr3) hi hN (fun a3 w3 hb hf3 => rest a3 w3 hf3 (h.later hb)))

theorem owG_l (hf : OwK1 a p q vL vW ((0 : Nat) : Int)) (h : OwDS w0 w It p q vl vc xs vals vos vL vW longs longs wides wides) (hl : longs.length = 6)
    (rest : ∀ a' w', OwT a' p q vL vW → OwDS w0 w' It p q vl vc xs vals vos vL vW longs longs wides wides → K a' w') : owGl.wp Tryd.prog (Exit.inBlock 14 (Exit.then K Q)) a w := by
  show (Code.loop (Code.seq owGt (Code.seq owGb owGs))).wp Tryd.prog (Exit.inBlock 14 (Exit.then K Q)) a w
  refine wp_loop (fun a' w' => ∃ i : Nat, i ≤ 6 ∧ OwK1 a' p q vL vW (i : Int) ∧ OwDS w0 w' It p q vl vc xs vals vos vL vW longs longs wides wides) (fun a' _ => 6 - (intOf (a'.tmps.getD 23 undef)).toNat) ⟨0, Nat.zero_le _, hf, h⟩ ?_
  rintro a' w' ⟨i, hi, hf', h'⟩
  have hN : q.na = 6 := by have h1 := h.na; have h2 := h.no; omega
  refine wp_seq (owG_t hf' (fun a1 hlt hf1 => ?_) (fun a1 hge hf1 => ?_))
  · refine wp_seq (owG_b hf1 h' hl (by omega) (fun a2 w2 hf2 h2 => owG_s hf2 (by omega) (fun a3 hf3 => ⟨⟨i + 1, by omega, hf3, h2⟩, ?_⟩)))
    show 6 - (intOf (a3.tmps.getD 23 undef)).toNat < 6 - (intOf (a'.tmps.getD 23 undef)).toNat
    rw [getD_of hf3.s23, getD_of hf'.s23]
    simp only [intOf]
    omega
  · exact out_loop (rest _ _ hf1.toT h')

theorem owG_all (hf : OwT a p q vL vW) (h : OwDS w0 w It p q vl vc xs vals vos vL vW longs longs wides wides) (hl : longs.length = 6) (rest : ∀ a' w', OwT a' p q vL vW → OwDS w0 w' It p q vl vc xs vals vos vL vW longs longs wides wides → K a' w') : owG.wp Tryd.prog (Exit.then K Q) a w := by
  show (Code.seq owG0 (Code.block 14 owGl)).wp Tryd.prog (Exit.then K Q) a w
  exact wp_seq (owG_0 hf (fun a1 f1 => wp_block (owG_l f1 h hl rest)))


/-! Stage H -/

set_option maxRecDepth 100000 in
set_option maxHeartbeats 4000000 in
theorem owH_w {i k gl cl n c g g2 c2 : Nat} (hf : OwK4 a p q vL (.slice (some ⟨gl, 0, none⟩) 3 cl) (i : Int) (k : Int)) (y0 : w.cell? ⟨q.go, i, none⟩ = some (.slice (some ⟨g, 0, none⟩) n c)) (y1 : w.cell? ⟨g, k, none⟩ = some (.int .i64 (-(i : Int) - 1)))
    (y2 : w.cell? ⟨gl, i, none⟩ = some (.slice (some ⟨g2, 0, none⟩) (n + 1) c2)) (y3 : w.cell? ⟨g2, k, none⟩ = some (.int .i64 (-(i : Int) - 1))) (hi : i < q.no) (hN : i < 3) (hk : k < n)
    (rest : ∀ a', OwK4 a' p q vL (.slice (some ⟨gl, 0, none⟩) 3 cl) (i : Int) (k : Int) → K a' w) : owHc.wp Tryd.prog (Exit.then K Q) a w := by
  show (Code.block 21 owHw).wp Tryd.prog (Exit.then K Q) a w
  refine in_block ?_
  refine wp_cut (fun a' w' => OwK4 a' p q vL (.slice (some ⟨gl, 0, none⟩) 3 cl) (i : Int) (k : Int) ∧ w' = w) (fun a' w' ⟨h, e⟩ => by subst e; exact rest a' h) ?_
  clear rest
  intro J K' hJ hK
  refine wp_calm ?_
  obtain ⟨vv, rfl⟩ := hf.shape
  clear hf
  dsimp only [owHw, ncl, ncr, ncb, nco, nct, nce, ncx, Tryd.f8]
  rw [← neg_mark (show i < 65537 by omega)] at y1 y3
  have b0 : (i : Int) < (q.no : Int) := by omega
  have b1 : (k : Int) < (n : Int) := by omega
  have b2 : (k : Int) < ((n + 1 : Nat) : Int) := by omega
  have b3 : (i : Int) < 3 := by omega
  clear hi hN hk
  go_wp2
  exact Met.intro (hJ _ _ ⟨⟨rfl, rfl, rfl, rfl, rfl, rfl, rfl, rfl, rfl, rfl, rfl, rfl⟩, rfl⟩)

set_option maxRecDepth 100000 in
set_option maxHeartbeats 4000000 in
theorem owH_y {i gl cl n c g2 c2 : Nat} {ao : Option Addr} {k : Int} (hf : OwK4 a p q vL (.slice (some ⟨gl, 0, none⟩) 3 cl) (i : Int) k) (y0 : w.cell? ⟨q.go, i, none⟩ = some (.slice ao n c))
    (y2 : w.cell? ⟨gl, i, none⟩ = some (.slice (some ⟨g2, 0, none⟩) (n + 1) c2)) (y3 : w.cell? ⟨g2, n, none⟩ = some (.int .i64 (100 + (i : Int)))) (hi : i < q.no) (hN : i < 3)
    (rest : ∀ a' w', Below w.heap.size w w' → OwK3 a' p q vL (.slice (some ⟨gl, 0, none⟩) 3 cl) (i : Int) → K a' w') : owHy.wp Tryd.prog (Exit.then K Q) a w := by
  refine wp_cut (fun a' w' => Below w.heap.size w w' ∧ OwK3 a' p q vL (.slice (some ⟨gl, 0, none⟩) 3 cl) (i : Int)) (fun a' w' h => rest a' w' h.1 h.2) ?_
  clear rest
  intro J K' hJ hK
  refine wp_calm ?_
  obtain ⟨vv, rfl⟩ := hf.shape
  clear hf
  dsimp only [owHy, ncl, ncr, ncb, nco, nct, nce, ncx, Tryd.f8]
  have b0 : (i : Int) < (q.no : Int) := by omega
  have b2 : (n : Int) < (n : Int) + 1 := by omega
  have b3 : (i : Int) < 3 := by omega
  have Hfm := Lib.hid (fin_mark (show i < 65537 by omega))
  clear hi hN
  have z0 : w.drew.cell? ⟨q.go, i, none⟩ = some (.slice ao n c) := y0
  have z2 : w.drew.cell? ⟨gl, i, none⟩ = some (.slice (some ⟨g2, 0, none⟩) (n + 1) c2) := y2
  have z3 : w.drew.cell? ⟨g2, n, none⟩ = some (.int .i64 (100 + (i : Int))) := y3
  clear y0 y2 y3
  go_wp2_with fail
  go_region_held3 (fun w' => (w'.cell? ⟨q.go, i, none⟩ = some (.slice ao n c) ∧ w'.cell? ⟨gl, i, none⟩ = some (.slice (some ⟨g2, 0, none⟩) (n + 1) c2) ∧ w'.cell? ⟨g2, n, none⟩ = some (.int .i64 (100 + (i : Int)))) ∧ Below w.heap.size w w') (first | exact ⟨⟨z0, z2, z3⟩, bd_drew⟩ | assumption) (fail)
  go_wp2
  · rename_i h
    rw [Hfm.out] at h
    simp at h
  · exact Met.intro (hJ _ _ ⟨bd_drew, ⟨rfl, rfl, rfl, rfl, rfl, rfl, rfl, rfl, rfl, rfl, rfl⟩⟩)

set_option maxRecDepth 100000 in
set_option maxHeartbeats 4000000 in
theorem owH_0 (hf : OwT a p q vL vW) (rest : ∀ a', OwK3 a' p q vL vW ((0 : Nat) : Int) → K a' w) : owH0.wp Tryd.prog (Exit.then K Q) a w := by
  refine wp_cut (fun a' w' => OwK3 a' p q vL vW ((0 : Nat) : Int) ∧ w' = w) (fun a' w' ⟨h, e⟩ => by subst e; exact rest a' h) ?_
  clear rest
  intro J K' hJ hK
  refine wp_calm ?_
  obtain ⟨vv, rfl⟩ := hf.shape
  clear hf
  dsimp only [owH0, ncl, ncr, ncb, nco, nct, nce, ncx, Tryd.f8]
  go_wp2
  exact Met.intro (hJ _ _ ⟨⟨rfl, rfl, rfl, rfl, rfl, rfl, rfl, rfl, rfl, rfl, rfl⟩, rfl⟩)

set_option maxRecDepth 100000 in
set_option maxHeartbeats 4000000 in
theorem owH_i {i : Int} (hf : OwK3 a p q vL vW i) (rest : ∀ a', OwK4 a' p q vL vW i ((0 : Nat) : Int) → K a' w) : owHi.wp Tryd.prog (Exit.then K Q) a w := by
  refine wp_cut (fun a' w' => OwK4 a' p q vL vW i ((0 : Nat) : Int) ∧ w' = w) (fun a' w' ⟨h, e⟩ => by subst e; exact rest a' h) ?_
  clear rest
  intro J K' hJ hK
  refine wp_calm ?_
  obtain ⟨vv, rfl⟩ := hf.shape
  clear hf
  dsimp only [owHi, ncl, ncr, ncb, nco, nct, nce, ncx, Tryd.f8]
  go_wp2
  exact Met.intro (hJ _ _ ⟨⟨rfl, rfl, rfl, rfl, rfl, rfl, rfl, rfl, rfl, rfl, rfl, rfl⟩, rfl⟩)

set_option maxRecDepth 100000 in
set_option maxHeartbeats 4000000 in
theorem owH_u {ao : Option Addr} {n c i k : Nat} (hf : OwK4 a p q vL vW (i : Int) (k : Int)) (hc : w.cell? ⟨q.go, i, none⟩ = some (.slice ao n c)) (hi : i < q.no)
    (rest : ∀ a', k < n → OwK4 a' p q vL vW (i : Int) (k : Int) → K a' w) (out : ∀ a', n ≤ k → OwK4 a' p q vL vW (i : Int) (k : Int) → Q (.exit 20) a' w) : owHu.wp Tryd.prog (Exit.then K Q) a w := by
  obtain ⟨vv, rfl⟩ := hf.shape
  clear hf
  dsimp only [owHu, ncl, ncr, ncb, nco, nct, nce, ncx, Tryd.f8]
  have b0 : (i : Int) < (q.no : Int) := by omega
  by_cases hk : k < n
  · have Hr := Lib.hid (fun a' h => rest a' hk h)
    have b1 : (k : Int) < (n : Int) := by omega
    clear rest out hk hi
    go_wp2
    exact Hr.out _ ⟨rfl, rfl, rfl, rfl, rfl, rfl, rfl, rfl, rfl, rfl, rfl, rfl⟩
  · have Hr := Lib.hid (fun a' h => out a' (by omega) h)
    have b1 : (n : Int) ≤ (k : Int) := by omega
    clear rest out hk hi
    go_wp2
    exact Hr.out _ ⟨rfl, rfl, rfl, rfl, rfl, rfl, rfl, rfl, rfl, rfl, rfl, rfl⟩

set_option maxRecDepth 100000 in
set_option maxHeartbeats 4000000 in
theorem owH_v {i k : Nat} (hf : OwK4 a p q vL vW (i : Int) (k : Int)) (hk : k < 65537) (rest : ∀ a', OwK4 a' p q vL vW (i : Int) ((k + 1 : Nat) : Int) → K a' w) : owHv.wp Tryd.prog (Exit.then K Q) a w := by
  refine wp_cut (fun a' w' => OwK4 a' p q vL vW (i : Int) ((k + 1 : Nat) : Int) ∧ w' = w) (fun a' w' ⟨h, e⟩ => by subst e; exact rest a' h) ?_
  clear rest
  intro J K' hJ hK
  refine wp_calm ?_
  obtain ⟨vv, rfl⟩ := hf.shape
  clear hf
  dsimp only [owHv, ncl, ncr, ncb, nco, nct, nce, ncx, Tryd.f8]
  have Hop := Lib.hid (go_step (wrap_small hk))
  clear hk
  go_wp2
  exact Met.intro (hJ _ _ ⟨⟨rfl, rfl, rfl, rfl, rfl, rfl, rfl, rfl, rfl, rfl, rfl, congrArg some Hop.out⟩, rfl⟩)

set_option maxRecDepth 100000 in
set_option maxHeartbeats 4000000 in
theorem owH_t {i : Nat} (hf : OwK3 a p q vL vW (i : Int)) (rest : ∀ a', i < q.no → OwK3 a' p q vL vW (i : Int) → K a' w) (out : ∀ a', q.no ≤ i → OwK3 a' p q vL vW (i : Int) → Q (.exit 18) a' w) : owHt.wp Tryd.prog (Exit.then K Q) a w := by
  obtain ⟨vv, rfl⟩ := hf.shape
  clear hf
  dsimp only [owHt, ncl, ncr, ncb, nco, nct, nce, ncx, Tryd.f8]
  by_cases hk : i < q.no
  · have Hr := Lib.hid (fun a' h => rest a' hk h)
    have b1 : (i : Int) < (q.no : Int) := by omega
    clear rest out hk
    go_wp2
    exact Hr.out _ ⟨rfl, rfl, rfl, rfl, rfl, rfl, rfl, rfl, rfl, rfl, rfl⟩
  · have Hr := Lib.hid (fun a' h => out a' (by omega) h)
    have b1 : (q.no : Int) ≤ (i : Int) := by omega
    clear rest out hk
    go_wp2
    exact Hr.out _ ⟨rfl, rfl, rfl, rfl, rfl, rfl, rfl, rfl, rfl, rfl, rfl⟩

set_option maxRecDepth 100000 in
set_option maxHeartbeats 4000000 in
theorem owH_s {i : Nat} (hf : OwK3 a p q vL vW (i : Int)) (hk : i < 65537) (rest : ∀ a', OwK3 a' p q vL vW ((i + 1 : Nat) : Int) → K a' w) : owHs.wp Tryd.prog (Exit.then K Q) a w := by
  refine wp_cut (fun a' w' => OwK3 a' p q vL vW ((i + 1 : Nat) : Int) ∧ w' = w) (fun a' w' ⟨h, e⟩ => by subst e; exact rest a' h) ?_
  clear rest
  intro J K' hJ hK
  refine wp_calm ?_
  obtain ⟨vv, rfl⟩ := hf.shape
  clear hf
  dsimp only [owHs, ncl, ncr, ncb, nco, nct, nce, ncx, Tryd.f8]
  have Hop := Lib.hid (go_step (wrap_small hk))
  clear hk
  go_wp2
  exact Met.intro (hJ _ _ ⟨⟨rfl, rfl, rfl, rfl, rfl, rfl, rfl, rfl, rfl, rfl, congrArg some Hop.out⟩, rfl⟩)

theorem owH_b {i : Nat} (hf : OwK3 a p q vL vW (i : Int)) (h : OwDS w0 w It p q vl vc xs vals vos vL vW longs longs wides wides) (hl : wides.length = 3) (hN : i < 3)
    (rest : ∀ a' w', OwK3 a' p q vL vW (i : Int) → OwDS w0 w' It p q vl vc xs vals vos vL vW longs longs wides wides → K a' w') : owHb.wp Tryd.prog (Exit.then K Q) a w := by
  obtain ⟨gl, cl, hV⟩ := row_at0 h.rows.2.2.2 (by omega)
  rw [hl] at hV
  subst hV
  have hi : i < q.no := by have h1 := h.na; have h2 := h.no; omega
  obtain ⟨v, hv⟩ : ∃ v, vos[i]? = some v := ⟨_, List.getElem?_eq_getElem (by have h1 := h.lens.2; omega)⟩
  obtain ⟨ao, n, c, g2, c2, rfl, hn, hll, hr1, hr2, hr3⟩ := h.o.looks h.m.bg (by have h1 := h.lens.2; omega) (fun _ => rfl) (fun _ => rfl) (by decide) hv
  have y0 := h.cellO hv
  have y2 : w.cell? ⟨gl, i, none⟩ = some (.slice (some ⟨g2, 0, none⟩) (n + 1) c2) := row_cell1 (n := wides.length) (c := cl) (by have := h.rows.2.2.2; rw [hl] at this ⊢; exact this) hll
  show (Code.block 19 (Code.seq (Code.seq owHi (Code.block 20 (Code.loop (Code.seq owHu (Code.seq owHc owHv))))) owHy)).wp Tryd.prog (Exit.then K Q) a w
  refine in_block (wp_seq (wp_seq (owH_i hf (fun a1 f1 => wp_block ?_))))
  refine wp_loop (fun a' w' => ∃ k : Nat, k ≤ n ∧ OwK4 a' p q vL (.slice (some ⟨gl, 0, none⟩) 3 cl) (i : Int) (k : Int) ∧ w' = w) (fun a' _ => n - (intOf (a'.tmps.getD 26 undef)).toNat) ⟨0, Nat.zero_le _, f1, rfl⟩ ?_
  rintro a' w' ⟨k, hk, hf', rfl⟩
  refine wp_seq (owH_u hf' y0 hi (fun a2 hlt hf2 => ?_) (fun a2 hge hf2 => ?_))
  · obtain ⟨g, rfl, hg⟩ := hr1 (by omega)
    refine wp_seq (owH_w hf2 y0 (by have := hg k hlt; rw [Nat.mul_one] at this; exact this) y2 (by have := hr2 k hlt; rw [Nat.mul_one] at this; exact this) hi hN hlt (fun a3 hf3 => owH_v hf3 (by omega) (fun a4 hf4 => ⟨⟨k + 1, hlt, hf4, rfl⟩, ?_⟩)))
    show n - (intOf (a4.tmps.getD 26 undef)).toNat < n - (intOf (a'.tmps.getD 26 undef)).toNat
    rw [getD_of hf4.s26, getD_of hf'.s26]
    simp only [intOf]
    omega
  · refine out_loop (owH_y hf2 y0 y2 (by rw [Nat.mul_one] at hr3; exact hr3) hi hN (fun a3 w3 hb hf3 => rest a3 w3 hf3 (h.later hb)))

theorem owH_l (hf : OwK3 a p q vL vW ((0 : Nat) : Int)) (h : OwDS w0 w It p q vl vc xs vals vos vL vW longs longs wides wides) (hl : wides.length = 3)
    (rest : ∀ a' w', OwT a' p q vL vW → OwDS w0 w' It p q vl vc xs vals vos vL vW longs longs wides wides → K a' w') : owHl.wp Tryd.prog (Exit.inBlock 18 (Exit.then K Q)) a w := by
  show (Code.loop (Code.seq owHt (Code.seq owHb owHs))).wp Tryd.prog (Exit.inBlock 18 (Exit.then K Q)) a w
  refine wp_loop (fun a' w' => ∃ i : Nat, i ≤ 3 ∧ OwK3 a' p q vL vW (i : Int) ∧ OwDS w0 w' It p q vl vc xs vals vos vL vW longs longs wides wides) (fun a' _ => 3 - (intOf (a'.tmps.getD 25 undef)).toNat) ⟨0, Nat.zero_le _, hf, h⟩ ?_
  rintro a' w' ⟨i, hi, hf', h'⟩
  have hN : q.no = 3 := by have h1 := h.na; have h2 := h.no; omega
  refine wp_seq (owH_t hf' (fun a1 hlt hf1 => ?_) (fun a1 hge hf1 => ?_))
  · refine wp_seq (owH_b hf1 h' hl (by omega) (fun a2 w2 hf2 h2 => owH_s hf2 (by omega) (fun a3 hf3 => ⟨⟨i + 1, by omega, hf3, h2⟩, ?_⟩)))
    show 3 - (intOf (a3.tmps.getD 25 undef)).toNat < 3 - (intOf (a'.tmps.getD 25 undef)).toNat
    rw [getD_of hf3.s25, getD_of hf'.s25]
    simp only [intOf]
    omega
  · exact out_loop (rest _ _ hf1.toT h')

theorem owH_all (hf : OwT a p q vL vW) (h : OwDS w0 w It p q vl vc xs vals vos vL vW longs longs wides wides) (hl : wides.length = 3) (rest : ∀ a' w', OwT a' p q vL vW → OwDS w0 w' It p q vl vc xs vals vos vL vW longs longs wides wides → K a' w') : owH.wp Tryd.prog (Exit.then K Q) a w := by
  show (Code.seq owH0 (Code.block 18 owHl)).wp Tryd.prog (Exit.then K Q) a w
  exact wp_seq (owH_0 hf (fun a1 f1 => wp_block (owH_l f1 h hl rest)))

end

end Go.Proofs.YthpflfcgnaichaaDoor

set_option linter.unusedVariables false
set_option linter.unusedSimpArgs false
namespace Go.Proofs.YthpflfcgnaichaaDoor
open Go Go.RowKit

/-- The log, and its copy, that has gone on. -/
structure OwCS (w0 w : World) (p : OP) (vl : Value) (xs : List Ent) (vc : Value) (ys : List Ent) (k : Nat) : Prop where
  l : PLog w p.lb vl xs
  c : Lg w0 w p.cb vc ys
  ap : ∀ g, g = p.lb ∨ vl.ownBlock = some g → ¬ (g = p.cb ∨ vc.ownBlock = some g)
  le : xs.length ≤ ys.length
  len : ys.length ≤ 60 + k
  len0 : xs.length ≤ 60

section
variable {w0 w : World} {It : Nat → Item} {p : OP} {q : OQ} {vl vc : Value} {xs ys : List Ent} {vals vos : List Value} {vL vW : Value} {longs wides : List Value} {k : Nat}

theorem OwL.toC (h : OwL w0 w It p vl vc xs) : OwCS w0 w p vl xs vc xs 0 := by
  refine ⟨h.logs.1, ⟨h.logs.2, h.bg.below, h.bg.lo 3 p.cb (by rw [h.c]; exact .inl rfl), fun g hg => h.bg.lo 3 g (by rw [h.c]; exact .inr hg)⟩, fun g h1 h2 => ?_, Nat.le_refl _, h.len, h.len⟩
  exact h.bg.bag.apart 2 3 g (by decide) (by rw [h.l]; exact h1) (by rw [h.c]; exact h2)

theorem OwCS.later (h : OwCS w0 w p vl xs vc ys k) {w2 : World} (hb : Below w.heap.size w w2) : OwCS w0 w2 p vl xs vc ys k := ⟨log_later h.l hb, h.c.later hb, h.ap, h.le, h.len, h.len0⟩

theorem OwCS.mono (h : OwCS w0 w p vl xs vc ys k) {m : Nat} (hm : k ≤ m) : OwCS w0 w p vl xs vc ys m := ⟨h.l, h.c, h.ap, h.le, Nat.le_trans h.len (by omega), h.len0⟩

theorem OwCS.add (h : OwCS w0 w p vl xs vc ys k) (e : Ent) (hk : k ≤ 60) (hmay : e.may = true) :
    Calls Tryd.prog 10 #[.pointer (some ⟨p.cb, 0, none⟩), e.v] w fun r w' => ∃ n v' ys', r = .returned (.tuple #[.int .i64 n, .int .i64 0]) ∧ OwCS w0 w' p vl xs v' ys' (k + 1) :=
  (h.c.add e (by have := h.len; omega) hmay).mono fun r w' ⟨v', hr, h1, h2, h3⟩ => by
    refine ⟨_, v', _, hr, ⟨h.l.frame h2 (fun hq => h.ap _ (.inl rfl) (hq.imp id id)) (fun g hg hq => h.ap g (.inr hg) (hq.imp id id)), h1, fun g hg hq => ?_, ?_, ?_, h.len0⟩⟩
    · have hlt : g < w.heap.size := by
        rcases hg with rfl | hg
        · exact lt_of_heap h.l.blk
        · exact (h.l.row.lt g hg).2
      rcases hq with hq | hq
      · exact h.ap g hg (.inl hq)
      · rcases h3 g hq with q | q
        · exact h.ap g hg (.inr q)
        · omega
    · rw [List.length_append]; have := h.le; omega
    · rw [List.length_append]; have := h.len; simp; omega

theorem OwCS.addBad (h : OwCS w0 w p vl xs vc ys k) (e : Ent) (hmay : e.may = false) :
    Calls Tryd.prog 10 #[.pointer (some ⟨p.cb, 0, none⟩), e.v] w fun r w' => r = .returned (.tuple #[.int .i64 0, .int .i64 2]) ∧ OwCS w0 w' p vl xs vc ys k :=
  (h.c.addBad e hmay).mono fun r w' ⟨hr, _, hb⟩ => ⟨hr, h.later hb⟩

/-- Any entry is added, or is not. -/
theorem OwCS.addAny (h : OwCS w0 w p vl xs vc ys k) (e : Ent) (hk : k ≤ 60) :
    Calls Tryd.prog 10 #[.pointer (some ⟨p.cb, 0, none⟩), e.v] w fun r w' => ∃ n m v' ys', r = .returned (.tuple #[.int .i64 n, .int .i64 m]) ∧ OwCS w0 w' p vl xs v' ys' (k + 1) := by
  cases hm : e.may with
  | true => exact (h.add e hk hm).mono fun r w' ⟨n, v', ys', hr, h1⟩ => ⟨n, 0, v', ys', hr, h1⟩
  | false => exact (h.addBad e hm).mono fun r w' ⟨hr, h1⟩ => ⟨0, 2, _, _, hr, h1.mono (Nat.le_succ k)⟩

theorem OwCS.endAny (h : OwCS w0 w p vl xs vc ys k) (hk : k ≤ 61) (i how : Int) :
    Calls Tryd.prog 12 #[.pointer (some ⟨p.cb, 0, none⟩), .int .i64 i, .int .i64 how] w fun r w' => ∃ n ys', r = .returned (.int .i64 n) ∧ OwCS w0 w' p vl xs vc ys' k := by
  have hlen : ys.length < 65537 := by have := h.len; omega
  cases he : endsB ys i how with
  | false => exact (pendBad_walk w p.cb vc ys h.c.log hlen i how he).mono fun r w' ⟨hr, hw⟩ => ⟨2, ys, hr, by rw [hw]; exact h⟩
  | true =>
    obtain ⟨j, e, rfl, hke, hf0, h1, h7⟩ := ends_yes he
    exact (h.c.fin hlen j e how hke hf0 h1 h7).mono fun r w' ⟨hr, hl, hm⟩ => ⟨0, _, hr, ⟨h.l.frame hm (fun hq => h.ap _ (.inl rfl) (.inr hq)) (fun g hg hq => h.ap g (.inr hg) (.inr hq)), hl, h.ap, by rw [List.length_set]; exact h.le, by rw [List.length_set]; exact h.len, h.len0⟩⟩

end

section
variable {w0 w : World} {p : OP} {vl vc : Value} {xs ys : List Ent} {K : Act → World → Prop} {Q : Exit → Act → World → Prop} {a : Act} {i : Int} {o : OpD}

set_option maxRecDepth 100000 in
set_option maxHeartbeats 4000000 in
theorem owI_0 (hf : OwU a p) (rest : ∀ a', OwI a' p ((0 : Nat) : Int) → K a' w) : owI0.wp Tryd.prog (Exit.then K Q) a w := by
  refine wp_cut (fun a' w' => OwI a' p ((0 : Nat) : Int) ∧ w' = w) (fun a' w' ⟨h, e⟩ => by subst e; exact rest a' h) ?_
  clear rest
  intro J K' hJ hK
  refine wp_calm ?_
  obtain ⟨vv, rfl⟩ := hf.shape
  clear hf
  dsimp only [owI0, ncl, ncr, ncb, nco, nct, nce, ncx, Tryd.f8]
  go_wp2
  exact Met.intro (hJ _ _ ⟨⟨rfl, rfl, rfl, rfl, rfl, rfl, rfl⟩, rfl⟩)

set_option maxRecDepth 100000 in
set_option maxHeartbeats 4000000 in
theorem owI_s {k : Nat} (hf : OwI a p (k : Int)) (hk : k < 65537) (rest : ∀ a', OwI a' p ((k + 1 : Nat) : Int) → K a' w) : owIs.wp Tryd.prog (Exit.then K Q) a w := by
  refine wp_cut (fun a' w' => OwI a' p ((k + 1 : Nat) : Int) ∧ w' = w) (fun a' w' ⟨h, e⟩ => by subst e; exact rest a' h) ?_
  clear rest
  intro J K' hJ hK
  refine wp_calm ?_
  obtain ⟨vv, rfl⟩ := hf.shape
  clear hf
  dsimp only [owIs, ncl, ncr, ncb, nco, nct, nce, ncx, Tryd.f8]
  have Hop := Lib.hid (go_step (wrap_small hk))
  clear hk
  go_wp2
  exact Met.intro (hJ _ _ ⟨⟨rfl, rfl, rfl, rfl, rfl, rfl, congrArg some Hop.out⟩, rfl⟩)

set_option maxRecDepth 100000 in
set_option maxHeartbeats 4000000 in
theorem owI_t {k n c : Nat} {ao : Option Addr} (hmv : p.mv = .slice ao n c) (hf : OwI a p (k : Int))
    (rest : ∀ a', k < n → k < 60 → OwI a' p (k : Int) → K a' w) (out : ∀ a', OwI a' p (k : Int) → Q (.exit 22) a' w) : owIt.wp Tryd.prog (Exit.then K Q) a w := by
  obtain ⟨vv, rfl⟩ := hf.shape
  clear hf
  dsimp only [owIt, ncl, ncr, ncb, nco, nct, nce, ncx, Tryd.f8]
  have Hmv := Lib.hid hmv
  rw [hmv]
  clear hmv
  by_cases hk : k < n
  · by_cases hk2 : k < 60
    · have Hr := Lib.hid (fun a' h => rest a' hk hk2 h)
      have b1 : (k : Int) < (n : Int) := by omega
      have b2 : decide ((k : Int) < 60) = true := decide_eq_true (by omega)
      clear rest out hk hk2
      go_wp2
      exact Hr.out _ ⟨rfl, rfl, congrArg some Hmv.out.symm, rfl, rfl, rfl, rfl⟩
    · have Hr := Lib.hid (fun a' h => out a' h)
      have b1 : (k : Int) < (n : Int) := by omega
      have b2 : decide ((k : Int) < 60) = false := decide_eq_false (by omega)
      clear rest out hk hk2
      go_wp2
      exact Hr.out _ ⟨rfl, rfl, congrArg some Hmv.out.symm, rfl, rfl, rfl, rfl⟩
  · have Hr := Lib.hid (fun a' h => out a' h)
    have b1 : (n : Int) ≤ (k : Int) := by omega
    clear rest out hk
    go_wp2
    exact Hr.out _ ⟨rfl, rfl, congrArg some Hmv.out.symm, rfl, rfl, rfl, rfl⟩

set_option maxRecDepth 100000 in
set_option maxHeartbeats 4000000 in
theorem owI_x {gl ol len cl kk m : Nat} (hmv : p.mv = .slice (some ⟨gl, ol, none⟩) len cl) (hf : OwI a p (kk : Int)) (h : OwCS w0 w p vl xs vc ys m) (hm : m ≤ 60) (hkk : kk < len) (ho : OpAt w gl (ol + kk * 19) o)
    (rest : ∀ a' w' v' ys', OwI a' p (kk : Int) → OwCS w0 w' p vl xs v' ys' (m + 1) → K a' w') : owIx.wp Tryd.prog (Exit.then K Q) a w := by
  refine wp_cut (fun a' w' => ∃ v' ys', OwI a' p (kk : Int) ∧ OwCS w0 w' p vl xs v' ys' (m + 1)) (fun a' w' ⟨v', ys', h1, h2⟩ => rest a' w' v' ys' h1 h2) ?_
  clear rest
  intro J K' hJ hK
  refine wp_calm ?_
  obtain ⟨vv, rfl⟩ := hf.shape
  clear hf
  dsimp only [owIx, ncl, ncr, ncb, nco, nct, nce, ncx, Tryd.f8]
  have Hmv := Lib.hid hmv
  rw [hmv]
  clear hmv
  have y0 : w.cell? ⟨gl, ol + kk * 19, none⟩ = some (.int .i64 o.kind) := ho 0 _ rfl
  have b1 : (kk : Int) < (len : Int) := by omega
  clear hkk
  by_cases hk : o.kind = 0
  rotate_left
  · have hkb : (o.kind == 0) = false := beq_eq_false_iff_ne.2 hk
    have Hfin := Lib.hid (h.mono (Nat.le_succ m))
    clear h ho hk
    go_wp2
    exact Met.intro (hJ _ _ ⟨_, _, ⟨rfl, rfl, congrArg some Hmv.out.symm, rfl, rfl, rfl, rfl⟩, Hfin.out⟩)
  have hkb : (o.kind == 0) = true := by rw [hk]; rfl
  clear hk
  have d0 : w.cell? ⟨gl, ol + kk * 19 + 1, none⟩ = some (.int .i64 o.e.number) := ho 1 _ rfl
  have d1 : w.cell? ⟨gl, ol + kk * 19 + 2, none⟩ = some (.int .i64 o.e.version) := ho 2 _ rfl
  have d2 : w.cell? ⟨gl, ol + kk * 19 + 3, none⟩ = some (.int .i64 o.e.epoch) := ho 3 _ rfl
  have d3 : w.cell? ⟨gl, ol + kk * 19 + 4, none⟩ = some (.string o.e.method) := ho 4 _ rfl
  have d4 : w.cell? ⟨gl, ol + kk * 19 + 5, none⟩ = some (.string o.e.host) := ho 5 _ rfl
  have d5 : w.cell? ⟨gl, ol + kk * 19 + 6, none⟩ = some (.string o.e.path) := ho 6 _ rfl
  have d6 : w.cell? ⟨gl, ol + kk * 19 + 7, none⟩ = some (.int .u64 (o.e.a : Int)) := ho 7 _ rfl
  have d7 : w.cell? ⟨gl, ol + kk * 19 + 8, none⟩ = some (.int .u64 (o.e.b : Int)) := ho 8 _ rfl
  have d8 : w.cell? ⟨gl, ol + kk * 19 + 9, none⟩ = some (.int .i64 o.e.kind) := ho 9 _ rfl
  have d9 : w.cell? ⟨gl, ol + kk * 19 + 10, none⟩ = some (.int .i64 o.e.status) := ho 10 _ rfl
  have d10 : w.cell? ⟨gl, ol + kk * 19 + 11, none⟩ = some (.string o.e.route) := ho 11 _ rfl
  have d11 : w.cell? ⟨gl, ol + kk * 19 + 12, none⟩ = some (.int .i64 o.e.rule) := ho 12 _ rfl
  have d12 : w.cell? ⟨gl, ol + kk * 19 + 13, none⟩ = some (.string o.e.service) := ho 13 _ rfl
  have d13 : w.cell? ⟨gl, ol + kk * 19 + 14, none⟩ = some (.string o.e.endp) := ho 14 _ rfl
  have d14 : w.cell? ⟨gl, ol + kk * 19 + 15, none⟩ = some (.int .i64 o.e.fin) := ho 15 _ rfl
  have Ho := Lib.hid (show Calls Tryd.prog 11 #[.agg #[.int .i64 o.e.number, .int .i64 o.e.version, .int .i64 o.e.epoch, .string o.e.method, .string o.e.host, .string o.e.path, .int .u64 (o.e.a : Int), .int .u64 (o.e.b : Int), .int .i64 o.e.kind, .int .i64 o.e.status, .string o.e.route, .int .i64 o.e.rule, .string o.e.service, .string o.e.endp, .int .i64 o.e.fin]] w fun r w' => r = .returned (.agg #[.int .i64 o.e.number, .int .i64 o.e.version, .int .i64 o.e.epoch, .string o.e.method, .string o.e.host, .string o.e.path, .int .u64 (o.e.a : Int), .int .u64 (o.e.b : Int), .int .i64 o.e.kind, .int .i64 o.e.status, .string o.e.route, .int .i64 o.e.rule, .string o.e.service, .string o.e.endp, .int .i64 o.e.fin]) ∧ Below w.heap.size w w' from own_walk w o.e)
  have HA := Lib.hid (show ∀ w1, Below w.heap.size w w1 → Calls Tryd.prog 10 #[.pointer (some ⟨p.cb, 0, none⟩), .agg #[.int .i64 o.e.number, .int .i64 o.e.version, .int .i64 o.e.epoch, .string o.e.method, .string o.e.host, .string o.e.path, .int .u64 (o.e.a : Int), .int .u64 (o.e.b : Int), .int .i64 o.e.kind, .int .i64 o.e.status, .string o.e.route, .int .i64 o.e.rule, .string o.e.service, .string o.e.endp, .int .i64 o.e.fin]] w1 fun r w' => ∃ n m2 v' ys', r = .returned (.tuple #[.int .i64 n, .int .i64 m2]) ∧ OwCS w0 w' p vl xs v' ys' (m + 1) from fun w1 hb => (h.later hb).addAny o.e hm)
  clear h ho hm
  go_wp2_with fail
  refine Ho.out.mono ?_
  rintro r w1 ⟨rfl, hb⟩
  have HA1 := Lib.hid (HA.out w1 hb)
  clear hb HA Ho
  go_wp2_with fail
  refine HA1.out.mono ?_
  rintro r w2 ⟨n, m2, v', ys', rfl, h2⟩
  have H2 := Lib.hid h2
  clear h2 HA1
  go_wp2
  exact Met.intro (hJ _ _ ⟨_, _, ⟨rfl, rfl, congrArg some Hmv.out.symm, rfl, rfl, rfl, rfl⟩, H2.out⟩)

set_option maxRecDepth 100000 in
set_option maxHeartbeats 4000000 in
theorem owI_y {gl ol len cl kk m : Nat} (hmv : p.mv = .slice (some ⟨gl, ol, none⟩) len cl) (hf : OwI a p (kk : Int)) (h : OwCS w0 w p vl xs vc ys m) (hm : m ≤ 61) (hkk : kk < len) (hgl : gl < w0.heap.size) (ho0 : OpAt w0 gl (ol + kk * 19) o)
    (rest : ∀ a' w' ys', OwI a' p (kk : Int) → OwCS w0 w' p vl xs vc ys' m → K a' w') : owIy.wp Tryd.prog (Exit.then K Q) a w := by
  refine wp_cut (fun a' w' => ∃ ys', OwI a' p (kk : Int) ∧ OwCS w0 w' p vl xs vc ys' m) (fun a' w' ⟨ys', h1, h2⟩ => rest a' w' ys' h1 h2) ?_
  clear rest
  intro J K' hJ hK
  refine wp_calm ?_
  obtain ⟨vv, rfl⟩ := hf.shape
  clear hf
  dsimp only [owIy, ncl, ncr, ncb, nco, nct, nce, ncx, Tryd.f8]
  have Hmv := Lib.hid hmv
  rw [hmv]
  clear hmv
  have ho := ho0.below hgl h.c.below
  have y0 : w.cell? ⟨gl, ol + kk * 19, none⟩ = some (.int .i64 o.kind) := ho 0 _ rfl
  have b1 : (kk : Int) < (len : Int) := by omega
  clear hkk
  by_cases hk : o.kind = 1
  rotate_left
  · have hkb : (o.kind == 1) = false := beq_eq_false_iff_ne.2 hk
    have Hfin := Lib.hid h
    clear h ho ho0 hk
    go_wp2
    exact Met.intro (hJ _ _ ⟨_, ⟨rfl, rfl, congrArg some Hmv.out.symm, rfl, rfl, rfl, rfl⟩, Hfin.out⟩)
  have hkb : (o.kind == 1) = true := by rw [hk]; rfl
  clear hk
  have z16 : w.drew.cell? ⟨gl, ol + kk * 19 + 16, none⟩ = some (.int .i64 o.number) := ho 16 _ rfl
  have z17 : w.drew.cell? ⟨gl, ol + kk * 19 + 17, none⟩ = some (.int .i64 o.how) := ho 17 _ rfl
  have HE := Lib.hid (((h.later bd_drew).endAny hm o.number o.how).mono (R' := fun r w' => ∃ n ys', r = .returned (.int .i64 n) ∧ OwCS w0 w' p vl xs vc ys' m ∧ w'.cell? ⟨gl, ol + kk * 19 + 16, none⟩ = some (.int .i64 o.number) ∧ w'.cell? ⟨gl, ol + kk * 19 + 17, none⟩ = some (.int .i64 o.how)) fun r w' ⟨n, ys', hr, h1⟩ => ⟨n, ys', hr, h1, ho0.below hgl h1.c.below 16 _ rfl, ho0.below hgl h1.c.below 17 _ rfl⟩)
  clear h ho ho0 hm
  go_wp2_with fail
  go_region_held3 (fun w' => w'.cell? ⟨gl, ol + kk * 19 + 16, none⟩ = some (.int .i64 o.number) ∧ w'.cell? ⟨gl, ol + kk * 19 + 17, none⟩ = some (.int .i64 o.how)) (first | exact ⟨z16, z17⟩ | exact h2 | assumption)
    (first | (go_at_call 12; (with_reducible refine HE.out.mono ?_); rintro e w' ⟨n, ys', rfl, h1, h2⟩))
  all_goals have H3 := Lib.hid h1
  all_goals clear h1
  all_goals go_wp2
  all_goals exact Met.intro (hJ _ _ ⟨_, ⟨rfl, rfl, congrArg some Hmv.out.symm, rfl, rfl, rfl, rfl⟩, H3.out⟩)

theorem owI_l {ao : Option Addr} {gl ol len cl : Nat} {C : Nat → OpD} (hmv : p.mv = .slice ao len cl) (hf : OwI a p ((0 : Nat) : Int)) (h : OwCS w0 w p vl xs vc ys 0) (hal : 0 < len → ao = some ⟨gl, ol, none⟩ ∧ gl < w0.heap.size) (hc : ∀ i, i < len → OpAt w0 gl (ol + i * 19) (C i))
    (rest : ∀ a' w' v' ys' k, OwU a' p → OwCS w0 w' p vl xs v' ys' k → K a' w') : owIl.wp Tryd.prog (Exit.inBlock 22 (Exit.then K Q)) a w := by
  show (Code.loop (Code.seq owIt (Code.seq owIb owIs))).wp Tryd.prog (Exit.inBlock 22 (Exit.then K Q)) a w
  refine wp_loop (fun a' w' => ∃ (k : Nat) (v : Value) (ys : List Ent), k ≤ 60 ∧ OwI a' p (k : Int) ∧ OwCS w0 w' p vl xs v ys k) (fun a' _ => 60 - (intOf (a'.tmps.getD 27 undef)).toNat) ⟨0, _, _, by omega, hf, h⟩ ?_
  rintro a' w' ⟨k, v, ys, hk, hf', h'⟩
  refine wp_seq (owI_t hmv hf' (fun a1 hlt h60 hf1 => ?_) (fun a1 hf1 => ?_))
  · obtain ⟨rfl, hgl⟩ := hal (by omega)
    show (Code.seq (Code.block 23 (Code.seq owIx owIy)) owIs).wp Tryd.prog _ a1 w'
    refine wp_seq (in_block (wp_seq (owI_x hmv hf1 h' hk hlt ((hc k hlt).below hgl h'.c.below) (fun a2 w2 v2 ys2 hf2 h2 => owI_y hmv hf2 h2 (by omega) hlt hgl (hc k hlt) (fun a3 w3 ys3 hf3 h3 => owI_s hf3 (by omega) (fun a4 hf4 => ⟨⟨k + 1, v2, ys3, by omega, hf4, h3⟩, ?_⟩))))))
    show 60 - (intOf (a4.tmps.getD 27 undef)).toNat < 60 - (intOf (a'.tmps.getD 27 undef)).toNat
    rw [getD_of hf4.s27, getD_of hf'.s27]
    simp only [intOf]
    omega
  · exact out_loop (rest _ _ _ _ _ hf1.toU h')

theorem owI_all {ao : Option Addr} {gl ol len cl : Nat} {C : Nat → OpD} (hmv : p.mv = .slice ao len cl) (hf : OwU a p) (h : OwCS w0 w p vl xs vc ys 0) (hal : 0 < len → ao = some ⟨gl, ol, none⟩ ∧ gl < w0.heap.size) (hc : ∀ i, i < len → OpAt w0 gl (ol + i * 19) (C i))
    (rest : ∀ a' w' v' ys' k, OwU a' p → OwCS w0 w' p vl xs v' ys' k → K a' w') : owI.wp Tryd.prog (Exit.then K Q) a w := by
  show (Code.seq owI0 (Code.block 22 owIl)).wp Tryd.prog (Exit.then K Q) a w
  exact wp_seq (owI_0 hf (fun a1 f1 => wp_block (owI_l hmv f1 h hal hc rest)))

set_option maxRecDepth 100000 in
set_option maxHeartbeats 4000000 in
theorem owZ_w {k : Nat} (hf : OwU a p) (h : OwCS w0 w p vl xs vc ys k) (ht : p.t = ⟨(textL xs).toArray⟩) (htab : Tab w0) (hfit : ∀ x ∈ xs, x.Fit)
    (rest : ∀ a' w', a'.defers = [] → a'.tmps[4]? = some (.bool true) → Below w0.heap.size w0 w' → K a' w') : owZ.wp Tryd.prog (Exit.then K Q) a w := by
  refine wp_cut (fun a' w' => a'.defers = [] ∧ a'.tmps[4]? = some (.bool true) ∧ Below w0.heap.size w0 w') (fun a' w' h => rest a' w' h.1 h.2.1 h.2.2) ?_
  clear rest
  intro J K' hJ hK
  refine wp_calm ?_
  obtain ⟨vv, rfl⟩ := hf.shape
  clear hf
  dsimp only [owZ, ncl, ncr, ncb, nco, nct, nce, ncx, Tryd.f8]
  have HT := Lib.hid (text_walk w p.lb vl xs h.l (tab_later htab h.c.below) hfit (Nat.le_trans h.len0 (by decide)))
  have HC := Lib.hid (fun w1 (hb : Below w.heap.size w w1) => count_walk w1 p.cb vc ys (h.c.later hb).log)
  have HL := Lib.hid (fun w1 (hb : Below w.heap.size w w1) => count_walk w1 p.lb vl xs (log_later h.l hb))
  have Hb := Lib.hid (fun w1 (hb : Below w.heap.size w w1) => h.c.below.trans (hb.mono h.c.below.size))
  have hle : (xs.length : Int) ≤ (ys.length : Int) := by have := h.le; omega
  obtain ⟨t, ht2⟩ : ∃ t, t = (⟨(textL xs).toArray⟩ : ByteArray) := ⟨_, rfl⟩
  rw [← ht2] at HT ht
  rw [ht]
  generalize xs.length = n at *
  generalize ys.length = m at *
  clear h hfit htab ht ht2
  go_wp2_with fail
  refine HT.out.mono ?_
  rintro r w1 ⟨rfl, hb⟩
  have HC1 := Lib.hid (HC.out w1 hb)
  have HL1 := Lib.hid (HL.out w1 hb)
  have Hb1 := Lib.hid (Hb.out w1 hb)
  have t1 : (t.toList == t.toList) = true := beq_self_eq_true _
  clear hb HT HC HL Hb
  go_wp2_with fail
  refine HC1.out.mono ?_
  rintro r w2 ⟨rfl, hw⟩
  obtain rfl := hw.symm
  clear HC1 hw
  go_wp2_with fail
  refine HL1.out.mono ?_
  rintro r w3 ⟨rfl, hw⟩
  obtain rfl := hw.symm
  clear HL1 hw
  go_wp2
  exact Met.intro (hJ _ _ ⟨rfl, rfl, Hb1.out⟩)

end

end Go.Proofs.YthpflfcgnaichaaDoor

set_option linter.unusedVariables false
set_option linter.unusedSimpArgs false
namespace Go.Proofs.YthpflfcgnaichaaDoor
open Go Go.RowKit

noncomputable def ow7 : Code := (ncl (ncr (ncr (ncr (ncr (ncr (ncr (ncx Tryd.f8.body))))))))

structure OwN1 (a : Act) (p : OP) : Prop where
  size : a.tmps.size = 307
  dfr : a.defers = []
  s1 : a.tmps[1]? = some (p.mv)
  s5 : a.tmps[5]? = some (.pointer (some ⟨p.lb, 0, none⟩))
  s6 : a.tmps[6]? = some (.pointer (some ⟨p.cb, 0, none⟩))
  s7 : a.tmps[7]? = some (.string p.t)
  s8 : a.tmps[8]? = some (.slice none 0 0)

set_option maxRecDepth 20000 in
theorem OwN1.shape {a : Act} {p : OP} (h : OwN1 a p) : ∃ v : Nat → Value, a = ⟨#[v 0, p.mv, v 2, v 3, v 4, .pointer (some ⟨p.lb, 0, none⟩), .pointer (some ⟨p.cb, 0, none⟩), .string p.t, .slice none 0 0, v 9, v 10, v 11, v 12, v 13, v 14, v 15, v 16, v 17, v 18, v 19, v 20, v 21, v 22, v 23, v 24, v 25, v 26, v 27, v 28, v 29, v 30, v 31, v 32, v 33, v 34, v 35, v 36, v 37, v 38, v 39, v 40, v 41, v 42, v 43, v 44, v 45, v 46, v 47, v 48, v 49, v 50, v 51, v 52, v 53, v 54, v 55, v 56, v 57, v 58, v 59, v 60, v 61, v 62, v 63, v 64, v 65, v 66, v 67, v 68, v 69, v 70, v 71, v 72, v 73, v 74, v 75, v 76, v 77, v 78, v 79, v 80, v 81, v 82, v 83, v 84, v 85, v 86, v 87, v 88, v 89, v 90, v 91, v 92, v 93, v 94, v 95, v 96, v 97, v 98, v 99, v 100, v 101, v 102, v 103, v 104, v 105, v 106, v 107, v 108, v 109, v 110, v 111, v 112, v 113, v 114, v 115, v 116, v 117, v 118, v 119, v 120, v 121, v 122, v 123, v 124, v 125, v 126, v 127, v 128, v 129, v 130, v 131, v 132, v 133, v 134, v 135, v 136, v 137, v 138, v 139, v 140, v 141, v 142, v 143, v 144, v 145, v 146, v 147, v 148, v 149, v 150, v 151, v 152, v 153, v 154, v 155, v 156, v 157, v 158, v 159, v 160, v 161, v 162, v 163, v 164, v 165, v 166, v 167, v 168, v 169, v 170, v 171, v 172, v 173, v 174, v 175, v 176, v 177, v 178, v 179, v 180, v 181, v 182, v 183, v 184, v 185, v 186, v 187, v 188, v 189, v 190, v 191, v 192, v 193, v 194, v 195, v 196, v 197, v 198, v 199, v 200, v 201, v 202, v 203, v 204, v 205, v 206, v 207, v 208, v 209, v 210, v 211, v 212, v 213, v 214, v 215, v 216, v 217, v 218, v 219, v 220, v 221, v 222, v 223, v 224, v 225, v 226, v 227, v 228, v 229, v 230, v 231, v 232, v 233, v 234, v 235, v 236, v 237, v 238, v 239, v 240, v 241, v 242, v 243, v 244, v 245, v 246, v 247, v 248, v 249, v 250, v 251, v 252, v 253, v 254, v 255, v 256, v 257, v 258, v 259, v 260, v 261, v 262, v 263, v 264, v 265, v 266, v 267, v 268, v 269, v 270, v 271, v 272, v 273, v 274, v 275, v 276, v 277, v 278, v 279, v 280, v 281, v 282, v 283, v 284, v 285, v 286, v 287, v 288, v 289, v 290, v 291, v 292, v 293, v 294, v 295, v 296, v 297, v 298, v 299, v 300, v 301, v 302, v 303, v 304, v 305, v 306], []⟩ := by
  obtain ⟨v, hv, hd⟩ := ow_act a h.size h.dfr
  have e1 := hv 1 _ h.s1
  have e5 := hv 5 _ h.s5
  have e6 := hv 6 _ h.s6
  have e7 := hv 7 _ h.s7
  have e8 := hv 8 _ h.s8
  refine ⟨v, ?_⟩
  rw [hd]
  simp only [e1, e5, e6, e7, e8]

structure OwN2 (a : Act) (p : OP) : Prop where
  size : a.tmps.size = 307
  dfr : a.defers = []
  s1 : a.tmps[1]? = some (p.mv)
  s5 : a.tmps[5]? = some (.pointer (some ⟨p.lb, 0, none⟩))
  s6 : a.tmps[6]? = some (.pointer (some ⟨p.cb, 0, none⟩))
  s7 : a.tmps[7]? = some (.string p.t)
  s8 : a.tmps[8]? = some (.slice none 0 0)
  s9 : a.tmps[9]? = some (.slice none 0 0)

set_option maxRecDepth 20000 in
theorem OwN2.shape {a : Act} {p : OP} (h : OwN2 a p) : ∃ v : Nat → Value, a = ⟨#[v 0, p.mv, v 2, v 3, v 4, .pointer (some ⟨p.lb, 0, none⟩), .pointer (some ⟨p.cb, 0, none⟩), .string p.t, .slice none 0 0, .slice none 0 0, v 10, v 11, v 12, v 13, v 14, v 15, v 16, v 17, v 18, v 19, v 20, v 21, v 22, v 23, v 24, v 25, v 26, v 27, v 28, v 29, v 30, v 31, v 32, v 33, v 34, v 35, v 36, v 37, v 38, v 39, v 40, v 41, v 42, v 43, v 44, v 45, v 46, v 47, v 48, v 49, v 50, v 51, v 52, v 53, v 54, v 55, v 56, v 57, v 58, v 59, v 60, v 61, v 62, v 63, v 64, v 65, v 66, v 67, v 68, v 69, v 70, v 71, v 72, v 73, v 74, v 75, v 76, v 77, v 78, v 79, v 80, v 81, v 82, v 83, v 84, v 85, v 86, v 87, v 88, v 89, v 90, v 91, v 92, v 93, v 94, v 95, v 96, v 97, v 98, v 99, v 100, v 101, v 102, v 103, v 104, v 105, v 106, v 107, v 108, v 109, v 110, v 111, v 112, v 113, v 114, v 115, v 116, v 117, v 118, v 119, v 120, v 121, v 122, v 123, v 124, v 125, v 126, v 127, v 128, v 129, v 130, v 131, v 132, v 133, v 134, v 135, v 136, v 137, v 138, v 139, v 140, v 141, v 142, v 143, v 144, v 145, v 146, v 147, v 148, v 149, v 150, v 151, v 152, v 153, v 154, v 155, v 156, v 157, v 158, v 159, v 160, v 161, v 162, v 163, v 164, v 165, v 166, v 167, v 168, v 169, v 170, v 171, v 172, v 173, v 174, v 175, v 176, v 177, v 178, v 179, v 180, v 181, v 182, v 183, v 184, v 185, v 186, v 187, v 188, v 189, v 190, v 191, v 192, v 193, v 194, v 195, v 196, v 197, v 198, v 199, v 200, v 201, v 202, v 203, v 204, v 205, v 206, v 207, v 208, v 209, v 210, v 211, v 212, v 213, v 214, v 215, v 216, v 217, v 218, v 219, v 220, v 221, v 222, v 223, v 224, v 225, v 226, v 227, v 228, v 229, v 230, v 231, v 232, v 233, v 234, v 235, v 236, v 237, v 238, v 239, v 240, v 241, v 242, v 243, v 244, v 245, v 246, v 247, v 248, v 249, v 250, v 251, v 252, v 253, v 254, v 255, v 256, v 257, v 258, v 259, v 260, v 261, v 262, v 263, v 264, v 265, v 266, v 267, v 268, v 269, v 270, v 271, v 272, v 273, v 274, v 275, v 276, v 277, v 278, v 279, v 280, v 281, v 282, v 283, v 284, v 285, v 286, v 287, v 288, v 289, v 290, v 291, v 292, v 293, v 294, v 295, v 296, v 297, v 298, v 299, v 300, v 301, v 302, v 303, v 304, v 305, v 306], []⟩ := by
  obtain ⟨v, hv, hd⟩ := ow_act a h.size h.dfr
  have e1 := hv 1 _ h.s1
  have e5 := hv 5 _ h.s5
  have e6 := hv 6 _ h.s6
  have e7 := hv 7 _ h.s7
  have e8 := hv 8 _ h.s8
  have e9 := hv 9 _ h.s9
  refine ⟨v, ?_⟩
  rw [hd]
  simp only [e1, e5, e6, e7, e8, e9]

structure OwS1 (a : Act) (p : OP) (q : OQ) : Prop where
  size : a.tmps.size = 307
  dfr : a.defers = []
  s1 : a.tmps[1]? = some (p.mv)
  s5 : a.tmps[5]? = some (.pointer (some ⟨p.lb, 0, none⟩))
  s6 : a.tmps[6]? = some (.pointer (some ⟨p.cb, 0, none⟩))
  s7 : a.tmps[7]? = some (.string p.t)
  s8 : a.tmps[8]? = some (.slice (some ⟨q.ga, 0, none⟩) q.na q.ca)
  s9 : a.tmps[9]? = some (.slice (some ⟨q.go, 0, none⟩) q.no q.co)
  s19 : a.tmps[19]? = some (.slice none 0 0)

set_option maxRecDepth 20000 in
theorem OwS1.shape {a : Act} {p : OP} {q : OQ} (h : OwS1 a p q) : ∃ v : Nat → Value, a = ⟨#[v 0, p.mv, v 2, v 3, v 4, .pointer (some ⟨p.lb, 0, none⟩), .pointer (some ⟨p.cb, 0, none⟩), .string p.t, .slice (some ⟨q.ga, 0, none⟩) q.na q.ca, .slice (some ⟨q.go, 0, none⟩) q.no q.co, v 10, v 11, v 12, v 13, v 14, v 15, v 16, v 17, v 18, .slice none 0 0, v 20, v 21, v 22, v 23, v 24, v 25, v 26, v 27, v 28, v 29, v 30, v 31, v 32, v 33, v 34, v 35, v 36, v 37, v 38, v 39, v 40, v 41, v 42, v 43, v 44, v 45, v 46, v 47, v 48, v 49, v 50, v 51, v 52, v 53, v 54, v 55, v 56, v 57, v 58, v 59, v 60, v 61, v 62, v 63, v 64, v 65, v 66, v 67, v 68, v 69, v 70, v 71, v 72, v 73, v 74, v 75, v 76, v 77, v 78, v 79, v 80, v 81, v 82, v 83, v 84, v 85, v 86, v 87, v 88, v 89, v 90, v 91, v 92, v 93, v 94, v 95, v 96, v 97, v 98, v 99, v 100, v 101, v 102, v 103, v 104, v 105, v 106, v 107, v 108, v 109, v 110, v 111, v 112, v 113, v 114, v 115, v 116, v 117, v 118, v 119, v 120, v 121, v 122, v 123, v 124, v 125, v 126, v 127, v 128, v 129, v 130, v 131, v 132, v 133, v 134, v 135, v 136, v 137, v 138, v 139, v 140, v 141, v 142, v 143, v 144, v 145, v 146, v 147, v 148, v 149, v 150, v 151, v 152, v 153, v 154, v 155, v 156, v 157, v 158, v 159, v 160, v 161, v 162, v 163, v 164, v 165, v 166, v 167, v 168, v 169, v 170, v 171, v 172, v 173, v 174, v 175, v 176, v 177, v 178, v 179, v 180, v 181, v 182, v 183, v 184, v 185, v 186, v 187, v 188, v 189, v 190, v 191, v 192, v 193, v 194, v 195, v 196, v 197, v 198, v 199, v 200, v 201, v 202, v 203, v 204, v 205, v 206, v 207, v 208, v 209, v 210, v 211, v 212, v 213, v 214, v 215, v 216, v 217, v 218, v 219, v 220, v 221, v 222, v 223, v 224, v 225, v 226, v 227, v 228, v 229, v 230, v 231, v 232, v 233, v 234, v 235, v 236, v 237, v 238, v 239, v 240, v 241, v 242, v 243, v 244, v 245, v 246, v 247, v 248, v 249, v 250, v 251, v 252, v 253, v 254, v 255, v 256, v 257, v 258, v 259, v 260, v 261, v 262, v 263, v 264, v 265, v 266, v 267, v 268, v 269, v 270, v 271, v 272, v 273, v 274, v 275, v 276, v 277, v 278, v 279, v 280, v 281, v 282, v 283, v 284, v 285, v 286, v 287, v 288, v 289, v 290, v 291, v 292, v 293, v 294, v 295, v 296, v 297, v 298, v 299, v 300, v 301, v 302, v 303, v 304, v 305, v 306], []⟩ := by
  obtain ⟨v, hv, hd⟩ := ow_act a h.size h.dfr
  have e1 := hv 1 _ h.s1
  have e5 := hv 5 _ h.s5
  have e6 := hv 6 _ h.s6
  have e7 := hv 7 _ h.s7
  have e8 := hv 8 _ h.s8
  have e9 := hv 9 _ h.s9
  have e19 := hv 19 _ h.s19
  refine ⟨v, ?_⟩
  rw [hd]
  simp only [e1, e5, e6, e7, e8, e9, e19]

section
variable {w0 w : World} {p : OP} {q : OQ} {vl vc : Value} {xs : List Ent} {K : Act → World → Prop} {Q : Exit → Act → World → Prop} {a : Act}

set_option maxRecDepth 100000 in
set_option maxHeartbeats 4000000 in
theorem ow_7 (hf : OwN1 a p) (rest : ∀ a', OwN2 a' p → K a' w) : ow7.wp Tryd.prog (Exit.then K Q) a w := by
  refine wp_cut (fun a' w' => OwN2 a' p ∧ w' = w) (fun a' w' ⟨h, e⟩ => by subst e; exact rest a' h) ?_
  clear rest
  intro J K' hJ hK
  refine wp_calm ?_
  obtain ⟨vv, rfl⟩ := hf.shape
  clear hf
  dsimp only [ow7, ncl, ncr, ncb, nco, nct, nce, ncx, Tryd.f8]
  go_wp2
  exact Met.intro (hJ _ _ ⟨⟨rfl, rfl, rfl, rfl, rfl, rfl, rfl, rfl⟩, rfl⟩)

set_option maxRecDepth 100000 in
set_option maxHeartbeats 4000000 in
theorem owA_0 (hf : OwN2 a p) (rest : ∀ a', OwA a' p (.slice none 0 0) (.slice none 0 0) 0 → K a' w) : owA0.wp Tryd.prog (Exit.then K Q) a w := by
  refine wp_cut (fun a' w' => OwA a' p (.slice none 0 0) (.slice none 0 0) 0 ∧ w' = w) (fun a' w' ⟨h, e⟩ => by subst e; exact rest a' h) ?_
  clear rest
  intro J K' hJ hK
  refine wp_calm ?_
  obtain ⟨vv, rfl⟩ := hf.shape
  clear hf
  dsimp only [owA0, ncl, ncr, ncb, nco, nct, nce, ncx, Tryd.f8]
  go_wp2
  exact Met.intro (hJ _ _ ⟨⟨rfl, rfl, rfl, rfl, rfl, rfl, rfl, rfl, rfl⟩, rfl⟩)

set_option maxRecDepth 100000 in
set_option maxHeartbeats 4000000 in
theorem ow_31a (hf : OwS a p q) (rest : ∀ a', OwS1 a' p q → K a' w) : ow31.wp Tryd.prog (Exit.then K Q) a w := by
  refine wp_cut (fun a' w' => OwS1 a' p q ∧ w' = w) (fun a' w' ⟨h, e⟩ => by subst e; exact rest a' h) ?_
  clear rest
  intro J K' hJ hK
  refine wp_calm ?_
  obtain ⟨vv, rfl⟩ := hf.shape
  clear hf
  dsimp only [ow31, ncl, ncr, ncb, nco, nct, nce, ncx, Tryd.f8]
  go_wp2
  exact Met.intro (hJ _ _ ⟨⟨rfl, rfl, rfl, rfl, rfl, rfl, rfl, rfl, rfl⟩, rfl⟩)

set_option maxRecDepth 100000 in
set_option maxHeartbeats 4000000 in
theorem ow_32a (hf : OwS1 a p q) (rest : ∀ a', OwT a' p q (.slice none 0 0) (.slice none 0 0) → K a' w) : ow32.wp Tryd.prog (Exit.then K Q) a w := by
  refine wp_cut (fun a' w' => OwT a' p q (.slice none 0 0) (.slice none 0 0) ∧ w' = w) (fun a' w' ⟨h, e⟩ => by subst e; exact rest a' h) ?_
  clear rest
  intro J K' hJ hK
  refine wp_calm ?_
  obtain ⟨vv, rfl⟩ := hf.shape
  clear hf
  dsimp only [ow32, ncl, ncr, ncb, nco, nct, nce, ncx, Tryd.f8]
  go_wp2
  exact Met.intro (hJ _ _ ⟨⟨rfl, rfl, rfl, rfl, rfl, rfl, rfl, rfl, rfl, rfl⟩, rfl⟩)

/-- The rows are as long as they are said to be, so they are there. -/
theorem OwA.toS {va vo : Value} {i : Int} {It : Nat → Item} {vals vos : List Value} (hf : OwA a p va vo i) (h : OwAS w0 w It p vl vc xs va vo vals vos) (h6 : vals.length = 6) (h3 : vos.length = 3) : ∃ q, OwS a p q ∧ OwBS w0 w It p q vl vc xs vals vos 0 0 0 0 := by
  have h1 := h.m.bg.bag.holds 0
  have h2 := h.m.bg.bag.holds 1
  rw [h.ra] at h1
  rw [h.ro] at h2
  obtain ⟨ga, ca, e1⟩ := row_at0 h1 (by omega)
  obtain ⟨go, co, e2⟩ := row_at0 h2 (by omega)
  rw [h6] at e1
  rw [h3] at e2
  subst e1 e2
  refine ⟨⟨ga, 6, ca, go, 3, co⟩, ⟨hf.size, hf.dfr, hf.s1, hf.s5, hf.s6, hf.s7, hf.s8, hf.s9⟩, ⟨h.m, ?_, ?_, h.a, h.o, rfl, rfl⟩⟩
  · rw [h.ra, h6]
  · rw [h.ro, h3]

theorem ow_start {lb cb : Nat} {t : ByteArray} {mv : Value} (hl : Lg w0 w lb vl xs) (hc : PLog w cb vc xs) (hcb : ∀ g, g = cb ∨ vc.ownBlock = some g → w0.heap.size ≤ g ∧ ¬ (g = lb ∨ vl.ownBlock = some g)) (hlen : xs.length ≤ 60) :
    ∃ It, OwAS w0 w It ⟨mv, lb, cb, t⟩ vl vc xs (.slice none 0 0) (.slice none 0 0) [] [] := by
  have hlt2 : ∀ g, (LI lb vl xs).own g → g < w.heap.size := fun g hg => by
    rcases hg with rfl | hg
    · exact lt_of_heap hl.log.blk
    · exact (hl.log.row.lt g hg).2
  have hlt3 : ∀ g, (LI cb vc xs).own g → g < w.heap.size := fun g hg => by
    rcases hg with rfl | hg
    · exact lt_of_heap hc.blk
    · exact (hc.row.lt g hg).2
  let It : Nat → Item := fun i => if i = 2 then LI lb vl xs else if i = 3 then LI cb vc xs else rowItem 25 1 (.slice none 0 0) 0 []
  have e2 : It 2 = LI lb vl xs := rfl
  have e3 : It 3 = LI cb vc xs := rfl
  have en : ∀ i, i ≠ 2 → i ≠ 3 → It i = rowItem 25 1 (.slice none 0 0) 0 [] := fun i h2 h3 => by
    show (if i = 2 then _ else if i = 3 then _ else _) = _
    rw [if_neg h2, if_neg h3]
  have nown : ∀ g, ¬ (rowItem 25 1 (.slice none 0 0) 0 []).own g := fun g hg => by cases hg
  have hbag : Bag w It := by
    refine ⟨fun i => ?_, fun i g hg => ?_, fun i j g hij hi hj => ?_⟩
    · by_cases h2 : i = 2
      · subst h2; rw [e2]; exact hl.log
      · by_cases h3 : i = 3
        · subst h3; rw [e3]; exact hc
        · rw [en i h2 h3]; exact World.ownsRow_nil _ _ _ _
    · by_cases h2 : i = 2
      · subst h2; rw [e2] at hg; exact hlt2 g hg
      · by_cases h3 : i = 3
        · subst h3; rw [e3] at hg; exact hlt3 g hg
        · rw [en i h2 h3] at hg; exact absurd hg (nown g)
    · by_cases h2 : i = 2
      · subst h2
        by_cases h3 : j = 3
        · subst h3; rw [e2] at hi; rw [e3] at hj; exact (hcb g hj).2 hi
        · rw [en j (by omega) h3] at hj; exact nown g hj
      · by_cases h3 : i = 3
        · subst h3
          by_cases h4 : j = 2
          · subst h4; rw [e3] at hi; rw [e2] at hj; exact (hcb g hi).2 hj
          · rw [en j h4 (by omega)] at hj; exact nown g hj
        · rw [en i h2 h3] at hi; exact nown g hi
  have hbg : Bg w0 w It := by
    refine ⟨hbag, hl.below, fun i g hg => ?_⟩
    by_cases h2 : i = 2
    · subst h2
      rw [e2] at hg
      rcases hg with rfl | hg
      · exact hl.lb
      · exact hl.vb g hg
    · by_cases h3 : i = 3
      · subst h3; rw [e3] at hg; exact (hcb g hg).1
      · rw [en i h2 h3] at hg; exact absurd hg (nown g)
  have p1 : OwL w0 w It ⟨mv, lb, cb, t⟩ vl vc xs := ⟨hbg, e2, e3, hlen⟩
  have p2 := p1.put (hbg.fresh 1 (Below.refl _ w) (World.ownsRow_nil w 0 44 1) nofun) (by omega) (by omega)
  exact ⟨_, p2, by rw [upd_ne _ _ (by omega)]; exact en 0 (by omega) (by omega), upd_same _ _ _, ⟨fun j v hj => by cases hj⟩, ⟨fun j v hj => by cases hj⟩, by decide, by decide⟩

theorem ow_tail {n len cl gl ol : Nat} {al : Option Addr} {C : Nat → OpD} (hK : ∀ a w, owR7.wp Tryd.prog Q a w → K a w) (hf : OwN1 a p) (hmv : p.mv = .slice al len cl) {It : Nat → Item} (h : OwAS w0 w It p vl vc xs (.slice none 0 0) (.slice none 0 0) [] []) (hn : n = xs.length) (hP : ParseAt w0 p n xs)
    (hal : 0 < len → al = some ⟨gl, ol, none⟩ ∧ gl < w0.heap.size) (hc : ∀ i, i < len → OpAt w0 gl (ol + i * 19) (C i)) (ht : p.t = ⟨(textL xs).toArray⟩) (htab : Tab w0) (hfit : ∀ x ∈ xs, x.Fit)
    (fin : ∀ a' w', a'.defers = [] → a'.tmps[4]? = some (.bool true) → Below w0.heap.size w0 w' → Q .ret a' w') : ow7.wp Tryd.prog (Exit.then K Q) a w := by
  refine ow_7 hf (fun a1 f1 => hK _ _ ?_)
  show (Code.seq (Code.seq owA0 (Code.block 0 owAl)) (Code.seq owB (Code.seq owC (Code.seq ow31 (Code.seq ow32 (Code.seq owD (Code.seq owE (Code.seq owG (Code.seq owH (Code.seq owI (Code.seq owZ Code.ret))))))))))).wp Tryd.prog Q a1 w
  refine wp_seq (wp_seq (owA_0 f1 (fun a2 f2 => wp_block (ow_al f2 hn hP h (fun a3 w3 It3 va vo vals vos h6 h3 f3 g3 => ?_)))))
  obtain ⟨q, f4, g4⟩ := f3.toS g3 h6 h3
  refine wp_seq (owB_all f4 g4 (fun a5 w5 It5 f5 g5 => wp_seq (owC_all f5 g5 (fun a6 w6 It6 f6 g6 => wp_seq (ow_31a f6 (fun a7 f7 => wp_seq (ow_32a f7 (fun a8 f8 => ?_))))))))
  obtain ⟨It8, g8⟩ := OwBS.toD (i := 0) (k := 0) (i2 := 0) (k2 := 0) g6
  refine wp_seq (owD_all f8 g8 (fun a9 w9 It9 V9 longs l9 f9 g9 => wp_seq (owE_all f9 g9 (fun a10 w10 It10 V10 wides l10 f10 g10 => wp_seq (owG_all f10 g10 l9 (fun a11 w11 f11 g11 => wp_seq (owH_all f11 g11 l10 (fun a12 w12 f12 g12 => wp_seq (owI_all hmv f12.toU g12.m.toC hal hc (fun a13 w13 v13 ys k f13 g13 => wp_seq (owZ_w f13 g13 ht htab hfit (fun a14 w14 h1 h2 h3 => wp_ret (fin a14 w14 h1 h2 h3)))))))))))))

end

set_option maxHeartbeats 4000000 in
set_option maxRecDepth 20000 in
theorem trailOwn_walk (w : World) (hg : Glob w) (htab : Tab w) (al : Option Addr) (len cl gl ol : Nat) (hal : 0 < len → al = some ⟨gl, ol, .none⟩ ∧ gl < w.heap.size) (C : Nat → OpD) (hc : ∀ i, i < len → OpAt w gl (ol + i * 19) (C i)) (hfit : ∀ i, i < len → (C i).e.Fit ∧ (C i).e.Sm)
    (al2 : Option Addr) (len2 cl2 gl2 ol2 : Nat) (hal2 : 0 < len2 → al2 = some ⟨gl2, ol2, .none⟩ ∧ gl2 < w.heap.size) (C2 : Nat → OpD) (hc2 : ∀ i, i < len2 → OpAt w gl2 (ol2 + i * 19) (C2 i)) :
    Calls Tryd.prog 8 #[.slice al len cl, .slice al2 len2 cl2] w fun e w' => e = .returned (.bool true) ∧ Below w.heap.size w w' := by
  have Ha := Lib.hid (awake_walk w htab)
  have Hm := Lib.hid (fun w1 (hb : Below w.heap.size w w1) => made_walk w1 al len cl gl ol (fun h => ⟨(hal h).1, Nat.lt_of_lt_of_le (hal h).2 hb.size⟩) C (fun i hi => (hc i hi).below (hal (by omega)).2 hb) hfit)
  have Hg := Lib.hid hg
  have Htab := Lib.hid htab
  have Hal2 := Lib.hid hal2
  have Hc2 := Lib.hid hc2
  clear hg htab hal hc hfit hal2 hc2
  go_enter Tryd.func8, Tryd.ntmps8
  go_wp2_with fail
  refine Ha.out.mono ?_
  rintro r w1 ⟨rfl, hb⟩
  have Hm1 := Lib.hid (Hm.out w1 hb)
  have Hb1 := Lib.hid hb
  clear hb Ha Hm
  go_wp2_with fail
  refine Hm1.out.mono ?_
  rintro r w2 ⟨lb, v, xs, rfl, hlg, hall, hsm⟩
  have hb2 : Below w.heap.size w w2 := Hb1.out.trans (hlg.below.mono Hb1.out.size)
  have hlg0 : Lg w w2 lb v xs := ⟨hlg.log, hb2, Nat.le_trans Hb1.out.size hlg.lb, fun g hg => Nat.le_trans Hb1.out.size (hlg.vb g hg)⟩
  have hgd : ∀ e ∈ xs, e.Fit ∧ e.may = true ∧ 0 ≤ e.number := fun e he => ⟨(hall.good e he).fit, (hall.good e he).may, (hall.good e he).num⟩
  have hts : (textL xs).length ≤ 1200000000 := by
    have h1 := text_small xs fun e he => ⟨(hgd e he).1, hsm e he⟩
    have h2 := hall.len
    omega
  have HC := Lib.hid (copy_walk w2 lb v xs hlg.log (Nat.lt_of_le_of_lt hall.len (by decide)))
  have HT := Lib.hid (fun w3 (hb : Below w2.heap.size w2 w3) => text_walk w3 lb v xs (log_later hlg.log hb) (tab_later Htab.out (hb2.trans (hb.mono hb2.size))) (fun e he => (hgd e he).1) (Nat.le_trans hall.len (by decide)))
  obtain ⟨t, ht⟩ : ∃ t, t = (⟨(textL xs).toArray⟩ : ByteArray) := ⟨_, rfl⟩
  obtain ⟨n, hn⟩ : ∃ n, n = xs.length := ⟨_, rfl⟩
  have HP := Lib.hid (fun cb => show ParseAt w ⟨.slice al2 len2 cl2, lb, cb, t⟩ n xs from fun w3 hb => by
    rw [hn]
    refine (parse_c w3 t (by rw [ht]; exact hts) (by rw [ht]; exact Seg.of_text xs hgd fun e he => Nat.le_trans (line_small (hgd e he).1 (hsm e he)) (by decide)) (glob_later Hg.out hb) (tab_later Htab.out hb)).mono ?_
    rintro r w4 ⟨es, b, hPR, hb4, hc⟩
    rw [ht] at hPR
    obtain ⟨rfl, rfl⟩ := hPR.uniq (PR.of_text xs hgd)
    rcases hc with ⟨_, ao, c, hr, hrow, hnew⟩ | ⟨h, _⟩
    · exact ⟨ao, c, hr, hrow, hb4, hnew⟩
    · cases h)
  have Hfit := Lib.hid (fun e he => (hgd e he).1)
  have Hlg := Lib.hid hlg0
  have Hlen := Lib.hid hall.len
  have Ht := Lib.hid ht
  have Hn := Lib.hid hn
  rw [← ht] at HT
  clear hb2 hgd hts hlg hlg0 hall hsm ht hn Hm1
  go_wp2_with fail
  refine HC.out.mono ?_
  rintro r w3 ⟨cb, vc, rfl, hlc, hb, hcb, hvc⟩
  have hl3 := Hlg.out.later hb
  have Hcb := Lib.hid (show ∀ g, g = cb ∨ vc.ownBlock = some g → w.heap.size ≤ g ∧ ¬ (g = lb ∨ v.ownBlock = some g) from fun g hq => by
    have hge : w2.heap.size ≤ g := by
      rcases hq with rfl | hq
      · exact hcb
      · exact hvc g hq
    refine ⟨Nat.le_trans Hlg.out.below.size hge, fun h2 => ?_⟩
    have hlt : g < w2.heap.size := by
      rcases h2 with rfl | h2
      · exact lt_of_heap Hlg.out.log.blk
      · exact (Hlg.out.log.row.lt g h2).2
    omega)
  have HT3 := Lib.hid (HT.out w3 hb)
  have Hl3 := Lib.hid hl3
  have Hlc := Lib.hid hlc
  clear hl3 hlc hb hcb hvc HC HT Hlg
  go_wp2_with fail
  refine HT3.out.mono ?_
  rintro r w4 ⟨rfl, hb⟩
  have Hst := Lib.hid (ow_start (mv := .slice al2 len2 cl2) (t := t) (Hl3.out.later hb) (log_later Hlc.out hb) Hcb.out Hlen.out)
  clear hb HT3 Hl3 Hlc Hcb
  go_upto_region 7 with (fail)
  rename_i K1 hK1
  obtain ⟨It, hst⟩ := Hst.out
  refine ow_tail (p := ⟨.slice al2 len2 cl2, lb, cb, t⟩) hK1 ?hf rfl hst Hn.out (HP.out cb) Hal2.out Hc2.out Ht.out Htab.out Hfit.out ?_
  case hf => exact ⟨rfl, rfl, rfl, rfl, rfl, rfl, rfl⟩
  intro a' w' h1 h2 hb
  refine ⟨h1, .bool true, ?_, rfl, hb⟩
  rw [← getD_of h2]
  exact results_tmp rfl _ _ _

end Go.Proofs.YthpflfcgnaichaaDoor
