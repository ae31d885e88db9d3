/-
NetOrder's round, statement by statement: Close and Cut.
-/
import Derived.Test.YtibijonjjkknoaaNetOrdF
set_option linter.unusedVariables false
set_option linter.unusedSimpArgs false
namespace Go.Proofs.Ytibijonjjkknoaa
open Go Go.RowKit

section
variable {B n bw cb : Nat} {w0 w : World} {cut : Bool} {V : Nat} {kd cn sd nk : Int} {nm : ByteArray} {adk : Option Addr} {dlk dck : Nat} {al : Value} {i : Int} {K : Act → World → Prop} {Q : Exit → Act → World → Prop} {a : Act}

set_option maxRecDepth 100000 in
set_option maxHeartbeats 1600000 in
theorem s26 (hf : FrC a al n bw (bw + 1) cut i cb) (h : InvC B w0 w n bw (bw + 1) cb (callObj kd nm cn sd nk adk dlk dck) cut V) (v0 : 0 ≤ cn) (v2 : cn ≤ 2) (hs : sd = 0 ∨ sd = 1)
    (rest : ∀ a' w', FrC a' al n bw (bw + 1) cut i cb → InvC B w0 w' n bw (bw + 1) cb (callObj kd nm cn sd nk adk dlk dck) cut V → K a' w') : code26.wp Try.prog (Exit.then K Q) a w := by
  refine wp_cut (fun a' w' => FrC a' al n bw (bw + 1) cut i cb ∧ InvC B w0 w' n bw (bw + 1) cb (callObj kd nm cn sd nk adk dlk dck) cut V) (fun a' w' h => rest a' w' h.1 h.2) ?_
  clear rest
  intro J K' hJ hK
  obtain ⟨v, rfl⟩ := hf.shape
  clear hf
  dsimp only [code26, ncl, ncr, ncb, nco, ncx, Try.f5]
  have Hs := Lib.hid hs
  clear hs
  have b9 := h.blk
  have y0 := cell_blk b9 0
  have y2 := cell_blk b9 2
  have y3 := cell_blk b9 3
  simp [callObj] at y0 y2 y3
  clear b9
  by_cases hk4 : kd = 4
  · have hkb : (kd == 4) = true := by simp [hk4]
    have Hw := Lib.hid (close_inv h cn v0 v2 sd Hs.out)
    clear h hk4
    go_wp2_with fail
    refine Hw.out.mono ?_
    rintro e wx ⟨y, rfl, hI⟩
    have Hfin := Lib.hid hI
    clear hI y0 y2 y3 Hw
    go_wp2
    exact Met.intro (hJ _ _ ⟨⟨rfl, rfl, rfl, rfl, rfl, rfl, rfl, rfl, rfl⟩, Hfin.out⟩)
  · have hkb : (kd == 4) = false := by simp [hk4]
    have Hfin := Lib.hid h
    clear h hk4
    go_wp2
    exact Met.intro (hJ _ _ ⟨⟨rfl, rfl, rfl, rfl, rfl, rfl, rfl, rfl, rfl⟩, Hfin.out⟩)

set_option maxRecDepth 100000 in
set_option maxHeartbeats 1600000 in
theorem s28 (hf : FrC a al n bw (bw + 1) cut i cb) (h : InvC B w0 w n bw (bw + 1) cb (callObj kd nm cn sd nk adk dlk dck) cut V) (v0 : 0 ≤ cn) (v2 : cn ≤ 2)
    (rest : ∀ a' w' cut', FrC a' al n bw (bw + 1) cut' i cb → InvC B w0 w' n bw (bw + 1) cb (callObj kd nm cn sd nk adk dlk dck) cut' V → K a' w') : code28.wp Try.prog (Exit.then K Q) a w := by
  refine wp_cut (fun a' w' => ∃ cut', FrC a' al n bw (bw + 1) cut' i cb ∧ InvC B w0 w' n bw (bw + 1) cb (callObj kd nm cn sd nk adk dlk dck) cut' V) (fun a' w' ⟨cut', h⟩ => rest a' w' cut' h.1 h.2) ?_
  clear rest
  intro J K' hJ hK
  obtain ⟨v, rfl⟩ := hf.shape
  clear hf
  dsimp only [code28, ncl, ncr, ncb, nco, ncx, Try.f5]
  have b9 := h.blk
  have y0 := cell_blk b9 0
  have y2 := cell_blk b9 2
  simp [callObj] at y0 y2
  clear b9
  by_cases hk4 : kd = 7
  · have hkb : (kd == 7) = true := by simp [hk4]
    have Hw := Lib.hid (cut_inv h cn v0 v2)
    clear h hk4
    go_wp2_with fail
    refine Hw.out.mono ?_
    rintro e wx ⟨y, rfl, hI⟩
    have b9 := hI.blk
    have y2' := cell_blk b9 2
    simp [callObj] at y2'
    clear b9 y2 y0 Hw
    have Hfin := Lib.hid hI
    clear hI
    cases cut with
    | false =>
      go_wp2
      exact Met.intro (hJ _ _ ⟨_, ⟨rfl, rfl, rfl, rfl, rfl, rfl, rfl, rfl, rfl⟩, Hfin.out⟩)
    | true =>
      go_wp2
      exact Met.intro (hJ _ _ ⟨_, ⟨rfl, rfl, rfl, rfl, rfl, rfl, rfl, rfl, rfl⟩, Hfin.out⟩)
  · have hkb : (kd == 7) = false := by simp [hk4]
    have Hfin := Lib.hid h
    clear h hk4
    go_wp2
    exact Met.intro (hJ _ _ ⟨_, ⟨rfl, rfl, rfl, rfl, rfl, rfl, rfl, rfl, rfl⟩, Hfin.out⟩)

set_option maxRecDepth 100000 in
set_option maxHeartbeats 1600000 in
theorem s18 (hf : FrC a al n bw (bw + 1) cut i cb) (h : InvC B w0 w n bw (bw + 1) cb (callObj kd nm cn sd nk adk dlk dck) cut V) (v0 : 0 ≤ cn) (v2 : cn ≤ 2) (hs : sd = 0 ∨ sd = 1) (hV : V ≤ 1048576)
    (rest : ∀ a' w', FrC a' al n bw (bw + 1) cut i cb → InvC B w0 w' n bw (bw + 1) cb (callObj kd nm cn sd nk adk dlk dck) cut V → K a' w') : code18.wp Try.prog (Exit.then K Q) a w := by
  refine wp_cut (fun a' w' => FrC a' al n bw (bw + 1) cut i cb ∧ InvC B w0 w' n bw (bw + 1) cb (callObj kd nm cn sd nk adk dlk dck) cut V) (fun a' w' h => rest a' w' h.1 h.2) ?_
  clear rest
  intro J K' hJ hK
  obtain ⟨v, rfl⟩ := hf.shape
  clear hf
  dsimp only [code18, ncl, ncr, ncb, nco, ncx, Try.f5]
  have Hs := Lib.hid hs
  clear hs
  have b9 := h.blk
  have y0 := cell_blk b9 0
  have y2 := cell_blk b9 2
  have y3 := cell_blk b9 3
  have y4 := cell_blk b9 4
  simp [callObj] at y0 y2 y3 y4
  clear b9
  by_cases hk5 : kd = 5
  · have hkb : (kd == 5) = true := by simp [hk5]
    have Hw := Lib.hid (pass_inv h hV cn v0 v2 sd Hs.out nk)
    clear h hk5
    go_wp2_with fail
    refine Hw.out.mono ?_
    rintro e wx ⟨y, m, rfl, hle, hI⟩
    have b9 := hI.blk
    have y4' := cell_blk b9 4
    simp [callObj] at y4'
    clear b9 y0 y2 y3 y4 Hw
    have Hfin := Lib.hid hI
    clear hI
    by_cases hy : y = 0
    · have hyb : (y == 0) = true := by simp [hy]
      have hm1 := hle hy
      have hm0 : ¬ ((m : Int) < 0) := by omega
      have hm2 : ¬ (nk < (m : Int)) := by omega
      clear hle hy
      go_wp2
      exact Met.intro (hJ _ _ ⟨⟨rfl, rfl, rfl, rfl, rfl, rfl, rfl, rfl, rfl⟩, Hfin.out⟩)
    · have hyb : (y == 0) = false := by simp [hy]
      clear hle hy
      go_wp2
      exact Met.intro (hJ _ _ ⟨⟨rfl, rfl, rfl, rfl, rfl, rfl, rfl, rfl, rfl⟩, Hfin.out⟩)
  · have hkb : (kd == 5) = false := by simp [hk5]
    have Hfin := Lib.hid h
    clear h hk5
    go_wp2
    exact Met.intro (hJ _ _ ⟨⟨rfl, rfl, rfl, rfl, rfl, rfl, rfl, rfl, rfl⟩, Hfin.out⟩)

end

end Go.Proofs.Ytibijonjjkknoaa
