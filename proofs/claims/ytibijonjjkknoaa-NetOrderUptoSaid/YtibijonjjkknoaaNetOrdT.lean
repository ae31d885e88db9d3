/-
NetOrder's small statements: the copy of a call, the tests, the steps.
-/
import Derived.Test.YtibijonjjkknoaaNetOrdF
set_option linter.unusedVariables false
set_option linter.unusedSimpArgs false
namespace Go.Proofs.Ytibijonjjkknoaa
open Go Go.RowKit

section
variable {B n bw cb : Nat} {w0 w : World} {cut : Bool} {V : Nat} {kd cn sd nk : Int} {nm : ByteArray} {adk : Option Addr} {dlk dck : Nat} {al : Value} {i : Int} {K : Act → World → Prop} {Q : Exit → Act → World → Prop} {a : Act}

set_option maxRecDepth 100000 in
set_option maxHeartbeats 1600000 in
theorem s14 {gl ol len cl kk : Nat} (hf : FrO a (.slice (some ⟨gl, ol, none⟩) len cl) n bw (bw + 1) cut (kk : Int)) (h : Inv B w0 w n bw (bw + 1) cut V) (hkk : kk < len) (hlen : len ≤ 1048576)
    (q0 : w.cell? ⟨gl, ol + kk * 6, none⟩ = some (.int .i64 kd)) (q1 : w.cell? ⟨gl, ol + kk * 6 + 1, none⟩ = some (.string nm)) (q2 : w.cell? ⟨gl, ol + kk * 6 + 2, none⟩ = some (.int .i64 cn))
    (q3 : w.cell? ⟨gl, ol + kk * 6 + 3, none⟩ = some (.int .i64 sd)) (q4 : w.cell? ⟨gl, ol + kk * 6 + 4, none⟩ = some (.int .i64 nk)) (q5 : w.cell? ⟨gl, ol + kk * 6 + 5, none⟩ = some (.slice adk dlk dck))
    (rest : ∀ a' w' cb, FrC a' (.slice (some ⟨gl, ol, none⟩) len cl) n bw (bw + 1) cut (kk : Int) cb → InvC B w0 w' n bw (bw + 1) cb (callObj kd nm cn sd nk adk dlk dck) cut V → K a' w') : code14.wp Try.prog (Exit.then K Q) a w := by
  refine wp_cut (fun a' w' => ∃ cb, FrC a' (.slice (some ⟨gl, ol, none⟩) len cl) n bw (bw + 1) cut (kk : Int) cb ∧ InvC B w0 w' n bw (bw + 1) cb (callObj kd nm cn sd nk adk dlk dck) cut V) (fun a' w' ⟨cb, h⟩ => rest a' w' cb h.1 h.2) ?_
  clear rest
  intro J K' hJ hK
  obtain ⟨v, rfl⟩ := hf.shape
  clear hf
  dsimp only [code14, ncl, ncr, ncb, nco, ncx, Try.f5]
  have Hfin := Lib.hid (h.withC (callObj kd nm cn sd nk adk dlk dck))
  clear h
  go_wp2
  exact Met.intro (hJ _ _ ⟨_, ⟨rfl, rfl, rfl, rfl, rfl, rfl, rfl, rfl, rfl⟩, Hfin.out⟩)

set_option maxRecDepth 100000 in
set_option maxHeartbeats 1600000 in
theorem s15 (hf : FrC a al n bw (bw + 1) cut i cb) (h : InvC B w0 w n bw (bw + 1) cb (callObj kd nm cn sd nk adk dlk dck) cut V)
    (rest : ∀ a' w', sd = 0 ∨ sd = 1 → 0 ≤ cn → cn ≤ 2 → FrC a' al n bw (bw + 1) cut i cb → InvC B w0 w' n bw (bw + 1) cb (callObj kd nm cn sd nk adk dlk dck) cut V → K a' w')
    (bad : ∀ a' w', FrC a' al n bw (bw + 1) cut i cb → InvC B w0 w' n bw (bw + 1) cb (callObj kd nm cn sd nk adk dlk dck) cut V → Q (.exit 1) a' w') : code15.wp Try.prog (Exit.then K Q) a w := by
  refine wp_cut (fun a' w' => (sd = 0 ∨ sd = 1) ∧ 0 ≤ cn ∧ cn ≤ 2 ∧ FrC a' al n bw (bw + 1) cut i cb ∧ InvC B w0 w' n bw (bw + 1) cb (callObj kd nm cn sd nk adk dlk dck) cut V) (fun a' w' h => rest a' w' h.1 h.2.1 h.2.2.1 h.2.2.2.1 h.2.2.2.2) ?_
  clear rest
  intro J K' hJ hK
  obtain ⟨v, rfl⟩ := hf.shape
  clear hf
  dsimp only [code15, ncl, ncr, ncb, nco, ncx, Try.f5]
  have b9 := h.blk
  have y2 := cell_blk b9 2
  have y3 := cell_blk b9 3
  simp [callObj] at y2 y3
  have Hfin := Lib.hid h
  clear h b9
  by_cases n1 : sd < 0
  · go_wp2
    exact bad _ _ ⟨rfl, rfl, rfl, rfl, rfl, rfl, rfl, rfl, rfl⟩ Hfin.out
  · by_cases n2 : 1 < sd
    · go_wp2
      exact bad _ _ ⟨rfl, rfl, rfl, rfl, rfl, rfl, rfl, rfl, rfl⟩ Hfin.out
    · by_cases n3 : cn < 0
      · go_wp2
        exact bad _ _ ⟨rfl, rfl, rfl, rfl, rfl, rfl, rfl, rfl, rfl⟩ Hfin.out
      · by_cases n4 : 2 < cn
        · go_wp2
          exact bad _ _ ⟨rfl, rfl, rfl, rfl, rfl, rfl, rfl, rfl, rfl⟩ Hfin.out
        · have Hok := Lib.hid (show (sd = 0 ∨ sd = 1) ∧ 0 ≤ cn ∧ cn ≤ 2 by omega)
          go_wp2
          exact Met.intro (hJ _ _ ⟨Hok.out.1, Hok.out.2.1, Hok.out.2.2, ⟨rfl, rfl, rfl, rfl, rfl, rfl, rfl, rfl, rfl⟩, Hfin.out⟩)

set_option maxRecDepth 100000 in
set_option maxHeartbeats 1600000 in
theorem sTest {ad : Option Addr} {len cl kk : Nat} (hf : FrO a (.slice ad len cl) n bw (bw + 1) cut (kk : Int)) (hkk : kk ≤ len) (hlen : len ≤ 1048576)
    (rest : ∀ a', kk < len → FrO a' (.slice ad len cl) n bw (bw + 1) cut (kk : Int) → K a' w) (out : ∀ a', kk = len → FrO a' (.slice ad len cl) n bw (bw + 1) cut (kk : Int) → Q (.exit 0) a' w) : codeTest.wp Try.prog (Exit.then K Q) a w := by
  refine wp_cut (fun a' w' => w' = w ∧ kk < len ∧ FrO a' (.slice ad len cl) n bw (bw + 1) cut (kk : Int)) (fun a' w' h => h.1 ▸ rest a' h.2.1 h.2.2) ?_
  clear rest
  intro J K' hJ hK
  obtain ⟨v, rfl⟩ := hf.shape
  clear hf
  dsimp only [codeTest, ncl, ncr, ncb, nco, ncx, Try.f5]
  have Hout := Lib.hid out
  clear out
  by_cases hlt : kk < len
  · go_wp2
    exact Met.intro (hJ _ _ ⟨rfl, hlt, ⟨rfl, rfl, rfl, rfl, rfl, rfl, rfl, rfl⟩⟩)
  · go_wp2
    exact Hout.out _ (by omega) ⟨rfl, rfl, rfl, rfl, rfl, rfl, rfl, rfl⟩

set_option maxRecDepth 100000 in
set_option maxHeartbeats 1600000 in
theorem sStep {kk : Nat} (hf : FrO a al n bw (bw + 1) cut (kk : Int)) (hkk : kk < 1048576)
    (rest : ∀ a', FrO a' al n bw (bw + 1) cut ((kk + 1 : Nat) : Int) → K a' w) : codeStep.wp Try.prog (Exit.then K Q) a w := by
  refine wp_cut (fun a' w' => w' = w ∧ FrO a' al n bw (bw + 1) cut ((kk + 1 : Nat) : Int)) (fun a' w' h => h.1 ▸ rest a' h.2) ?_
  clear rest
  intro J K' hJ hK
  obtain ⟨v, rfl⟩ := hf.shape
  clear hf
  dsimp only [codeStep, ncl, ncr, ncb, nco, ncx, Try.f5]
  go_wp2
  refine Met.intro (hJ _ _ ⟨rfl, ⟨rfl, rfl, rfl, rfl, rfl, rfl, rfl, ?_⟩⟩)
  exact congrArg some (by go_num)

set_option maxRecDepth 100000 in
set_option maxHeartbeats 1600000 in
theorem s31 (hf : FrC a al n bw (bw + 1) cut i cb)
    (rest : ∀ a', FrI a' al n bw (bw + 1) cut i cb 0 → K a' w) : code31.wp Try.prog (Exit.then K Q) a w := by
  refine wp_cut (fun a' w' => w' = w ∧ FrI a' al n bw (bw + 1) cut i cb 0) (fun a' w' h => h.1 ▸ rest a' h.2) ?_
  clear rest
  intro J K' hJ hK
  obtain ⟨v, rfl⟩ := hf.shape
  clear hf
  dsimp only [code31, ncl, ncr, ncb, nco, ncx, Try.f5]
  go_wp2
  exact Met.intro (hJ _ _ ⟨rfl, ⟨rfl, rfl, rfl, rfl, rfl, rfl, rfl, rfl, rfl, rfl⟩⟩)

set_option maxRecDepth 100000 in
set_option maxHeartbeats 1600000 in
theorem sInTest {k : Nat} (hf : FrI a al n bw (bw + 1) cut i cb (k : Int)) (hk : k ≤ 2)
    (rest : ∀ a', k < 2 → FrI a' al n bw (bw + 1) cut i cb (k : Int) → K a' w) (out : ∀ a', FrI a' al n bw (bw + 1) cut i cb (k : Int) → Q (.exit 2) a' w) : codeInTest.wp Try.prog (Exit.then K Q) a w := by
  refine wp_cut (fun a' w' => w' = w ∧ k < 2 ∧ FrI a' al n bw (bw + 1) cut i cb (k : Int)) (fun a' w' h => h.1 ▸ rest a' h.2.1 h.2.2) ?_
  clear rest
  intro J K' hJ hK
  obtain ⟨v, rfl⟩ := hf.shape
  clear hf
  dsimp only [codeInTest, ncl, ncr, ncb, nco, ncx, Try.f5]
  have Hout := Lib.hid out
  clear out
  by_cases hlt : k < 2
  · go_wp2
    exact Met.intro (hJ _ _ ⟨rfl, hlt, ⟨rfl, rfl, rfl, rfl, rfl, rfl, rfl, rfl, rfl, rfl⟩⟩)
  · go_wp2
    exact Hout.out _ ⟨rfl, rfl, rfl, rfl, rfl, rfl, rfl, rfl, rfl, rfl⟩

set_option maxRecDepth 100000 in
set_option maxHeartbeats 1600000 in
theorem sInStep {k : Nat} (hf : FrI a al n bw (bw + 1) cut i cb (k : Int)) (hk : k < 2)
    (rest : ∀ a', FrI a' al n bw (bw + 1) cut i cb ((k + 1 : Nat) : Int) → K a' w) : codeInStep.wp Try.prog (Exit.then K Q) a w := by
  refine wp_cut (fun a' w' => w' = w ∧ FrI a' al n bw (bw + 1) cut i cb ((k + 1 : Nat) : Int)) (fun a' w' h => h.1 ▸ rest a' h.2) ?_
  clear rest
  intro J K' hJ hK
  obtain ⟨v, rfl⟩ := hf.shape
  clear hf
  dsimp only [codeInStep, ncl, ncr, ncb, nco, ncx, Try.f5]
  go_wp2
  refine Met.intro (hJ _ _ ⟨rfl, ⟨rfl, rfl, rfl, rfl, rfl, rfl, rfl, rfl, rfl, ?_⟩⟩)
  exact congrArg some (by go_num)

set_option maxRecDepth 100000 in
set_option maxHeartbeats 1600000 in
theorem s39 (hf : FrO a al n bw (bw + 1) cut i)
    (rest : ∀ a', FrE a' n bw (bw + 1) 0 → K a' w) : code39.wp Try.prog (Exit.then K Q) a w := by
  refine wp_cut (fun a' w' => w' = w ∧ FrE a' n bw (bw + 1) 0) (fun a' w' h => h.1 ▸ rest a' h.2) ?_
  clear rest
  intro J K' hJ hK
  obtain ⟨v, rfl⟩ := hf.shape
  clear hf
  dsimp only [code39, ncl, ncr, ncb, nco, ncx, Try.f5]
  go_wp2
  exact Met.intro (hJ _ _ ⟨rfl, ⟨rfl, rfl, rfl, rfl, rfl, rfl⟩⟩)

set_option maxRecDepth 100000 in
set_option maxHeartbeats 1600000 in
theorem sEndTest {k : Nat} (hf : FrE a n bw (bw + 1) (k : Int)) (hk : k ≤ 2)
    (rest : ∀ a', k < 2 → FrE a' n bw (bw + 1) (k : Int) → K a' w) (out : ∀ a', k = 2 → FrE a' n bw (bw + 1) (k : Int) → Q (.exit 4) a' w) : codeEndTest.wp Try.prog (Exit.then K Q) a w := by
  refine wp_cut (fun a' w' => w' = w ∧ k < 2 ∧ FrE a' n bw (bw + 1) (k : Int)) (fun a' w' h => h.1 ▸ rest a' h.2.1 h.2.2) ?_
  clear rest
  intro J K' hJ hK
  obtain ⟨v, rfl⟩ := hf.shape
  clear hf
  dsimp only [codeEndTest, ncl, ncr, ncb, nco, ncx, Try.f5]
  have Hout := Lib.hid out
  clear out
  by_cases hlt : k < 2
  · go_wp2
    exact Met.intro (hJ _ _ ⟨rfl, hlt, ⟨rfl, rfl, rfl, rfl, rfl, rfl⟩⟩)
  · go_wp2
    exact Hout.out _ (by omega) ⟨rfl, rfl, rfl, rfl, rfl, rfl⟩

set_option maxRecDepth 100000 in
set_option maxHeartbeats 1600000 in
theorem sEndStep {k : Nat} (hf : FrE a n bw (bw + 1) (k : Int)) (hk : k < 2)
    (rest : ∀ a', FrE a' n bw (bw + 1) ((k + 1 : Nat) : Int) → K a' w) : codeEndStep.wp Try.prog (Exit.then K Q) a w := by
  refine wp_cut (fun a' w' => w' = w ∧ FrE a' n bw (bw + 1) ((k + 1 : Nat) : Int)) (fun a' w' h => h.1 ▸ rest a' h.2) ?_
  clear rest
  intro J K' hJ hK
  obtain ⟨v, rfl⟩ := hf.shape
  clear hf
  dsimp only [codeEndStep, ncl, ncr, ncb, nco, ncx, Try.f5]
  go_wp2
  refine Met.intro (hJ _ _ ⟨rfl, ⟨rfl, rfl, rfl, rfl, rfl, ?_⟩⟩)
  exact congrArg some (by go_num)

end

end Go.Proofs.Ytibijonjjkknoaa
