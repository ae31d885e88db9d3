/-
NetOrder's inner loop: what has been read is a beginning of what has been written.
-/
import Derived.Test.YtibijonjjkknoaaNetOrdT
import Derived.Deep.QuietTactic
import Derived.BigQuiet
set_option linter.unusedVariables false
set_option linter.unusedSimpArgs false
namespace Go.Proofs.Ytibijonjjkknoaa
open Go Go.RowKit

theorem MRow.form {w : World} {M : MLab} {t : Nat} {v : Value} {xs : List UInt8} (h : MRow w M t v xs) : ∃ ao cap, v = .slice ao xs.length cap ∧ RdB w ao cap xs := by
  rcases row_form h.own with ⟨q1, q2, q3⟩ | ⟨g, c, q1, q2, q3⟩
  · have : xs = [] := List.eq_nil_of_length_eq_zero q2
    subst this
    exact ⟨none, 0, q1, (fun _ => ⟨rfl, rfl⟩), (fun ad h => by cases h), Nat.le_refl _, Nat.zero_le _⟩
  · refine ⟨some ⟨g, 0, none⟩, c, q1, (fun h => by cases h), ?_, q2, q3⟩
    intro ad had j u hu
    obtain rfl := Option.some.inj had
    rw [Addr.add_lit, Nat.zero_add]
    have ho := h.own
    subst q1
    exact row_cell ho hu

section
variable {B n bw cb : Nat} {w0 w : World} {cut : Bool} {V : Nat} {o : Obj} {al : Value} {i : Int} {K : Act → World → Prop} {Q : Exit → Act → World → Prop} {a : Act}

theorem InvC.drewN (h : InvC B w0 w n bw (bw + 1) cb o cut V) (k : Nat) : InvC B w0 (w.drewN k) n bw (bw + 1) cb o cut V := by
  obtain ⟨L, S, M, W0, W1, R0, R1, va, vb, vc, vd, c, hn, h3, hv, hM, hc, ho, l0, l1, hl, hm, hB, hb⟩ := h
  exact ⟨L, S, M, W0, W1, R0, R1, va, vb, vc, vd, c, hn.drewN k, h3, hv, hM.kept ((Mod.refl (fun _ => False) w).drewN k) (fun _ _ _ => id) (fun _ _ => .inl rfl), hc, ho, l0, l1, hl, hm, hB, hb⟩

set_option maxRecDepth 100000 in
set_option maxHeartbeats 1600000 in
theorem sInRound {k : Nat} (hf : FrI a al n bw (bw + 1) cut i cb (k : Int)) (hk : k < 2) (h : InvC B w0 w n bw (bw + 1) cb o cut V)
    (rest : ∀ a' w', FrI a' al n bw (bw + 1) cut i cb (k : Int) → InvC B w0 w' n bw (bw + 1) cb o cut V → K a' w') : codeInRound.wp Try.prog (Exit.then K Q) a w := by
  refine wp_cut (fun a' w' => FrI a' al n bw (bw + 1) cut i cb (k : Int) ∧ InvC B w0 w' n bw (bw + 1) cb o cut V) (fun a' w' h => rest a' w' h.1 h.2) ?_
  clear rest
  intro J K' hJ hK
  refine wp_calm ?_
  obtain ⟨v, rfl⟩ := hf.shape
  clear hf
  dsimp only [codeInRound, ncl, ncr, ncb, nco, ncx, Try.f5]
  have Hfin := Lib.hid (fun nq => h.drewN nq)
  obtain ⟨L, S, M, W0, W1, R0, R1, va, vb, vc, vd, c, hn, h3, hv, hM, hc, ho, l0, l1, hl, hm, hB, hb⟩ := h
  obtain ⟨aw0, cw0, rfl, rw0⟩ := hM.w0.form
  obtain ⟨aw1, cw1, rfl, rw1⟩ := hM.w1.form
  obtain ⟨ar0, cr0, rfl, rr0⟩ := hM.r0.form
  obtain ⟨ar1, cr1, rfl, rr1⟩ := hM.r1.form
  have t0 := cell_blk hM.hbw 0
  have t1 := cell_blk hM.hbw 1
  have u0 := cell_blk hM.hbr 0
  have u1 := cell_blk hM.hbr 1
  simp at t0 t1 u0 u1
  have Ho := Lib.hid (And.intro ho.2.1 (And.intro ho.2.2.1 (And.intro rw0 (And.intro rw1 (And.intro rr0 rr1)))))
  clear hn h3 hv hM hc ho hl hm hB hb rw0 rw1 rr0 rr1
  obtain rfl | rfl : k = 0 ∨ k = 1 := by omega
  · have hle : R0.length ≤ W0.length := by obtain ⟨T, hT⟩ := Ho.out.1; rw [hT]; simp
    have hd : decide ((W0.length : Int) < (R0.length : Int)) = false := by simp; omega
    have hcw : (R0.length : Int) ≤ (cw0 : Int) := by have := Ho.out.2.2.1.le; omega
    have h0 : (0 : Int) ≤ (R0.length : Int) := by omega
    have htk : decide (R0 = W0.take R0.length) = true := by obtain ⟨T, hT⟩ := Ho.out.1; rw [hT]; simp
    have Hs := Lib.hid (show ∀ (nn : Nat), Calls Try.prog 13 #[.slice ar0 R0.length cr0, .slice aw0 R0.length cw0] (w.drewN nn) fun e w' => e = .returned (.bool true) ∧ ∃ nd, w' = (w.drewN nn).drewN nd from fun nn => (same_to (w.drewN nn) ar0 aw0 cr0 cw0 R0.length R0.length R0 (W0.take R0.length) (Ho.out.2.2.2.2.1.drewN nn) ((Ho.out.2.2.1.take R0.length).drewN nn) rfl (by simp; omega) true htk).mono (fun e w' ⟨h1, nd, h2⟩ => ⟨h1, nd, h2.symm⟩))
    clear htk l0 l1
    go_wp2_with fail
    go_quiet (refine Calls.quiet_of (Hs.out _))
    go_wp2
    exact Met.intro (hJ _ _ ⟨⟨rfl, rfl, rfl, rfl, rfl, rfl, rfl, rfl, rfl, rfl⟩, Hfin.out _⟩)
  · have hle : R1.length ≤ W1.length := by obtain ⟨T, hT⟩ := Ho.out.2.1; rw [hT]; simp
    have hd : decide ((W1.length : Int) < (R1.length : Int)) = false := by simp; omega
    have hcw : (R1.length : Int) ≤ (cw1 : Int) := by have := Ho.out.2.2.2.1.le; omega
    have h0 : (0 : Int) ≤ (R1.length : Int) := by omega
    have htk : decide (R1 = W1.take R1.length) = true := by obtain ⟨T, hT⟩ := Ho.out.2.1; rw [hT]; simp
    have Hs := Lib.hid (show ∀ (nn : Nat), Calls Try.prog 13 #[.slice ar1 R1.length cr1, .slice aw1 R1.length cw1] (w.drewN nn) fun e w' => e = .returned (.bool true) ∧ ∃ nd, w' = (w.drewN nn).drewN nd from fun nn => (same_to (w.drewN nn) ar1 aw1 cr1 cw1 R1.length R1.length R1 (W1.take R1.length) (Ho.out.2.2.2.2.2.drewN nn) ((Ho.out.2.2.2.1.take R1.length).drewN nn) rfl (by simp; omega) true htk).mono (fun e w' ⟨h1, nd, h2⟩ => ⟨h1, nd, h2.symm⟩))
    clear htk l0 l1
    go_wp2_with fail
    go_quiet (refine Calls.quiet_of (Hs.out _))
    go_wp2
    exact Met.intro (hJ _ _ ⟨⟨rfl, rfl, rfl, rfl, rfl, rfl, rfl, rfl, rfl, rfl⟩, Hfin.out _⟩)

end

end Go.Proofs.Ytibijonjjkknoaa
