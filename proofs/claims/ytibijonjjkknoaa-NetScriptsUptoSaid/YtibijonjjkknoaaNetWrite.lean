/-
The function Write of package net.
-/
import Derived.Test.YtibijonjjkknoaaNetOf
set_option linter.unusedVariables false
set_option linter.unusedSimpArgs false
namespace Go.Proofs.Ytibijonjjkknoaa
open Go Go.RowKit

def Cn.sd (c : Cn) (k : Int) : Sd := if k = 0 then c.s0 else c.s1
def Cn.setSd (c : Cn) (k : Int) (s : Sd) : Cn := if k = 0 then { c with s0 := s } else { c with s1 := s }

theorem Mod.drewN {F : Nat → Prop} {a b : World} (h : Mod F a b) (n : Nat) : Mod F a (b.drewN n) := ⟨h.os, h.tape, h.output, h.size, h.block⟩

set_option maxHeartbeats 400000 in
theorem write_ok {B : Nat} {w : World} {L : Lab} {n : Nat} {S : St} (h : NetIs B w L n S) (hB : B ≤ w.heap.size) (hs : S.cs.length ≤ maxLen) (i : Nat) (k : Int) (c : Cn) (hc : S.cs[i]? = some c) (hcut : c.cut = false) (hk : k = 0 ∨ k = 1)
    (hcl : (c.sd k).closed = false) (ao : Option Addr) (cp : Nat) (ps : List UInt8) (hp : RdB w ao cp ps) (hl : (c.sd k).under.length + ps.length ≤ 1048576) :
    Calls Try.prog 10 #[.pointer (some ⟨n, 0, none⟩), .int .i64 i, .int .i64 k, .slice ao ps.length cp] w fun e w' =>
      e = .returned (.int .i64 0) ∧ Left B w L n { S with cs := S.cs.set i (c.setSd k { c.sd k with under := (c.sd k).under ++ ps }) } w' := by
  obtain ⟨cv, mb, bs, h⟩ := h
  obtain ⟨g, cap, b, u0, t0, u1, t1, hcv, hi, hb, h1, h2, h3⟩ := of_cells h hc
  have hof := of_ok h hs i b k c hb hc hcut hk
  obtain ⟨i0, hi5, hz0, hz1, hz2⟩ := info_parts info5
  have e3 := cell_blk h3.blk 3
  have e5 := cell_blk h3.blk 5
  have e7 := cell_blk h3.blk 7
  have e9 := cell_blk h3.blk 9
  rcases hk with rfl | rfl
  · obtain ⟨ao0, c0, hu0⟩ : ∃ ao0 c0, u0 = .slice ao0 c.s0.under.length c0 := by
      rcases row_form h3.rows.u0.own with ⟨q1, q2, _⟩ | ⟨g, cap, q1, _⟩
      · exact ⟨none, 0, by rw [q1, q2]⟩
      · exact ⟨_, _, q1⟩
    simp [Cn.sd] at hcl hl
    simp [hcl] at e5
    simp [hu0] at e3
    have Hof := Lib.hid hof
    have H3 := Lib.hid h3
    have Hh := Lib.hid h
    have Hp := Lib.hid hp
    have Hu := Lib.hid hu0
    have hcp := hp.cap
    have hle := hp.le
    have Hb := Lib.hid hb
    clear hof h3 h hp e7 e9 h1 h2 hcl hcv hu0 hc hb
    go_enter Try.func10, Try.ntmps10
    go_wp2_with fail
    refine Hof.out.mono ?_
    rintro e w1 ⟨rfl, nq, rfl⟩
    simp only [if_true]
    go_wp2_with (at_builtin; refine append_bytes rfl _ _ rfl _ c.s0.under rfl (by rw [← Hu.out]; exact H3.out.rows.u0.own) ao cp ps _ rfl rfl _ rfl (Hp.out.drewN nq) (by omega) ?_)
    intro ao' c' w' hown hgr hnew
    have hb' := hgr.block b (lt_of_heap H3.out.blk) (by
      intro e
      have e1 := H3.out.rows.u0.lab b (by rw [Hu.out]; exact e.symm)
      rw [H3.out.lab] at e1; cases e1)
    have hb1 := hb'.trans H3.out.blk
    have f3 := cell_blk hb1 3
    have f3' := frozen_blk hb1 3
    simp at f3
    have Hw := Lib.hid hown
    have Hg := Lib.hid hgr
    have Hn := Lib.hid hnew
    have Hb1 := Lib.hid hb1
    clear hown hgr hnew hb' hb1
    go_wp2
    go_ret
    refine ⟨rfl, ?_⟩
    have h3 := H3.out
    have hr := h3.rows
    have hnew := Hn.out
    rw [← Hu.out] at hnew
    have hlt : ∀ g, u0.ownBlock = some g → g < w.heap.size := fun g hg => hr.u0.lt hg
    have hL := Lab.row_old L w.heap.size (.slice ao' (c.s0.under.length + ps.length) c') (i, 1)
    have hm : Mod (fun x => L x = some (i, 0) ∨ L x = some (i, 1)) w (w'.setCell ⟨b, 3, none⟩ (.slice ao' (c.s0.under.length + ps.length) c')) :=
      (((Mod.refl _ w).drewN nq).grown Hg.out (fun k hk _ => .inr (hr.u0.lab k (by rw [Hu.out]; exact hk)))).setCell _ _ (fun _ => .inl h3.lab)
    refine ⟨_, Hh.out.setConn Hb.out _ (fun x hx => .inl (hL x hx)) hB (Lab.row_lt hm.size (fun g hg => ?_)) (hm.mono fun x _ hx => ?_) ⟨.slice ao' (c.s0.under.length + ps.length) c', t0, u1, t1, ?_, ?_, ?_⟩⟩
    · have := (Hw.out.lt g hg).2; simpa using this
    · rcases hx with e | e
      · exact ⟨0, by omega, e⟩
      · exact ⟨1, by omega, e⟩
    · have := set_blk Hb1.out 3 (.slice ao' (c.s0.under.length + ps.length) c')
      simpa [Cn.setSd, Cn.sd] using this
    · rw [hL b (lt_of_heap h3.blk)]; exact h3.lab
    · refine ⟨⟨?_, ?_⟩, hr.t0.kept hL hm (by intro x hx hF; rw [hx] at hF; simp at hF), hr.u1.kept hL hm (by intro x hx hF; rw [hx] at hF; simp at hF), hr.t1.kept hL hm (by intro x hx hF; rw [hx] at hF; simp at hF)⟩
      · show World.ownsRow _ 0 _ 1 _ (c.s0.under ++ ps).length (bytes (c.s0.under ++ ps))
        exact ownsRow_frame (by rw [List.length_append]; exact Hw.out) (fun g hg => set_other _ _ (by
          intro e
          simp only at e
          subst e
          rcases hnew g hg with q | q
          · have := hr.u0.lab g q; rw [h3.lab] at this; cases this
          · have := lt_of_heap h3.blk; omega))
      · exact Lab.row_new hnew (hr.u0.lab) hlt
  · obtain ⟨aoA, cA, hUU⟩ : ∃ aoA cA, u1 = .slice aoA c.s1.under.length cA := by
      rcases row_form h3.rows.u1.own with ⟨q1, q2, _⟩ | ⟨g, cap, q1, _⟩
      · exact ⟨none, 0, by rw [q1, q2]⟩
      · exact ⟨_, _, q1⟩
    simp [Cn.sd] at hcl hl
    simp [hcl] at e9
    simp [hUU] at e7
    have Hof := Lib.hid hof
    have H3 := Lib.hid h3
    have Hh := Lib.hid h
    have Hp := Lib.hid hp
    have Hu := Lib.hid hUU
    have hcp := hp.cap
    have hle := hp.le
    have Hb := Lib.hid hb
    clear hof h3 h hp e3 e5 h1 h2 hcl hcv hUU hc hb
    go_enter Try.func10, Try.ntmps10
    go_wp2_with fail
    refine Hof.out.mono ?_
    rintro e w1 ⟨rfl, nq, rfl⟩
    simp only [if_neg (show ¬ (1:Int) = 0 by decide)]
    go_wp2_with (at_builtin; refine append_bytes rfl _ _ rfl _ c.s1.under rfl (by rw [← Hu.out]; exact H3.out.rows.u1.own) ao cp ps _ rfl rfl _ rfl (Hp.out.drewN nq) (by omega) ?_)
    intro ao' c' w' hown hgr hnew
    have hb' := hgr.block b (lt_of_heap H3.out.blk) (by
      intro e
      have e1 := H3.out.rows.u1.lab b (by rw [Hu.out]; exact e.symm)
      rw [H3.out.lab] at e1; cases e1)
    have hb1 := hb'.trans H3.out.blk
    have f3 := cell_blk hb1 7
    have f3' := frozen_blk hb1 7
    simp at f3
    have Hw := Lib.hid hown
    have Hg := Lib.hid hgr
    have Hn := Lib.hid hnew
    have Hb1 := Lib.hid hb1
    clear hown hgr hnew hb' hb1
    go_wp2
    go_ret
    refine ⟨rfl, ?_⟩
    have h3 := H3.out
    have hr := h3.rows
    have hnew := Hn.out
    rw [← Hu.out] at hnew
    have hlt : ∀ g, u1.ownBlock = some g → g < w.heap.size := fun g hg => hr.u1.lt hg
    have hL := Lab.row_old L w.heap.size (.slice ao' (c.s1.under.length + ps.length) c') (i, 3)
    have hm : Mod (fun x => L x = some (i, 0) ∨ L x = some (i, 3)) w (w'.setCell ⟨b, 7, none⟩ (.slice ao' (c.s1.under.length + ps.length) c')) :=
      (((Mod.refl _ w).drewN nq).grown Hg.out (fun k hk _ => .inr (hr.u1.lab k (by rw [Hu.out]; exact hk)))).setCell _ _ (fun _ => .inl h3.lab)
    refine ⟨_, Hh.out.setConn Hb.out _ (fun x hx => .inl (hL x hx)) hB (Lab.row_lt hm.size (fun g hg => ?_)) (hm.mono fun x _ hx => ?_) ⟨u0, t0, .slice ao' (c.s1.under.length + ps.length) c', t1, ?_, ?_, ?_⟩⟩
    · have := (Hw.out.lt g hg).2; simpa using this
    · rcases hx with e | e
      · exact ⟨0, by omega, e⟩
      · exact ⟨3, by omega, e⟩
    · have := set_blk Hb1.out 7 (.slice ao' (c.s1.under.length + ps.length) c')
      simpa [Cn.setSd, Cn.sd] using this
    · rw [hL b (lt_of_heap h3.blk)]; exact h3.lab
    · refine ⟨hr.u0.kept hL hm (by intro x hx hF; rw [hx] at hF; simp at hF), hr.t0.kept hL hm (by intro x hx hF; rw [hx] at hF; simp at hF), ⟨?_, ?_⟩, hr.t1.kept hL hm (by intro x hx hF; rw [hx] at hF; simp at hF)⟩
      · show World.ownsRow _ 0 _ 1 _ (c.s1.under ++ ps).length (bytes (c.s1.under ++ ps))
        exact ownsRow_frame (by rw [List.length_append]; exact Hw.out) (fun g hg => set_other _ _ (by
          intro e
          simp only at e
          subst e
          rcases hnew g hg with q | q
          · have := hr.u1.lab g q; rw [h3.lab] at this; cases this
          · have := lt_of_heap h3.blk; omega))
      · exact Lab.row_new hnew (hr.u1.lab) hlt

end Go.Proofs.Ytibijonjjkknoaa
