/-
The function 'of' of package net: which connection and which sides.
-/
import Derived.Test.YtibijonjjkknoaaNetRep
set_option linter.unusedVariables false
set_option linter.unusedSimpArgs false
namespace Go.Proofs.Ytibijonjjkknoaa
open Go Go.RowKit

theorem row_form {w : World} {e n : Nat} {v : Value} {xs : List Value} (h : w.ownsRow 0 e 1 v n xs) :
    (v = .slice none 0 0 ∧ n = 0 ∧ xs = []) ∨ ∃ g cap, v = .slice (some ⟨g, 0, none⟩) n cap ∧ n ≤ cap ∧ cap ≤ maxLen := by
  rcases h.2 with ⟨hv, hn⟩ | ⟨g, cap, cur, hv, _, _, hc, hm, _⟩
  · subst hn; exact .inl ⟨hv, rfl, List.eq_nil_of_length_eq_zero (by simpa using h.1)⟩
  · exact .inr ⟨g, cap, hv, hc, hm⟩

theorem row_cell {w : World} {e n g cap : Nat} {xs : List Value} (h : w.ownsRow 0 e 1 (.slice (some ⟨g, 0, none⟩) n cap) n xs) {j : Nat} {u : Value} (hu : xs[j]? = some u) :
    w.cell? ⟨g, j, none⟩ = some u := by
  have hl : xs.length = n := by simpa using h.1
  have hj : j < n := by rw [← hl]; exact (List.getElem?_eq_some_iff.1 hu).1
  rw [h.cellAt j (by simpa using hj), hu]

set_option maxHeartbeats 400000 in
theorem of_nil (i k : Int) (w : World) :
    Calls Try.prog 20 #[.pointer none, .int .i64 i, .int .i64 k] w fun e w' =>
      e = .returned (.tuple #[.pointer none, .pointer none, .pointer none, .int .i64 1]) ∧ w = w' := by
  go_enter Try.func20, Try.ntmps20
  go_wp2
  refine wp_scope_fwd 0 rfl ?_
  intro J hJ
  go_wp2
  go_step3
  refine jump_goto (hJ _ _ ?_)
  go_wp2
  try rw [Exit.noGoto_ret]
  refine bodyPost_ret (results_tmp4 rfl _ _ _) rfl ?_
  exact ⟨rfl, rfl⟩

/-- No such connection or side. -/
theorem of_arg {B : Nat} {w : World} {L : Lab} {n : Nat} {S : St} (h : NetIs B w L n S) (i k : Int) (hi : i < 0 ∨ (S.cs.length : Int) ≤ i ∨ k < 0 ∨ 1 < k) :
    Calls Try.prog 20 #[.pointer (some ⟨n, 0, none⟩), .int .i64 i, .int .i64 k] w fun e w' =>
      e = .returned (.tuple #[.pointer none, .pointer none, .pointer none, .int .i64 2]) ∧ w = w' := by
  obtain ⟨cv, mb, bs, h⟩ := h
  have hn := cell_blk h.blk 0
  have hl := h.len
  generalize hL : (S.cs.length : Int) = l at *
  have hbl : (bs.length : Int) = l := by omega
  obtain ⟨ao, cap, hcv⟩ : ∃ ao cap, cv = .slice ao bs.length cap := by
    rcases row_form h.row with ⟨h1, h2, _⟩ | ⟨g, cap, h1, _⟩
    · exact ⟨none, 0, by rw [h1, h2]⟩
    · exact ⟨_, _, h1⟩
  subst hcv
  simp at hn
  have Hb := Lib.hid hbl
  clear hbl hL hl h
  by_cases h1 : i < 0
  all_goals by_cases h2 : (bs.length : Int) ≤ i
  all_goals by_cases h3 : k < 0
  all_goals by_cases h4 : 1 < k
  all_goals try (exfalso; have := Hb.out; omega)
  all_goals
    clear hi
    go_enter Try.func20, Try.ntmps20
    go_wp2
    refine wp_scope_fwd 0 rfl ?_
    intro J hJ
    go_wp2
    go_step3
    refine jump_goto (hJ _ _ ?_)
    go_wp2
    try rw [Exit.noGoto_ret]
    refine bodyPost_ret (results_tmp4 rfl _ _ _) rfl ?_
    exact ⟨rfl, rfl⟩

/-- The cells that 'of' reads, where there is such a connection. -/
theorem of_cells {B : Nat} {w : World} {L : Lab} {n : Nat} {S : St} {cv : Value} {mb : Nat} {bs : List Nat} (h : NetAt B w L n S cv mb bs) {i : Nat} {c : Cn} (hc : S.cs[i]? = some c) :
    ∃ g cap b u0 t0 u1 t1, cv = .slice (some ⟨g, 0, none⟩) bs.length cap ∧ i < bs.length ∧ bs[i]? = some b ∧ w.cell? ⟨n, 0, none⟩ = some cv ∧ w.cell? ⟨g, i, none⟩ = some (.pointer (some ⟨b, 0, none⟩)) ∧
      ConnAt w L i b c u0 t0 u1 t1 := by
  have hn := cell_blk h.blk 0
  have hi : i < bs.length := by rw [h.len]; exact (List.getElem?_eq_some_iff.1 hc).1
  have hb : bs[i]? = some bs[i] := List.getElem?_eq_getElem hi
  obtain ⟨u0, t0, u1, t1, hcn⟩ := h.conns i _ c hb hc
  rcases row_form h.row with ⟨_, h2, _⟩ | ⟨g, cap, h1, _⟩
  · omega
  · subst h1
    exact ⟨g, cap, bs[i], u0, t0, u1, t1, rfl, hi, hb, by simpa using hn, row_cell h.row (by simp [ptrs, hb]), hcn⟩

set_option maxHeartbeats 400000 in
/-- The connection is cut. -/
theorem of_cut {B : Nat} {w : World} {L : Lab} {n : Nat} {S : St} (h : NetIs B w L n S) (hs : S.cs.length ≤ maxLen) (i : Nat) (k : Int) (c : Cn) (hc : S.cs[i]? = some c) (hcut : c.cut = true) (hk : k = 0 ∨ k = 1) :
    Calls Try.prog 20 #[.pointer (some ⟨n, 0, none⟩), .int .i64 i, .int .i64 k] w fun e w' =>
      e = .returned (.tuple #[.pointer none, .pointer none, .pointer none, .int .i64 40]) ∧ w = w' := by
  obtain ⟨cv, mb, bs, h⟩ := h
  obtain ⟨g, cap, b, u0, t0, u1, t1, hcv, hi, _, h1, h2, h3⟩ := of_cells h hc
  have h4 := cell_blk h3.blk 2
  simp [hcut] at h4
  rw [← h.len] at hs
  subst hcv
  unfold maxLen at hs
  clear h h3 hc
  rcases hk with rfl | rfl
  all_goals
    go_enter Try.func20, Try.ntmps20
    go_wp2
    refine wp_scope_fwd 0 rfl ?_
    intro J hJ
    go_wp2
    go_step3
    refine jump_goto (hJ _ _ ?_)
    go_wp2
    try rw [Exit.noGoto_ret]
    refine bodyPost_ret (results_tmp4 rfl _ _ _) rfl ?_
    exact ⟨rfl, rfl⟩

set_option maxHeartbeats 400000 in
/-- The connection and its sides. -/
theorem of_ok {B : Nat} {w : World} {L : Lab} {n : Nat} {S : St} {cv : Value} {mb : Nat} {bs : List Nat} (h : NetAt B w L n S cv mb bs) (hs : S.cs.length ≤ maxLen) (i b : Nat) (k : Int) (c : Cn) (hb : bs[i]? = some b) (hc : S.cs[i]? = some c) (hcut : c.cut = false) (hk : k = 0 ∨ k = 1) :
    Calls Try.prog 20 #[.pointer (some ⟨n, 0, none⟩), .int .i64 i, .int .i64 k] w fun e w' =>
      e = .returned (.tuple #[.pointer (some ⟨b, 0, none⟩), .pointer (some ⟨b, if k = 0 then 3 else 7, none⟩), .pointer (some ⟨b, if k = 0 then 7 else 3, none⟩), .int .i64 0]) ∧ ∃ nq, w.drewN nq = w' := by
  obtain ⟨g, cap, b', u0, t0, u1, t1, hcv, hi, hb', h1, h2, h3⟩ := of_cells h hc
  obtain rfl : b' = b := by rw [hb] at hb'; exact (Option.some.inj hb').symm
  have h4 := cell_blk h3.blk 2
  simp [hcut] at h4
  rw [← h.len] at hs
  subst hcv
  unfold maxLen at hs
  clear h h3 hc hb hb'
  rcases hk with rfl | rfl
  all_goals
    go_enter Try.func20, Try.ntmps20
    go_wp2
    refine wp_scope_fwd 0 rfl ?_
    intro J hJ
    go_wp2
    go_quiet (fail)
    go_wp2
    simp only [Exit.jump]
    refine bodyPost_ret (results_tmp4 rfl _ _ _) rfl ?_
    exact ⟨rfl, nq, rfl⟩

end Go.Proofs.Ytibijonjjkknoaa
