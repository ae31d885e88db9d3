/-
The function Pass of package net.
-/
import Derived.Test.YtibijonjjkknoaaNetPass
set_option linter.unusedVariables false
set_option linter.unusedSimpArgs false
namespace Go.Proofs.Ytibijonjjkknoaa
open Go Go.RowKit


set_option maxHeartbeats 1000000 in
theorem pass_0n {B : Nat} {w : World} {L : Lab} {n : Nat} {S : St} {cv : Value} {mb : Nat} {bs : List Nat} (h : NetAt B w L n S cv mb bs) (hB : B ≤ w.heap.size) (hs : S.cs.length ≤ maxLen) (i : Nat) (c : Cn) {b : Nat} {u0 t0 u1 t1 : Value} (hb : bs[i]? = some b) (h3 : ConnAt w L i b c u0 t0 u1 t1) (hc : S.cs[i]? = some c) (hcut : c.cut = false)
    (cl en : Bool) (hcl : c.s0.closed = cl) (most : Int) (hm0 : 0 ≤ most)  (hen : true = en)
    (hl : c.s1.there.length + c.s0.under.length ≤ 140737488355328) (hq1 : u0 = .slice none 0 0) (hnil : c.s0.under = []) :
    Calls Try.prog 11 #[.pointer (some ⟨n, 0, none⟩), .int .i64 i, .int .i64 0, .int .i64 most] w fun e w' =>
      e = .returned (.tuple #[.int .i64 0, .int .i64 0]) ∧ Left B w L n { S with cs := S.cs.set i (c.passed 0 0) } w' := by
  have hof := of_ok h hs i b 0 c hb hc hcut (by decide)
  have Hof := Lib.hid hof
  have H3 := Lib.hid h3
  have Hh := Lib.hid h
  have Hb := Lib.hid hb
  have hmin : (if (0 : Int) < most then (0 : Int) else most) = 0 := by split <;> omega
  have Hmin := Lib.hid hmin
  clear hmin
  clear hof hc hb h
  have eu := cell_blk h3.blk 3
  have ec := cell_blk h3.blk 5
  have et := cell_blk h3.blk 8
  have ft := frozen_blk h3.blk 8
  obtain ⟨ao1, c1, hf1⟩ : ∃ ao0 c0, t1 = .slice ao0 c.s1.there.length c0 := by
    rcases row_form h3.rows.t1.own with ⟨q1, q2, _⟩ | ⟨g, cap, q1, _⟩
    · exact ⟨none, 0, by rw [q1, q2]⟩
    · exact ⟨_, _, q1⟩
  have Hf1 := Lib.hid hf1
  have Hq1 := Lib.hid hq1
  simp [hf1, hq1] at eu et
  simp [hcl] at ec
  have hr1 : RdB w none 0 ([] : List UInt8) := ⟨fun _ => ⟨rfl, rfl⟩, (fun ad h => by cases h), Nat.le_refl _, Nat.zero_le _⟩
  have Hr1 := Lib.hid hr1
  have hown1 : ∀ nd, (w.drewN nd).ownsRow 0 5 1 (.slice ao1 c.s1.there.length c1) c.s1.there.length (bytes c.s1.there) := fun nd => by rw [← hf1]; exact h3.rows.t1.own
  have Hown1 := Lib.hid hown1
  have hlen1 : c.s1.there.length + ([] : List UInt8).length ≤ 140737488355328 := by simp; omega
  have Hlen1 := Lib.hid hlen1
  have hqq : c.s1.there.length = c.s1.there.length + ([] : List UInt8).length := by simp
  have Hqq := Lib.hid hqq
  have hdrop : ∀ (w2 : World) (ao' : Option Addr), ao' = (if (0 : Nat) = 0 then none else (none : Option Addr).map (·.add (0 * 1))) → RdB w2 ao' (0 - 0) ([] : List UInt8) := by
    intro w2 ao' he
    simp at he
    subst he
    exact ⟨fun _ => ⟨rfl, rfl⟩, (fun ad h => by cases h), Nat.le_refl _, Nat.zero_le _⟩
  have Hdrop := Lib.hid hdrop
  have Hnil := Lib.hid hnil
  have Hcl := Lib.hid hcl
  have Hen := Lib.hid hen
  obtain ⟨i0, hi5, hz0, hz1, hz2⟩ := info_parts info5
  clear h3 hf1 hq1 hr1 hcl hnil hz0 hz2 hown1 hlen1 hqq hdrop
  have hfin : ∀ (ao1' ao2' : Option Addr) (c1' c2' : Nat) (w2 w3 : World) (nd : Nat),
      w2.ownsRow 0 5 1 (.slice ao1' c.s1.there.length c1') (c.s1.there ++ ([] : List UInt8)).length (bytes (c.s1.there ++ ([] : List UInt8))) →
      (w.drewN nd).grownBy w2 t1.ownBlock → (∀ g, (Value.slice ao1' c.s1.there.length c1').ownBlock = some g → t1.ownBlock = some g ∨ w.heap.size ≤ g) →
      w3.ownsRow 0 5 1 (.slice ao2' 0 c2') ([] : List UInt8).length (bytes ([] : List UInt8)) →
      (w2.setCell ⟨b, 8, none⟩ (.slice ao1' c.s1.there.length c1')).grownBy w3 none → (∀ g, (Value.slice ao2' 0 c2').ownBlock = some g → w2.heap.size ≤ g) →
      Left B w L n { S with cs := S.cs.set i (c.passed 0 0) } (if cl = true ∧ en = true then (w3.setCell ⟨b, 3, none⟩ (.slice ao2' 0 c2')).setCell ⟨b, 10, none⟩ (.bool true) else w3.setCell ⟨b, 3, none⟩ (.slice ao2' 0 c2')) := by
    intro ao1' ao2' c1' c2' w2 w3 nd own2 gr2 new2 own3 gr3 new3
    have h3 := H3.out
    have hr := h3.rows
    have hlb := lt_of_heap h3.blk
    have blk2 := (h3.blk_grown gr2 rfl 4 (Nat.succ_ne_zero _) hr.t1.lab).trans h3.blk
    have s2 := set_blk blk2 8 (.slice ao1' c.s1.there.length c1')
    have blk3 := (gr3.block b (by simpa using lt_of_heap blk2) (by simp)).trans s2
    have s3 := set_blk blk3 3 (.slice ao2' 0 c2')
    have s4 := set_blk s3 10 (.bool true)
    have z2 : w.heap.size ≤ w2.heap.size := gr2.size
    have z3 : w2.heap.size ≤ w3.heap.size := by have := gr3.size; simpa using this
    have hlt1 : ∀ g, t1.ownBlock = some g → g < w.heap.size := fun g hg => hr.t1.lt hg
    have hL1 := Lab.row_old L w.heap.size (.slice ao1' c.s1.there.length c1') (i, 4)
    have hL2 := Lab.row_old (L.row w.heap.size (.slice ao1' c.s1.there.length c1') (i, 4)) w2.heap.size (.slice ao2' 0 c2') (i, 1)
    have hL : ∀ x, x < w.heap.size → ((L.row w.heap.size (.slice ao1' c.s1.there.length c1') (i, 4)).row w2.heap.size (.slice ao2' 0 c2') (i, 1)) x = L x :=
      fun x hx => (hL2 x (by omega)).trans (hL1 x hx)
    have hv1 : ∀ g, (Value.slice ao1' c.s1.there.length c1').ownBlock = some g → g < w2.heap.size := fun g hg => (own2.lt g hg).2
    have hv2 : ∀ g, (Value.slice ao2' 0 c2').ownBlock = some g → g < w3.heap.size := fun g hg => (own3.lt g hg).2
    have hne1 : ∀ g, (Value.slice ao1' c.s1.there.length c1').ownBlock = some g → g ≠ b := by
      intro g hg e
      subst e
      rcases new2 g hg with q | q
      · have := hr.t1.lab g q; rw [h3.lab] at this; cases this
      · omega
    have hne2 : ∀ g, (Value.slice ao2' 0 c2').ownBlock = some g → g ≠ b := fun g hg e => by have := new3 g hg; omega
    have hmA : Mod (fun x => L x = some (i, 0) ∨ L x = some (i, 4)) w (w3.setCell ⟨b, 3, none⟩ (.slice ao2' 0 c2')) :=
      ((((((Mod.refl _ w).drewN nd).grown gr2 (fun k hk _ => .inr (hr.t1.lab k hk))).setCell ⟨b, 8, none⟩ _ (fun _ => .inl h3.lab)).grown gr3 (fun k hk => by cases hk)).setCell _ _ (fun _ => .inl h3.lab))
    have key : ∀ (W : World), W.heap.size = w3.heap.size → (∀ x, x ≠ b → W.heap[x]? = w3.heap[x]?) → Mod (fun x => L x = some (i, 0) ∨ L x = some (i, 4)) w W →
        W.heap[b]? = some (.cells #[.string (c.passed 0 0).name, .bool (c.passed 0 0).waiting, .bool (c.passed 0 0).cut, .slice ao2' 0 c2', t0, .bool (c.passed 0 0).s0.closed, .bool (c.passed 0 0).s0.ended, u1, .slice ao1' c.s1.there.length c1', .bool (c.passed 0 0).s1.closed, .bool (c.passed 0 0).s1.ended] 61 (0, 0)) →
        Left B w L n { S with cs := S.cs.set i (c.passed 0 0) } W := by
      intro W hz hx hm hblk
      refine ⟨_, Hh.out.setConn Hb.out _ (fun x hx => .inl (hL x hx)) hB ?_ (hm.mono fun x _ hx => ?_) ⟨.slice ao2' 0 c2', t0, u1, .slice ao1' c.s1.there.length c1', hblk, ?_, ?_⟩⟩
      · intro x t hx
        rw [hz]
        rcases Nat.lt_or_ge x w2.heap.size with q | q
        · omega
        · unfold Lab.row at hx
          rw [if_neg (by omega)] at hx
          split at hx
          · rename_i e; exact hv2 x e
          · cases hx
      · rcases hx with e | e
        · exact ⟨0, by omega, e⟩
        · exact ⟨4, by omega, e⟩
      · rw [hL b hlb]; exact h3.lab
      · have ru : RowAt W ((L.row w.heap.size (.slice ao1' c.s1.there.length c1') (i, 4)).row w2.heap.size (.slice ao2' 0 c2') (i, 1)) (i, 1) (.slice ao2' 0 c2') ([] : List UInt8) := by
          refine ⟨ownsRow_frame own3 (fun g hg => hx g (hne2 g hg)), fun g hg => ?_⟩
          unfold Lab.row
          rw [if_neg (by have := new3 g hg; omega), if_pos hg]
        have rt : RowAt W ((L.row w.heap.size (.slice ao1' c.s1.there.length c1') (i, 4)).row w2.heap.size (.slice ao2' 0 c2') (i, 1)) (i, 4) (.slice ao1' c.s1.there.length c1') (c.s1.there ++ ([] : List UInt8)) := by
          refine ⟨ownsRow_frame own2 (fun g hg => ?_), fun g hg => ?_⟩
          · rw [hx g (hne1 g hg), gr3.block g (by simpa using hv1 g hg) (by simp), set_other _ _ (hne1 g hg)]
          · rw [hL2 g (hv1 g hg)]
            exact Lab.row_new new2 hr.t1.lab hlt1 g hg
        exact ⟨(by simpa [Cn.passed, Hnil.out] using ru), hr.t0.kept hL hm (by intro x hx hF; rw [hx] at hF; simp at hF), hr.u1.kept hL hm (by intro x hx hF; rw [hx] at hF; simp at hF), (by simpa [Cn.passed, Hnil.out] using rt)⟩
    split
    · exact key _ (by simp) (fun x hx => by rw [set_other _ _ hx, set_other _ _ hx]) (hmA.setCell _ _ (fun _ => .inl h3.lab)) (by rename_i hce; have e1 := Hcl.out; have e2 := Hen.out; simpa [Cn.passed, hce.1, e1, Hnil.out] using s4)
    · exact key _ (by simp) (fun x hx => set_other _ _ hx) hmA (by
        rename_i hce
        have e1 := Hcl.out
        have e2 := Hen.out
        have e3 : (c.s0.closed && true) = false := by
          rw [e1]; cases cl <;> simp [← e2] at hce ⊢
        simp at e3; simpa [Cn.passed, e3, Hnil.out] using s3)
  have Hfin := Lib.hid hfin
  clear hfin
  subst hen
  have hcases : cl = false ∨ (cl = true ∧ 0 ≤ 0) := by cases cl <;> simp
  rcases hcases with rfl | ⟨rfl, hdec⟩
  · go_enter Try.func11, Try.ntmps11
    go_wp2_with fail
    refine Hof.out.mono ?_
    rintro e w1 ⟨rfl, n1, rfl⟩
    simp only [if_true]
    go_wp2_with (with_reducible refine wpList_min rfl _ _ _ rfl .i64 .i64 most _ 0 rfl rfl Hmin.out ?_)
    go_region_law (refine step_bytes rfl _ _ rfl (.slice ao1 c.s1.there.length c1) c.s1.there rfl (Hown1.out _) none 0 ([] : List UInt8) _ rfl rfl c.s1.there.length Hqq.out (Hr1.out.drewN _) Hlen1.out ?_; intro ao' c' w2 own2 gr2 new2; rw [← Hf1.out] at gr2 new2; have blk2 := (H3.out.blk_grown gr2 rfl 4 (Nat.succ_ne_zero _) H3.out.rows.t1.lab).trans H3.out.blk; have et2 := cell_blk blk2 8; have ft2 := frozen_blk blk2 8; simp at et2; have eu2 := cell_blk blk2 3; simp [Hq1.out] at eu2; have Own2 := Lib.hid own2; have Gr2 := Lib.hid gr2; have New2 := Lib.hid new2; have Blk2 := Lib.hid blk2; clear own2 gr2 new2 blk2)
    all_goals
      go_wp2_with (first | (with_reducible refine wpList_slice_lo rfl _ _ 22 5 rfl Try.underlying22 i0 hi5 1 hz1 none 0 0 rfl .i64 0 rfl (Nat.le_refl _) ?_; intro ao2 hao2; have Hao2 := Lib.hid hao2; clear hao2) | (at_builtin; go_loud (refine append_bytes rfl _ _ rfl (.slice none 0 0) [] rfl (World.ownsRow_nil _ _ _ _) ao2 (0 - 0) ([] : List UInt8) _ rfl rfl 0 rfl (Hdrop.out _ _ Hao2.out) (by decide) ?_); intro ao3 c3 w3 own3 gr3 new3; have blk3 := (gr3.block b (by simpa using lt_of_heap Blk2.out) (by simp [Value.ownBlock])).trans (set_blk Blk2.out 8 (.slice ao' c.s1.there.length c')); have eu3 := cell_blk blk3 3; have fu3 := frozen_blk blk3 3; have ec3 := cell_blk blk3 5; have ee3 := cell_blk blk3 10; have fe3 := frozen_blk blk3 10; simp [Hcl.out] at eu3 ec3 ee3; have Own3 := Lib.hid own3; have Gr3 := Lib.hid gr3; have New3 := Lib.hid new3; clear own3 gr3 new3 blk3))
      go_ret2
      refine ⟨rfl, ?_⟩
      have hfin := Hfin.out ao' ao3 c' c3 w2 w3 _ Own2.out Gr2.out New2.out Own3.out Gr3.out (fun g hg => (New3.out g hg).elim (fun q => by cases q) (fun q => by simpa using q))
      rw [if_neg (fun q => by cases q.1)] at hfin
      exact hfin
  · go_enter Try.func11, Try.ntmps11
    go_wp2_with fail
    refine Hof.out.mono ?_
    rintro e w1 ⟨rfl, n1, rfl⟩
    simp only [if_true]
    go_wp2_with (with_reducible refine wpList_min rfl _ _ _ rfl .i64 .i64 most _ 0 rfl rfl Hmin.out ?_)
    go_region_law (refine step_bytes rfl _ _ rfl (.slice ao1 c.s1.there.length c1) c.s1.there rfl (Hown1.out _) none 0 ([] : List UInt8) _ rfl rfl c.s1.there.length Hqq.out (Hr1.out.drewN _) Hlen1.out ?_; intro ao' c' w2 own2 gr2 new2; rw [← Hf1.out] at gr2 new2; have blk2 := (H3.out.blk_grown gr2 rfl 4 (Nat.succ_ne_zero _) H3.out.rows.t1.lab).trans H3.out.blk; have et2 := cell_blk blk2 8; have ft2 := frozen_blk blk2 8; simp at et2; have eu2 := cell_blk blk2 3; simp [Hq1.out] at eu2; have Own2 := Lib.hid own2; have Gr2 := Lib.hid gr2; have New2 := Lib.hid new2; have Blk2 := Lib.hid blk2; clear own2 gr2 new2 blk2)
    all_goals
      go_wp2_with (first | (with_reducible refine wpList_slice_lo rfl _ _ 22 5 rfl Try.underlying22 i0 hi5 1 hz1 none 0 0 rfl .i64 0 rfl (Nat.le_refl _) ?_; intro ao2 hao2; have Hao2 := Lib.hid hao2; clear hao2) | (at_builtin; go_loud (refine append_bytes rfl _ _ rfl (.slice none 0 0) [] rfl (World.ownsRow_nil _ _ _ _) ao2 (0 - 0) ([] : List UInt8) _ rfl rfl 0 rfl (Hdrop.out _ _ Hao2.out) (by decide) ?_); intro ao3 c3 w3 own3 gr3 new3; have blk3 := (gr3.block b (by simpa using lt_of_heap Blk2.out) (by simp [Value.ownBlock])).trans (set_blk Blk2.out 8 (.slice ao' c.s1.there.length c')); have eu3 := cell_blk blk3 3; have fu3 := frozen_blk blk3 3; have ec3 := cell_blk blk3 5; have ee3 := cell_blk blk3 10; have fe3 := frozen_blk blk3 10; simp [Hcl.out] at eu3 ec3 ee3; have Own3 := Lib.hid own3; have Gr3 := Lib.hid gr3; have New3 := Lib.hid new3; clear own3 gr3 new3 blk3))
      go_ret2
      refine ⟨rfl, ?_⟩
      have hfin := Hfin.out ao' ao3 c' c3 w2 w3 _ Own2.out Gr2.out New2.out Own3.out Gr3.out (fun g hg => (New3.out g hg).elim (fun q => by cases q) (fun q => by simpa using q))
      rw [if_pos (by simp)] at hfin
      exact hfin

set_option maxHeartbeats 1000000 in
theorem pass_1n {B : Nat} {w : World} {L : Lab} {n : Nat} {S : St} {cv : Value} {mb : Nat} {bs : List Nat} (h : NetAt B w L n S cv mb bs) (hB : B ≤ w.heap.size) (hs : S.cs.length ≤ maxLen) (i : Nat) (c : Cn) {b : Nat} {u0 t0 u1 t1 : Value} (hb : bs[i]? = some b) (h3 : ConnAt w L i b c u0 t0 u1 t1) (hc : S.cs[i]? = some c) (hcut : c.cut = false)
    (cl en : Bool) (hcl : c.s1.closed = cl) (most : Int) (hm0 : 0 ≤ most)  (hen : true = en)
    (hl : c.s0.there.length + c.s1.under.length ≤ 140737488355328) (hq1 : u1 = .slice none 0 0) (hnil : c.s1.under = []) :
    Calls Try.prog 11 #[.pointer (some ⟨n, 0, none⟩), .int .i64 i, .int .i64 1, .int .i64 most] w fun e w' =>
      e = .returned (.tuple #[.int .i64 0, .int .i64 0]) ∧ Left B w L n { S with cs := S.cs.set i (c.passed 1 0) } w' := by
  have hof := of_ok h hs i b 1 c hb hc hcut (by decide)
  have Hof := Lib.hid hof
  have H3 := Lib.hid h3
  have Hh := Lib.hid h
  have Hb := Lib.hid hb
  have hmin : (if (0 : Int) < most then (0 : Int) else most) = 0 := by split <;> omega
  have Hmin := Lib.hid hmin
  clear hmin
  clear hof hc hb h
  have eu := cell_blk h3.blk 7
  have ec := cell_blk h3.blk 9
  have et := cell_blk h3.blk 4
  have ft := frozen_blk h3.blk 4
  obtain ⟨ao1, c1, hf1⟩ : ∃ ao0 c0, t0 = .slice ao0 c.s0.there.length c0 := by
    rcases row_form h3.rows.t0.own with ⟨q1, q2, _⟩ | ⟨g, cap, q1, _⟩
    · exact ⟨none, 0, by rw [q1, q2]⟩
    · exact ⟨_, _, q1⟩
  have Hf1 := Lib.hid hf1
  have Hq1 := Lib.hid hq1
  simp [hf1, hq1] at eu et
  simp [hcl] at ec
  have hr1 : RdB w none 0 ([] : List UInt8) := ⟨fun _ => ⟨rfl, rfl⟩, (fun ad h => by cases h), Nat.le_refl _, Nat.zero_le _⟩
  have Hr1 := Lib.hid hr1
  have hown1 : ∀ nd, (w.drewN nd).ownsRow 0 5 1 (.slice ao1 c.s0.there.length c1) c.s0.there.length (bytes c.s0.there) := fun nd => by rw [← hf1]; exact h3.rows.t0.own
  have Hown1 := Lib.hid hown1
  have hlen1 : c.s0.there.length + ([] : List UInt8).length ≤ 140737488355328 := by simp; omega
  have Hlen1 := Lib.hid hlen1
  have hqq : c.s0.there.length = c.s0.there.length + ([] : List UInt8).length := by simp
  have Hqq := Lib.hid hqq
  have hdrop : ∀ (w2 : World) (ao' : Option Addr), ao' = (if (0 : Nat) = 0 then none else (none : Option Addr).map (·.add (0 * 1))) → RdB w2 ao' (0 - 0) ([] : List UInt8) := by
    intro w2 ao' he
    simp at he
    subst he
    exact ⟨fun _ => ⟨rfl, rfl⟩, (fun ad h => by cases h), Nat.le_refl _, Nat.zero_le _⟩
  have Hdrop := Lib.hid hdrop
  have Hnil := Lib.hid hnil
  have Hcl := Lib.hid hcl
  have Hen := Lib.hid hen
  obtain ⟨i0, hi5, hz0, hz1, hz2⟩ := info_parts info5
  clear h3 hf1 hq1 hr1 hcl hnil hz0 hz2 hown1 hlen1 hqq hdrop
  have hfin : ∀ (ao1' ao2' : Option Addr) (c1' c2' : Nat) (w2 w3 : World) (nd : Nat),
      w2.ownsRow 0 5 1 (.slice ao1' c.s0.there.length c1') (c.s0.there ++ ([] : List UInt8)).length (bytes (c.s0.there ++ ([] : List UInt8))) →
      (w.drewN nd).grownBy w2 t0.ownBlock → (∀ g, (Value.slice ao1' c.s0.there.length c1').ownBlock = some g → t0.ownBlock = some g ∨ w.heap.size ≤ g) →
      w3.ownsRow 0 5 1 (.slice ao2' 0 c2') ([] : List UInt8).length (bytes ([] : List UInt8)) →
      (w2.setCell ⟨b, 4, none⟩ (.slice ao1' c.s0.there.length c1')).grownBy w3 none → (∀ g, (Value.slice ao2' 0 c2').ownBlock = some g → w2.heap.size ≤ g) →
      Left B w L n { S with cs := S.cs.set i (c.passed 1 0) } (if cl = true ∧ en = true then (w3.setCell ⟨b, 7, none⟩ (.slice ao2' 0 c2')).setCell ⟨b, 6, none⟩ (.bool true) else w3.setCell ⟨b, 7, none⟩ (.slice ao2' 0 c2')) := by
    intro ao1' ao2' c1' c2' w2 w3 nd own2 gr2 new2 own3 gr3 new3
    have h3 := H3.out
    have hr := h3.rows
    have hlb := lt_of_heap h3.blk
    have blk2 := (h3.blk_grown gr2 rfl 2 (Nat.succ_ne_zero _) hr.t0.lab).trans h3.blk
    have s2 := set_blk blk2 4 (.slice ao1' c.s0.there.length c1')
    have blk3 := (gr3.block b (by simpa using lt_of_heap blk2) (by simp)).trans s2
    have s3 := set_blk blk3 7 (.slice ao2' 0 c2')
    have s4 := set_blk s3 6 (.bool true)
    have z2 : w.heap.size ≤ w2.heap.size := gr2.size
    have z3 : w2.heap.size ≤ w3.heap.size := by have := gr3.size; simpa using this
    have hlt1 : ∀ g, t0.ownBlock = some g → g < w.heap.size := fun g hg => hr.t0.lt hg
    have hL1 := Lab.row_old L w.heap.size (.slice ao1' c.s0.there.length c1') (i, 2)
    have hL2 := Lab.row_old (L.row w.heap.size (.slice ao1' c.s0.there.length c1') (i, 2)) w2.heap.size (.slice ao2' 0 c2') (i, 3)
    have hL : ∀ x, x < w.heap.size → ((L.row w.heap.size (.slice ao1' c.s0.there.length c1') (i, 2)).row w2.heap.size (.slice ao2' 0 c2') (i, 3)) x = L x :=
      fun x hx => (hL2 x (by omega)).trans (hL1 x hx)
    have hv1 : ∀ g, (Value.slice ao1' c.s0.there.length c1').ownBlock = some g → g < w2.heap.size := fun g hg => (own2.lt g hg).2
    have hv2 : ∀ g, (Value.slice ao2' 0 c2').ownBlock = some g → g < w3.heap.size := fun g hg => (own3.lt g hg).2
    have hne1 : ∀ g, (Value.slice ao1' c.s0.there.length c1').ownBlock = some g → g ≠ b := by
      intro g hg e
      subst e
      rcases new2 g hg with q | q
      · have := hr.t0.lab g q; rw [h3.lab] at this; cases this
      · omega
    have hne2 : ∀ g, (Value.slice ao2' 0 c2').ownBlock = some g → g ≠ b := fun g hg e => by have := new3 g hg; omega
    have hmA : Mod (fun x => L x = some (i, 0) ∨ L x = some (i, 2)) w (w3.setCell ⟨b, 7, none⟩ (.slice ao2' 0 c2')) :=
      ((((((Mod.refl _ w).drewN nd).grown gr2 (fun k hk _ => .inr (hr.t0.lab k hk))).setCell ⟨b, 4, none⟩ _ (fun _ => .inl h3.lab)).grown gr3 (fun k hk => by cases hk)).setCell _ _ (fun _ => .inl h3.lab))
    have key : ∀ (W : World), W.heap.size = w3.heap.size → (∀ x, x ≠ b → W.heap[x]? = w3.heap[x]?) → Mod (fun x => L x = some (i, 0) ∨ L x = some (i, 2)) w W →
        W.heap[b]? = some (.cells #[.string (c.passed 1 0).name, .bool (c.passed 1 0).waiting, .bool (c.passed 1 0).cut, u0, .slice ao1' c.s0.there.length c1', .bool (c.passed 1 0).s0.closed, .bool (c.passed 1 0).s0.ended, .slice ao2' 0 c2', t1, .bool (c.passed 1 0).s1.closed, .bool (c.passed 1 0).s1.ended] 61 (0, 0)) →
        Left B w L n { S with cs := S.cs.set i (c.passed 1 0) } W := by
      intro W hz hx hm hblk
      refine ⟨_, Hh.out.setConn Hb.out _ (fun x hx => .inl (hL x hx)) hB ?_ (hm.mono fun x _ hx => ?_) ⟨u0, .slice ao1' c.s0.there.length c1', .slice ao2' 0 c2', t1, hblk, ?_, ?_⟩⟩
      · intro x t hx
        rw [hz]
        rcases Nat.lt_or_ge x w2.heap.size with q | q
        · omega
        · unfold Lab.row at hx
          rw [if_neg (by omega)] at hx
          split at hx
          · rename_i e; exact hv2 x e
          · cases hx
      · rcases hx with e | e
        · exact ⟨0, by omega, e⟩
        · exact ⟨2, by omega, e⟩
      · rw [hL b hlb]; exact h3.lab
      · have ru : RowAt W ((L.row w.heap.size (.slice ao1' c.s0.there.length c1') (i, 2)).row w2.heap.size (.slice ao2' 0 c2') (i, 3)) (i, 3) (.slice ao2' 0 c2') ([] : List UInt8) := by
          refine ⟨ownsRow_frame own3 (fun g hg => hx g (hne2 g hg)), fun g hg => ?_⟩
          unfold Lab.row
          rw [if_neg (by have := new3 g hg; omega), if_pos hg]
        have rt : RowAt W ((L.row w.heap.size (.slice ao1' c.s0.there.length c1') (i, 2)).row w2.heap.size (.slice ao2' 0 c2') (i, 3)) (i, 2) (.slice ao1' c.s0.there.length c1') (c.s0.there ++ ([] : List UInt8)) := by
          refine ⟨ownsRow_frame own2 (fun g hg => ?_), fun g hg => ?_⟩
          · rw [hx g (hne1 g hg), gr3.block g (by simpa using hv1 g hg) (by simp), set_other _ _ (hne1 g hg)]
          · rw [hL2 g (hv1 g hg)]
            exact Lab.row_new new2 hr.t0.lab hlt1 g hg
        exact ⟨hr.u0.kept hL hm (by intro x hx hF; rw [hx] at hF; simp at hF), (by simpa [Cn.passed, Hnil.out] using rt), (by simpa [Cn.passed, Hnil.out] using ru), hr.t1.kept hL hm (by intro x hx hF; rw [hx] at hF; simp at hF)⟩
    split
    · exact key _ (by simp) (fun x hx => by rw [set_other _ _ hx, set_other _ _ hx]) (hmA.setCell _ _ (fun _ => .inl h3.lab)) (by rename_i hce; have e1 := Hcl.out; have e2 := Hen.out; simpa [Cn.passed, hce.1, e1, Hnil.out] using s4)
    · exact key _ (by simp) (fun x hx => set_other _ _ hx) hmA (by
        rename_i hce
        have e1 := Hcl.out
        have e2 := Hen.out
        have e3 : (c.s1.closed && true) = false := by
          rw [e1]; cases cl <;> simp [← e2] at hce ⊢
        simp at e3; simpa [Cn.passed, e3, Hnil.out] using s3)
  have Hfin := Lib.hid hfin
  clear hfin
  subst hen
  have hcases : cl = false ∨ (cl = true ∧ 0 ≤ 0) := by cases cl <;> simp
  rcases hcases with rfl | ⟨rfl, hdec⟩
  · go_enter Try.func11, Try.ntmps11
    go_wp2_with fail
    refine Hof.out.mono ?_
    rintro e w1 ⟨rfl, n1, rfl⟩
    simp only [if_neg (show ¬ (1:Int) = 0 by decide)]
    go_wp2_with (with_reducible refine wpList_min rfl _ _ _ rfl .i64 .i64 most _ 0 rfl rfl Hmin.out ?_)
    go_region_law (refine step_bytes rfl _ _ rfl (.slice ao1 c.s0.there.length c1) c.s0.there rfl (Hown1.out _) none 0 ([] : List UInt8) _ rfl rfl c.s0.there.length Hqq.out (Hr1.out.drewN _) Hlen1.out ?_; intro ao' c' w2 own2 gr2 new2; rw [← Hf1.out] at gr2 new2; have blk2 := (H3.out.blk_grown gr2 rfl 2 (Nat.succ_ne_zero _) H3.out.rows.t0.lab).trans H3.out.blk; have et2 := cell_blk blk2 4; have ft2 := frozen_blk blk2 4; simp at et2; have eu2 := cell_blk blk2 7; simp [Hq1.out] at eu2; have Own2 := Lib.hid own2; have Gr2 := Lib.hid gr2; have New2 := Lib.hid new2; have Blk2 := Lib.hid blk2; clear own2 gr2 new2 blk2)
    all_goals
      go_wp2_with (first | (with_reducible refine wpList_slice_lo rfl _ _ 22 5 rfl Try.underlying22 i0 hi5 1 hz1 none 0 0 rfl .i64 0 rfl (Nat.le_refl _) ?_; intro ao2 hao2; have Hao2 := Lib.hid hao2; clear hao2) | (at_builtin; go_loud (refine append_bytes rfl _ _ rfl (.slice none 0 0) [] rfl (World.ownsRow_nil _ _ _ _) ao2 (0 - 0) ([] : List UInt8) _ rfl rfl 0 rfl (Hdrop.out _ _ Hao2.out) (by decide) ?_); intro ao3 c3 w3 own3 gr3 new3; have blk3 := (gr3.block b (by simpa using lt_of_heap Blk2.out) (by simp [Value.ownBlock])).trans (set_blk Blk2.out 4 (.slice ao' c.s0.there.length c')); have eu3 := cell_blk blk3 7; have fu3 := frozen_blk blk3 7; have ec3 := cell_blk blk3 9; have ee3 := cell_blk blk3 6; have fe3 := frozen_blk blk3 6; simp [Hcl.out] at eu3 ec3 ee3; have Own3 := Lib.hid own3; have Gr3 := Lib.hid gr3; have New3 := Lib.hid new3; clear own3 gr3 new3 blk3))
      go_ret2
      refine ⟨rfl, ?_⟩
      have hfin := Hfin.out ao' ao3 c' c3 w2 w3 _ Own2.out Gr2.out New2.out Own3.out Gr3.out (fun g hg => (New3.out g hg).elim (fun q => by cases q) (fun q => by simpa using q))
      rw [if_neg (fun q => by cases q.1)] at hfin
      exact hfin
  · go_enter Try.func11, Try.ntmps11
    go_wp2_with fail
    refine Hof.out.mono ?_
    rintro e w1 ⟨rfl, n1, rfl⟩
    simp only [if_neg (show ¬ (1:Int) = 0 by decide)]
    go_wp2_with (with_reducible refine wpList_min rfl _ _ _ rfl .i64 .i64 most _ 0 rfl rfl Hmin.out ?_)
    go_region_law (refine step_bytes rfl _ _ rfl (.slice ao1 c.s0.there.length c1) c.s0.there rfl (Hown1.out _) none 0 ([] : List UInt8) _ rfl rfl c.s0.there.length Hqq.out (Hr1.out.drewN _) Hlen1.out ?_; intro ao' c' w2 own2 gr2 new2; rw [← Hf1.out] at gr2 new2; have blk2 := (H3.out.blk_grown gr2 rfl 2 (Nat.succ_ne_zero _) H3.out.rows.t0.lab).trans H3.out.blk; have et2 := cell_blk blk2 4; have ft2 := frozen_blk blk2 4; simp at et2; have eu2 := cell_blk blk2 7; simp [Hq1.out] at eu2; have Own2 := Lib.hid own2; have Gr2 := Lib.hid gr2; have New2 := Lib.hid new2; have Blk2 := Lib.hid blk2; clear own2 gr2 new2 blk2)
    all_goals
      go_wp2_with (first | (with_reducible refine wpList_slice_lo rfl _ _ 22 5 rfl Try.underlying22 i0 hi5 1 hz1 none 0 0 rfl .i64 0 rfl (Nat.le_refl _) ?_; intro ao2 hao2; have Hao2 := Lib.hid hao2; clear hao2) | (at_builtin; go_loud (refine append_bytes rfl _ _ rfl (.slice none 0 0) [] rfl (World.ownsRow_nil _ _ _ _) ao2 (0 - 0) ([] : List UInt8) _ rfl rfl 0 rfl (Hdrop.out _ _ Hao2.out) (by decide) ?_); intro ao3 c3 w3 own3 gr3 new3; have blk3 := (gr3.block b (by simpa using lt_of_heap Blk2.out) (by simp [Value.ownBlock])).trans (set_blk Blk2.out 4 (.slice ao' c.s0.there.length c')); have eu3 := cell_blk blk3 7; have fu3 := frozen_blk blk3 7; have ec3 := cell_blk blk3 9; have ee3 := cell_blk blk3 6; have fe3 := frozen_blk blk3 6; simp [Hcl.out] at eu3 ec3 ee3; have Own3 := Lib.hid own3; have Gr3 := Lib.hid gr3; have New3 := Lib.hid new3; clear own3 gr3 new3 blk3))
      go_ret2
      refine ⟨rfl, ?_⟩
      have hfin := Hfin.out ao' ao3 c' c3 w2 w3 _ Own2.out Gr2.out New2.out Own3.out Gr3.out (fun g hg => (New3.out g hg).elim (fun q => by cases q) (fun q => by simpa using q))
      rw [if_pos (by simp)] at hfin
      exact hfin

/-- How much passes. -/
def passLen (c : Cn) (k most : Int) : Nat := min most.toNat (c.sd k).under.length

/-- Pass, where there is such a connection and it is not cut. -/
theorem pass_ok {B : Nat} {w : World} {L : Lab} {n : Nat} {S : St} (h : NetIs B w L n S) (hB : B ≤ w.heap.size) (hs : S.cs.length ≤ maxLen) (i : Nat) (k : Int) (c : Cn) (hc : S.cs[i]? = some c) (hcut : c.cut = false) (hk : k = 0 ∨ k = 1)
    (most : Int) (hm0 : 0 ≤ most) (hl : (c.sd (1 - k)).there.length + (c.sd k).under.length ≤ 140737488355328) :
    Calls Try.prog 11 #[.pointer (some ⟨n, 0, none⟩), .int .i64 i, .int .i64 k, .int .i64 most] w fun e w' =>
      e = .returned (.tuple #[.int .i64 (passLen c k most), .int .i64 0]) ∧ Left B w L n { S with cs := S.cs.set i (c.passed k (passLen c k most)) } w' := by
  obtain ⟨cv, mb, bs, h⟩ := h
  obtain ⟨g, cap, b, u0, t0, u1, t1, hcv, hi, hb, h1, h2, h3⟩ := of_cells h hc
  rcases hk with rfl | rfl
  · rcases row_form h3.rows.u0.own with ⟨q1, q2, q3⟩ | ⟨g0, cap0, q1, q2, q3⟩
    · have hn : c.s0.under = [] := List.eq_nil_of_length_eq_zero q2
      have hz : passLen c 0 most = 0 := by simp [passLen, Cn.sd, hn]
      rw [hz]
      exact pass_0n h hB hs i c hb h3 hc hcut _ _ rfl most hm0 rfl hl q1 hn
    · refine pass_0s h hB hs i c hb h3 hc hcut _ _ rfl most (passLen c 0 most) hm0 ?_ rfl hl g0 cap0 q1 q2 q3
      simp only [passLen, Cn.sd, if_true]
      split <;> omega
  · rcases row_form h3.rows.u1.own with ⟨q1, q2, q3⟩ | ⟨g0, cap0, q1, q2, q3⟩
    · have hn : c.s1.under = [] := List.eq_nil_of_length_eq_zero q2
      have hz : passLen c 1 most = 0 := by simp [passLen, Cn.sd, hn]
      rw [hz]
      exact pass_1n h hB hs i c hb h3 hc hcut _ _ rfl most hm0 rfl hl q1 hn
    · refine pass_1s h hB hs i c hb h3 hc hcut _ _ rfl most (passLen c 1 most) hm0 ?_ rfl hl g0 cap0 q1 q2 q3
      simp only [passLen, Cn.sd, if_neg (show ¬ (1 : Int) = 0 by decide)]
      split <;> omega

end Go.Proofs.Ytibijonjjkknoaa
