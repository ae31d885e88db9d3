/-
The function Pass of package net.
-/
import Derived.Test.YtibijonjjkknoaaNetRead
set_option linter.unusedVariables false
set_option linter.unusedSimpArgs false
namespace Go.Proofs.Ytibijonjjkknoaa
open Go Go.RowKit

/-- What is read of an own row: its beginning, what is left. -/
theorem own_take {w : World} {g cap : Nat} {xs : List UInt8} (h : w.ownsRow 0 5 1 (.slice (some ⟨g, 0, none⟩) xs.length cap) xs.length (bytes xs)) (m : Nat) (hm : m ≤ xs.length) (hc : xs.length ≤ cap) (hcm : cap ≤ maxLen) :
    RdB w (some ⟨g, 0, none⟩) cap (xs.take m) := by
  refine ⟨(fun h => by cases h), ?_, (by simp; omega), hcm⟩
  intro ad had j u hu
  obtain rfl := Option.some.inj had
  rw [bytes_take, List.getElem?_take] at hu
  split at hu
  · have := row_cell h hu
    unfold Addr.add
    split
    · rename_i e; subst e; exact this
    · simpa using this
  · cases hu

theorem own_drop {w : World} {g cap : Nat} {xs : List UInt8} (h : w.ownsRow 0 5 1 (.slice (some ⟨g, 0, none⟩) xs.length cap) xs.length (bytes xs)) (m : Nat) (hm : m ≤ xs.length) (hc : xs.length ≤ cap) (hcm : cap ≤ maxLen)
    {ao' : Option Addr} (he : ao' = if cap = m then some ⟨g, 0, none⟩ else (some (⟨g, 0, none⟩ : Addr)).map (·.add (m * 1))) : RdB w ao' (cap - m) (xs.drop m) := by
  subst he
  refine ⟨(fun h => by split at h <;> simp at h), ?_, (by simp; omega), by omega⟩
  intro ad had j u hu
  rw [bytes_drop, List.getElem?_drop] at hu
  have hlt : m + j < xs.length := by
    have := (List.getElem?_eq_some_iff.1 hu).1
    simpa using this
  rw [if_neg (by omega)] at had
  simp only [Option.map_some, Option.some.injEq] at had
  subst had
  have := row_cell h hu
  rw [Addr.add_lit, Addr.add_lit]
  simpa using this

/-- The block of a connection, behind a call that has written one of its rows. -/
theorem ConnAt.blk_grown {w w1 w2 : World} {L : Lab} {i b : Nat} {c : Cn} {u0 t0 u1 t1 : Value} (h : ConnAt w L i b c u0 t0 u1 t1) {row : Option Nat} (hg : w1.grownBy w2 row) (hw : w1.heap = w.heap)
    (k : Nat) (hk : k ≠ 0) (hr : ∀ g, row = some g → L g = some (i, k)) : w2.heap[b]? = w.heap[b]? := by
  rw [← hw]
  refine hg.block b (by rw [hw]; exact lt_of_heap h.blk) ?_
  intro e
  have hl := hr b e.symm
  rw [h.lab] at hl
  simp at hl
  exact hk hl.symm

/-- A connection behind Pass. -/
def Cn.passed (c : Cn) (k : Int) (m : Nat) : Cn :=
  if k = 0 then { c with s0 := { c.s0 with under := c.s0.under.drop m }, s1 := { c.s1 with there := c.s1.there ++ c.s0.under.take m, ended := c.s1.ended || (c.s0.closed && decide (c.s0.under.length ≤ m)) } }
  else { c with s1 := { c.s1 with under := c.s1.under.drop m }, s0 := { c.s0 with there := c.s0.there ++ c.s1.under.take m, ended := c.s0.ended || (c.s1.closed && decide (c.s1.under.length ≤ m)) } }


set_option maxHeartbeats 1000000 in
theorem pass_0s {B : Nat} {w : World} {L : Lab} {n : Nat} {S : St} {cv : Value} {mb : Nat} {bs : List Nat} (h : NetAt B w L n S cv mb bs) (hB : B ≤ w.heap.size) (hs : S.cs.length ≤ maxLen) (i : Nat) (c : Cn) {b : Nat} {u0 t0 u1 t1 : Value} (hb : bs[i]? = some b) (h3 : ConnAt w L i b c u0 t0 u1 t1) (hc : S.cs[i]? = some c) (hcut : c.cut = false)
    (cl en : Bool) (hcl : c.s0.closed = cl) (most : Int) (m : Nat) (hm0 : 0 ≤ most) (hmin : (if (c.s0.under.length : Int) < most then (c.s0.under.length : Int) else most) = (m : Int)) (hen : decide (c.s0.under.length ≤ m) = en)
    (hl : c.s1.there.length + c.s0.under.length ≤ 140737488355328) (g0 cap0 : Nat) (hq1 : u0 = .slice (some ⟨g0, 0, none⟩) c.s0.under.length cap0) (q2 : c.s0.under.length ≤ cap0) (q3 : cap0 ≤ maxLen) :
    Calls Try.prog 11 #[.pointer (some ⟨n, 0, none⟩), .int .i64 i, .int .i64 0, .int .i64 most] w fun e w' =>
      e = .returned (.tuple #[.int .i64 m, .int .i64 0]) ∧ Left B w L n { S with cs := S.cs.set i (c.passed 0 m) } w' := by
  have hof := of_ok h hs i b 0 c hb hc hcut (by decide)
  have Hof := Lib.hid hof
  have H3 := Lib.hid h3
  have Hh := Lib.hid h
  have Hb := Lib.hid hb
  have hle : m ≤ c.s0.under.length := by split at hmin <;> omega
  have Hmin := Lib.hid hmin
  clear hmin
  clear hof hc hb h
  have eu := cell_blk h3.blk 3
  have ec := cell_blk h3.blk 5
  have et := cell_blk h3.blk 8
  have ft := frozen_blk h3.blk 8
  obtain ⟨ao1, c1, hf1⟩ : ∃ ao0 c0, t1 = .slice ao0 c.s1.there.length c0 := by
    rcases row_form h3.rows.t1.own with ⟨q1, q2, _⟩ | ⟨g, cap, q1, _⟩
    · exact ⟨none, 0, by rw [q1, q2]⟩
    · exact ⟨_, _, q1⟩
  have Hf1 := Lib.hid hf1
  have Hq1 := Lib.hid hq1
  simp [hf1, hq1] at eu et
  simp [hcl] at ec
  have hr1 : RdB w (some ⟨g0, 0, none⟩) cap0 (c.s0.under.take m) := own_take (by rw [← hq1]; exact h3.rows.u0.own) m hle q2 q3
  have Hr1 := Lib.hid hr1
  have hlt : (c.s0.under.take m).length = m := by simp; omega
  have Hlt := Lib.hid hlt
  have hld : (c.s0.under.drop m).length = c.s0.under.length - m := by simp
  have Hld := Lib.hid hld
  have hmc : m ≤ cap0 := by omega
  have hown1 : ∀ nd, (w.drewN nd).ownsRow 0 5 1 (.slice ao1 c.s1.there.length c1) c.s1.there.length (bytes c.s1.there) := fun nd => by rw [← hf1]; exact h3.rows.t1.own
  have Hown1 := Lib.hid hown1
  have hlen1 : c.s1.there.length + (c.s0.under.take m).length ≤ 140737488355328 := by rw [hlt]; omega
  have Hlen1 := Lib.hid hlen1
  have hqq : c.s1.there.length + m = c.s1.there.length + (c.s0.under.take m).length := by rw [hlt]
  have Hqq := Lib.hid hqq
  have hq0 : c.s0.under.length - m = ([] : List UInt8).length + (c.s0.under.drop m).length := by rw [hld]; simp
  have Hq0 := Lib.hid hq0
  have hlen2 : ([] : List UInt8).length + (c.s0.under.drop m).length ≤ 140737488355328 := by rw [hld]; simp; omega
  have Hlen2 := Lib.hid hlen2
  have Hq3 := Lib.hid q3
  have hdrop : ∀ (nd : Nat) (w2 : World) (v : Value) (ao' : Option Addr), (w.drewN nd).grownBy w2 t1.ownBlock → ao' = (if cap0 = m then some ⟨g0, 0, none⟩ else (some (⟨g0, 0, none⟩ : Addr)).map (·.add (m * 1))) →
      RdB (w2.setCell ⟨b, 8, none⟩ v) ao' (cap0 - m) (c.s0.under.drop m) := by
    intro nd w2 v ao' hg he
    refine own_drop (cap := cap0) ?_ m hle q2 q3 he
    have own0 := h3.rows.u0.own
    rw [hq1] at own0
    have lab0 := h3.rows.u0.lab g0 (by rw [hq1]; rfl)
    refine ownsRow_frame own0 (fun g hg' => ?_)
    simp only [Value.ownBlock, Option.some.injEq] at hg'
    subst hg'
    rw [set_other _ _ (show g0 ≠ b from fun e => by subst e; rw [h3.lab] at lab0; cases lab0)]
    refine (hg.block g0 (show g0 < w.heap.size from (own0.lt g0 rfl).2) (fun e => ?_)).trans rfl
    have := h3.rows.t1.lab g0 e.symm
    rw [this] at lab0; cases lab0
  have Hdrop := Lib.hid hdrop
  have Hcl := Lib.hid hcl
  have Hen := Lib.hid hen
  obtain ⟨i0, hi5, hz0, hz1, hz2⟩ := info_parts info5
  unfold maxLen at q3
  clear h3 hf1 hq1 hr1 hlt hld hcl hz0 hz2 hown1 hlen1 hqq hq0 hlen2 hdrop
  have hfin : ∀ (ao1' ao2' : Option Addr) (c1' c2' : Nat) (w2 w3 : World) (nd : Nat),
      w2.ownsRow 0 5 1 (.slice ao1' (c.s1.there.length + m) c1') (c.s1.there ++ c.s0.under.take m).length (bytes (c.s1.there ++ c.s0.under.take m)) →
      (w.drewN nd).grownBy w2 t1.ownBlock → (∀ g, (Value.slice ao1' (c.s1.there.length + m) c1').ownBlock = some g → t1.ownBlock = some g ∨ w.heap.size ≤ g) →
      w3.ownsRow 0 5 1 (.slice ao2' (c.s0.under.length - m) c2') (c.s0.under.drop m).length (bytes (c.s0.under.drop m)) →
      (w2.setCell ⟨b, 8, none⟩ (.slice ao1' (c.s1.there.length + m) c1')).grownBy w3 none → (∀ g, (Value.slice ao2' (c.s0.under.length - m) c2').ownBlock = some g → w2.heap.size ≤ g) →
      Left B w L n { S with cs := S.cs.set i (c.passed 0 m) } (if cl = true ∧ en = true then (w3.setCell ⟨b, 3, none⟩ (.slice ao2' (c.s0.under.length - m) c2')).setCell ⟨b, 10, none⟩ (.bool true) else w3.setCell ⟨b, 3, none⟩ (.slice ao2' (c.s0.under.length - m) c2')) := by
    intro ao1' ao2' c1' c2' w2 w3 nd own2 gr2 new2 own3 gr3 new3
    have h3 := H3.out
    have hr := h3.rows
    have hlb := lt_of_heap h3.blk
    have blk2 := (h3.blk_grown gr2 rfl 4 (Nat.succ_ne_zero _) hr.t1.lab).trans h3.blk
    have s2 := set_blk blk2 8 (.slice ao1' (c.s1.there.length + m) c1')
    have blk3 := (gr3.block b (by simpa using lt_of_heap blk2) (by simp)).trans s2
    have s3 := set_blk blk3 3 (.slice ao2' (c.s0.under.length - m) c2')
    have s4 := set_blk s3 10 (.bool true)
    have z2 : w.heap.size ≤ w2.heap.size := gr2.size
    have z3 : w2.heap.size ≤ w3.heap.size := by have := gr3.size; simpa using this
    have hlt1 : ∀ g, t1.ownBlock = some g → g < w.heap.size := fun g hg => hr.t1.lt hg
    have hL1 := Lab.row_old L w.heap.size (.slice ao1' (c.s1.there.length + m) c1') (i, 4)
    have hL2 := Lab.row_old (L.row w.heap.size (.slice ao1' (c.s1.there.length + m) c1') (i, 4)) w2.heap.size (.slice ao2' (c.s0.under.length - m) c2') (i, 1)
    have hL : ∀ x, x < w.heap.size → ((L.row w.heap.size (.slice ao1' (c.s1.there.length + m) c1') (i, 4)).row w2.heap.size (.slice ao2' (c.s0.under.length - m) c2') (i, 1)) x = L x :=
      fun x hx => (hL2 x (by omega)).trans (hL1 x hx)
    have hv1 : ∀ g, (Value.slice ao1' (c.s1.there.length + m) c1').ownBlock = some g → g < w2.heap.size := fun g hg => (own2.lt g hg).2
    have hv2 : ∀ g, (Value.slice ao2' (c.s0.under.length - m) c2').ownBlock = some g → g < w3.heap.size := fun g hg => (own3.lt g hg).2
    have hne1 : ∀ g, (Value.slice ao1' (c.s1.there.length + m) c1').ownBlock = some g → g ≠ b := by
      intro g hg e
      subst e
      rcases new2 g hg with q | q
      · have := hr.t1.lab g q; rw [h3.lab] at this; cases this
      · omega
    have hne2 : ∀ g, (Value.slice ao2' (c.s0.under.length - m) c2').ownBlock = some g → g ≠ b := fun g hg e => by have := new3 g hg; omega
    have hmA : Mod (fun x => L x = some (i, 0) ∨ L x = some (i, 4)) w (w3.setCell ⟨b, 3, none⟩ (.slice ao2' (c.s0.under.length - m) c2')) :=
      ((((((Mod.refl _ w).drewN nd).grown gr2 (fun k hk _ => .inr (hr.t1.lab k hk))).setCell ⟨b, 8, none⟩ _ (fun _ => .inl h3.lab)).grown gr3 (fun k hk => by cases hk)).setCell _ _ (fun _ => .inl h3.lab))
    have key : ∀ (W : World), W.heap.size = w3.heap.size → (∀ x, x ≠ b → W.heap[x]? = w3.heap[x]?) → Mod (fun x => L x = some (i, 0) ∨ L x = some (i, 4)) w W →
        W.heap[b]? = some (.cells #[.string (c.passed 0 m).name, .bool (c.passed 0 m).waiting, .bool (c.passed 0 m).cut, .slice ao2' (c.s0.under.length - m) c2', t0, .bool (c.passed 0 m).s0.closed, .bool (c.passed 0 m).s0.ended, u1, .slice ao1' (c.s1.there.length + m) c1', .bool (c.passed 0 m).s1.closed, .bool (c.passed 0 m).s1.ended] 61 (0, 0)) →
        Left B w L n { S with cs := S.cs.set i (c.passed 0 m) } W := by
      intro W hz hx hm hblk
      refine ⟨_, Hh.out.setConn Hb.out _ (fun x hx => .inl (hL x hx)) hB ?_ (hm.mono fun x _ hx => ?_) ⟨.slice ao2' (c.s0.under.length - m) c2', t0, u1, .slice ao1' (c.s1.there.length + m) c1', hblk, ?_, ?_⟩⟩
      · intro x t hx
        rw [hz]
        rcases Nat.lt_or_ge x w2.heap.size with q | q
        · omega
        · unfold Lab.row at hx
          rw [if_neg (by omega)] at hx
          split at hx
          · rename_i e; exact hv2 x e
          · cases hx
      · rcases hx with e | e
        · exact ⟨0, by omega, e⟩
        · exact ⟨4, by omega, e⟩
      · rw [hL b hlb]; exact h3.lab
      · have ru : RowAt W ((L.row w.heap.size (.slice ao1' (c.s1.there.length + m) c1') (i, 4)).row w2.heap.size (.slice ao2' (c.s0.under.length - m) c2') (i, 1)) (i, 1) (.slice ao2' (c.s0.under.length - m) c2') (c.s0.under.drop m) := by
          refine ⟨ownsRow_frame own3 (fun g hg => hx g (hne2 g hg)), fun g hg => ?_⟩
          unfold Lab.row
          rw [if_neg (by have := new3 g hg; omega), if_pos hg]
        have rt : RowAt W ((L.row w.heap.size (.slice ao1' (c.s1.there.length + m) c1') (i, 4)).row w2.heap.size (.slice ao2' (c.s0.under.length - m) c2') (i, 1)) (i, 4) (.slice ao1' (c.s1.there.length + m) c1') (c.s1.there ++ c.s0.under.take m) := by
          refine ⟨ownsRow_frame own2 (fun g hg => ?_), fun g hg => ?_⟩
          · rw [hx g (hne1 g hg), gr3.block g (by simpa using hv1 g hg) (by simp), set_other _ _ (hne1 g hg)]
          · rw [hL2 g (hv1 g hg)]
            exact Lab.row_new new2 hr.t1.lab hlt1 g hg
        exact ⟨ru, hr.t0.kept hL hm (by intro x hx hF; rw [hx] at hF; simp at hF), hr.u1.kept hL hm (by intro x hx hF; rw [hx] at hF; simp at hF), rt⟩
    split
    · exact key _ (by simp) (fun x hx => by rw [set_other _ _ hx, set_other _ _ hx]) (hmA.setCell _ _ (fun _ => .inl h3.lab)) (by rename_i hce; have e1 := Hcl.out; have e2 := Hen.out; simpa [Cn.passed, hce.1, hce.2, e1, e2] using s4)
    · exact key _ (by simp) (fun x hx => set_other _ _ hx) hmA (by
        rename_i hce
        have e1 := Hcl.out
        have e2 := Hen.out
        have e3 : (c.s0.closed && decide (c.s0.under.length ≤ m)) = false := by
          rw [e1, e2]; cases cl <;> cases en <;> simp at hce ⊢
        simpa [Cn.passed, e3] using s3)
  have Hfin := Lib.hid hfin
  clear hfin
  have hcases : cl = false ∨ (cl = true ∧ m < c.s0.under.length) ∨ (cl = true ∧ c.s0.under.length ≤ m) := by
    cases cl
    · exact .inl rfl
    · rcases Nat.lt_or_ge m c.s0.under.length with q | q
      · exact .inr (.inl ⟨rfl, q⟩)
      · exact .inr (.inr ⟨rfl, q⟩)
  rcases hcases with rfl | ⟨rfl, hdec⟩ | ⟨rfl, hdec⟩
  · go_enter Try.func11, Try.ntmps11
    go_wp2_with fail
    refine Hof.out.mono ?_
    rintro e w1 ⟨rfl, n1, rfl⟩
    simp only [if_true]
    go_wp2_with (with_reducible refine wpList_min rfl _ _ _ rfl .i64 .i64 most c.s0.under.length m rfl rfl Hmin.out ?_)
    go_region_law (refine step_bytes rfl _ _ rfl (.slice ao1 c.s1.there.length c1) c.s1.there rfl (Hown1.out _) (some ⟨g0, 0, none⟩) cap0 (c.s0.under.take m) _ rfl Hlt.out.symm (c.s1.there.length + m) Hqq.out (Hr1.out.drewN _) Hlen1.out ?_; intro ao' c' w2 own2 gr2 new2; rw [← Hf1.out] at gr2 new2; have blk2 := (H3.out.blk_grown gr2 rfl 4 (Nat.succ_ne_zero _) H3.out.rows.t1.lab).trans H3.out.blk; have et2 := cell_blk blk2 8; have ft2 := frozen_blk blk2 8; simp at et2; have eu2 := cell_blk blk2 3; simp [Hq1.out] at eu2; have Own2 := Lib.hid own2; have Gr2 := Lib.hid gr2; have New2 := Lib.hid new2; have Blk2 := Lib.hid blk2; clear own2 gr2 new2 blk2)
    all_goals
      go_wp2_with (first | (with_reducible refine wpList_slice_lo rfl _ _ 22 5 rfl Try.underlying22 i0 hi5 1 hz1 (some ⟨g0, 0, none⟩) c.s0.under.length cap0 rfl .i64 m rfl hle ?_; intro ao2 hao2; have Hao2 := Lib.hid hao2; clear hao2) | (at_builtin; go_loud (refine append_bytes rfl _ _ rfl (.slice none 0 0) [] rfl (World.ownsRow_nil _ _ _ _) ao2 (cap0 - m) (c.s0.under.drop m) _ rfl Hld.out.symm (c.s0.under.length - m) Hq0.out (Hdrop.out _ _ _ _ Gr2.out Hao2.out) Hlen2.out ?_); intro ao3 c3 w3 own3 gr3 new3; have blk3 := (gr3.block b (by simpa using lt_of_heap Blk2.out) (by simp [Value.ownBlock])).trans (set_blk Blk2.out 8 (.slice ao' (c.s1.there.length + m) c')); have eu3 := cell_blk blk3 3; have fu3 := frozen_blk blk3 3; have ec3 := cell_blk blk3 5; have ee3 := cell_blk blk3 10; have fe3 := frozen_blk blk3 10; simp [Hcl.out] at eu3 ec3 ee3; have Own3 := Lib.hid own3; have Gr3 := Lib.hid gr3; have New3 := Lib.hid new3; clear own3 gr3 new3 blk3))
      go_ret2
      refine ⟨rfl, ?_⟩
      have hfin := Hfin.out ao' ao3 c' c3 w2 w3 _ Own2.out Gr2.out New2.out Own3.out Gr3.out (fun g hg => (New3.out g hg).elim (fun q => by cases q) (fun q => by simpa using q))
      rw [if_neg (fun q => by cases q.1)] at hfin
      exact hfin
  · go_enter Try.func11, Try.ntmps11
    go_wp2_with fail
    refine Hof.out.mono ?_
    rintro e w1 ⟨rfl, n1, rfl⟩
    simp only [if_true]
    go_wp2_with (with_reducible refine wpList_min rfl _ _ _ rfl .i64 .i64 most c.s0.under.length m rfl rfl Hmin.out ?_)
    go_region_law (refine step_bytes rfl _ _ rfl (.slice ao1 c.s1.there.length c1) c.s1.there rfl (Hown1.out _) (some ⟨g0, 0, none⟩) cap0 (c.s0.under.take m) _ rfl Hlt.out.symm (c.s1.there.length + m) Hqq.out (Hr1.out.drewN _) Hlen1.out ?_; intro ao' c' w2 own2 gr2 new2; rw [← Hf1.out] at gr2 new2; have blk2 := (H3.out.blk_grown gr2 rfl 4 (Nat.succ_ne_zero _) H3.out.rows.t1.lab).trans H3.out.blk; have et2 := cell_blk blk2 8; have ft2 := frozen_blk blk2 8; simp at et2; have eu2 := cell_blk blk2 3; simp [Hq1.out] at eu2; have Own2 := Lib.hid own2; have Gr2 := Lib.hid gr2; have New2 := Lib.hid new2; have Blk2 := Lib.hid blk2; clear own2 gr2 new2 blk2)
    all_goals
      go_wp2_with (first | (with_reducible refine wpList_slice_lo rfl _ _ 22 5 rfl Try.underlying22 i0 hi5 1 hz1 (some ⟨g0, 0, none⟩) c.s0.under.length cap0 rfl .i64 m rfl hle ?_; intro ao2 hao2; have Hao2 := Lib.hid hao2; clear hao2) | (at_builtin; go_loud (refine append_bytes rfl _ _ rfl (.slice none 0 0) [] rfl (World.ownsRow_nil _ _ _ _) ao2 (cap0 - m) (c.s0.under.drop m) _ rfl Hld.out.symm (c.s0.under.length - m) Hq0.out (Hdrop.out _ _ _ _ Gr2.out Hao2.out) Hlen2.out ?_); intro ao3 c3 w3 own3 gr3 new3; have blk3 := (gr3.block b (by simpa using lt_of_heap Blk2.out) (by simp [Value.ownBlock])).trans (set_blk Blk2.out 8 (.slice ao' (c.s1.there.length + m) c')); have eu3 := cell_blk blk3 3; have fu3 := frozen_blk blk3 3; have ec3 := cell_blk blk3 5; have ee3 := cell_blk blk3 10; have fe3 := frozen_blk blk3 10; simp [Hcl.out] at eu3 ec3 ee3; have Own3 := Lib.hid own3; have Gr3 := Lib.hid gr3; have New3 := Lib.hid new3; clear own3 gr3 new3 blk3))
      go_ret2
      refine ⟨rfl, ?_⟩
      have hfin := Hfin.out ao' ao3 c' c3 w2 w3 _ Own2.out Gr2.out New2.out Own3.out Gr3.out (fun g hg => (New3.out g hg).elim (fun q => by cases q) (fun q => by simpa using q))
      have e1 := Hen.out
      have e2 : en = false := by rw [← e1]; simp; omega
      subst e2
      rw [if_neg (fun q => by cases q.2)] at hfin
      exact hfin
  · go_enter Try.func11, Try.ntmps11
    go_wp2_with fail
    refine Hof.out.mono ?_
    rintro e w1 ⟨rfl, n1, rfl⟩
    simp only [if_true]
    go_wp2_with (with_reducible refine wpList_min rfl _ _ _ rfl .i64 .i64 most c.s0.under.length m rfl rfl Hmin.out ?_)
    go_region_law (refine step_bytes rfl _ _ rfl (.slice ao1 c.s1.there.length c1) c.s1.there rfl (Hown1.out _) (some ⟨g0, 0, none⟩) cap0 (c.s0.under.take m) _ rfl Hlt.out.symm (c.s1.there.length + m) Hqq.out (Hr1.out.drewN _) Hlen1.out ?_; intro ao' c' w2 own2 gr2 new2; rw [← Hf1.out] at gr2 new2; have blk2 := (H3.out.blk_grown gr2 rfl 4 (Nat.succ_ne_zero _) H3.out.rows.t1.lab).trans H3.out.blk; have et2 := cell_blk blk2 8; have ft2 := frozen_blk blk2 8; simp at et2; have eu2 := cell_blk blk2 3; simp [Hq1.out] at eu2; have Own2 := Lib.hid own2; have Gr2 := Lib.hid gr2; have New2 := Lib.hid new2; have Blk2 := Lib.hid blk2; clear own2 gr2 new2 blk2)
    all_goals
      go_wp2_with (first | (with_reducible refine wpList_slice_lo rfl _ _ 22 5 rfl Try.underlying22 i0 hi5 1 hz1 (some ⟨g0, 0, none⟩) c.s0.under.length cap0 rfl .i64 m rfl hle ?_; intro ao2 hao2; have Hao2 := Lib.hid hao2; clear hao2) | (at_builtin; go_loud (refine append_bytes rfl _ _ rfl (.slice none 0 0) [] rfl (World.ownsRow_nil _ _ _ _) ao2 (cap0 - m) (c.s0.under.drop m) _ rfl Hld.out.symm (c.s0.under.length - m) Hq0.out (Hdrop.out _ _ _ _ Gr2.out Hao2.out) Hlen2.out ?_); intro ao3 c3 w3 own3 gr3 new3; have blk3 := (gr3.block b (by simpa using lt_of_heap Blk2.out) (by simp [Value.ownBlock])).trans (set_blk Blk2.out 8 (.slice ao' (c.s1.there.length + m) c')); have eu3 := cell_blk blk3 3; have fu3 := frozen_blk blk3 3; have ec3 := cell_blk blk3 5; have ee3 := cell_blk blk3 10; have fe3 := frozen_blk blk3 10; simp [Hcl.out] at eu3 ec3 ee3; have Own3 := Lib.hid own3; have Gr3 := Lib.hid gr3; have New3 := Lib.hid new3; clear own3 gr3 new3 blk3))
      go_ret2
      refine ⟨rfl, ?_⟩
      have hfin := Hfin.out ao' ao3 c' c3 w2 w3 _ Own2.out Gr2.out New2.out Own3.out Gr3.out (fun g hg => (New3.out g hg).elim (fun q => by cases q) (fun q => by simpa using q))
      have e1 := Hen.out
      have e0 : c.s0.under.length - m = 0 := by omega
      have e2 : en = true := by rw [← e1]; simp; omega
      subst e2
      rw [if_pos (by simp)] at hfin
      rw [e0] at hfin
      exact hfin

set_option maxHeartbeats 1000000 in
theorem pass_1s {B : Nat} {w : World} {L : Lab} {n : Nat} {S : St} {cv : Value} {mb : Nat} {bs : List Nat} (h : NetAt B w L n S cv mb bs) (hB : B ≤ w.heap.size) (hs : S.cs.length ≤ maxLen) (i : Nat) (c : Cn) {b : Nat} {u0 t0 u1 t1 : Value} (hb : bs[i]? = some b) (h3 : ConnAt w L i b c u0 t0 u1 t1) (hc : S.cs[i]? = some c) (hcut : c.cut = false)
    (cl en : Bool) (hcl : c.s1.closed = cl) (most : Int) (m : Nat) (hm0 : 0 ≤ most) (hmin : (if (c.s1.under.length : Int) < most then (c.s1.under.length : Int) else most) = (m : Int)) (hen : decide (c.s1.under.length ≤ m) = en)
    (hl : c.s0.there.length + c.s1.under.length ≤ 140737488355328) (g0 cap0 : Nat) (hq1 : u1 = .slice (some ⟨g0, 0, none⟩) c.s1.under.length cap0) (q2 : c.s1.under.length ≤ cap0) (q3 : cap0 ≤ maxLen) :
    Calls Try.prog 11 #[.pointer (some ⟨n, 0, none⟩), .int .i64 i, .int .i64 1, .int .i64 most] w fun e w' =>
      e = .returned (.tuple #[.int .i64 m, .int .i64 0]) ∧ Left B w L n { S with cs := S.cs.set i (c.passed 1 m) } w' := by
  have hof := of_ok h hs i b 1 c hb hc hcut (by decide)
  have Hof := Lib.hid hof
  have H3 := Lib.hid h3
  have Hh := Lib.hid h
  have Hb := Lib.hid hb
  have hle : m ≤ c.s1.under.length := by split at hmin <;> omega
  have Hmin := Lib.hid hmin
  clear hmin
  clear hof hc hb h
  have eu := cell_blk h3.blk 7
  have ec := cell_blk h3.blk 9
  have et := cell_blk h3.blk 4
  have ft := frozen_blk h3.blk 4
  obtain ⟨ao1, c1, hf1⟩ : ∃ ao0 c0, t0 = .slice ao0 c.s0.there.length c0 := by
    rcases row_form h3.rows.t0.own with ⟨q1, q2, _⟩ | ⟨g, cap, q1, _⟩
    · exact ⟨none, 0, by rw [q1, q2]⟩
    · exact ⟨_, _, q1⟩
  have Hf1 := Lib.hid hf1
  have Hq1 := Lib.hid hq1
  simp [hf1, hq1] at eu et
  simp [hcl] at ec
  have hr1 : RdB w (some ⟨g0, 0, none⟩) cap0 (c.s1.under.take m) := own_take (by rw [← hq1]; exact h3.rows.u1.own) m hle q2 q3
  have Hr1 := Lib.hid hr1
  have hlt : (c.s1.under.take m).length = m := by simp; omega
  have Hlt := Lib.hid hlt
  have hld : (c.s1.under.drop m).length = c.s1.under.length - m := by simp
  have Hld := Lib.hid hld
  have hmc : m ≤ cap0 := by omega
  have hown1 : ∀ nd, (w.drewN nd).ownsRow 0 5 1 (.slice ao1 c.s0.there.length c1) c.s0.there.length (bytes c.s0.there) := fun nd => by rw [← hf1]; exact h3.rows.t0.own
  have Hown1 := Lib.hid hown1
  have hlen1 : c.s0.there.length + (c.s1.under.take m).length ≤ 140737488355328 := by rw [hlt]; omega
  have Hlen1 := Lib.hid hlen1
  have hqq : c.s0.there.length + m = c.s0.there.length + (c.s1.under.take m).length := by rw [hlt]
  have Hqq := Lib.hid hqq
  have hq0 : c.s1.under.length - m = ([] : List UInt8).length + (c.s1.under.drop m).length := by rw [hld]; simp
  have Hq0 := Lib.hid hq0
  have hlen2 : ([] : List UInt8).length + (c.s1.under.drop m).length ≤ 140737488355328 := by rw [hld]; simp; omega
  have Hlen2 := Lib.hid hlen2
  have Hq3 := Lib.hid q3
  have hdrop : ∀ (nd : Nat) (w2 : World) (v : Value) (ao' : Option Addr), (w.drewN nd).grownBy w2 t0.ownBlock → ao' = (if cap0 = m then some ⟨g0, 0, none⟩ else (some (⟨g0, 0, none⟩ : Addr)).map (·.add (m * 1))) →
      RdB (w2.setCell ⟨b, 4, none⟩ v) ao' (cap0 - m) (c.s1.under.drop m) := by
    intro nd w2 v ao' hg he
    refine own_drop (cap := cap0) ?_ m hle q2 q3 he
    have own0 := h3.rows.u1.own
    rw [hq1] at own0
    have lab0 := h3.rows.u1.lab g0 (by rw [hq1]; rfl)
    refine ownsRow_frame own0 (fun g hg' => ?_)
    simp only [Value.ownBlock, Option.some.injEq] at hg'
    subst hg'
    rw [set_other _ _ (show g0 ≠ b from fun e => by subst e; rw [h3.lab] at lab0; cases lab0)]
    refine (hg.block g0 (show g0 < w.heap.size from (own0.lt g0 rfl).2) (fun e => ?_)).trans rfl
    have := h3.rows.t0.lab g0 e.symm
    rw [this] at lab0; cases lab0
  have Hdrop := Lib.hid hdrop
  have Hcl := Lib.hid hcl
  have Hen := Lib.hid hen
  obtain ⟨i0, hi5, hz0, hz1, hz2⟩ := info_parts info5
  unfold maxLen at q3
  clear h3 hf1 hq1 hr1 hlt hld hcl hz0 hz2 hown1 hlen1 hqq hq0 hlen2 hdrop
  have hfin : ∀ (ao1' ao2' : Option Addr) (c1' c2' : Nat) (w2 w3 : World) (nd : Nat),
      w2.ownsRow 0 5 1 (.slice ao1' (c.s0.there.length + m) c1') (c.s0.there ++ c.s1.under.take m).length (bytes (c.s0.there ++ c.s1.under.take m)) →
      (w.drewN nd).grownBy w2 t0.ownBlock → (∀ g, (Value.slice ao1' (c.s0.there.length + m) c1').ownBlock = some g → t0.ownBlock = some g ∨ w.heap.size ≤ g) →
      w3.ownsRow 0 5 1 (.slice ao2' (c.s1.under.length - m) c2') (c.s1.under.drop m).length (bytes (c.s1.under.drop m)) →
      (w2.setCell ⟨b, 4, none⟩ (.slice ao1' (c.s0.there.length + m) c1')).grownBy w3 none → (∀ g, (Value.slice ao2' (c.s1.under.length - m) c2').ownBlock = some g → w2.heap.size ≤ g) →
      Left B w L n { S with cs := S.cs.set i (c.passed 1 m) } (if cl = true ∧ en = true then (w3.setCell ⟨b, 7, none⟩ (.slice ao2' (c.s1.under.length - m) c2')).setCell ⟨b, 6, none⟩ (.bool true) else w3.setCell ⟨b, 7, none⟩ (.slice ao2' (c.s1.under.length - m) c2')) := by
    intro ao1' ao2' c1' c2' w2 w3 nd own2 gr2 new2 own3 gr3 new3
    have h3 := H3.out
    have hr := h3.rows
    have hlb := lt_of_heap h3.blk
    have blk2 := (h3.blk_grown gr2 rfl 2 (Nat.succ_ne_zero _) hr.t0.lab).trans h3.blk
    have s2 := set_blk blk2 4 (.slice ao1' (c.s0.there.length + m) c1')
    have blk3 := (gr3.block b (by simpa using lt_of_heap blk2) (by simp)).trans s2
    have s3 := set_blk blk3 7 (.slice ao2' (c.s1.under.length - m) c2')
    have s4 := set_blk s3 6 (.bool true)
    have z2 : w.heap.size ≤ w2.heap.size := gr2.size
    have z3 : w2.heap.size ≤ w3.heap.size := by have := gr3.size; simpa using this
    have hlt1 : ∀ g, t0.ownBlock = some g → g < w.heap.size := fun g hg => hr.t0.lt hg
    have hL1 := Lab.row_old L w.heap.size (.slice ao1' (c.s0.there.length + m) c1') (i, 2)
    have hL2 := Lab.row_old (L.row w.heap.size (.slice ao1' (c.s0.there.length + m) c1') (i, 2)) w2.heap.size (.slice ao2' (c.s1.under.length - m) c2') (i, 3)
    have hL : ∀ x, x < w.heap.size → ((L.row w.heap.size (.slice ao1' (c.s0.there.length + m) c1') (i, 2)).row w2.heap.size (.slice ao2' (c.s1.under.length - m) c2') (i, 3)) x = L x :=
      fun x hx => (hL2 x (by omega)).trans (hL1 x hx)
    have hv1 : ∀ g, (Value.slice ao1' (c.s0.there.length + m) c1').ownBlock = some g → g < w2.heap.size := fun g hg => (own2.lt g hg).2
    have hv2 : ∀ g, (Value.slice ao2' (c.s1.under.length - m) c2').ownBlock = some g → g < w3.heap.size := fun g hg => (own3.lt g hg).2
    have hne1 : ∀ g, (Value.slice ao1' (c.s0.there.length + m) c1').ownBlock = some g → g ≠ b := by
      intro g hg e
      subst e
      rcases new2 g hg with q | q
      · have := hr.t0.lab g q; rw [h3.lab] at this; cases this
      · omega
    have hne2 : ∀ g, (Value.slice ao2' (c.s1.under.length - m) c2').ownBlock = some g → g ≠ b := fun g hg e => by have := new3 g hg; omega
    have hmA : Mod (fun x => L x = some (i, 0) ∨ L x = some (i, 2)) w (w3.setCell ⟨b, 7, none⟩ (.slice ao2' (c.s1.under.length - m) c2')) :=
      ((((((Mod.refl _ w).drewN nd).grown gr2 (fun k hk _ => .inr (hr.t0.lab k hk))).setCell ⟨b, 4, none⟩ _ (fun _ => .inl h3.lab)).grown gr3 (fun k hk => by cases hk)).setCell _ _ (fun _ => .inl h3.lab))
    have key : ∀ (W : World), W.heap.size = w3.heap.size → (∀ x, x ≠ b → W.heap[x]? = w3.heap[x]?) → Mod (fun x => L x = some (i, 0) ∨ L x = some (i, 2)) w W →
        W.heap[b]? = some (.cells #[.string (c.passed 1 m).name, .bool (c.passed 1 m).waiting, .bool (c.passed 1 m).cut, u0, .slice ao1' (c.s0.there.length + m) c1', .bool (c.passed 1 m).s0.closed, .bool (c.passed 1 m).s0.ended, .slice ao2' (c.s1.under.length - m) c2', t1, .bool (c.passed 1 m).s1.closed, .bool (c.passed 1 m).s1.ended] 61 (0, 0)) →
        Left B w L n { S with cs := S.cs.set i (c.passed 1 m) } W := by
      intro W hz hx hm hblk
      refine ⟨_, Hh.out.setConn Hb.out _ (fun x hx => .inl (hL x hx)) hB ?_ (hm.mono fun x _ hx => ?_) ⟨u0, .slice ao1' (c.s0.there.length + m) c1', .slice ao2' (c.s1.under.length - m) c2', t1, hblk, ?_, ?_⟩⟩
      · intro x t hx
        rw [hz]
        rcases Nat.lt_or_ge x w2.heap.size with q | q
        · omega
        · unfold Lab.row at hx
          rw [if_neg (by omega)] at hx
          split at hx
          · rename_i e; exact hv2 x e
          · cases hx
      · rcases hx with e | e
        · exact ⟨0, by omega, e⟩
        · exact ⟨2, by omega, e⟩
      · rw [hL b hlb]; exact h3.lab
      · have ru : RowAt W ((L.row w.heap.size (.slice ao1' (c.s0.there.length + m) c1') (i, 2)).row w2.heap.size (.slice ao2' (c.s1.under.length - m) c2') (i, 3)) (i, 3) (.slice ao2' (c.s1.under.length - m) c2') (c.s1.under.drop m) := by
          refine ⟨ownsRow_frame own3 (fun g hg => hx g (hne2 g hg)), fun g hg => ?_⟩
          unfold Lab.row
          rw [if_neg (by have := new3 g hg; omega), if_pos hg]
        have rt : RowAt W ((L.row w.heap.size (.slice ao1' (c.s0.there.length + m) c1') (i, 2)).row w2.heap.size (.slice ao2' (c.s1.under.length - m) c2') (i, 3)) (i, 2) (.slice ao1' (c.s0.there.length + m) c1') (c.s0.there ++ c.s1.under.take m) := by
          refine ⟨ownsRow_frame own2 (fun g hg => ?_), fun g hg => ?_⟩
          · rw [hx g (hne1 g hg), gr3.block g (by simpa using hv1 g hg) (by simp), set_other _ _ (hne1 g hg)]
          · rw [hL2 g (hv1 g hg)]
            exact Lab.row_new new2 hr.t0.lab hlt1 g hg
        exact ⟨hr.u0.kept hL hm (by intro x hx hF; rw [hx] at hF; simp at hF), rt, ru, hr.t1.kept hL hm (by intro x hx hF; rw [hx] at hF; simp at hF)⟩
    split
    · exact key _ (by simp) (fun x hx => by rw [set_other _ _ hx, set_other _ _ hx]) (hmA.setCell _ _ (fun _ => .inl h3.lab)) (by rename_i hce; have e1 := Hcl.out; have e2 := Hen.out; simpa [Cn.passed, hce.1, hce.2, e1, e2] using s4)
    · exact key _ (by simp) (fun x hx => set_other _ _ hx) hmA (by
        rename_i hce
        have e1 := Hcl.out
        have e2 := Hen.out
        have e3 : (c.s1.closed && decide (c.s1.under.length ≤ m)) = false := by
          rw [e1, e2]; cases cl <;> cases en <;> simp at hce ⊢
        simpa [Cn.passed, e3] using s3)
  have Hfin := Lib.hid hfin
  clear hfin
  have hcases : cl = false ∨ (cl = true ∧ m < c.s1.under.length) ∨ (cl = true ∧ c.s1.under.length ≤ m) := by
    cases cl
    · exact .inl rfl
    · rcases Nat.lt_or_ge m c.s1.under.length with q | q
      · exact .inr (.inl ⟨rfl, q⟩)
      · exact .inr (.inr ⟨rfl, q⟩)
  rcases hcases with rfl | ⟨rfl, hdec⟩ | ⟨rfl, hdec⟩
  · go_enter Try.func11, Try.ntmps11
    go_wp2_with fail
    refine Hof.out.mono ?_
    rintro e w1 ⟨rfl, n1, rfl⟩
    simp only [if_neg (show ¬ (1:Int) = 0 by decide)]
    go_wp2_with (with_reducible refine wpList_min rfl _ _ _ rfl .i64 .i64 most c.s1.under.length m rfl rfl Hmin.out ?_)
    go_region_law (refine step_bytes rfl _ _ rfl (.slice ao1 c.s0.there.length c1) c.s0.there rfl (Hown1.out _) (some ⟨g0, 0, none⟩) cap0 (c.s1.under.take m) _ rfl Hlt.out.symm (c.s0.there.length + m) Hqq.out (Hr1.out.drewN _) Hlen1.out ?_; intro ao' c' w2 own2 gr2 new2; rw [← Hf1.out] at gr2 new2; have blk2 := (H3.out.blk_grown gr2 rfl 2 (Nat.succ_ne_zero _) H3.out.rows.t0.lab).trans H3.out.blk; have et2 := cell_blk blk2 4; have ft2 := frozen_blk blk2 4; simp at et2; have eu2 := cell_blk blk2 7; simp [Hq1.out] at eu2; have Own2 := Lib.hid own2; have Gr2 := Lib.hid gr2; have New2 := Lib.hid new2; have Blk2 := Lib.hid blk2; clear own2 gr2 new2 blk2)
    all_goals
      go_wp2_with (first | (with_reducible refine wpList_slice_lo rfl _ _ 22 5 rfl Try.underlying22 i0 hi5 1 hz1 (some ⟨g0, 0, none⟩) c.s1.under.length cap0 rfl .i64 m rfl hle ?_; intro ao2 hao2; have Hao2 := Lib.hid hao2; clear hao2) | (at_builtin; go_loud (refine append_bytes rfl _ _ rfl (.slice none 0 0) [] rfl (World.ownsRow_nil _ _ _ _) ao2 (cap0 - m) (c.s1.under.drop m) _ rfl Hld.out.symm (c.s1.under.length - m) Hq0.out (Hdrop.out _ _ _ _ Gr2.out Hao2.out) Hlen2.out ?_); intro ao3 c3 w3 own3 gr3 new3; have blk3 := (gr3.block b (by simpa using lt_of_heap Blk2.out) (by simp [Value.ownBlock])).trans (set_blk Blk2.out 4 (.slice ao' (c.s0.there.length + m) c')); have eu3 := cell_blk blk3 7; have fu3 := frozen_blk blk3 7; have ec3 := cell_blk blk3 9; have ee3 := cell_blk blk3 6; have fe3 := frozen_blk blk3 6; simp [Hcl.out] at eu3 ec3 ee3; have Own3 := Lib.hid own3; have Gr3 := Lib.hid gr3; have New3 := Lib.hid new3; clear own3 gr3 new3 blk3))
      go_ret2
      refine ⟨rfl, ?_⟩
      have hfin := Hfin.out ao' ao3 c' c3 w2 w3 _ Own2.out Gr2.out New2.out Own3.out Gr3.out (fun g hg => (New3.out g hg).elim (fun q => by cases q) (fun q => by simpa using q))
      rw [if_neg (fun q => by cases q.1)] at hfin
      exact hfin
  · go_enter Try.func11, Try.ntmps11
    go_wp2_with fail
    refine Hof.out.mono ?_
    rintro e w1 ⟨rfl, n1, rfl⟩
    simp only [if_neg (show ¬ (1:Int) = 0 by decide)]
    go_wp2_with (with_reducible refine wpList_min rfl _ _ _ rfl .i64 .i64 most c.s1.under.length m rfl rfl Hmin.out ?_)
    go_region_law (refine step_bytes rfl _ _ rfl (.slice ao1 c.s0.there.length c1) c.s0.there rfl (Hown1.out _) (some ⟨g0, 0, none⟩) cap0 (c.s1.under.take m) _ rfl Hlt.out.symm (c.s0.there.length + m) Hqq.out (Hr1.out.drewN _) Hlen1.out ?_; intro ao' c' w2 own2 gr2 new2; rw [← Hf1.out] at gr2 new2; have blk2 := (H3.out.blk_grown gr2 rfl 2 (Nat.succ_ne_zero _) H3.out.rows.t0.lab).trans H3.out.blk; have et2 := cell_blk blk2 4; have ft2 := frozen_blk blk2 4; simp at et2; have eu2 := cell_blk blk2 7; simp [Hq1.out] at eu2; have Own2 := Lib.hid own2; have Gr2 := Lib.hid gr2; have New2 := Lib.hid new2; have Blk2 := Lib.hid blk2; clear own2 gr2 new2 blk2)
    all_goals
      go_wp2_with (first | (with_reducible refine wpList_slice_lo rfl _ _ 22 5 rfl Try.underlying22 i0 hi5 1 hz1 (some ⟨g0, 0, none⟩) c.s1.under.length cap0 rfl .i64 m rfl hle ?_; intro ao2 hao2; have Hao2 := Lib.hid hao2; clear hao2) | (at_builtin; go_loud (refine append_bytes rfl _ _ rfl (.slice none 0 0) [] rfl (World.ownsRow_nil _ _ _ _) ao2 (cap0 - m) (c.s1.under.drop m) _ rfl Hld.out.symm (c.s1.under.length - m) Hq0.out (Hdrop.out _ _ _ _ Gr2.out Hao2.out) Hlen2.out ?_); intro ao3 c3 w3 own3 gr3 new3; have blk3 := (gr3.block b (by simpa using lt_of_heap Blk2.out) (by simp [Value.ownBlock])).trans (set_blk Blk2.out 4 (.slice ao' (c.s0.there.length + m) c')); have eu3 := cell_blk blk3 7; have fu3 := frozen_blk blk3 7; have ec3 := cell_blk blk3 9; have ee3 := cell_blk blk3 6; have fe3 := frozen_blk blk3 6; simp [Hcl.out] at eu3 ec3 ee3; have Own3 := Lib.hid own3; have Gr3 := Lib.hid gr3; have New3 := Lib.hid new3; clear own3 gr3 new3 blk3))
      go_ret2
      refine ⟨rfl, ?_⟩
      have hfin := Hfin.out ao' ao3 c' c3 w2 w3 _ Own2.out Gr2.out New2.out Own3.out Gr3.out (fun g hg => (New3.out g hg).elim (fun q => by cases q) (fun q => by simpa using q))
      have e1 := Hen.out
      have e2 : en = false := by rw [← e1]; simp; omega
      subst e2
      rw [if_neg (fun q => by cases q.2)] at hfin
      exact hfin
  · go_enter Try.func11, Try.ntmps11
    go_wp2_with fail
    refine Hof.out.mono ?_
    rintro e w1 ⟨rfl, n1, rfl⟩
    simp only [if_neg (show ¬ (1:Int) = 0 by decide)]
    go_wp2_with (with_reducible refine wpList_min rfl _ _ _ rfl .i64 .i64 most c.s1.under.length m rfl rfl Hmin.out ?_)
    go_region_law (refine step_bytes rfl _ _ rfl (.slice ao1 c.s0.there.length c1) c.s0.there rfl (Hown1.out _) (some ⟨g0, 0, none⟩) cap0 (c.s1.under.take m) _ rfl Hlt.out.symm (c.s0.there.length + m) Hqq.out (Hr1.out.drewN _) Hlen1.out ?_; intro ao' c' w2 own2 gr2 new2; rw [← Hf1.out] at gr2 new2; have blk2 := (H3.out.blk_grown gr2 rfl 2 (Nat.succ_ne_zero _) H3.out.rows.t0.lab).trans H3.out.blk; have et2 := cell_blk blk2 4; have ft2 := frozen_blk blk2 4; simp at et2; have eu2 := cell_blk blk2 7; simp [Hq1.out] at eu2; have Own2 := Lib.hid own2; have Gr2 := Lib.hid gr2; have New2 := Lib.hid new2; have Blk2 := Lib.hid blk2; clear own2 gr2 new2 blk2)
    all_goals
      go_wp2_with (first | (with_reducible refine wpList_slice_lo rfl _ _ 22 5 rfl Try.underlying22 i0 hi5 1 hz1 (some ⟨g0, 0, none⟩) c.s1.under.length cap0 rfl .i64 m rfl hle ?_; intro ao2 hao2; have Hao2 := Lib.hid hao2; clear hao2) | (at_builtin; go_loud (refine append_bytes rfl _ _ rfl (.slice none 0 0) [] rfl (World.ownsRow_nil _ _ _ _) ao2 (cap0 - m) (c.s1.under.drop m) _ rfl Hld.out.symm (c.s1.under.length - m) Hq0.out (Hdrop.out _ _ _ _ Gr2.out Hao2.out) Hlen2.out ?_); intro ao3 c3 w3 own3 gr3 new3; have blk3 := (gr3.block b (by simpa using lt_of_heap Blk2.out) (by simp [Value.ownBlock])).trans (set_blk Blk2.out 4 (.slice ao' (c.s0.there.length + m) c')); have eu3 := cell_blk blk3 7; have fu3 := frozen_blk blk3 7; have ec3 := cell_blk blk3 9; have ee3 := cell_blk blk3 6; have fe3 := frozen_blk blk3 6; simp [Hcl.out] at eu3 ec3 ee3; have Own3 := Lib.hid own3; have Gr3 := Lib.hid gr3; have New3 := Lib.hid new3; clear own3 gr3 new3 blk3))
      go_ret2
      refine ⟨rfl, ?_⟩
      have hfin := Hfin.out ao' ao3 c' c3 w2 w3 _ Own2.out Gr2.out New2.out Own3.out Gr3.out (fun g hg => (New3.out g hg).elim (fun q => by cases q) (fun q => by simpa using q))
      have e1 := Hen.out
      have e0 : c.s1.under.length - m = 0 := by omega
      have e2 : en = true := by rw [← e1]; simp; omega
      subst e2
      rw [if_pos (by simp)] at hfin
      rw [e0] at hfin
      exact hfin

end Go.Proofs.Ytibijonjjkknoaa
