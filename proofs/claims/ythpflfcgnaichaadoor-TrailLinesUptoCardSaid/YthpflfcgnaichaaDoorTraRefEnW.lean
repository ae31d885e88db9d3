/-
The reference's entry: what it answers to any line.
-/
import Derived.Test.YthpflfcgnaichaaDoorTraRefEnt
set_option linter.unusedVariables false
set_option linter.unusedSimpArgs false
namespace Go.Proofs.YthpflfcgnaichaaDoor
open Go Go.RowKit

theorem results_ent2 {fn : Func} {w : World} {b : Nat} {e : Ent} {ok : Bool} {tmps : Array Value} (h : fn.results = #[.cell 2 32, .tmp 3]) (h2 : tmps[2]? = some (.pointer (some ⟨b, 0, none⟩))) (h3 : tmps[3]? = some (.bool ok)) (hb : w.heap[b]? = some (EO2 e)) :
    (results fn tmps).run Tryd.prog w = .ok (.tuple #[.agg e.cells.toArray, .bool ok]) w := by
  have hl := run_loadVar_mid (P := Tryd.prog) w b 0 32 e.cells _ (ent_range2 hb) Tryd.underlying32 rfl (ent_size2 e)
  rw [Array.getElem?_eq_some_iff] at h2 h3
  obtain ⟨l2, e2⟩ := h2
  obtain ⟨l3, e3⟩ := h3
  simp [results, h, asAddr, Array.getD, l2, e2, l3, e3, hl]

/-- Ahead of a round of the cut at blanks, or behind its last. -/
def CutW (w1 wr : World) (s : ByteArray) (v : Value) (ws : List ByteArray) (f k : Nat) : Prop :=
  SW w1 wr v ws ∧ ((k ≤ s.size ∧ WInv s ws f k) ∨ (k = s.size + 1 ∧ wordsL s.data.toList = ws.map (·.data.toList)))

theorem meas_cut2 {n k : Nat} (h : k ≤ n) (hw : wrap64 ((k : Int) + 1) = (k : Int) + 1) : n + 1 - (intOf (.int .i64 (wrap64 ((k : Int) + 1)))).toNat < n + 1 - (intOf (.int .i64 (k : Int))).toNat := by
  rw [hw]
  simp only [intOf]
  omega

theorem sw_alloc {w : World} {T : TypeId} {v : Value} {n : Nat} {xs : List Value} (h : w.ownsRow 0 T 1 v n xs) (o : Obj) : (w.alloc o).ownsRow 0 T 1 v n xs := ownsRow_frame h fun g hg => Below.heap_alloc _ _ _ (h.lt g hg).2

theorem sw_form {w wr : World} {v : Value} {ws : List ByteArray} (h : SW w wr v ws) : ∃ ao c, v = .slice ao ws.length c := by
  rcases h.row.2 with ⟨hv, hn⟩ | ⟨g, cap, cur, hv, _⟩
  · rw [hv, hn]; exact ⟨none, 0, rfl⟩
  · exact ⟨_, _, hv⟩

theorem sw_some {w wr : World} {v : Value} {ws : List ByteArray} (h : SW w wr v ws) (h0 : 0 < ws.length) : ∃ g c, v = .slice (some ⟨g, 0, none⟩) ws.length c ∧ ∀ i x, ws[i]? = some x → wr.cell? ⟨g, i, none⟩ = some (.string x) := by
  rcases h.row.2 with ⟨hv, hn⟩ | ⟨g, cap, cur, hv, _⟩
  · omega
  · refine ⟨g, _, hv, fun i x hi => ?_⟩
    have h1 := h.row.cells (g := g) (by rw [hv]; rfl) i (.string x) (by unfold strVs; rw [List.getElem?_map, hi]; rfl)
    have e1 : ((⟨g, 0, none⟩ : Addr).add i) = ⟨g, i, none⟩ := by
      rw [Addr.add_mid, Nat.zero_add]
    rw [e1] at h1
    exact h1

/-- The fields are read, from the parts on. -/
theorem read_first {w wr : World} {ps : List ByteArray} {g c : Nat} (hb : Below (w.alloc (EO2 Ent.zero)).heap.size (w.alloc (EO2 Ent.zero)) wr) (hl : ps.length = 15) (hs : ∀ x ∈ ps, x.size ≤ 10000000) (hrow : ∀ i x, ps[i]? = some x → wr.cell? ⟨g, i, none⟩ = some (.string x)) :
    RS w ((wr.alloc (.cells #[.slice (some ⟨g, 0, none⟩) 15 c, .int .i64 0, .bool false] 133)).alloc (EO2 Ent.zero)) wr.heap.size g (wr.heap.size + 1) ps c 0 Ent.zero false := by
  have e0 : (w.alloc (EO2 Ent.zero)).heap.size = w.heap.size + 1 := by simp
  have e1 : (wr.alloc (.cells #[.slice (some ⟨g, 0, none⟩) 15 c, .int .i64 0, .bool false] 133)).heap.size = wr.heap.size + 1 := by simp
  have hsz := hb.size
  have hx : ps[0]? = some (part ps 0) := part_at (by omega)
  have hg : g < wr.heap.size := World.block_lt_of_cell? wr _ (hrow 0 _ hx)
  have hbw : Below w.heap.size w wr := ((Below.refl _ w).alloc (Nat.le_refl _) _).trans (hb.mono (by omega))
  refine ⟨⟨(hbw.alloc (by omega) _).alloc (by omega) _, ?_, fun i x hi => ?_, hl, hs, by omega, by simp; omega, by omega⟩, ?_, ?_, by omega, by omega, by omega, by omega, by omega, rdi_first ps⟩
  · rw [alloc_old _ (by omega)]
    exact alloc_new _
  · rw [World.cell?_alloc_lt _ _ _ (by show g < _; omega), World.cell?_alloc_lt _ _ _ hg]
    exact hrow i x hi
  · rw [← e1]
    exact alloc_new _
  · rw [alloc_old _ (by omega), alloc_old _ (by omega), hb.block _ (by omega)]
    exact alloc_new _

set_option maxHeartbeats 4000000 in
set_option maxRecDepth 20000 in
theorem rentry_c (w : World) (s : ByteArray) (hs : s.size ≤ 10000000) : Calls Tryd.prog 44 #[.string s] w (EntryPost w s) := by
  obtain ⟨n, hn⟩ : ∃ n, n = s.size := ⟨_, rfl⟩
  have Hn := Lib.hid hn
  have Hs := Lib.hid hs
  have H0 := Lib.hid (show CutW (w.alloc (EO2 Ent.zero)) (w.alloc (EO2 Ent.zero)) s (.slice none 0 0) [] 0 0 from ⟨SW.first _, .inl ⟨Nat.zero_le _, winv_first s⟩⟩)
  clear hn hs
  go_enter Tryd.func44, Tryd.ntmps44
  go_wp2
  go_loopw [4, 5, 6] (fun pv fv kv wr => ∃ (ao : Option Addr) (m c f k : Nat) (ws : List ByteArray), pv = .slice ao m c ∧ fv = .int .i64 (f : Int) ∧ kv = .int .i64 (k : Int) ∧ Hid (m = ws.length ∧ CutW (w.alloc (EO2 Ent.zero)) wr s (.slice ao m c) ws f k)) (fun _ _ kv _ => n + 1 - (intOf kv).toNat)
  case atStart => exact ⟨none, 0, 0, 0, 0, [], rfl, rfl, rfl, Lib.hid ⟨rfl, H0.out⟩⟩
  case round =>
    obtain ⟨ao, m, c, f, k, ws, rfl, rfl, rfl, H⟩ := hrel
    obtain ⟨hm, hsw, hph⟩ := H.out
    have hn : n = s.size := Hn.out
    clear H H0
    rcases hph with ⟨hk, hi⟩ | ⟨hk, heq⟩
    · have hle : k ≤ n := by omega
      have b0 : (k : Int) ≤ (n : Int) := by omega
      have b0' : (k : Int) ≤ (s.size : Int) := by omega
      have hfk := hi.fk
      have b1 : (0 : Int) ≤ (f : Int) := by omega
      have b2 : (f : Int) ≤ (k : Int) := by omega
      have hws := winv_len hi
      have hk8 : k ≤ 4000000000 := by have := Hs.out; omega
      have wk : wrap64 ((k : Int) + 1) = (k : Int) + 1 := by unfold wrap64; omega
      have Hms := Lib.hid (meas_cut2 hle wk)
      have Hgo := Lib.hid (go_step wk)
      have Hlen := Lib.hid (show ws.length ≤ 100000000 ∧ m + 1 = ws.length + 1 from by have := Hs.out; omega)
      have Hrow := Lib.hid (show wr.ownsRow 0 9 1 (.slice ao m c) ws.length (strVs ws) from hsw.row)
      have Happ := Lib.hid (fun (z : ByteArray) (ao' : Option Addr) (c' : Nat) (w2 : World) (o : Obj) (hr : w2.ownsRow 0 9 1 (.slice ao' (m + 1) c') (m + 1) (strVs (ws ++ [z]))) (hg : (wr.alloc o).grownBy w2 (Value.slice ao m c).ownBlock) (hnw : ∀ g, (Value.slice ao' (m + 1) c').ownBlock = some g → (Value.slice ao m c).ownBlock = some g ∨ (wr.alloc o).heap.size ≤ g) =>
        show m + 1 = (ws ++ [z]).length ∧ SW (w.alloc (EO2 Ent.zero)) w2 (.slice ao' (m + 1) c') (ws ++ [z]) from by
          have e1 : m + 1 = (ws ++ [z]).length := by rw [List.length_append, hm]; rfl
          rw [e1] at hr ⊢
          exact ⟨rfl, hsw.app (v' := .slice ao' (ws ++ [z]).length c') hr hg (e1 ▸ hnw)⟩)
      have hnews : ∀ z : ByteArray, (wr.alloc (.cells #[.string z] 9)).cell? ⟨wr.heap.size, 0, none⟩ = some (.string z) := fun z => by rw [World.cell?_alloc_new]; rfl
      have Hnews := Lib.hid hnews
      clear hnews
      by_cases hkn : k = n
      · have t1 : ((k : Int) == (s.size : Int)) = true := by rw [beq_iff_eq]; omega
        have Hend := Lib.hid (show wordsL s.data.toList = (ws ++ [s.extract f k]).map (·.data.toList) from by
          have e2 : k = s.size := by omega
          rw [e2] at hi ⊢
          exact winv_end hi)
        have Hk1 := Lib.hid (show k + 1 = s.size + 1 by omega)
        clear hm hsw hk hi hn hle hfk hws hk8 wk hkn
        go_wp2_with (at_builtin; refine strAppend rfl _ _ rfl (.slice ao m c) ws rfl (Lib.hid (sw_alloc Hrow.out _)).out wr.heap.size (s.extract f k) rfl (Hnews.out _) Hlen.out.1 (m + 1) Hlen.out.2 ?_; intro ao' c' w2 hr2 hg2 hn2; have HN := Lib.hid (Happ.out _ ao' c' w2 _ hr2 hg2 hn2); clear hr2 hg2 hn2)
        go_roundw
        case rel => exact ⟨ao', m + 1, c', k + 1, k + 1, ws ++ [s.extract f k], rfl, Hgo.out, Hgo.out, Lib.hid ⟨HN.out.1, HN.out.2, .inr ⟨Hk1.out, Hend.out⟩⟩⟩
        case measure => exact Hms.out
      · obtain ⟨ch, hc⟩ : ∃ ch, s.data.toList[k]? = some ch := ⟨s.data.toList[k]'(by rw [size_list]; omega), List.getElem?_eq_getElem _⟩
        have hidx := idx_run' (k : Int) rfl hc
        have t1 : ((k : Int) == (s.size : Int)) = false := by rw [beq_eq_false_iff_ne]; omega
        have b4 : (k : Int) < (s.size : Int) := by omega
        by_cases h32 : ch.toNat = 32
        · have t2 : ((ch.toNat : Int) == 32) = true := by rw [beq_iff_eq]; omega
          have Hend := Lib.hid (winv_blank hi hc h32)
          have Hk1 := Lib.hid (show k + 1 ≤ s.size by omega)
          clear hm hsw hk hi hn hle hfk hws hk8 wk hkn hc h32
          go_wp2_with (at_builtin; refine strAppend rfl _ _ rfl (.slice ao m c) ws rfl (Lib.hid (sw_alloc Hrow.out _)).out wr.heap.size (s.extract f k) rfl (Hnews.out _) Hlen.out.1 (m + 1) Hlen.out.2 ?_; intro ao' c' w2 hr2 hg2 hn2; have HN := Lib.hid (Happ.out _ ao' c' w2 _ hr2 hg2 hn2); clear hr2 hg2 hn2)
          go_roundw
          case rel => exact ⟨ao', m + 1, c', k + 1, k + 1, ws ++ [s.extract f k], rfl, Hgo.out, Hgo.out, Lib.hid ⟨HN.out.1, HN.out.2, .inl ⟨Hk1.out, Hend.out⟩⟩⟩
          case measure => exact Hms.out
        · have t2 : ((ch.toNat : Int) == 32) = false := by rw [beq_eq_false_iff_ne]; omega
          have Hend := Lib.hid (show m = ws.length ∧ CutW (w.alloc (EO2 Ent.zero)) wr s (.slice ao m c) ws f (k + 1) from ⟨hm, hsw, .inl ⟨by omega, winv_plain hi hc h32⟩⟩)
          clear hm hsw hk hi hn hle hfk hws hk8 wk hkn hc h32 Happ Hrow Hlen Hnews
          go_wp2
          go_roundw
          case rel => exact ⟨ao, m, c, f, k + 1, ws, rfl, rfl, Hgo.out, Hend⟩
          case measure => exact Hms.out
    · have b0 : (s.size : Int) < (k : Int) := by omega
      have Hz := Lib.hid (show wr.heap[w.heap.size]? = some (EO2 Ent.zero) from by rw [hsw.below.block _ (by simp)]; exact alloc_new _)
      have Hb := Lib.hid (show Below w.heap.size w wr from ((Below.refl _ w).alloc (Nat.le_refl _) _).trans (hsw.below.mono (by simp)))
      have Hps := Lib.hid heq.symm
      by_cases hl : ws.length = 15
      · obtain ⟨g, c1, hv, hcell⟩ := sw_some hsw (by omega)
        rw [← hm] at hv
        simp only [Value.slice.injEq, true_and] at hv
        obtain ⟨rfl, rfl⟩ := hv
        have hm15 : m = 15 := by omega
        subst hm15
        have HR := Lib.hid (read_first (c := c) hsw.below hl (fun x hx => by
          have h1 := words_len s.data.toList x.data.toList (by rw [heq]; exact List.mem_map_of_mem hx)
          rw [size_list, size_list] at h1
          have := Hs.out
          omega) hcell)
        have Hl := Lib.hid hl
        clear hm hsw hk heq hn hl hcell
        go_upto_region 13 with (fail)
        rename_i K1 hK1
        refine re0_step (w0 := w) ?hf HR.out ?_
        case hf => exact ⟨rfl, rfl, rfl, rfl, rfl⟩
        intro a1 w1 e1 bad1 hf1 hR1
        refine hK1 _ _ ?_
        refine wp_seq ?_
        refine re1_step hf1 hR1 ?_
        clear hf1 hR1
        intro a2 w2 e2 bad2 hf2 hR2
        refine wp_seq ?_
        refine re2_step hf2 hR2 ?_
        clear hf2 hR2
        intro a3 w3 e3 bad3 hf3 hR3
        refine wp_seq ?_
        refine re3_step hf3 hR3 ?_
        clear hf3 hR3
        intro a4 w4 e4 bad4 hf4 hR4
        refine wp_seq ?_
        refine re4_step hf4 hR4 ?_
        clear hf4 hR4
        intro a5 w5 e5 bad5 hf5 hR5
        refine wp_seq ?_
        refine re5_step hf5 hR5 ?_
        clear hf5 hR5
        intro a6 w6 e6 bad6 hf6 hR6
        refine wp_seq ?_
        refine re6_step hf6 hR6 ?_
        clear hf6 hR6
        intro a7 w7 e7 bad7 hf7 hR7
        refine wp_seq ?_
        refine re7_step hf7 hR7 ?_
        clear hf7 hR7
        intro a8 w8 e8 bad8 hf8 hR8
        refine wp_seq ?_
        refine re8_step hf8 hR8 ?_
        clear hf8 hR8
        intro a9 w9 e9 bad9 hf9 hR9
        refine wp_seq ?_
        refine re9_step hf9 hR9 ?_
        clear hf9 hR9
        intro a10 w10 e10 bad10 hf10 hR10
        refine wp_seq ?_
        refine re10_step hf10 hR10 ?_
        clear hf10 hR10
        intro a11 w11 e11 bad11 hf11 hR11
        refine wp_seq ?_
        refine re11_step hf11 hR11 ?_
        clear hf11 hR11
        intro a12 w12 e12 bad12 hf12 hR12
        refine wp_seq ?_
        refine re12_step hf12 hR12 ?_
        clear hf12 hR12
        intro a13 w13 e13 bad13 hf13 hR13
        refine wp_seq ?_
        refine re13_step hf13 hR13 ?_
        clear hf13 hR13
        intro a14 w14 e14 bad14 hf14 hR14
        refine wp_seq ?_
        refine re14_step hf14 hR14 ?_
        clear hf14 hR14
        intro a15 w15 e15 bad15 hf15 hR15

        refine wp_seq ?_
        refine re15_step hf15 hR15 ?_
        clear hf15 hR15
        intro a16 w16 hf16 hR16
        refine wp_seq ?_
        have Hrdi := Lib.hid (rdi_end Hps.out Hl.out hR16.rdi)
        refine re16_step hf16 hR16 ?_
        intro a17 w17 h1 h2 h3 h4 h5
        refine wp_ret ?_
        refine ⟨h1, _, results_ent2 rfl h2 h3 h5, ?_⟩
        exact ⟨e15, okR e15 bad15, rfl, h4, Hrdi.out.1, Hrdi.out.2⟩
      · have hne : ((m : Int) != 15) = true := by rw [bne_iff_ne]; omega
        have Hno := Lib.hid (entry_len heq.symm hl)
        have Ht : wr.there w.heap.size 0 15 := fun j hj => by
          have h1 := cell_blk Hz.out (0 + j)
          refine ⟨?_, frozen_blk Hz.out _⟩
          rw [h1, Array.getElem?_eq_getElem (by show 0 + j < 15; omega)]
          rfl
        have HE := Lib.hid (show Below w.heap.size w (wr.setCells w.heap.size 0 Ent.zero.cells) ∧ (wr.setCells w.heap.size 0 Ent.zero.cells).heap[w.heap.size]? = some (EO2 Ent.zero) from by
          have hm := mod_setCells (F := fun k => k = w.heap.size) (a := wr) (pe := w.heap.size) (fun _ => rfl) Ent.zero.cells 0 wr (Mod.refl _ _)
          exact ⟨Hb.out.trans (hm.below Hb.out.size (fun k hk => by omega)), (setCells_blk Ent.zero.cells 0 wr _ Hz.out).trans (congrArg (fun c => some (Obj.cells c 32 (0, 0))) (writeAt_all (old := Ent.zero.cells) (new := Ent.zero.cells) rfl))⟩)
        have Hsz := Lib.hid (ent_size2 Ent.zero)
        have Hone := Lib.hid (ent_one Ent.zero)
        clear hm hsw hk heq hn hl Hb Hps
        go_wp2_with (refine wpList_store_mid rfl 32 _ _ rfl w.heap.size 0 _ rfl rfl Ht Hsz.out Hone.out ?_)
        refine bodyPost_ret (results_ent2 (e := Ent.zero) (ok := false) rfl rfl rfl HE.out.2) rfl ?_
        exact ⟨Ent.zero, false, rfl, HE.out.1, nofun, fun _ => Hno.out⟩

end Go.Proofs.YthpflfcgnaichaaDoor
