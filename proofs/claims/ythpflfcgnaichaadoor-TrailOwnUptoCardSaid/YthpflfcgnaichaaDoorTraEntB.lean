/-
The program's entry: what it answers to any line.
-/
import Derived.Test.YthpflfcgnaichaaDoorTraEntA
set_option linter.unusedVariables false
set_option linter.unusedSimpArgs false
namespace Go.Proofs.YthpflfcgnaichaaDoor
open Go Go.RowKit

theorem words_len (l : List UInt8) : ∀ p ∈ wordsL l, p.length ≤ l.length := by
  induction l with
  | nil => intro p hp; simp [wordsL] at hp; subst hp; exact Nat.le_refl _
  | cons c r ih =>
    intro p hp
    by_cases h : c.toNat = 32
    · have hc : c = 32 := by apply UInt8.toNat_inj.1; rw [h]; rfl
      rw [hc, wordsL_sp] at hp
      rcases List.mem_cons.1 hp with rfl | hp
      · exact Nat.zero_le _
      · exact Nat.le_trans (ih p hp) (Nat.le_succ _)
    · obtain ⟨q, qs, hw⟩ := words_some r
      rw [wordsL_ch h hw] at hp
      rw [hw] at ih
      rcases List.mem_cons.1 hp with rfl | hp
      · have := ih q (List.mem_cons_self ..)
        simp only [List.length_cons]
        omega
      · exact Nat.le_trans (ih p (List.mem_cons_of_mem _ hp)) (Nat.le_succ _)

theorem txtB_len {s : ByteArray} {n : Nat} (h : s.size ≤ n) : (txtB s).size ≤ n := by
  have h1 : (txtB s).size = (txtS s.data.toList).length := rfl
  have h2 : s.data.toList.length = s.size := size_list s
  rw [h1]
  unfold txtS
  split
  · exact Nat.zero_le _
  · have := txt_len s.data.toList
    omega

theorem txtB_told {s t : ByteArray} (h : s.data.toList = toldL t.data.toList) : txtB s = t := by
  refine ByteArray.ext (Array.ext' ?_)
  show (txtS s.data.toList).toArray.toList = t.data.toList
  rw [h, txt_told]

theorem decE_fit {ps : List ByteArray} (h : ∀ i, (part ps i).size ≤ 40000000) : (decE ps).Fit :=
  ⟨atoiV_i64 _, atoiV_i64 _, atoiV_i64 _, puintV_lt _, puintV_lt _, atoiV_i64 _, atoiV_i64 _, atoiV_i64 _, atoiV_i64 _, txtB_len (h 3), txtB_len (h 4), txtB_len (h 5), txtB_len (h 10), txtB_len (h 12), txtB_len (h 13)⟩

/-- What is told is read back. -/
theorem decE_back {ps : List ByteArray} {e : Ent} (h : ps.map (·.data.toList) = (partsB e).map (·.data.toList)) (hf : e.Fit) (hm : e.May) : decE ps = e := by
  have hp : ∀ (i : Nat) (x : ByteArray), (partsB e)[i]? = some x → (part ps i).data.toList = x.data.toList := fun i x hx => by
    have h1 : (ps.map (·.data.toList))[i]? = some x.data.toList := by rw [h, List.getElem?_map, hx]; rfl
    rw [List.getElem?_map] at h1
    cases hq : ps[i]? with
    | none => rw [hq] at h1; cases h1
    | some y =>
      rw [hq] at h1
      unfold part
      rw [List.getD_eq_getElem?_getD, hq]
      simpa using h1
  have i0 := atoiV_back (hp 0 _ rfl) hm.number hf.number.2
  have i1 := atoiV_back (hp 1 _ rfl) hm.version hf.version.2
  have i2 := atoiV_back (hp 2 _ rfl) hm.epoch hf.epoch.2
  have i3 := txtB_told (hp 3 _ rfl)
  have i4 := txtB_told (hp 4 _ rfl)
  have i5 := txtB_told (hp 5 _ rfl)
  have i6 := puintV_back (hp 6 _ rfl) hf.a
  have i7 := puintV_back (hp 7 _ rfl) hf.b
  have i8 := atoiV_back (hp 8 _ rfl) hm.kind hf.kind.2
  have i9 := atoiV_back (hp 9 _ rfl) hm.status hf.status.2
  have i10 := txtB_told (hp 10 _ rfl)
  have i11 := atoiV_back (hp 11 _ rfl) hm.rule hf.rule.2
  have i12 := txtB_told (hp 12 _ rfl)
  have i13 := txtB_told (hp 13 _ rfl)
  have i14 := atoiV_back (hp 14 _ rfl) hm.fin hf.fin.2
  unfold decE
  rw [i0, i1, i2, i3, i4, i5, i6, i7, i8, i9, i10, i11, i12, i13, i14]

/-- What entry answers: ok just where the line says the entry, and where it says any. -/
def EntryPost (w : World) (s : ByteArray) (r : Ending) (w' : World) : Prop :=
  ∃ (e : Ent) (ok : Bool), r = .returned (.tuple #[.agg #[.int .i64 e.number, .int .i64 e.version, .int .i64 e.epoch, .string e.method, .string e.host, .string e.path, .int .u64 (e.a : Int), .int .u64 (e.b : Int), .int .i64 e.kind, .int .i64 e.status, .string e.route, .int .i64 e.rule, .string e.service, .string e.endp, .int .i64 e.fin], .bool ok]) ∧
    Below w.heap.size w w' ∧ (ok = true → IsL s.data.toList e) ∧ (ok = false → ∀ e0, ¬ IsL s.data.toList e0)

theorem nl_list (s : ByteArray) : (s ++ (⟨#[10]⟩ : ByteArray)).data.toList = s.data.toList ++ [10] := by
  rw [cat_list]

theorem ok_is {e : Ent} {s : ByteArray} (hf : e.Fit) : okOf e s = true → IsL s.data.toList e := fun h => by
  unfold okOf at h
  rw [Bool.and_eq_true, decide_eq_true_eq, decide_eq_true_eq] at h
  obtain ⟨h1, h2⟩ := h
  unfold lineOf at h1 h2
  split at h1
  · rename_i hm
    rw [if_pos hm] at h2
    refine ⟨hf, hm.1, hm.2, ?_⟩
    have := congrArg (fun b : ByteArray => b.data.toList) h2
    rw [← nl_list s]
    exact this
  · cases h1

theorem is_ok {e : Ent} {s : ByteArray} (h : IsL s.data.toList e) : okOf e s = true := by
  unfold okOf lineOf
  rw [if_pos ⟨h.may, h.num⟩, Bool.and_eq_true, decide_eq_true_eq, decide_eq_true_eq]
  refine ⟨rfl, ByteArray.ext (Array.ext' ?_)⟩
  rw [nl_list, ← h.line]

theorem entry_dec {ps : List ByteArray} {s : ByteArray} (hps : ps.map (·.data.toList) = wordsL s.data.toList) (hok : okOf (decE ps) s = false) : ∀ e0, ¬ IsL s.data.toList e0 := fun e0 h => by
  have h1 := decE_back (hps.trans h.words) h.fit (may_parts h.may h.num)
  rw [h1, is_ok h] at hok
  cases hok

theorem entry_len {ps : List ByteArray} {s : ByteArray} (hps : ps.map (·.data.toList) = wordsL s.data.toList) (hl : ¬ ps.length = 15) : ∀ e0, ¬ IsL s.data.toList e0 := fun e0 h => by
  have h1 := congrArg List.length (hps.trans h.words)
  rw [List.length_map, List.length_map] at h1
  exact hl h1

theorem en_first {w : World} {ps : List ByteArray} (hg : Glob w) (hl : ps.length = 15) (hs : ∀ x ∈ ps, x.size ≤ 40000000) :
    EN w ((((w.alloc ZObj).alloc (.cells (ps.map Value.string).toArray 9)).alloc (.cells #[.slice (some ⟨w.heap.size + 1, 0, none⟩) 15 15] 59)).alloc (.cells #[cloV (w.heap.size + 2)] 78)) (w.heap.size + 2) (w.heap.size + 3) (w.heap.size + 1) ps 0 := by
  have e1 : (w.alloc ZObj).heap.size = w.heap.size + 1 := by simp
  have e2 : ((w.alloc ZObj).alloc (.cells (ps.map Value.string).toArray 9)).heap.size = w.heap.size + 2 := by simp
  have e3 : (((w.alloc ZObj).alloc (.cells (ps.map Value.string).toArray 9)).alloc (.cells #[.slice (some ⟨w.heap.size + 1, 0, none⟩) 15 15] 59)).heap.size = w.heap.size + 3 := by simp
  refine ⟨hg, ((((Below.refl _ w).alloc (Nat.le_refl _) _).alloc (by omega) _).alloc (by omega) _).alloc (by omega) _, ?_, ?_, fun i x hi => ?_, hl, hs, by omega, by omega, by omega, by simp, ?_, by omega⟩
  · refine (alloc_old _ (by omega)).trans ?_
    rw [← e2]
    exact alloc_new _
  · rw [← e3]
    exact alloc_new _
  · rw [World.cell?_alloc_lt _ _ _ (by show w.heap.size + 1 < _; omega), World.cell?_alloc_lt _ _ _ (by show w.heap.size + 1 < _; omega), ← e1, World.cell?_alloc_new]
    rw [List.getElem?_toArray, List.getElem?_map, hi]
    rfl
  · rw [alloc_old _ (by omega), alloc_old _ (by omega), alloc_old _ (by omega)]
    exact alloc_new _

theorem results_ent {fn : Func} {w : World} {b : Nat} {e : Ent} {ok : Bool} {tmps : Array Value} (h : fn.results = #[.cell 2 38, .tmp 3]) (h2 : tmps[2]? = some (.pointer (some ⟨b, 0, none⟩))) (h3 : tmps[3]? = some (.bool ok)) (hb : w.heap[b]? = some (EO e)) :
    (results fn tmps).run Tryd.prog w = .ok (.tuple #[.agg e.cells.toArray, .bool ok]) w := by
  have hl := run_loadVar_mid (P := Tryd.prog) w b 0 38 e.cells _ (ent_range hb) Tryd.underlying38 rfl (ent_size e)
  rw [Array.getElem?_eq_some_iff] at h2 h3
  obtain ⟨l2, e2⟩ := h2
  obtain ⟨l3, e3⟩ := h3
  simp [results, h, asAddr, Array.getD, l2, e2, l3, e3, hl]

set_option maxHeartbeats 4000000 in
set_option maxRecDepth 20000 in
theorem entry_c (w : World) (s : ByteArray) (hs : s.size ≤ 40000000) (hg : Glob w) (htab : Tab w) : Calls Tryd.prog 43 #[.string s] w (EntryPost w s) := by
  obtain ⟨m, hm⟩ := hg.max
  obtain ⟨ps, hps⟩ : ∃ ps, ps = Lib.splitB spB 0 (Lib.countB s spB) s := ⟨_, rfl⟩
  have hw := words_split s.size s (Nat.le_refl _)
  have hlen := split_len s
  rw [← hps] at hw hlen
  have hsm : ∀ x ∈ ps, x.size ≤ 40000000 := fun x hx => by
    have := words_len s.data.toList x.data.toList (by rw [← hw]; exact List.mem_map_of_mem hx)
    rw [size_list, size_list] at this
    omega
  obtain ⟨n, hn⟩ : ∃ n : Nat, n = ps.length := ⟨_, rfl⟩
  have Hsp := Lib.hid (show Calls Tryd.prog 58 #[.string s, .string ⟨#[32]⟩] (w.alloc ZObj) fun r w' => r = .returned (.slice (some ⟨w.heap.size + 1, 0, none⟩) n n) ∧ w' = (w.alloc ZObj).alloc (.cells (ps.map Value.string).toArray 9) from
    (Tryd.strings_Split s spB m (w.alloc ZObj) (by omega) (by rw [World.cell?_alloc_lt _ _ _ (World.block_lt_of_cell? w _ hm)]; exact hm) (by decide)).mono fun r w' ⟨hr, hw⟩ => ⟨by rw [hr, hn, hlen]; simp, by rw [hw, hps]⟩)
  have hmf : ∀ (fn : Fn) (first cap : Array Value) (w : World), (Instr.makeFunc fn first cap).run Tryd.prog w = .ok (.func fn first cap) w := fun _ _ _ _ => rfl
  have hsf : ∀ (W : World) (a : Addr) (fn : Fn) (f c : Array Value), (store a (.func fn f c)).run Tryd.prog W = stored Tryd.prog W a (.func fn f c) .plain := fun W a fn f c => run_store _ W a _ _ rfl
  have He1 := Lib.hid (show (w.alloc ZObj).heap.size = w.heap.size + 1 by simp)
  by_cases hl : ps.length = 15
  · have hn15 : n = 15 := by omega
    subst hn15
    have HE := Lib.hid (en_first hg hl hsm)
    have Hw := Lib.hid hw
    have Hfit := Lib.hid (show (decE ps).Fit from decE_fit fun i => by
      unfold part
      rw [List.getD_eq_getElem?_getD]
      cases hq : ps[i]? with
      | none => exact Nat.zero_le _
      | some y => exact hsm y (List.mem_of_getElem? hq))
    have Htab := Lib.hid htab
    have Hs := Lib.hid hs
    clear hm hps hw hlen hsm hn hl hs hg htab
    go_enter Tryd.func43, Tryd.ntmps43
    go_wp2_with fail
    refine Hsp.out.mono ?_
    rintro r w1 ⟨rfl, hw⟩
    subst hw
    go_wp2_with fail
    rename_i K1 hK1
    refine en7_step (w0 := w) (pb := w.heap.size + 2) (nb := w.heap.size + 3) (g := w.heap.size + 1) (ps := ps) (s := s) ⟨rfl, rfl, rfl, rfl, rfl, rfl, rfl, rfl⟩ HE.out ?_
    intro a1 w1 pe hf h hp
    refine hK1 _ _ ?_
    refine wp_seq ?_
    refine en8_step hf h hp ?_
    clear hf h hp
    intro a2 w2 hf h hp
    refine wp_seq ?_
    refine en9_step hf h hp ?_
    clear hf h hp
    intro a3 w3 hf h hp
    refine wp_seq ?_
    have hq : EQ w w3 pe (decE ps) := ⟨h.below, h.res, hp.ent, hp.ge⟩
    refine en10_step Htab.out Hfit.out hf hq ?_
    clear hf h hp hq
    intro a4 w4 hf hq
    refine wp_seq ?_
    refine en11_step Hs.out hf hq ?_
    intro a5 w5 h1 h2 h3 h4 h5
    refine wp_ret ?_
    refine ⟨h1, _, results_ent (e := decE ps) (ok := okOf (decE ps) s) rfl h2 h3 h5, ?_⟩
    exact ⟨decE ps, okOf (decE ps) s, rfl, h4, ok_is Hfit.out, entry_dec Hw.out⟩
  · have hne : ((n : Int) != 15) = true := by rw [bne_iff_ne]; omega
    have Hno := Lib.hid (entry_len hw hl)
    have HB := Lib.hid (show Below w.heap.size w (((w.alloc ZObj).alloc (.cells (ps.map Value.string).toArray 9)).alloc (.cells #[.slice (some ⟨w.heap.size + 1, 0, none⟩) n n] 59)) from ((((Below.refl _ w).alloc (Nat.le_refl _) _).alloc (by simp) _).alloc (by simp; omega) _))
    have Hz := Lib.hid (show (((w.alloc ZObj).alloc (.cells (ps.map Value.string).toArray 9)).alloc (.cells #[.slice (some ⟨w.heap.size + 1, 0, none⟩) n n] 59)).heap[w.heap.size]? = some ZObj from by
      rw [alloc_old _ (by simp; omega), alloc_old _ (by simp)]
      exact alloc_new _)
    have hnp : (0 : Int) ≤ (n : Int) := by omega
    clear hm hps hw hlen hsm hn hl hs hg htab
    go_enter Tryd.func43, Tryd.ntmps43
    go_wp2_with fail
    refine Hsp.out.mono ?_
    rintro r w1 ⟨rfl, hw⟩
    subst hw
    go_wp2_with fail
    refine bodyPost_ret (results_ent (e := Ent.zero) (ok := false) rfl rfl rfl Hz.out) rfl ?_
    exact ⟨Ent.zero, false, rfl, HB.out, nofun, fun _ => Hno.out⟩

end Go.Proofs.YthpflfcgnaichaaDoor
