/-
For every entry, every tables and healthy lists, of bulk at most 1048576 together, TrailAgrees returns true, and its arguments read behind the call as they read before. Its conditions: that bound, and what the listed package variables hold (tied to the program's text by the card).
-/
import Derived.Test.YthpflfcgnaichaaDoorTraAgrI
import Derived.Test.YthpflfcgnaichaaDoorTraCard
import Derived.SevenTiedAt
namespace Go.Proofs.YthpflfcgnaichaaDoor.trailAgrees
open Go.ChangeShapes Go.WideShapes Go.ChangeAt Go.RowKit
set_option linter.unusedVariables false
set_option linter.unusedSimpArgs false

set_option maxRecDepth 100000 in
/-- An entry by value. -/
theorem ent_opened {W : World} {H : Type} {enc : TypeId × Value → H} {b0 : Nat} {v : Value} {d : DataW H} {p : List MemPlace} (hv : Value.okWide Tryd.prog W .any b0 32 v) (h : DataW.Trod enc Tryd.prog W 0 (fun _ => true) true 32 v d p) :
    ∃ x : Ent, v = .agg #[.int .i64 x.number, .int .i64 x.version, .int .i64 x.epoch, .string x.method, .string x.host, .string x.path, .int .u64 (x.a : Int), .int .u64 (x.b : Int), .int .i64 x.kind, .int .i64 x.status, .string x.route, .int .i64 x.rule, .string x.service, .string x.endp, .int .i64 x.fin] ∧ x.Wf (Rows.uptoBulk d) := by
  obtain ⟨cs, rfl, hsz⟩ := okWide_struct Tryd.underlying32 hv
  obtain ⟨fuel, hf⟩ := h
  obtain ⟨x, hx, hw⟩ := ent_in hf
  refine ⟨x, ?_, hw⟩
  have hl : cs.size = 15 := hsz.trans cellsE
  have e1 : cs = x.cells.toArray := by
    apply Array.ext'
    apply List.ext_getElem?
    intro k
    by_cases hk : k < 15
    · have h1 : x.cells[k]? = some (x.cells[k]'(by show k < 15; exact hk)) := List.getElem?_eq_getElem _
      rw [List.toList_toArray, h1]
      exact hx k _ h1
    · rw [List.getElem?_eq_none (by rw [Array.length_toList]; omega), List.getElem?_eq_none (by show 15 ≤ k; omega)]
  rw [e1]
  rfl

set_option maxRecDepth 100000 in
theorem tab_opened {W : World} {H : Type} {enc : TypeId × Value → H} {b0 : Nat} {v : Value} {d : DataW H} {p : List MemPlace} (hv : Value.okWide Tryd.prog W .any b0 61 v) (h : DataW.Trod enc Tryd.prog W 0 (fun _ => true) true 61 v d p) (hB : Rows.uptoBulk d ≤ 1048576) :
    ∃ (ver : Int) (hv sv : Value) (hosts : List HostD), v = .agg #[.int .i64 ver, hv, sv] ∧ I64 ver ∧ SlR W hv 4 hosts HostD.cells ∧ (∀ x ∈ hosts, x.Ok W) ∧ ∃ ao n c, sv = .slice ao n c := by
  obtain ⟨cs, rfl, hsz⟩ := okWide_struct Tryd.underlying61 hv
  obtain ⟨fuel, hf⟩ := h
  obtain ⟨xs, n1, _, hxe, _, hl, hf⟩ := DataW.trod_struct Tryd.underlying61 hf
  obtain ⟨y0, m0, t0⟩ := fld hf hl 0 _ rfl
  obtain ⟨y1, m1, t1⟩ := fld hf hl 1 _ rfl
  obtain ⟨y2, m2, t2⟩ := fld hf hl 2 _ rfl
  obtain ⟨ver, c0, hI⟩ := leafI t0
  change DataW.trod enc Tryd.prog W 0 (fun _ => true) true _ 58 ((cs.toList.drop 1).take (Tryd.prog.cellsOf 58)) = some y1 at t1
  change DataW.trod enc Tryd.prog W 0 (fun _ => true) true _ 59 ((cs.toList.drop 2).take (Tryd.prog.cellsOf 59)) = some y2 at t2
  rw [cellsSl5] at t1
  rw [cellsSl4] at t2
  obtain ⟨ao, cap, hosts, e1, hb1, hm1, hh⟩ := slr_in HostD.cells (fun e B => B ≤ 1048576 → e.Ok W) Tryd.underlying58 (show Tryd.prog.cellsOf 111 = 4 by kernel_rfl) (by decide) (fun _ => rfl) host_in t1
  obtain ⟨a2, c2, ss, e2, _⟩ := slr_in (fun s : ByteArray => [Value.string s]) (fun s B => s.size ≤ B) Tryd.underlying59 cellsS (by decide) (fun _ => rfl) (fun _ _ _ h => str_in h) t2
  have b1 := agg_part m1
  have hd : d = .agg (xs.map (·.1)) := congrArg Prod.fst hxe
  rw [hd] at hB
  have hl3 : cs.size = 3 := hsz.trans (show Tryd.prog.cellsOf 61 = 3 by kernel_rfl)
  refine ⟨ver, .slice ao hosts.length cap, .slice a2 ss.length c2, hosts, ?_, hI, slrS (by omega) hm1, fun x hx => ?_, _, _, _, rfl⟩
  · congr 1
    apply Array.ext'
    apply List.ext_getElem?
    intro k
    by_cases hk : k < 3
    · have q := cells3 c0 (take_one e1) (take_one e2) k
      match k, hk with
      | 0, _ => exact q _ rfl
      | 1, _ => exact q _ rfl
      | 2, _ => exact q _ rfl
    · rw [List.getElem?_eq_none (by rw [Array.length_toList]; omega), List.getElem?_eq_none (by show 3 ≤ k; omega)]
  · obtain ⟨B, hB2, hg⟩ := hh x hx
    exact hg (by omega)

set_option maxRecDepth 100000 in
theorem heal_opened {W : World} {H : Type} {enc : TypeId × Value → H} {b0 : Nat} {v : Value} {d : DataW H} {p : List MemPlace} (hv : Value.okWide Tryd.prog W .any b0 62 v) (h : DataW.Trod enc Tryd.prog W 0 (fun _ => true) true 62 v d p) (hB : Rows.uptoBulk d ≤ 1048576) :
    ∃ hs : List HealD, SlR W v 2 hs HealD.cells ∧ ∀ y ∈ hs, y.ok W ∧ ∀ s ∈ y.endpoints, s.size ≤ 1048576 := by
  obtain ⟨a0, len0, cap0, rfl⟩ := okWide_slice Tryd.underlying62 hv
  obtain ⟨fuel, hf⟩ := h
  obtain ⟨ao, cap, hs, e1, hb1, hm1, hh⟩ := slr_in HealD.cells (fun e B => B ≤ 1048576 → e.ok W ∧ ∀ s ∈ e.endpoints, s.size ≤ 1048576) Tryd.underlying62 (show Tryd.prog.cellsOf 122 = 2 by kernel_rfl) (by decide) (fun _ => rfl) heal_in hf
  have e1' : [Value.slice a0 len0 cap0] = [Value.slice ao hs.length cap] := e1
  have hb1' : hs.length ≤ Rows.uptoBulk d := hb1
  have ev : Value.slice a0 len0 cap0 = .slice ao hs.length cap := (List.cons.inj e1').1
  rw [ev]
  refine ⟨hs, slrS (Nat.le_trans hb1' hB) hm1, fun y hy => ?_⟩
  obtain ⟨B, hB2, hg⟩ := hh y hy
  exact hg (Nat.le_trans hB2 hB)

set_option maxRecDepth 100000 in
theorem contract (H : Type) (enc : TypeId × Value → H) (W : World) (base : Nat) (args : Array Value) (ds gs : List (DataW H)) (before : List MemPlace)
    (hval : ∀ (j : Nat) t v, Tryd.f5.params[j]? = some t → args[j]? = some v → Value.okWide Tryd.prog W .any base t v)
    (hW : DataW.Whole enc Tryd.prog Tryd.f5.params.toList Rows.trailAgreesSpec.vars false W args.toList ds gs before) (hk : Rows.uptoSmall H (ds ++ gs) = true) (hL : laidMetH Tryd.prog laid3 W) :
    Calls Tryd.prog 5 args W fun e W' => ∃ v, e = .returned v ∧ Rows.trailAgreesSpec.post enc Tryd.prog Tryd.f5 false true false false W args v W' := by
  have hW' := hW
  obtain ⟨p, q, hA0, hV, rfl, hfz, hnd⟩ := hW
  have hA : DataW.TrodAll enc Tryd.prog W 0 (fun _ => true) true Tryd.f5.params.toList args.toList ds p := hA0
  rw [Tryd.params5] at hA hval
  obtain ⟨v0, v1, v2, d0, d1, d2, p0, p1, p2, rfl, rfl, rfl, h0, h1, h2⟩ := trodAll_three hA
  obtain ⟨rfl, rfl⟩ := trodVars_none hV
  have k0 := h0
  have k1 := h1
  have k2 := h2
  have lt0 : ∀ x ∈ p0, x.block < W.heap.size := by obtain ⟨m, hm⟩ := k0; exact DataW.trod_lt m _ _ _ hm
  have lt1 : ∀ x ∈ p1, x.block < W.heap.size := by obtain ⟨m, hm⟩ := k1; exact DataW.trod_lt m _ _ _ hm
  have lt2 : ∀ x ∈ p2, x.block < W.heap.size := by obtain ⟨m, hm⟩ := k2; exact DataW.trod_lt m _ _ _ hm
  have hbulk : Rows.uptoBulk d0 ≤ 1048576 ∧ Rows.uptoBulk d1 ≤ 1048576 ∧ Rows.uptoBulk d2 ≤ 1048576 := by
    have h : Rows.uptoBulkAll ([d0, d1, d2] ++ ([] : List (DataW H))) ≤ 1048576 := of_decide_eq_true hk
    simp only [List.append_nil, Rows.uptoBulkAll] at h
    refine ⟨?_, ?_, ?_⟩ <;> omega
  obtain ⟨x, rfl, hw⟩ := ent_opened (hval 0 32 v0 rfl rfl) h0
  obtain ⟨ver, hv, sv, hosts, rfl, hI, hS, hO, hst⟩ := tab_opened (hval 1 61 v1 rfl rfl) h1 hbulk.2.1
  obtain ⟨hs, hH, hHe⟩ := heal_opened (hval 2 62 v2 rfl rfl) h2 hbulk.2.2
  clear hA0
  simp only [List.append_nil] at hW'
  have hfit := hw.fit (by omega)
  have hs1 : ∀ (W : World) (a : Addr), (store a hv).run Tryd.prog W = stored Tryd.prog W a hv .plain := fun W a => by
    obtain ⟨_, _, h, _⟩ := hS
    rw [h]
    exact run_store _ W a _ _ rfl
  have hs2 : ∀ (W : World) (a : Addr), (store a sv).run Tryd.prog W = stored Tryd.prog W a sv .plain := fun W a => by
    obtain ⟨_, _, _, h⟩ := hst
    rw [h]
    exact run_store _ W a _ _ rfl
  obtain ⟨dv, epx, hag⟩ := ag_w W x ver hv sv v2 hosts hs ⟨hS, hO, hH, fun y hy => (hHe y hy).1⟩ hfit.a hfit.b hI (fun y hy => (hHe y hy).2) hs1 hs2
  refine (agreesLaw_walk W x ver hv sv v2 dv epx hag (tab_of_laid (rest := []) hL)).mono fun e W' ⟨he, bel⟩ => ?_
  subst he
  exact ⟨_, rfl, _, _, _, [], _, [], hW', trodAll_mk1 (shut_bool Tryd.underlying4 _), (trodAll_mk3 (Below.trod laidOut (by kernel_rfl) (of_decide_eq_true (by kernel_rfl)) k0 bel lt0) (Below.trod laidOut (by kernel_rfl) (of_decide_eq_true (by kernel_rfl)) k1 bel lt1) (Below.trod laidOut (by kernel_rfl) (of_decide_eq_true (by kernel_rfl)) k2 bel lt2)), rfl, bel.frame _, fun h => by cases h⟩

theorem reads (os : Os) {H : Type} (enc : TypeId × Value → H) : ∃ places, DataW.whole enc Tryd.prog ((laidWorld os).forCall (fun _ _ => 0) ⟨#[], #[.agg #[.int .i64 0, .int .i64 0, .int .i64 0, .string ⟨#[]⟩, .string ⟨#[]⟩, .string ⟨#[]⟩, .int .u64 0, .int .u64 0, .int .i64 0, .int .i64 0, .string ⟨#[]⟩, .int .i64 0, .string ⟨#[]⟩, .string ⟨#[]⟩, .int .i64 0], .agg #[.int .i64 0, .slice none 0 0, .slice none 0 0], .slice none 0 0], []⟩).memory Tryd.f5.params.toList Rows.trailAgreesSpec.vars false #[Value.agg #[.int .i64 0, .int .i64 0, .int .i64 0, .string ⟨#[]⟩, .string ⟨#[]⟩, .string ⟨#[]⟩, .int .u64 0, .int .u64 0, .int .i64 0, .int .i64 0, .string ⟨#[]⟩, .int .i64 0, .string ⟨#[]⟩, .string ⟨#[]⟩, .int .i64 0], Value.agg #[.int .i64 0, .slice none 0 0, .slice none 0 0], Value.slice none 0 0].toList 8 = some ([.agg [.lit (.int .i64 0), .lit (.int .i64 0), .lit (.int .i64 0), .lit (.string []), .lit (.string []), .lit (.string []), .lit (.int .u64 0), .lit (.int .u64 0), .agg [.lit (.int .i64 0), .lit (.int .i64 0), .lit (.string []), .lit (.int .i64 0), .lit (.string []), .lit (.string [])], .lit (.int .i64 0)], .agg [.lit (.int .i64 0), .nil, .nil], .nil], [], places) :=
  ⟨[], by kernel_rfl⟩

set_option maxRecDepth 100000 in
theorem lifted (os : Os) (started : os.Started) (H : Type) (enc : TypeId × Value → H) (F : Stop.Interp) :
    ReturnsInHanded {} Tryd.checked os 5 .any ((Rows.OpenSpec.upto Rows.trailAgreesSpec).preRow enc Tryd.prog Tryd.f5 Rows.trailAgreesUptoRow.domain false Rows.trailAgreesUptoRow.laid) (((Rows.OpenSpec.upto Rows.trailAgreesSpec).at F).post enc Tryd.prog Tryd.f5 false true false false) := by
  obtain ⟨places, hx⟩ := reads os enc
  refine returnsInHanded_of_row (C := Tryd.checked) (s := Rows.OpenSpec.upto Rows.trailAgreesSpec) own started (by kernel_rfl) Tryd.func5
    (witness_row_at (enc := enc) (C := Tryd.checked) false (laidWorld os) #[.agg #[.int .i64 0, .int .i64 0, .int .i64 0, .string ⟨#[]⟩, .string ⟨#[]⟩, .string ⟨#[]⟩, .int .u64 0, .int .u64 0, .int .i64 0, .int .i64 0, .string ⟨#[]⟩, .int .i64 0, .string ⟨#[]⟩, .string ⟨#[]⟩, .int .i64 0], .agg #[.int .i64 0, .slice none 0 0, .slice none 0 0], .slice none 0 0] rfl (by kernel_rfl) (by kernel_rfl) (by kernel_rfl)
      (OpenSpec.preRow_of_cond 8 hx (by kernel_rfl) (fun k hk => by cases hk; kernel_rfl) (by kernel_rfl) (laid_met os _))) ?_
  intro W base args ds gs before hval hW _ hcond _ hL _ _
  exact contract H enc W base args ds gs before hval hW (hcond _ rfl) hL

theorem said : Rows.TrailAgreesUptoSaid :=
  OpenClaim.holds_of_cond 5 Tryd.f5 rfl rfl rfl rfl rfl rfl rfl ⟨rfl, rfl, rfl, rfl, rfl⟩ rfl rfl rfl rfl rfl (by kernel_rfl) Tryd.func5 (by kernel_rfl)
    (of_decide_eq_true (by kernel_rfl)) (by unfold Func.isWrapper; first | (rw [if_pos (by decide +kernel)]; kernel_rfl) | (rw [if_neg (by decide +kernel)]; exact ⟨rfl, rfl⟩))
    (fun os started H enc _ F => by rw [OpenClaim.pre_eq_preRow]; exact lifted os started H enc F)

theorem plainArgs (f : FuncId) (fn : Func) (hf : Tryd.pinned.checked.prog.funcNamed "turnpike/turnpikelaw27.TrailAgrees" = some f) (hfn : Tryd.pinned.checked.prog.funcs[f]? = some fn) :
    true = Tryd.pinned.checked.prog.looks [] ∧ ∀ (j : Nat) t, fn.params[j]? = some t → Tryd.pinned.checked.prog.wantsStandIn t = false := by
  obtain rfl : f = 5 := Option.some.inj ((show Tryd.prog.funcNamed "turnpike/turnpikelaw27.TrailAgrees" = some 5 by kernel_rfl).symm.trans hf) |>.symm
  obtain rfl : fn = Tryd.f5 := (Option.some.inj (Tryd.func5.symm.trans hfn)).symm
  refine ⟨by kernel_rfl, fun j t ht => ?_⟩
  rw [Tryd.params5] at ht
  have hm : t = 32 ∨ t = 61 ∨ t = 62 := by simpa using Array.mem_of_getElem? ht
  rcases hm with rfl | rfl | rfl
  · exact (show Tryd.prog.wantsStandIn 32 = false by kernel_rfl)
  · exact (show Tryd.prog.wantsStandIn 61 = false by kernel_rfl)
  · exact (show Tryd.prog.wantsStandIn 62 = false by kernel_rfl)

theorem proved : Rows.TrailAgreesUptoCardSaid :=
  Claim7.holds_tied_plain_at .later [] _ _ _ _ said (fun _ h => by cases h) (by kernel_rfl) (fun _ h => by cases h) trailAgreesUpto_row_tie rfl ⟨rfl, rfl⟩ (by kernel_rfl) rfl plainArgs (by kernel_rfl)
#print axioms proved
end Go.Proofs.YthpflfcgnaichaaDoor.trailAgrees
