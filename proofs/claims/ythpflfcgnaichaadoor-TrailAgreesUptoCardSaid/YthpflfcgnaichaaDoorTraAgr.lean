/-
trail.Agrees: a function of what its arguments hold.
-/
import Derived.Test.YthpflfcgnaichaaDoorTraWrd
import Derived.Test.YthpflfcgnaichaaDoorTraSame
import Derived.Deep.RegionHeld3
import Derived.Deep.QuietTactic
import Derived.BigQuiet
set_option linter.unusedVariables false
set_option linter.unusedSimpArgs false
namespace Go.Proofs.YthpflfcgnaichaaDoor
open Go Go.RowKit

def DecV.same (x y : DecV) : Bool := ((x.k == y.k) && ((x.st == y.st) && ((x.rt.toList == y.rt.toList) && ((x.ru == y.ru) && ((x.svc.toList == y.svc.toList) && (x.ep.toList == y.ep.toList))))))
theorem DecV.same_refl (x : DecV) : x.same x = true := by
  unfold DecV.same
  simp

set_option maxHeartbeats 4000000 in
set_option maxRecDepth 20000 in
theorem eqIn_decv (x y : DecV) (w : World) : (Op.equalIn 10000 30 (.agg #[.int .i64 x.k, .int .i64 x.st, .string x.rt, .int .i64 x.ru, .string x.svc, .string x.ep]) (.agg #[.int .i64 y.k, .int .i64 y.st, .string y.rt, .int .i64 y.ru, .string y.svc, .string y.ep])).run Tryd.prog w = .ok (x.same y) w := by
  rw [run_equalIn_agg w 9999 _ _ _ (by kernel_rfl) (by kernel_rfl)]
  have e : Tryd.prog.fieldsOf 30 = (match Tryd.prog.underlying 30 with | some (.struct fs) => fs | _ => #[]) := rfl
  rw [Tryd.underlying30] at e
  rw [e]
  unfold DecV.same
  refine eqFields_cons w _ _ _ _ _ (by decide) (.int .i64 x.k) (.int .i64 y.k) _ _ (by simp [Go.part, Tryd.isAgg3, Tryd.isAgg28, Tryd.isAgg9]) (by simp [Go.part, Tryd.isAgg3, Tryd.isAgg28, Tryd.isAgg9]) (by simp only [run_equalIn_int w 9998 _ _ _ _ _ Tryd.underlying3, run_equalIn_string w 9998 _ _ _ Tryd.underlying9]) ?_
  refine eqFields_cons w _ _ _ _ _ (by decide) (.int .i64 x.st) (.int .i64 y.st) _ _ (by simp [Go.part, Tryd.isAgg3, Tryd.isAgg28, Tryd.isAgg9]) (by simp [Go.part, Tryd.isAgg3, Tryd.isAgg28, Tryd.isAgg9]) (by simp only [run_equalIn_int w 9998 _ _ _ _ _ Tryd.underlying3, run_equalIn_string w 9998 _ _ _ Tryd.underlying9]) ?_
  refine eqFields_cons w _ _ _ _ _ (by decide) (.string x.rt) (.string y.rt) _ _ (by simp [Go.part, Tryd.isAgg3, Tryd.isAgg28, Tryd.isAgg9]) (by simp [Go.part, Tryd.isAgg3, Tryd.isAgg28, Tryd.isAgg9]) (by simp only [run_equalIn_int w 9998 _ _ _ _ _ Tryd.underlying3, run_equalIn_string w 9998 _ _ _ Tryd.underlying9]) ?_
  refine eqFields_cons w _ _ _ _ _ (by decide) (.int .i64 x.ru) (.int .i64 y.ru) _ _ (by simp [Go.part, Tryd.isAgg3, Tryd.isAgg28, Tryd.isAgg9]) (by simp [Go.part, Tryd.isAgg3, Tryd.isAgg28, Tryd.isAgg9]) (by simp only [run_equalIn_int w 9998 _ _ _ _ _ Tryd.underlying3, run_equalIn_string w 9998 _ _ _ Tryd.underlying9]) ?_
  refine eqFields_cons w _ _ _ _ _ (by decide) (.string x.svc) (.string y.svc) _ _ (by simp [Go.part, Tryd.isAgg3, Tryd.isAgg28, Tryd.isAgg9]) (by simp [Go.part, Tryd.isAgg3, Tryd.isAgg28, Tryd.isAgg9]) (by simp only [run_equalIn_int w 9998 _ _ _ _ _ Tryd.underlying3, run_equalIn_string w 9998 _ _ _ Tryd.underlying9]) ?_
  exact eqFields_one w _ _ _ _ (by decide) (.string x.ep) (.string y.ep) _ (by simp [Go.part, Tryd.isAgg3, Tryd.isAgg28, Tryd.isAgg9]) (by simp [Go.part, Tryd.isAgg3, Tryd.isAgg28, Tryd.isAgg9]) (by simp only [run_equalIn_int w 9998 _ _ _ _ _ Tryd.underlying3, run_equalIn_string w 9998 _ _ _ Tryd.underlying9])

def Ent.decv (x : Ent) : DecV := ⟨x.kind, x.status, x.route, x.rule, x.service, x.endp⟩

def AS (w w' : World) (x : Ent) (ver : Int) (hv sv : Value) : Prop := (w'.cell? ⟨w.heap.size, 0, none⟩ = some (.int .i64 x.number) ∧ w'.cell? ⟨w.heap.size, 1, none⟩ = some (.int .i64 x.version) ∧ w'.cell? ⟨w.heap.size, 2, none⟩ = some (.int .i64 x.epoch) ∧ w'.cell? ⟨w.heap.size, 3, none⟩ = some (.string x.method) ∧ w'.cell? ⟨w.heap.size, 4, none⟩ = some (.string x.host) ∧ w'.cell? ⟨w.heap.size, 5, none⟩ = some (.string x.path) ∧ w'.cell? ⟨w.heap.size, 6, none⟩ = some (.int .u64 (x.a : Int)) ∧ w'.cell? ⟨w.heap.size, 7, none⟩ = some (.int .u64 (x.b : Int)) ∧ w'.cell? ⟨w.heap.size, 8, none⟩ = some (.int .i64 x.kind) ∧ w'.cell? ⟨w.heap.size, 9, none⟩ = some (.int .i64 x.status) ∧ w'.cell? ⟨w.heap.size, 10, none⟩ = some (.string x.route) ∧ w'.cell? ⟨w.heap.size, 11, none⟩ = some (.int .i64 x.rule) ∧ w'.cell? ⟨w.heap.size, 12, none⟩ = some (.string x.service) ∧ w'.cell? ⟨w.heap.size, 13, none⟩ = some (.string x.endp) ∧ w'.cell? ⟨w.heap.size, 14, none⟩ = some (.int .i64 x.fin)) ∧ (w'.cell? ⟨w.heap.size + 1, 0, none⟩ = some (.int .i64 ver) ∧ w'.cell? ⟨w.heap.size + 1, 1, none⟩ = some (hv) ∧ w'.cell? ⟨w.heap.size + 1, 2, none⟩ = some (sv)) ∧ Below w.heap.size w w'

theorem as_step {w w1 w2 : World} {x : Ent} {ver : Int} {hv sv : Value} (h : AS w w1 x ver hv sv) (hb : Below w1.heap.size w1 w2) : AS w w2 x ver hv sv := by
  obtain ⟨⟨a0, a1, a2, a3, a4, a5, a6, a7, a8, a9, a10, a11, a12, a13, a14⟩, ⟨b0, b1, b2⟩, h3⟩ := h
  have g1 : ∀ j, w1.cell? ⟨w.heap.size, j, none⟩ ≠ none → w2.cell? ⟨w.heap.size, j, none⟩ = w1.cell? ⟨w.heap.size, j, none⟩ := fun j hj => hb.cell (by obtain ⟨v, hv⟩ := Option.ne_none_iff_exists'.1 hj; exact World.block_lt_of_cell? w1 _ hv)
  have g2 : ∀ j, w1.cell? ⟨w.heap.size + 1, j, none⟩ ≠ none → w2.cell? ⟨w.heap.size + 1, j, none⟩ = w1.cell? ⟨w.heap.size + 1, j, none⟩ := fun j hj => hb.cell (by obtain ⟨v, hv⟩ := Option.ne_none_iff_exists'.1 hj; exact World.block_lt_of_cell? w1 _ hv)
  exact ⟨⟨(g1 _ (by rw [a0]; nofun)).trans a0, (g1 _ (by rw [a1]; nofun)).trans a1, (g1 _ (by rw [a2]; nofun)).trans a2, (g1 _ (by rw [a3]; nofun)).trans a3, (g1 _ (by rw [a4]; nofun)).trans a4, (g1 _ (by rw [a5]; nofun)).trans a5, (g1 _ (by rw [a6]; nofun)).trans a6, (g1 _ (by rw [a7]; nofun)).trans a7, (g1 _ (by rw [a8]; nofun)).trans a8, (g1 _ (by rw [a9]; nofun)).trans a9, (g1 _ (by rw [a10]; nofun)).trans a10, (g1 _ (by rw [a11]; nofun)).trans a11, (g1 _ (by rw [a12]; nofun)).trans a12, (g1 _ (by rw [a13]; nofun)).trans a13, (g1 _ (by rw [a14]; nofun)).trans a14⟩, ⟨(g2 _ (by rw [b0]; nofun)).trans b0, (g2 _ (by rw [b1]; nofun)).trans b1, (g2 _ (by rw [b2]; nofun)).trans b2⟩, h3.trans (hb.mono h3.size)⟩

theorem as_drew {w w1 : World} {x : Ent} {ver : Int} {hv sv : Value} (h : AS w w1 x ver hv sv) : AS w w1.drew x ver hv sv := ⟨h.1, h.2.1, h.2.2.drew⟩
theorem as_alloc {w w1 : World} {x : Ent} {ver : Int} {hv sv : Value} (h : AS w w1 x ver hv sv) (o : Obj) : AS w (w1.alloc o) x ver hv sv := as_step h ((Below.refl _ w1).alloc (Nat.le_refl _) o)

theorem as_first (w : World) (x : Ent) (ver : Int) (hv sv : Value) (S T : TypeId) : AS w ((w.alloc (.cells #[.int .i64 x.number, .int .i64 x.version, .int .i64 x.epoch, .string x.method, .string x.host, .string x.path, .int .u64 (x.a : Int), .int .u64 (x.b : Int), .int .i64 x.kind, .int .i64 x.status, .string x.route, .int .i64 x.rule, .string x.service, .string x.endp, .int .i64 x.fin] S)).alloc (.cells #[.int .i64 ver, hv, sv] T)) x ver hv sv := by
  refine ⟨?_, ?_, two_new _ _ _⟩
  · refine ⟨?_, ?_, ?_, ?_, ?_, ?_, ?_, ?_, ?_, ?_, ?_, ?_, ?_, ?_, ?_⟩ <;> (rw [World.cell?_alloc_lt _ _ _ (by simp), World.cell?_alloc_new]; rfl)
  · have e : w.heap.size + 1 = (w.alloc (.cells #[.int .i64 x.number, .int .i64 x.version, .int .i64 x.epoch, .string x.method, .string x.host, .string x.path, .int .u64 (x.a : Int), .int .u64 (x.b : Int), .int .i64 x.kind, .int .i64 x.status, .string x.route, .int .i64 x.rule, .string x.service, .string x.endp, .int .i64 x.fin] S)).heap.size := by simp
    rw [e]
    refine ⟨?_, ?_, ?_⟩ <;> (rw [World.cell?_alloc_new]; rfl)

noncomputable def agreesV (x : Ent) (ver : Int) (hosts : List HostD) (hs : List HealD) : Bool := if ver = x.version then (wordsV hosts hs x.method x.host x.path x.a x.b).same x.decv else false

set_option maxRecDepth 20000 in
set_option maxHeartbeats 4000000 in
theorem agrees_c (w : World) (x : Ent) (ver : Int) (hv sv hl : Value) (hosts : List HostD) (hs : List HealD) (h : TabIn w hv hl hosts hs) (ha : x.a < 18446744073709551616) (hb : x.b < 18446744073709551616) :
    Calls Tryd.prog 23 #[.agg #[.int .i64 x.number, .int .i64 x.version, .int .i64 x.epoch, .string x.method, .string x.host, .string x.path, .int .u64 (x.a : Int), .int .u64 (x.b : Int), .int .i64 x.kind, .int .i64 x.status, .string x.route, .int .i64 x.rule, .string x.service, .string x.endp, .int .i64 x.fin], .agg #[.int .i64 ver, hv, sv], hl] w fun r w' => r = .returned (.bool (agreesV x ver hosts hs)) ∧ Below w.heap.size w w' := by
  have A0 := as_first w x ver hv sv 38 61
  obtain ⟨w1, hw1⟩ : ∃ w1, w1 = (w.alloc (.cells #[.int .i64 x.number, .int .i64 x.version, .int .i64 x.epoch, .string x.method, .string x.host, .string x.path, .int .u64 (x.a : Int), .int .u64 (x.b : Int), .int .i64 x.kind, .int .i64 x.status, .string x.route, .int .i64 x.rule, .string x.service, .string x.endp, .int .i64 x.fin] 38)).alloc (.cells #[.int .i64 ver, hv, sv] 61) := ⟨_, rfl⟩
  rw [← hw1] at A0
  obtain ⟨dv, hdv⟩ : ∃ dv, dv = wordsV hosts hs x.method x.host x.path x.a x.b := ⟨_, rfl⟩
  have Hw := Lib.hid (show ∀ w2, Below w.heap.size w w2 → Calls Tryd.prog 22 #[.agg #[.int .i64 ver, hv, sv], hl, .string x.method, .string x.host, .string x.path, .int .u64 (x.a : Int), .int .u64 (x.b : Int)] w2 fun r w' => r = .returned (.agg #[.int .i64 dv.k, .int .i64 dv.st, .string dv.rt, .int .i64 dv.ru, .string dv.svc, .string dv.ep]) ∧ Below w2.heap.size w2 w' from fun w2 hb2 => by
    have := words_c w2 (.int .i64 ver) hv sv hl hosts hs x.method x.host x.path x.a x.b (h.later hb2) ha hb
    rw [← hdv] at this
    exact this)
  have Hv := Lib.hid (show agreesV x ver hosts hs = if ver = x.version then dv.same x.decv else false by unfold agreesV; rw [hdv])
  have heq : ∀ W, (binOp .eql 30 (.agg #[.int .i64 dv.k, .int .i64 dv.st, .string dv.rt, .int .i64 dv.ru, .string dv.svc, .string dv.ep]) (.agg #[.int .i64 x.kind, .int .i64 x.status, .string x.route, .int .i64 x.rule, .string x.service, .string x.endp])).run Tryd.prog W = .ok (.bool (dv.same x.decv)) W := fun W => by
    rw [run_eql_struct, show Op.equalIn 10000 30 (.agg #[.int .i64 dv.k, .int .i64 dv.st, .string dv.rt, .int .i64 dv.ru, .string dv.svc, .string dv.ep]) (.agg #[.int .i64 x.kind, .int .i64 x.status, .string x.route, .int .i64 x.rule, .string x.service, .string x.endp]) = Op.equalIn 10000 30 (.agg #[.int .i64 dv.k, .int .i64 dv.st, .string dv.rt, .int .i64 dv.ru, .string dv.svc, .string dv.ep]) (.agg #[.int .i64 x.decv.k, .int .i64 x.decv.st, .string x.decv.rt, .int .i64 x.decv.ru, .string x.decv.svc, .string x.decv.ep]) from rfl, eqIn_decv]
    rfl
  clear hdv h ha hb
  generalize agreesV x ver hosts hs = av at *
  by_cases hver : ver = x.version
  · subst hver
    have hav : av = dv.same x.decv := by rw [Hv.out, if_pos rfl]
    subst hav
    clear Hv
    go_enter Tryd.func23, Tryd.ntmps23
    go_wp2_with fail
    rw [← hw1]
    clear hw1
    go_region_held3 (fun w' => (w'.cell? ⟨w.heap.size, 0, none⟩ = some (.int .i64 x.number) ∧ w'.cell? ⟨w.heap.size, 1, none⟩ = some (.int .i64 x.version) ∧ w'.cell? ⟨w.heap.size, 2, none⟩ = some (.int .i64 x.epoch) ∧ w'.cell? ⟨w.heap.size, 3, none⟩ = some (.string x.method) ∧ w'.cell? ⟨w.heap.size, 4, none⟩ = some (.string x.host) ∧ w'.cell? ⟨w.heap.size, 5, none⟩ = some (.string x.path) ∧ w'.cell? ⟨w.heap.size, 6, none⟩ = some (.int .u64 (x.a : Int)) ∧ w'.cell? ⟨w.heap.size, 7, none⟩ = some (.int .u64 (x.b : Int)) ∧ w'.cell? ⟨w.heap.size, 8, none⟩ = some (.int .i64 x.kind) ∧ w'.cell? ⟨w.heap.size, 9, none⟩ = some (.int .i64 x.status) ∧ w'.cell? ⟨w.heap.size, 10, none⟩ = some (.string x.route) ∧ w'.cell? ⟨w.heap.size, 11, none⟩ = some (.int .i64 x.rule) ∧ w'.cell? ⟨w.heap.size, 12, none⟩ = some (.string x.service) ∧ w'.cell? ⟨w.heap.size, 13, none⟩ = some (.string x.endp) ∧ w'.cell? ⟨w.heap.size, 14, none⟩ = some (.int .i64 x.fin)) ∧ (w'.cell? ⟨w.heap.size + 1, 0, none⟩ = some (.int .i64 x.version) ∧ w'.cell? ⟨w.heap.size + 1, 1, none⟩ = some (hv) ∧ w'.cell? ⟨w.heap.size + 1, 2, none⟩ = some (sv)) ∧ Below w.heap.size w w')
      (first | exact as_step A0 (Below.refl _ w1) | (refine as_drew ?_; assumption) | (refine as_step ?_ hb2; assumption) | assumption)
      (first
        | (go_at_call 22; refine (Hw.out _ ?_).mono ?_; (first | exact (show _ ∧ _ ∧ Below w.heap.size w _ by assumption).2.2); rintro e w' ⟨rfl, hb2⟩))
    all_goals
      have hfin : Below w.heap.size w _ := (show _ ∧ _ ∧ Below w.heap.size w _ from by assumption).2.2
      have HB := Lib.hid hfin
      clear hfin
      go_wp2_with fail
      go_ret
      exact ⟨rfl, HB.out⟩
  · have hav : av = false := by rw [Hv.out, if_neg hver]
    subst hav
    obtain ⟨⟨a0, a1, a2, a3, a4, a5, a6, a7, a8, a9, a10, a11, a12, a13, a14⟩, ⟨b0, b1, b2⟩, hfin⟩ := A0
    have HB := Lib.hid hfin
    have t1 : (ver == x.version) = false := by rw [beq_eq_false_iff_ne]; exact hver
    have t2 : decide (ver = x.version) = false := by simpa using hver
    clear hfin Hv Hw heq
    go_enter Tryd.func23, Tryd.ntmps23
    go_wp2_with fail
    rw [← hw1]
    clear hw1
    go_quiet (fail)
    go_wp2
    go_ret
    exact ⟨rfl, ⟨HB.out.os, HB.out.tape, HB.out.output, HB.out.size, HB.out.block⟩⟩

theorem results_tab {fn : Func} {w : World} {b : Nat} {v0 v1 v2 : Value} {tmps : Array Value} (h : fn.results = #[.cell 2 61]) (h2 : tmps[2]? = some (.pointer (some ⟨b, 0, none⟩))) (hb : w.heap[b]? = some (.cells #[v0, v1, v2] 61)) :
    (results fn tmps).run Tryd.prog w = .ok (.agg #[v0, v1, v2]) w := by
  have hl := run_loadVar_mid (P := Tryd.prog) w b 0 61 [v0, v1, v2] _ (fun j v hv => by
    rw [cell_blk hb (0 + j), Nat.zero_add]
    simpa using hv) Tryd.underlying61 rfl (show (Tryd.prog.info? 61).map (·.size) = some 3 by kernel_rfl)
  rw [Array.getElem?_eq_some_iff] at h2
  obtain ⟨l2, e2⟩ := h2
  simp [results, h, asAddr, Array.getD, l2, e2, hl]

theorem before_c (w : World) (ver : Int) (hv sv : Value) (hs1 : ∀ (W : World) (a : Addr), (store a hv).run Tryd.prog W = stored Tryd.prog W a hv .plain) (hs2 : ∀ (W : World) (a : Addr), (store a sv).run Tryd.prog W = stored Tryd.prog W a sv .plain) :
    Calls Tryd.prog 24 #[.agg #[.int .i64 ver, hv, sv]] w fun r w' => r = .returned (.agg #[.int .i64 (wrap64 (ver - 1)), hv, sv]) ∧ Below w.heap.size w w' := by
  go_enter Tryd.func24, Tryd.ntmps24
  go_wp2_with fail
  refine bodyPost_ret (results_tab (b := w.heap.size + 1) (v0 := .int .i64 (wrap64 (ver - 1))) (v1 := hv) (v2 := sv) rfl rfl ?_) rfl ?_
  · have e1 : (w.alloc (.cells #[.int .i64 (wrap64 (ver - 1)), hv, sv] 61)).heap.size = w.heap.size + 1 := by simp
    rw [← e1]
    exact alloc_new _
  · exact ⟨rfl, two_new _ _ _⟩

end Go.Proofs.YthpflfcgnaichaaDoor
