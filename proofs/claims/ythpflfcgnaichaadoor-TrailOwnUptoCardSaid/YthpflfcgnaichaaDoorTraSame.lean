/-
Entries compared: struct ==, 'same' and 'entries' of the laws.
-/
import Derived.Test.YthpflfcgnaichaaDoorTraOpen
import Derived.Laws.StructEq
set_option linter.unusedVariables false
set_option linter.unusedSimpArgs false
namespace Go.Proofs.YthpflfcgnaichaaDoor
open Go Go.RowKit

def Ent.sameD (x y : Ent) : Bool := ((x.kind == y.kind) && ((x.status == y.status) && ((x.route.toList == y.route.toList) && ((x.rule == y.rule) && ((x.service.toList == y.service.toList) && (x.endp.toList == y.endp.toList))))))

/-- Two entries, part by part. -/
def Ent.same (x y : Ent) : Bool := ((x.number == y.number) && ((x.version == y.version) && ((x.epoch == y.epoch) && ((x.method.toList == y.method.toList) && ((x.host.toList == y.host.toList) && ((x.path.toList == y.path.toList) && (((x.a : Int) == (y.a : Int)) && (((x.b : Int) == (y.b : Int)) && ((x.sameD y) && (x.fin == y.fin))))))))))

theorem bytes_eq {a b : ByteArray} (h : (a.toList == b.toList) = true) : a = b := by
  have h1 := eq_of_beq h
  rw [ByteArray.toList_eq, ByteArray.toList_eq] at h1
  exact ByteArray.ext (Array.ext' h1)

theorem Ent.same_eq {x y : Ent} (h : x.same y = true) : x = y := by
  unfold Ent.same Ent.sameD at h
  simp only [Bool.and_eq_true] at h
  obtain ⟨h1, h2, h3, h4, h5, h6, h7, h8, ⟨d1, d2, d3, d4, d5, d6⟩, h9⟩ := h
  have s4 := bytes_eq h4
  have s5 := bytes_eq h5
  have s6 := bytes_eq h6
  have t3 := bytes_eq d3
  have t5 := bytes_eq d5
  have t6 := bytes_eq d6
  have u7 : x.a = y.a := by have := eq_of_beq h7; omega
  have u8 : x.b = y.b := by have := eq_of_beq h8; omega
  have i1 := eq_of_beq h1
  have i2 := eq_of_beq h2
  have i3 := eq_of_beq h3
  have j1 := eq_of_beq d1
  have j2 := eq_of_beq d2
  have j4 := eq_of_beq d4
  have i9 := eq_of_beq h9
  obtain ⟨⟩ := x
  obtain ⟨⟩ := y
  simp only at *
  subst s4 s5 s6 t3 t5 t6 u7 u8 i1 i2 i3 j1 j2 j4 i9
  rfl

theorem Ent.same_refl (x : Ent) : x.same x = true := by
  unfold Ent.same Ent.sameD
  simp

theorem Ent.same_iff {x y : Ent} : x.same y = true ↔ x = y := ⟨Ent.same_eq, fun h => h ▸ x.same_refl⟩

/-- One part of a struct compared. -/
theorem eqFields_cons {P : Program} (w : World) (d : Nat) (xs ys : Array Value) (f : Field) (fs : List Field) (hn : f.name ≠ "_") (a b : Value) (r s : Bool) (ha : (part f.type xs f.offset).run P w = .ok a w) (hb : (part f.type ys f.offset).run P w = .ok b w) (hr : (Op.equalIn d f.type a b).run P w = .ok r w)
    (hs : (Op.eqFields d xs ys fs).run P w = .ok s w) : (Op.eqFields d xs ys (f :: fs)).run P w = .ok (r && s) w := by
  unfold Op.eqFields
  rw [if_pos hn]
  simp only [Sem.run_bind, ha, hb, hr, Result.andThen_ok]
  cases r
  · simp
  · simpa using hs

theorem eqFields_one {P : Program} (w : World) (d : Nat) (xs ys : Array Value) (f : Field) (hn : f.name ≠ "_") (a b : Value) (r : Bool) (ha : (part f.type xs f.offset).run P w = .ok a w) (hb : (part f.type ys f.offset).run P w = .ok b w) (hr : (Op.equalIn d f.type a b).run P w = .ok r w) :
    (Op.eqFields d xs ys [f]).run P w = .ok r w := by
  unfold Op.eqFields
  rw [if_pos hn]
  simp only [Sem.run_bind, ha, hb, hr, Result.andThen_ok]
  cases r
  · simp
  · simp [Op.eqFields]

set_option maxHeartbeats 4000000 in
set_option maxRecDepth 20000 in
theorem eqIn_dec (x y : Ent) (w : World) : (Op.equalIn 9999 30 (.agg #[.int .i64 x.kind, .int .i64 x.status, .string x.route, .int .i64 x.rule, .string x.service, .string x.endp]) (.agg #[.int .i64 y.kind, .int .i64 y.status, .string y.route, .int .i64 y.rule, .string y.service, .string y.endp])).run Tryd.prog w = .ok (x.sameD y) w := by
  rw [run_equalIn_agg w 9998 _ _ _ (by kernel_rfl) (by kernel_rfl)]
  have e : Tryd.prog.fieldsOf 30 = (match Tryd.prog.underlying 30 with | some (.struct fs) => fs | _ => #[]) := rfl
  rw [Tryd.underlying30] at e
  rw [e]
  unfold Ent.sameD
  refine eqFields_cons w _ _ _ _ _ (by decide) (.int .i64 x.kind) (.int .i64 y.kind) _ _ (by simp [part, Tryd.isAgg3, Tryd.isAgg28, Tryd.isAgg9]) (by simp [part, Tryd.isAgg3, Tryd.isAgg28, Tryd.isAgg9]) (by simp only [run_equalIn_int w 9997 _ _ _ _ _ Tryd.underlying3, run_equalIn_int w 9997 _ _ _ _ _ Tryd.underlying28, run_equalIn_string w 9997 _ _ _ Tryd.underlying9]) ?_
  refine eqFields_cons w _ _ _ _ _ (by decide) (.int .i64 x.status) (.int .i64 y.status) _ _ (by simp [part, Tryd.isAgg3, Tryd.isAgg28, Tryd.isAgg9]) (by simp [part, Tryd.isAgg3, Tryd.isAgg28, Tryd.isAgg9]) (by simp only [run_equalIn_int w 9997 _ _ _ _ _ Tryd.underlying3, run_equalIn_int w 9997 _ _ _ _ _ Tryd.underlying28, run_equalIn_string w 9997 _ _ _ Tryd.underlying9]) ?_
  refine eqFields_cons w _ _ _ _ _ (by decide) (.string x.route) (.string y.route) _ _ (by simp [part, Tryd.isAgg3, Tryd.isAgg28, Tryd.isAgg9]) (by simp [part, Tryd.isAgg3, Tryd.isAgg28, Tryd.isAgg9]) (by simp only [run_equalIn_int w 9997 _ _ _ _ _ Tryd.underlying3, run_equalIn_int w 9997 _ _ _ _ _ Tryd.underlying28, run_equalIn_string w 9997 _ _ _ Tryd.underlying9]) ?_
  refine eqFields_cons w _ _ _ _ _ (by decide) (.int .i64 x.rule) (.int .i64 y.rule) _ _ (by simp [part, Tryd.isAgg3, Tryd.isAgg28, Tryd.isAgg9]) (by simp [part, Tryd.isAgg3, Tryd.isAgg28, Tryd.isAgg9]) (by simp only [run_equalIn_int w 9997 _ _ _ _ _ Tryd.underlying3, run_equalIn_int w 9997 _ _ _ _ _ Tryd.underlying28, run_equalIn_string w 9997 _ _ _ Tryd.underlying9]) ?_
  refine eqFields_cons w _ _ _ _ _ (by decide) (.string x.service) (.string y.service) _ _ (by simp [part, Tryd.isAgg3, Tryd.isAgg28, Tryd.isAgg9]) (by simp [part, Tryd.isAgg3, Tryd.isAgg28, Tryd.isAgg9]) (by simp only [run_equalIn_int w 9997 _ _ _ _ _ Tryd.underlying3, run_equalIn_int w 9997 _ _ _ _ _ Tryd.underlying28, run_equalIn_string w 9997 _ _ _ Tryd.underlying9]) ?_
  exact eqFields_one w _ _ _ _ (by decide) (.string x.endp) (.string y.endp) _ (by simp [part, Tryd.isAgg3, Tryd.isAgg28, Tryd.isAgg9]) (by simp [part, Tryd.isAgg3, Tryd.isAgg28, Tryd.isAgg9]) (by simp only [run_equalIn_int w 9997 _ _ _ _ _ Tryd.underlying3, run_equalIn_int w 9997 _ _ _ _ _ Tryd.underlying28, run_equalIn_string w 9997 _ _ _ Tryd.underlying9])

set_option maxHeartbeats 4000000 in
set_option maxRecDepth 20000 in
theorem eqIn_ent (x y : Ent) (w : World) : (Op.equalIn 10000 38 (.agg #[.int .i64 x.number, .int .i64 x.version, .int .i64 x.epoch, .string x.method, .string x.host, .string x.path, .int .u64 (x.a : Int), .int .u64 (x.b : Int), .int .i64 x.kind, .int .i64 x.status, .string x.route, .int .i64 x.rule, .string x.service, .string x.endp, .int .i64 x.fin]) (.agg #[.int .i64 y.number, .int .i64 y.version, .int .i64 y.epoch, .string y.method, .string y.host, .string y.path, .int .u64 (y.a : Int), .int .u64 (y.b : Int), .int .i64 y.kind, .int .i64 y.status, .string y.route, .int .i64 y.rule, .string y.service, .string y.endp, .int .i64 y.fin])).run Tryd.prog w = .ok (x.same y) w := by
  rw [run_equalIn_agg w 9999 _ _ _ (by kernel_rfl) (by kernel_rfl)]
  have e : Tryd.prog.fieldsOf 38 = (match Tryd.prog.underlying 38 with | some (.struct fs) => fs | _ => #[]) := rfl
  rw [Tryd.underlying38] at e
  rw [e]
  unfold Ent.same
  refine eqFields_cons w _ _ _ _ _ (by decide) (.int .i64 x.number) (.int .i64 y.number) _ _ (by simp [part, Tryd.isAgg3, Tryd.isAgg28, Tryd.isAgg9]) (by simp [part, Tryd.isAgg3, Tryd.isAgg28, Tryd.isAgg9]) (by simp only [run_equalIn_int w 9998 _ _ _ _ _ Tryd.underlying3, run_equalIn_int w 9998 _ _ _ _ _ Tryd.underlying28, run_equalIn_string w 9998 _ _ _ Tryd.underlying9]) ?_
  refine eqFields_cons w _ _ _ _ _ (by decide) (.int .i64 x.version) (.int .i64 y.version) _ _ (by simp [part, Tryd.isAgg3, Tryd.isAgg28, Tryd.isAgg9]) (by simp [part, Tryd.isAgg3, Tryd.isAgg28, Tryd.isAgg9]) (by simp only [run_equalIn_int w 9998 _ _ _ _ _ Tryd.underlying3, run_equalIn_int w 9998 _ _ _ _ _ Tryd.underlying28, run_equalIn_string w 9998 _ _ _ Tryd.underlying9]) ?_
  refine eqFields_cons w _ _ _ _ _ (by decide) (.int .i64 x.epoch) (.int .i64 y.epoch) _ _ (by simp [part, Tryd.isAgg3, Tryd.isAgg28, Tryd.isAgg9]) (by simp [part, Tryd.isAgg3, Tryd.isAgg28, Tryd.isAgg9]) (by simp only [run_equalIn_int w 9998 _ _ _ _ _ Tryd.underlying3, run_equalIn_int w 9998 _ _ _ _ _ Tryd.underlying28, run_equalIn_string w 9998 _ _ _ Tryd.underlying9]) ?_
  refine eqFields_cons w _ _ _ _ _ (by decide) (.string x.method) (.string y.method) _ _ (by simp [part, Tryd.isAgg3, Tryd.isAgg28, Tryd.isAgg9]) (by simp [part, Tryd.isAgg3, Tryd.isAgg28, Tryd.isAgg9]) (by simp only [run_equalIn_int w 9998 _ _ _ _ _ Tryd.underlying3, run_equalIn_int w 9998 _ _ _ _ _ Tryd.underlying28, run_equalIn_string w 9998 _ _ _ Tryd.underlying9]) ?_
  refine eqFields_cons w _ _ _ _ _ (by decide) (.string x.host) (.string y.host) _ _ (by simp [part, Tryd.isAgg3, Tryd.isAgg28, Tryd.isAgg9]) (by simp [part, Tryd.isAgg3, Tryd.isAgg28, Tryd.isAgg9]) (by simp only [run_equalIn_int w 9998 _ _ _ _ _ Tryd.underlying3, run_equalIn_int w 9998 _ _ _ _ _ Tryd.underlying28, run_equalIn_string w 9998 _ _ _ Tryd.underlying9]) ?_
  refine eqFields_cons w _ _ _ _ _ (by decide) (.string x.path) (.string y.path) _ _ (by simp [part, Tryd.isAgg3, Tryd.isAgg28, Tryd.isAgg9]) (by simp [part, Tryd.isAgg3, Tryd.isAgg28, Tryd.isAgg9]) (by simp only [run_equalIn_int w 9998 _ _ _ _ _ Tryd.underlying3, run_equalIn_int w 9998 _ _ _ _ _ Tryd.underlying28, run_equalIn_string w 9998 _ _ _ Tryd.underlying9]) ?_
  refine eqFields_cons w _ _ _ _ _ (by decide) (.int .u64 (x.a : Int)) (.int .u64 (y.a : Int)) _ _ (by simp [part, Tryd.isAgg3, Tryd.isAgg28, Tryd.isAgg9]) (by simp [part, Tryd.isAgg3, Tryd.isAgg28, Tryd.isAgg9]) (by simp only [run_equalIn_int w 9998 _ _ _ _ _ Tryd.underlying3, run_equalIn_int w 9998 _ _ _ _ _ Tryd.underlying28, run_equalIn_string w 9998 _ _ _ Tryd.underlying9]) ?_
  refine eqFields_cons w _ _ _ _ _ (by decide) (.int .u64 (x.b : Int)) (.int .u64 (y.b : Int)) _ _ (by simp [part, Tryd.isAgg3, Tryd.isAgg28, Tryd.isAgg9]) (by simp [part, Tryd.isAgg3, Tryd.isAgg28, Tryd.isAgg9]) (by simp only [run_equalIn_int w 9998 _ _ _ _ _ Tryd.underlying3, run_equalIn_int w 9998 _ _ _ _ _ Tryd.underlying28, run_equalIn_string w 9998 _ _ _ Tryd.underlying9]) ?_
  refine eqFields_cons w _ _ _ _ _ (by decide) (.agg #[.int .i64 x.kind, .int .i64 x.status, .string x.route, .int .i64 x.rule, .string x.service, .string x.endp]) (.agg #[.int .i64 y.kind, .int .i64 y.status, .string y.route, .int .i64 y.rule, .string y.service, .string y.endp]) _ _ (by simp [part, Tryd.isAgg30]) (by simp [part, Tryd.isAgg30]) (eqIn_dec x y w) ?_
  exact eqFields_one w _ _ _ _ (by decide) (.int .i64 x.fin) (.int .i64 y.fin) _ (by simp [part, Tryd.isAgg3, Tryd.isAgg28, Tryd.isAgg9]) (by simp [part, Tryd.isAgg3, Tryd.isAgg28, Tryd.isAgg9]) (by simp only [run_equalIn_int w 9998 _ _ _ _ _ Tryd.underlying3, run_equalIn_int w 9998 _ _ _ _ _ Tryd.underlying28, run_equalIn_string w 9998 _ _ _ Tryd.underlying9])

theorem neq_ent (x y : Ent) (w : World) : (binOp .neq 38 (.agg #[.int .i64 x.number, .int .i64 x.version, .int .i64 x.epoch, .string x.method, .string x.host, .string x.path, .int .u64 (x.a : Int), .int .u64 (x.b : Int), .int .i64 x.kind, .int .i64 x.status, .string x.route, .int .i64 x.rule, .string x.service, .string x.endp, .int .i64 x.fin]) (.agg #[.int .i64 y.number, .int .i64 y.version, .int .i64 y.epoch, .string y.method, .string y.host, .string y.path, .int .u64 (y.a : Int), .int .u64 (y.b : Int), .int .i64 y.kind, .int .i64 y.status, .string y.route, .int .i64 y.rule, .string y.service, .string y.endp, .int .i64 y.fin])).run Tryd.prog w = .ok (.bool (!x.same y)) w := by
  rw [run_neq_struct, eqIn_ent]; rfl

theorem run_neq_ent (x y : Ent) (w : World) : (binOp .neq 38 x.v y.v).run Tryd.prog w = .ok (.bool (!x.same y)) w := neq_ent x y w

/-- The same entries? -/
def sameL : List Ent → List Ent → Bool
  | [], [] => true
  | x :: xs, y :: ys => x.same y && sameL xs ys
  | _, _ => false

theorem sameL_iff : ∀ {xs ys : List Ent}, sameL xs ys = true ↔ xs = ys
  | [], [] => by simp [sameL]
  | [], y :: ys => by simp [sameL]
  | x :: xs, [] => by simp [sameL]
  | x :: xs, y :: ys => by
    unfold sameL
    rw [Bool.and_eq_true, Ent.same_iff, sameL_iff, List.cons.injEq]

theorem take_next {xs ys : List Ent} {k : Nat} {x y : Ent} (h : xs.take k = ys.take k) (hx : xs[k]? = some x) (hy : ys[k]? = some y) (he : x = y) : xs.take (k + 1) = ys.take (k + 1) := by
  rw [List.take_add_one, List.take_add_one, h, hx, hy, he]


theorem row_form {w : World} {T : TypeId} {v : Value} {xs : List Ent} (h : EntRow w T v xs) : ∃ ao c, v = .slice ao xs.length c := by
  rcases h.2 with ⟨hv, hn⟩ | ⟨g, cap, cur, hv, _⟩
  · rw [hv, hn]; exact ⟨none, 0, rfl⟩
  · exact ⟨_, _, hv⟩

theorem go_step {k : Nat} (hw : wrap64 ((k : Int) + 1) = (k : Int) + 1) : Value.int .i64 (wrap64 ((k : Int) + 1)) = .int .i64 ((k + 1 : Nat) : Int) := by
  rw [hw, Int.natCast_add]
  rfl

theorem sameL_take {xs ys : List Ent} {k n : Nat} (hn : n = xs.length) (hn2 : n = ys.length) (hk : ¬ k < n) (h : xs.take k = ys.take k) : sameL xs ys = true := by
  rw [List.take_of_length_le (by omega), List.take_of_length_le (by omega)] at h
  exact sameL_iff.2 h

theorem sameL_not {xs ys : List Ent} {k : Nat} {x y : Ent} (hx : xs[k]? = some x) (hy : ys[k]? = some y) (h : x.same y = false) : sameL xs ys = false := by
  cases hs : sameL xs ys with
  | false => rfl
  | true =>
    rw [sameL_iff] at hs
    subst hs
    rw [hx] at hy
    obtain rfl := Option.some.inj hy
    rw [Ent.same_refl] at h
    cases h

theorem sameL_len {xs ys : List Ent} (h : xs.length ≠ ys.length) : sameL xs ys = false := by
  cases hs : sameL xs ys with
  | false => rfl
  | true =>
    rw [sameL_iff] at hs
    exact absurd (by rw [hs]) h

set_option maxHeartbeats 4000000 in
set_option maxRecDepth 20000 in
theorem same_walk (w : World) (v u : Value) (xs ys : List Ent) (hx : EntRow w 38 v xs) (hy : EntRow w 38 u ys) (hlx : xs.length < 65537) :
    Calls Tryd.prog 13 #[v, u] w fun r w' => r = .returned (.bool (sameL xs ys)) ∧ ∃ n, w' = w.drewN n := by
  obtain ⟨g, cg, hv⟩ := row_form hx
  obtain ⟨g2, cg2, hu⟩ := row_form hy
  obtain ⟨n, hn⟩ : ∃ n, n = xs.length := ⟨_, rfl⟩
  obtain ⟨n2, hn2⟩ : ∃ n, n = ys.length := ⟨_, rfl⟩
  rw [← hn] at hv
  rw [← hn2] at hu
  subst hv hu
  by_cases hne : n = n2
  · subst hne
    have t1 : ((n : Int) != (n : Int)) = false := by simp
    have Hx := Lib.hid hx
    have Hy := Lib.hid hy
    have Hn := Lib.hid hn
    have Hn2 := Lib.hid hn2
    have Hlx := Lib.hid hlx
    clear hx hy hn hn2 hlx
    go_enter Tryd.func13, Tryd.ntmps13
    go_wp2
    clear t1
    go_loopw [5] (fun i wr => ∃ k nd : Nat, i = .int .i64 (k : Int) ∧ wr = w.drewN nd ∧ Hid (k ≤ n ∧ xs.take k = ys.take k)) (fun i _ => n - (intOf i).toNat)
    case atStart => exact ⟨0, 0, rfl, rfl, Lib.hid ⟨Nat.zero_le _, rfl⟩⟩
    case round =>
      obtain ⟨k, nd, rfl, rfl, H⟩ := hrel
      by_cases hkn : k < n
      · have b1 : (k : Int) < (n : Int) := by omega
        have hxs := Hx.out
        have hys := Hy.out
        have hn := Hn.out
        have hn2 := Hn2.out
        obtain ⟨x, hxk⟩ : ∃ e, xs[k]? = some e := ⟨xs[k]'(by omega), List.getElem?_eq_getElem _⟩
        obtain ⟨y, hyk⟩ : ∃ e, ys[k]? = some e := ⟨ys[k]'(by omega), List.getElem?_eq_getElem _⟩
        obtain ⟨q, qc, hv⟩ := row_some hxs (by omega)
        obtain ⟨q2, qc2, hv2⟩ := row_some hys (by omega)
        rw [← hn] at hv
        rw [← hn2] at hv2
        simp only [Value.slice.injEq, true_and] at hv hv2
        obtain ⟨rfl, rfl⟩ := hv
        obtain ⟨rfl, rfl⟩ := hv2
        have c0 : w.cell? ⟨q, k * 15, none⟩ = some (.int .i64 x.number) := row_cell hn hxs hxk 0 (by decide)
        have c1 : w.cell? ⟨q, k * 15 + 1, none⟩ = some (.int .i64 x.version) := row_cell hn hxs hxk 1 (by decide)
        have c2 : w.cell? ⟨q, k * 15 + 2, none⟩ = some (.int .i64 x.epoch) := row_cell hn hxs hxk 2 (by decide)
        have c3 : w.cell? ⟨q, k * 15 + 3, none⟩ = some (.string x.method) := row_cell hn hxs hxk 3 (by decide)
        have c4 : w.cell? ⟨q, k * 15 + 4, none⟩ = some (.string x.host) := row_cell hn hxs hxk 4 (by decide)
        have c5 : w.cell? ⟨q, k * 15 + 5, none⟩ = some (.string x.path) := row_cell hn hxs hxk 5 (by decide)
        have c6 : w.cell? ⟨q, k * 15 + 6, none⟩ = some (.int .u64 (x.a : Int)) := row_cell hn hxs hxk 6 (by decide)
        have c7 : w.cell? ⟨q, k * 15 + 7, none⟩ = some (.int .u64 (x.b : Int)) := row_cell hn hxs hxk 7 (by decide)
        have c8 : w.cell? ⟨q, k * 15 + 8, none⟩ = some (.int .i64 x.kind) := row_cell hn hxs hxk 8 (by decide)
        have c9 : w.cell? ⟨q, k * 15 + 9, none⟩ = some (.int .i64 x.status) := row_cell hn hxs hxk 9 (by decide)
        have c10 : w.cell? ⟨q, k * 15 + 10, none⟩ = some (.string x.route) := row_cell hn hxs hxk 10 (by decide)
        have c11 : w.cell? ⟨q, k * 15 + 11, none⟩ = some (.int .i64 x.rule) := row_cell hn hxs hxk 11 (by decide)
        have c12 : w.cell? ⟨q, k * 15 + 12, none⟩ = some (.string x.service) := row_cell hn hxs hxk 12 (by decide)
        have c13 : w.cell? ⟨q, k * 15 + 13, none⟩ = some (.string x.endp) := row_cell hn hxs hxk 13 (by decide)
        have c14 : w.cell? ⟨q, k * 15 + 14, none⟩ = some (.int .i64 x.fin) := row_cell hn hxs hxk 14 (by decide)
        have d0 : w.cell? ⟨q2, k * 15, none⟩ = some (.int .i64 y.number) := row_cell hn2 hys hyk 0 (by decide)
        have d1 : w.cell? ⟨q2, k * 15 + 1, none⟩ = some (.int .i64 y.version) := row_cell hn2 hys hyk 1 (by decide)
        have d2 : w.cell? ⟨q2, k * 15 + 2, none⟩ = some (.int .i64 y.epoch) := row_cell hn2 hys hyk 2 (by decide)
        have d3 : w.cell? ⟨q2, k * 15 + 3, none⟩ = some (.string y.method) := row_cell hn2 hys hyk 3 (by decide)
        have d4 : w.cell? ⟨q2, k * 15 + 4, none⟩ = some (.string y.host) := row_cell hn2 hys hyk 4 (by decide)
        have d5 : w.cell? ⟨q2, k * 15 + 5, none⟩ = some (.string y.path) := row_cell hn2 hys hyk 5 (by decide)
        have d6 : w.cell? ⟨q2, k * 15 + 6, none⟩ = some (.int .u64 (y.a : Int)) := row_cell hn2 hys hyk 6 (by decide)
        have d7 : w.cell? ⟨q2, k * 15 + 7, none⟩ = some (.int .u64 (y.b : Int)) := row_cell hn2 hys hyk 7 (by decide)
        have d8 : w.cell? ⟨q2, k * 15 + 8, none⟩ = some (.int .i64 y.kind) := row_cell hn2 hys hyk 8 (by decide)
        have d9 : w.cell? ⟨q2, k * 15 + 9, none⟩ = some (.int .i64 y.status) := row_cell hn2 hys hyk 9 (by decide)
        have d10 : w.cell? ⟨q2, k * 15 + 10, none⟩ = some (.string y.route) := row_cell hn2 hys hyk 10 (by decide)
        have d11 : w.cell? ⟨q2, k * 15 + 11, none⟩ = some (.int .i64 y.rule) := row_cell hn2 hys hyk 11 (by decide)
        have d12 : w.cell? ⟨q2, k * 15 + 12, none⟩ = some (.string y.service) := row_cell hn2 hys hyk 12 (by decide)
        have d13 : w.cell? ⟨q2, k * 15 + 13, none⟩ = some (.string y.endp) := row_cell hn2 hys hyk 13 (by decide)
        have d14 : w.cell? ⟨q2, k * 15 + 14, none⟩ = some (.int .i64 y.fin) := row_cell hn2 hys hyk 14 (by decide)
        have k1 := fun w => neq_ent x y w
        have wk := wrap_small (Nat.lt_trans hkn (by rw [hn]; exact Hlx.out))
        have Hms := Lib.hid (meas_step hkn wk)
        have Hgo := Lib.hid (go_step wk)
        have Hst := Lib.hid (fun h => (⟨hkn, take_next H.out.2 hxk hyk h⟩ : k + 1 ≤ n ∧ xs.take (k + 1) = ys.take (k + 1)))
        have Hno := Lib.hid (fun h => sameL_not hxk hyk h)
        clear hxs hys hn hn2 hxk hyk wk hkn H
        cases hs : x.same y with
        | true =>
          have Heq := Lib.hid (Ent.same_eq hs)
          simp only [hs, Bool.not_true] at k1
          clear hs
          go_wp2
          go_quiet (fail)
          go_wp2
          go_roundw
          case rel => exact ⟨k + 1, _, Hgo.out, rfl, Lib.hid (Hst.out Heq.out)⟩
          case measure => exact Hms.out
        | false =>
          have Hres := Lib.hid (Hno.out hs)
          simp only [hs, Bool.not_false] at k1
          clear hs
          go_wp2
          go_quiet (fail)
          go_wp2
          go_ret
          exact ⟨by rw [Hres.out]; rfl, nd + nq, by simp [World.drewN, Nat.add_assoc]⟩
      · have Hres := Lib.hid (sameL_take Hn.out Hn2.out hkn H.out.2)
        clear H
        go_wp2
        go_ret
        exact ⟨by rw [Hres.out]; rfl, nd, rfl⟩
  · have hres : sameL xs ys = false := sameL_len (by omega)
    rw [hres]
    have t1 : ((n : Int) != (n2 : Int)) = true := by simp; omega
    clear hx hy hlx hn hn2 hres
    go_enter Tryd.func13, Tryd.ntmps13
    go_wp2
    go_ret
    exact ⟨rfl, 0, rfl⟩

end Go.Proofs.YthpflfcgnaichaaDoor
