/-
The walks of Line, of both sides.
-/
import Derived.Test.YthpflfcgnaichaaDoorTraRefTold
set_option linter.unusedVariables false
set_option linter.unusedSimpArgs false
namespace Go.Proofs.YthpflfcgnaichaaDoor
open Go Go.RowKit

/-- What Line answers. -/
def lineOf (x : Ent) : ByteArray × Int := if x.may = true ∧ 0 ≤ x.number then (⟨(lineL x).toArray⟩, 0) else (⟨#[]⟩, 2)

def LR (w w' : World) (db : Nat) (x : Ent) : Prop := (w'.cell? ⟨w.heap.size, 0, none⟩ = some (.int .i64 x.number) ∧ w'.cell? ⟨w.heap.size, 1, none⟩ = some (.int .i64 x.version) ∧ w'.cell? ⟨w.heap.size, 2, none⟩ = some (.int .i64 x.epoch) ∧ w'.cell? ⟨w.heap.size, 3, none⟩ = some (.string x.method) ∧ w'.cell? ⟨w.heap.size, 4, none⟩ = some (.string x.host) ∧ w'.cell? ⟨w.heap.size, 5, none⟩ = some (.string x.path) ∧ w'.cell? ⟨w.heap.size, 6, none⟩ = some (.int .u64 (x.a : Int)) ∧ w'.cell? ⟨w.heap.size, 7, none⟩ = some (.int .u64 (x.b : Int)) ∧ w'.cell? ⟨w.heap.size, 8, none⟩ = some (.int .i64 x.kind) ∧ w'.cell? ⟨w.heap.size, 9, none⟩ = some (.int .i64 x.status) ∧ w'.cell? ⟨w.heap.size, 10, none⟩ = some (.string x.route) ∧ w'.cell? ⟨w.heap.size, 11, none⟩ = some (.int .i64 x.rule) ∧ w'.cell? ⟨w.heap.size, 12, none⟩ = some (.string x.service) ∧ w'.cell? ⟨w.heap.size, 13, none⟩ = some (.string x.endp) ∧ w'.cell? ⟨w.heap.size, 14, none⟩ = some (.int .i64 x.fin)) ∧ (w'.cell? ⟨db, 0, none⟩ = some (.int .i64 x.kind) ∧ w'.cell? ⟨db, 1, none⟩ = some (.int .i64 x.status) ∧ w'.cell? ⟨db, 2, none⟩ = some (.string x.route) ∧ w'.cell? ⟨db, 3, none⟩ = some (.int .i64 x.rule) ∧ w'.cell? ⟨db, 4, none⟩ = some (.string x.service) ∧ w'.cell? ⟨db, 5, none⟩ = some (.string x.endp)) ∧ Below w.heap.size w w'

theorem lr_step {w w1 w2 : World} {db : Nat} {x : Ent} (h : LR w w1 db x) (hb : Below w1.heap.size w1 w2) : LR w w2 db x := by
  obtain ⟨⟨a0, a1, a2, a3, a4, a5, a6, a7, a8, a9, a10, a11, a12, a13, a14⟩, ⟨b0, b1, b2, b3, b4, b5⟩, h3⟩ := h
  have g1 : ∀ j, w1.cell? ⟨w.heap.size, j, none⟩ ≠ none → w2.cell? ⟨w.heap.size, j, none⟩ = w1.cell? ⟨w.heap.size, j, none⟩ := fun j hj => hb.cell (by obtain ⟨v, hv⟩ := Option.ne_none_iff_exists'.1 hj; exact World.block_lt_of_cell? w1 _ hv)
  have g2 : ∀ j, w1.cell? ⟨db, j, none⟩ ≠ none → w2.cell? ⟨db, j, none⟩ = w1.cell? ⟨db, j, none⟩ := fun j hj => hb.cell (by obtain ⟨v, hv⟩ := Option.ne_none_iff_exists'.1 hj; exact World.block_lt_of_cell? w1 _ hv)
  exact ⟨⟨(g1 _ (by rw [a0]; nofun)).trans a0, (g1 _ (by rw [a1]; nofun)).trans a1, (g1 _ (by rw [a2]; nofun)).trans a2, (g1 _ (by rw [a3]; nofun)).trans a3, (g1 _ (by rw [a4]; nofun)).trans a4, (g1 _ (by rw [a5]; nofun)).trans a5, (g1 _ (by rw [a6]; nofun)).trans a6, (g1 _ (by rw [a7]; nofun)).trans a7, (g1 _ (by rw [a8]; nofun)).trans a8, (g1 _ (by rw [a9]; nofun)).trans a9, (g1 _ (by rw [a10]; nofun)).trans a10, (g1 _ (by rw [a11]; nofun)).trans a11, (g1 _ (by rw [a12]; nofun)).trans a12, (g1 _ (by rw [a13]; nofun)).trans a13, (g1 _ (by rw [a14]; nofun)).trans a14⟩, ⟨(g2 _ (by rw [b0]; nofun)).trans b0, (g2 _ (by rw [b1]; nofun)).trans b1, (g2 _ (by rw [b2]; nofun)).trans b2, (g2 _ (by rw [b3]; nofun)).trans b3, (g2 _ (by rw [b4]; nofun)).trans b4, (g2 _ (by rw [b5]; nofun)).trans b5⟩, h3.trans (hb.mono h3.size)⟩

theorem lr_drew {w w1 : World} {db : Nat} {x : Ent} (h : LR w w1 db x) : LR w w1.drew db x := ⟨h.1, h.2.1, h.2.2.drew⟩

theorem lr_first {w w1 : World} {x : Ent} {S T : TypeId} (hb : Below (w.alloc (.cells #[.int .i64 x.number, .int .i64 x.version, .int .i64 x.epoch, .string x.method, .string x.host, .string x.path, .int .u64 (x.a : Int), .int .u64 (x.b : Int), .int .i64 x.kind, .int .i64 x.status, .string x.route, .int .i64 x.rule, .string x.service, .string x.endp, .int .i64 x.fin] S)).heap.size (w.alloc (.cells #[.int .i64 x.number, .int .i64 x.version, .int .i64 x.epoch, .string x.method, .string x.host, .string x.path, .int .u64 (x.a : Int), .int .u64 (x.b : Int), .int .i64 x.kind, .int .i64 x.status, .string x.route, .int .i64 x.rule, .string x.service, .string x.endp, .int .i64 x.fin] S)) w1) : LR w (w1.alloc (.cells #[.int .i64 x.kind, .int .i64 x.status, .string x.route, .int .i64 x.rule, .string x.service, .string x.endp] T)) w1.heap.size x := by
  have hlt : w.heap.size < (w.alloc (.cells #[.int .i64 x.number, .int .i64 x.version, .int .i64 x.epoch, .string x.method, .string x.host, .string x.path, .int .u64 (x.a : Int), .int .u64 (x.b : Int), .int .i64 x.kind, .int .i64 x.status, .string x.route, .int .i64 x.rule, .string x.service, .string x.endp, .int .i64 x.fin] S)).heap.size := by simp
  refine ⟨?_, ?_, ((Below.refl _ w).alloc (Nat.le_refl _) _).trans ((hb.mono (by simp)).alloc (Nat.le_trans (by simp) hb.size) _)⟩
  · refine ⟨?_, ?_, ?_, ?_, ?_, ?_, ?_, ?_, ?_, ?_, ?_, ?_, ?_, ?_, ?_⟩ <;> (rw [World.cell?_alloc_lt _ _ _ (Nat.lt_of_lt_of_le hlt hb.size), hb.cell hlt, World.cell?_alloc_new]; rfl)
  · refine ⟨?_, ?_, ?_, ?_, ?_, ?_⟩ <;> (rw [World.cell?_alloc_new]; rfl)

theorem sum_z0 {a : ByteArray} (h : a.size ≤ 120000001) : a.size ≤ 130000000 * 1 := by omega

theorem sum_z {P a b : ByteArray} {m : Nat} (h : P = a ++ b) (ha : a.size ≤ 130000000 * m) (hb : b.size ≤ 120000001) : P.size ≤ 130000000 * (m + 1) := by
  rw [h, list_size (cat_list a b), List.length_append, size_list, size_list]
  omega

theorem sum_run {P a b : ByteArray} {m : Nat} (h : P = a ++ b) (ha : a.size ≤ 130000000 * m) (hb : b.size ≤ 120000001) (hm : m ≤ 100) (w : World) : (Op.stringOp .add a b).run Tryd.prog w = .ok (.string P) w := by
  rw [h, run_string_add_sum w a b (by omega)]

/-- What May says, part by part. -/
structure Ent.May (x : Ent) : Prop where
  number : -1 ≤ x.number
  version : -1 ≤ x.version
  epoch : -1 ≤ x.epoch
  kind : -1 ≤ x.kind
  status : -1 ≤ x.status
  rule : -1 ≤ x.rule
  fin : -1 ≤ x.fin

theorem may_parts {x : Ent} (h : x.may = true) (hn : 0 ≤ x.number) : x.May := by
  unfold Ent.may at h
  simp only [Bool.and_eq_true, decide_eq_true_eq] at h
  obtain ⟨h1, h2, h3, h4, h5, h6, h7, h8, h9⟩ := h
  constructor <;> omega

set_option maxHeartbeats 1000000 in
theorem pline_walk (w : World) (x : Ent) (hx : x.Fit) (htab : Tab w) :
    Calls Tryd.prog 25 #[.agg #[.int .i64 x.number, .int .i64 x.version, .int .i64 x.epoch, .string x.method, .string x.host, .string x.path, .int .u64 (x.a : Int), .int .u64 (x.b : Int), .int .i64 x.kind, .int .i64 x.status, .string x.route, .int .i64 x.rule, .string x.service, .string x.endp, .int .i64 x.fin]] w fun r w' => r = .returned (.tuple #[.string (lineOf x).1, .int .i64 (lineOf x).2]) ∧ Below w.heap.size w w' := by
  have Hm := Lib.hid (fun w1 => may_walk w1 x)
  have HL := Lib.hid (fun w1 ht => line_walk w1 x hx ht)
  have Htab := Lib.hid htab
  clear hx htab
  unfold Ent.v at Hm
  have Hb0 := Lib.hid (show ∀ w1, Below (w.alloc (.cells #[.int .i64 x.number, .int .i64 x.version, .int .i64 x.epoch, .string x.method, .string x.host, .string x.path, .int .u64 (x.a : Int), .int .u64 (x.b : Int), .int .i64 x.kind, .int .i64 x.status, .string x.route, .int .i64 x.rule, .string x.service, .string x.endp, .int .i64 x.fin] 38)).heap.size (w.alloc (.cells #[.int .i64 x.number, .int .i64 x.version, .int .i64 x.epoch, .string x.method, .string x.host, .string x.path, .int .u64 (x.a : Int), .int .u64 (x.b : Int), .int .i64 x.kind, .int .i64 x.status, .string x.route, .int .i64 x.rule, .string x.service, .string x.endp, .int .i64 x.fin] 38)) w1 → Below w.heap.size w w1 from fun w1 hb => ((Below.refl _ w).alloc (Nat.le_refl _) _).trans (hb.mono (by simp)))
  have hc0 : ∀ w1, Below (w.alloc (.cells #[.int .i64 x.number, .int .i64 x.version, .int .i64 x.epoch, .string x.method, .string x.host, .string x.path, .int .u64 (x.a : Int), .int .u64 (x.b : Int), .int .i64 x.kind, .int .i64 x.status, .string x.route, .int .i64 x.rule, .string x.service, .string x.endp, .int .i64 x.fin] 38)).heap.size (w.alloc (.cells #[.int .i64 x.number, .int .i64 x.version, .int .i64 x.epoch, .string x.method, .string x.host, .string x.path, .int .u64 (x.a : Int), .int .u64 (x.b : Int), .int .i64 x.kind, .int .i64 x.status, .string x.route, .int .i64 x.rule, .string x.service, .string x.endp, .int .i64 x.fin] 38)) w1 → w1.cell? ⟨w.heap.size, 0, none⟩ = some (.int .i64 x.number) ∧ w1.cell? ⟨w.heap.size, 1, none⟩ = some (.int .i64 x.version) ∧ w1.cell? ⟨w.heap.size, 2, none⟩ = some (.int .i64 x.epoch) ∧ w1.cell? ⟨w.heap.size, 3, none⟩ = some (.string x.method) ∧ w1.cell? ⟨w.heap.size, 4, none⟩ = some (.string x.host) ∧ w1.cell? ⟨w.heap.size, 5, none⟩ = some (.string x.path) ∧ w1.cell? ⟨w.heap.size, 6, none⟩ = some (.int .u64 (x.a : Int)) ∧ w1.cell? ⟨w.heap.size, 7, none⟩ = some (.int .u64 (x.b : Int)) ∧ w1.cell? ⟨w.heap.size, 8, none⟩ = some (.int .i64 x.kind) ∧ w1.cell? ⟨w.heap.size, 9, none⟩ = some (.int .i64 x.status) ∧ w1.cell? ⟨w.heap.size, 10, none⟩ = some (.string x.route) ∧ w1.cell? ⟨w.heap.size, 11, none⟩ = some (.int .i64 x.rule) ∧ w1.cell? ⟨w.heap.size, 12, none⟩ = some (.string x.service) ∧ w1.cell? ⟨w.heap.size, 13, none⟩ = some (.string x.endp) ∧ w1.cell? ⟨w.heap.size, 14, none⟩ = some (.int .i64 x.fin) := fun w1 hb => by
    refine ⟨?_, ?_, ?_, ?_, ?_, ?_, ?_, ?_, ?_, ?_, ?_, ?_, ?_, ?_, ?_⟩ <;> (rw [hb.cell (by simp), World.cell?_alloc_new]; rfl)
  have Hc0 := Lib.hid hc0
  clear hc0
  unfold lineOf
  cases hmay : x.may with
  | false =>
    rw [hmay] at Hm
    rw [if_neg (fun h => by cases h.1)]
    clear hmay
    go_enter Tryd.func25, Tryd.ntmps25
    go_wp2_with fail
    refine (Hm.out _).mono ?_
    rintro r w1 ⟨rfl, hb⟩
    have Hb1 := Lib.hid (Hb0.out w1 hb)
    clear hb Hm
    go_wp2
    go_ret2
    exact ⟨rfl, Hb1.out⟩
  | true =>
    rw [hmay] at Hm
    clear hmay
    by_cases hn : 0 ≤ x.number
    · rw [if_pos ⟨rfl, hn⟩]
      have t1 : decide (x.number < 0) = false := decide_eq_false (by omega)
      clear hn
      go_enter Tryd.func25, Tryd.ntmps25
      go_wp2_with fail
      refine (Hm.out _).mono ?_
      rintro r w1 ⟨rfl, hb⟩
      have Hb1 := Lib.hid (Hb0.out w1 hb)
      obtain ⟨c0, c1, c2, c3, c4, c5, c6, c7, c8, c9, c10, c11, c12, c13, c14⟩ := Hc0.out w1 hb
      have HL1 := Lib.hid (HL.out w1 (tab_later Htab.out Hb1.out))
      clear hb Hm HL
      go_wp2_with fail
      refine HL1.out.mono ?_
      rintro r w2 ⟨rfl, hb⟩
      have Hb2 := Lib.hid (Hb1.out.trans (hb.mono Hb1.out.size))
      clear hb HL1
      go_wp2
      go_ret2
      exact ⟨rfl, Hb2.out⟩
    · rw [if_neg (fun h => hn h.2)]
      have t1 : decide (x.number < 0) = true := decide_eq_true (by omega)
      clear hn
      go_enter Tryd.func25, Tryd.ntmps25
      go_wp2_with fail
      refine (Hm.out _).mono ?_
      rintro r w1 ⟨rfl, hb⟩
      have Hb1 := Lib.hid (Hb0.out w1 hb)
      obtain ⟨c0, c1, c2, c3, c4, c5, c6, c7, c8, c9, c10, c11, c12, c13, c14⟩ := Hc0.out w1 hb
      clear hb Hm
      go_wp2
      go_ret2
      exact ⟨rfl, Hb1.out⟩

set_option maxHeartbeats 4000000 in
set_option maxRecDepth 20000 in
theorem rline_yes (w : World) (x : Ent) (hx : x.Fit) (hmay : x.may = true) (hnum : 0 ≤ x.number) :
    Calls Tryd.prog 26 #[.agg #[.int .i64 x.number, .int .i64 x.version, .int .i64 x.epoch, .string x.method, .string x.host, .string x.path, .int .u64 (x.a : Int), .int .u64 (x.b : Int), .int .i64 x.kind, .int .i64 x.status, .string x.route, .int .i64 x.rule, .string x.service, .string x.endp, .int .i64 x.fin]] w fun r w' => r = .returned (.tuple #[.string ⟨(lineL x).toArray⟩, .int .i64 0]) ∧ Below w.heap.size w w' := by
  have Hn := Lib.hid (show ∀ (n : Int) (w1 : World), -1 ≤ n → I64 n → Calls Tryd.prog 39 #[.int .i64 n] w1 fun r w' => r = .returned (.string (itoaB n)) ∧ Below w1.heap.size w1 w' from fun n w1 h0 hn => number_walk n h0 hn.2 w1)
  have Hd := Lib.hid (show ∀ (n : Nat) (w1 : World), n < 18446744073709551616 → Calls Tryd.prog 41 #[.int .u64 (n : Int)] w1 fun r w' => r = .returned (.string (decB n)) ∧ Below w1.heap.size w1 w' from fun n w1 hn => digits_walk n hn w1)
  have Ht := Lib.hid (show ∀ (s : ByteArray) (w1 : World), s.size ≤ 40000000 → Calls Tryd.prog 40 #[.string s] w1 fun r w' => r = .returned (.string (toldB s)) ∧ Below w1.heap.size w1 w' from fun s w1 hs => rtold_walk w1 s hs)
  have Hm := Lib.hid (fun w1 => refMay_walk w1 x)
  rw [hmay] at Hm
  unfold Ent.v at Hm
  have HF := Lib.hid hx
  have Hr := Lib.hid (may_parts hmay hnum)
  have t1 : decide (x.number < 0) = false := decide_eq_false (by omega)
  have z0 : (itoaB x.number).size ≤ 130000000 * 1 := sum_z0 (by rw [← size_list]; exact Nat.le_trans (itoaB_len hx.number) (by decide))
  obtain ⟨P1, hP1⟩ : ∃ P : ByteArray, P = (itoaB x.number) ++ ⟨#[32]⟩ := ⟨_, rfl⟩
  have e1 : ∀ w1, (Op.stringOp .add (itoaB x.number) ⟨#[32]⟩).run Tryd.prog w1 = .ok (.string P1) w1 := fun w1 => sum_run hP1 z0 (by decide) (by decide) w1
  have z1 : P1.size ≤ 130000000 * 2 := sum_z hP1 z0 (by decide)
  obtain ⟨P2, hP2⟩ : ∃ P : ByteArray, P = P1 ++ itoaB x.version := ⟨_, rfl⟩
  have e2 : ∀ w1, (Op.stringOp .add P1 (itoaB x.version)).run Tryd.prog w1 = .ok (.string P2) w1 := fun w1 => sum_run hP2 z1 (by rw [← size_list]; exact Nat.le_trans (itoaB_len hx.version) (by decide)) (by decide) w1
  have z2 : P2.size ≤ 130000000 * 3 := sum_z hP2 z1 (by rw [← size_list]; exact Nat.le_trans (itoaB_len hx.version) (by decide))
  obtain ⟨P3, hP3⟩ : ∃ P : ByteArray, P = P2 ++ ⟨#[32]⟩ := ⟨_, rfl⟩
  have e3 : ∀ w1, (Op.stringOp .add P2 ⟨#[32]⟩).run Tryd.prog w1 = .ok (.string P3) w1 := fun w1 => sum_run hP3 z2 (by decide) (by decide) w1
  have z3 : P3.size ≤ 130000000 * 4 := sum_z hP3 z2 (by decide)
  obtain ⟨P4, hP4⟩ : ∃ P : ByteArray, P = P3 ++ itoaB x.epoch := ⟨_, rfl⟩
  have e4 : ∀ w1, (Op.stringOp .add P3 (itoaB x.epoch)).run Tryd.prog w1 = .ok (.string P4) w1 := fun w1 => sum_run hP4 z3 (by rw [← size_list]; exact Nat.le_trans (itoaB_len hx.epoch) (by decide)) (by decide) w1
  have z4 : P4.size ≤ 130000000 * 5 := sum_z hP4 z3 (by rw [← size_list]; exact Nat.le_trans (itoaB_len hx.epoch) (by decide))
  obtain ⟨P5, hP5⟩ : ∃ P : ByteArray, P = P4 ++ ⟨#[32]⟩ := ⟨_, rfl⟩
  have e5 : ∀ w1, (Op.stringOp .add P4 ⟨#[32]⟩).run Tryd.prog w1 = .ok (.string P5) w1 := fun w1 => sum_run hP5 z4 (by decide) (by decide) w1
  have z5 : P5.size ≤ 130000000 * 6 := sum_z hP5 z4 (by decide)
  obtain ⟨P6, hP6⟩ : ∃ P : ByteArray, P = P5 ++ toldB x.method := ⟨_, rfl⟩
  have e6 : ∀ w1, (Op.stringOp .add P5 (toldB x.method)).run Tryd.prog w1 = .ok (.string P6) w1 := fun w1 => sum_run hP6 z5 (by rw [← size_list]; exact toldB_len hx.method) (by decide) w1
  have z6 : P6.size ≤ 130000000 * 7 := sum_z hP6 z5 (by rw [← size_list]; exact toldB_len hx.method)
  obtain ⟨P7, hP7⟩ : ∃ P : ByteArray, P = P6 ++ ⟨#[32]⟩ := ⟨_, rfl⟩
  have e7 : ∀ w1, (Op.stringOp .add P6 ⟨#[32]⟩).run Tryd.prog w1 = .ok (.string P7) w1 := fun w1 => sum_run hP7 z6 (by decide) (by decide) w1
  have z7 : P7.size ≤ 130000000 * 8 := sum_z hP7 z6 (by decide)
  obtain ⟨P8, hP8⟩ : ∃ P : ByteArray, P = P7 ++ toldB x.host := ⟨_, rfl⟩
  have e8 : ∀ w1, (Op.stringOp .add P7 (toldB x.host)).run Tryd.prog w1 = .ok (.string P8) w1 := fun w1 => sum_run hP8 z7 (by rw [← size_list]; exact toldB_len hx.host) (by decide) w1
  have z8 : P8.size ≤ 130000000 * 9 := sum_z hP8 z7 (by rw [← size_list]; exact toldB_len hx.host)
  obtain ⟨P9, hP9⟩ : ∃ P : ByteArray, P = P8 ++ ⟨#[32]⟩ := ⟨_, rfl⟩
  have e9 : ∀ w1, (Op.stringOp .add P8 ⟨#[32]⟩).run Tryd.prog w1 = .ok (.string P9) w1 := fun w1 => sum_run hP9 z8 (by decide) (by decide) w1
  have z9 : P9.size ≤ 130000000 * 10 := sum_z hP9 z8 (by decide)
  obtain ⟨P10, hP10⟩ : ∃ P : ByteArray, P = P9 ++ toldB x.path := ⟨_, rfl⟩
  have e10 : ∀ w1, (Op.stringOp .add P9 (toldB x.path)).run Tryd.prog w1 = .ok (.string P10) w1 := fun w1 => sum_run hP10 z9 (by rw [← size_list]; exact toldB_len hx.path) (by decide) w1
  have z10 : P10.size ≤ 130000000 * 11 := sum_z hP10 z9 (by rw [← size_list]; exact toldB_len hx.path)
  obtain ⟨P11, hP11⟩ : ∃ P : ByteArray, P = P10 ++ ⟨#[32]⟩ := ⟨_, rfl⟩
  have e11 : ∀ w1, (Op.stringOp .add P10 ⟨#[32]⟩).run Tryd.prog w1 = .ok (.string P11) w1 := fun w1 => sum_run hP11 z10 (by decide) (by decide) w1
  have z11 : P11.size ≤ 130000000 * 12 := sum_z hP11 z10 (by decide)
  obtain ⟨P12, hP12⟩ : ∃ P : ByteArray, P = P11 ++ decB x.a := ⟨_, rfl⟩
  have e12 : ∀ w1, (Op.stringOp .add P11 (decB x.a)).run Tryd.prog w1 = .ok (.string P12) w1 := fun w1 => sum_run hP12 z11 (by rw [← size_list]; exact Nat.le_trans (decB_len hx.a) (by decide)) (by decide) w1
  have z12 : P12.size ≤ 130000000 * 13 := sum_z hP12 z11 (by rw [← size_list]; exact Nat.le_trans (decB_len hx.a) (by decide))
  obtain ⟨P13, hP13⟩ : ∃ P : ByteArray, P = P12 ++ ⟨#[32]⟩ := ⟨_, rfl⟩
  have e13 : ∀ w1, (Op.stringOp .add P12 ⟨#[32]⟩).run Tryd.prog w1 = .ok (.string P13) w1 := fun w1 => sum_run hP13 z12 (by decide) (by decide) w1
  have z13 : P13.size ≤ 130000000 * 14 := sum_z hP13 z12 (by decide)
  obtain ⟨P14, hP14⟩ : ∃ P : ByteArray, P = P13 ++ decB x.b := ⟨_, rfl⟩
  have e14 : ∀ w1, (Op.stringOp .add P13 (decB x.b)).run Tryd.prog w1 = .ok (.string P14) w1 := fun w1 => sum_run hP14 z13 (by rw [← size_list]; exact Nat.le_trans (decB_len hx.b) (by decide)) (by decide) w1
  have z14 : P14.size ≤ 130000000 * 15 := sum_z hP14 z13 (by rw [← size_list]; exact Nat.le_trans (decB_len hx.b) (by decide))
  obtain ⟨P15, hP15⟩ : ∃ P : ByteArray, P = P14 ++ ⟨#[32]⟩ := ⟨_, rfl⟩
  have e15 : ∀ w1, (Op.stringOp .add P14 ⟨#[32]⟩).run Tryd.prog w1 = .ok (.string P15) w1 := fun w1 => sum_run hP15 z14 (by decide) (by decide) w1
  have z15 : P15.size ≤ 130000000 * 16 := sum_z hP15 z14 (by decide)
  obtain ⟨P16, hP16⟩ : ∃ P : ByteArray, P = P15 ++ itoaB x.kind := ⟨_, rfl⟩
  have e16 : ∀ w1, (Op.stringOp .add P15 (itoaB x.kind)).run Tryd.prog w1 = .ok (.string P16) w1 := fun w1 => sum_run hP16 z15 (by rw [← size_list]; exact Nat.le_trans (itoaB_len hx.kind) (by decide)) (by decide) w1
  have z16 : P16.size ≤ 130000000 * 17 := sum_z hP16 z15 (by rw [← size_list]; exact Nat.le_trans (itoaB_len hx.kind) (by decide))
  obtain ⟨P17, hP17⟩ : ∃ P : ByteArray, P = P16 ++ ⟨#[32]⟩ := ⟨_, rfl⟩
  have e17 : ∀ w1, (Op.stringOp .add P16 ⟨#[32]⟩).run Tryd.prog w1 = .ok (.string P17) w1 := fun w1 => sum_run hP17 z16 (by decide) (by decide) w1
  have z17 : P17.size ≤ 130000000 * 18 := sum_z hP17 z16 (by decide)
  obtain ⟨P18, hP18⟩ : ∃ P : ByteArray, P = P17 ++ itoaB x.status := ⟨_, rfl⟩
  have e18 : ∀ w1, (Op.stringOp .add P17 (itoaB x.status)).run Tryd.prog w1 = .ok (.string P18) w1 := fun w1 => sum_run hP18 z17 (by rw [← size_list]; exact Nat.le_trans (itoaB_len hx.status) (by decide)) (by decide) w1
  have z18 : P18.size ≤ 130000000 * 19 := sum_z hP18 z17 (by rw [← size_list]; exact Nat.le_trans (itoaB_len hx.status) (by decide))
  obtain ⟨P19, hP19⟩ : ∃ P : ByteArray, P = P18 ++ ⟨#[32]⟩ := ⟨_, rfl⟩
  have e19 : ∀ w1, (Op.stringOp .add P18 ⟨#[32]⟩).run Tryd.prog w1 = .ok (.string P19) w1 := fun w1 => sum_run hP19 z18 (by decide) (by decide) w1
  have z19 : P19.size ≤ 130000000 * 20 := sum_z hP19 z18 (by decide)
  obtain ⟨P20, hP20⟩ : ∃ P : ByteArray, P = P19 ++ toldB x.route := ⟨_, rfl⟩
  have e20 : ∀ w1, (Op.stringOp .add P19 (toldB x.route)).run Tryd.prog w1 = .ok (.string P20) w1 := fun w1 => sum_run hP20 z19 (by rw [← size_list]; exact toldB_len hx.route) (by decide) w1
  have z20 : P20.size ≤ 130000000 * 21 := sum_z hP20 z19 (by rw [← size_list]; exact toldB_len hx.route)
  obtain ⟨P21, hP21⟩ : ∃ P : ByteArray, P = P20 ++ ⟨#[32]⟩ := ⟨_, rfl⟩
  have e21 : ∀ w1, (Op.stringOp .add P20 ⟨#[32]⟩).run Tryd.prog w1 = .ok (.string P21) w1 := fun w1 => sum_run hP21 z20 (by decide) (by decide) w1
  have z21 : P21.size ≤ 130000000 * 22 := sum_z hP21 z20 (by decide)
  obtain ⟨P22, hP22⟩ : ∃ P : ByteArray, P = P21 ++ itoaB x.rule := ⟨_, rfl⟩
  have e22 : ∀ w1, (Op.stringOp .add P21 (itoaB x.rule)).run Tryd.prog w1 = .ok (.string P22) w1 := fun w1 => sum_run hP22 z21 (by rw [← size_list]; exact Nat.le_trans (itoaB_len hx.rule) (by decide)) (by decide) w1
  have z22 : P22.size ≤ 130000000 * 23 := sum_z hP22 z21 (by rw [← size_list]; exact Nat.le_trans (itoaB_len hx.rule) (by decide))
  obtain ⟨P23, hP23⟩ : ∃ P : ByteArray, P = P22 ++ ⟨#[32]⟩ := ⟨_, rfl⟩
  have e23 : ∀ w1, (Op.stringOp .add P22 ⟨#[32]⟩).run Tryd.prog w1 = .ok (.string P23) w1 := fun w1 => sum_run hP23 z22 (by decide) (by decide) w1
  have z23 : P23.size ≤ 130000000 * 24 := sum_z hP23 z22 (by decide)
  obtain ⟨P24, hP24⟩ : ∃ P : ByteArray, P = P23 ++ toldB x.service := ⟨_, rfl⟩
  have e24 : ∀ w1, (Op.stringOp .add P23 (toldB x.service)).run Tryd.prog w1 = .ok (.string P24) w1 := fun w1 => sum_run hP24 z23 (by rw [← size_list]; exact toldB_len hx.service) (by decide) w1
  have z24 : P24.size ≤ 130000000 * 25 := sum_z hP24 z23 (by rw [← size_list]; exact toldB_len hx.service)
  obtain ⟨P25, hP25⟩ : ∃ P : ByteArray, P = P24 ++ ⟨#[32]⟩ := ⟨_, rfl⟩
  have e25 : ∀ w1, (Op.stringOp .add P24 ⟨#[32]⟩).run Tryd.prog w1 = .ok (.string P25) w1 := fun w1 => sum_run hP25 z24 (by decide) (by decide) w1
  have z25 : P25.size ≤ 130000000 * 26 := sum_z hP25 z24 (by decide)
  obtain ⟨P26, hP26⟩ : ∃ P : ByteArray, P = P25 ++ toldB x.endp := ⟨_, rfl⟩
  have e26 : ∀ w1, (Op.stringOp .add P25 (toldB x.endp)).run Tryd.prog w1 = .ok (.string P26) w1 := fun w1 => sum_run hP26 z25 (by rw [← size_list]; exact toldB_len hx.endp) (by decide) w1
  have z26 : P26.size ≤ 130000000 * 27 := sum_z hP26 z25 (by rw [← size_list]; exact toldB_len hx.endp)
  obtain ⟨P27, hP27⟩ : ∃ P : ByteArray, P = P26 ++ ⟨#[32]⟩ := ⟨_, rfl⟩
  have e27 : ∀ w1, (Op.stringOp .add P26 ⟨#[32]⟩).run Tryd.prog w1 = .ok (.string P27) w1 := fun w1 => sum_run hP27 z26 (by decide) (by decide) w1
  have z27 : P27.size ≤ 130000000 * 28 := sum_z hP27 z26 (by decide)
  obtain ⟨P28, hP28⟩ : ∃ P : ByteArray, P = P27 ++ itoaB x.fin := ⟨_, rfl⟩
  have e28 : ∀ w1, (Op.stringOp .add P27 (itoaB x.fin)).run Tryd.prog w1 = .ok (.string P28) w1 := fun w1 => sum_run hP28 z27 (by rw [← size_list]; exact Nat.le_trans (itoaB_len hx.fin) (by decide)) (by decide) w1
  have z28 : P28.size ≤ 130000000 * 29 := sum_z hP28 z27 (by rw [← size_list]; exact Nat.le_trans (itoaB_len hx.fin) (by decide))
  obtain ⟨P29, hP29⟩ : ∃ P : ByteArray, P = P28 ++ ⟨#[10]⟩ := ⟨_, rfl⟩
  have e29 : ∀ w1, (Op.stringOp .add P28 ⟨#[10]⟩).run Tryd.prog w1 = .ok (.string P29) w1 := fun w1 => sum_run hP29 z28 (by decide) (by decide) w1
  have z29 : P29.size ≤ 130000000 * 30 := sum_z hP29 z28 (by decide)
  have Hlast := Lib.hid (show P29 = ⟨(lineL x).toArray⟩ from by
    refine ba_of ?_
    unfold lineL partsB
    rw [hP29, hP28, hP27, hP26, hP25, hP24, hP23, hP22, hP21, hP20, hP19, hP18, hP17, hP16, hP15, hP14, hP13, hP12, hP11, hP10, hP9, hP8, hP7, hP6, hP5, hP4, hP3, hP2, hP1]
    simp only [cat_list, List.map_cons, List.map_nil, Lib.join_cons, Lib.joinTail, List.flatten_cons, List.flatten_nil, List.append_assoc, List.append_nil, List.cons_append, List.nil_append])
  clear hP1 hP2 hP3 hP4 hP5 hP6 hP7 hP8 hP9 hP10 hP11 hP12 hP13 hP14 hP15 hP16 hP17 hP18 hP19 hP20 hP21 hP22 hP23 hP24 hP25 hP26 hP27 hP28 hP29 z0 z1 z2 z3 z4 z5 z6 z7 z8 z9 z10 z11 z12 z13 z14 z15 z16 z17 z18 z19 z20 z21 z22 z23 z24 z25 z26 z27 z28 z29
  clear hx hmay hnum
  go_enter Tryd.func26, Tryd.ntmps26
  go_wp2_with fail
  refine (Hm.out _).mono ?_
  rintro r w1 ⟨rfl, hb⟩
  have hfirst := lr_first (T := 30) hb
  have hc0 : w1.cell? ⟨w.heap.size, 0, none⟩ = some (.int .i64 x.number) ∧ w1.cell? ⟨w.heap.size, 1, none⟩ = some (.int .i64 x.version) ∧ w1.cell? ⟨w.heap.size, 2, none⟩ = some (.int .i64 x.epoch) ∧ w1.cell? ⟨w.heap.size, 3, none⟩ = some (.string x.method) ∧ w1.cell? ⟨w.heap.size, 4, none⟩ = some (.string x.host) ∧ w1.cell? ⟨w.heap.size, 5, none⟩ = some (.string x.path) ∧ w1.cell? ⟨w.heap.size, 6, none⟩ = some (.int .u64 (x.a : Int)) ∧ w1.cell? ⟨w.heap.size, 7, none⟩ = some (.int .u64 (x.b : Int)) ∧ w1.cell? ⟨w.heap.size, 8, none⟩ = some (.int .i64 x.kind) ∧ w1.cell? ⟨w.heap.size, 9, none⟩ = some (.int .i64 x.status) ∧ w1.cell? ⟨w.heap.size, 10, none⟩ = some (.string x.route) ∧ w1.cell? ⟨w.heap.size, 11, none⟩ = some (.int .i64 x.rule) ∧ w1.cell? ⟨w.heap.size, 12, none⟩ = some (.string x.service) ∧ w1.cell? ⟨w.heap.size, 13, none⟩ = some (.string x.endp) ∧ w1.cell? ⟨w.heap.size, 14, none⟩ = some (.int .i64 x.fin) := by
    refine ⟨?_, ?_, ?_, ?_, ?_, ?_, ?_, ?_, ?_, ?_, ?_, ?_, ?_, ?_, ?_⟩ <;> (rw [hb.cell (by simp), World.cell?_alloc_new]; rfl)
  obtain ⟨c0, c1, c2, c3, c4, c5, c6, c7, c8, c9, c10, c11, c12, c13, c14⟩ := hc0
  clear hb Hm
  go_wp2_with fail
  go_region_held3 (fun w' => (w'.cell? ⟨w.heap.size, 0, none⟩ = some (.int .i64 x.number) ∧ w'.cell? ⟨w.heap.size, 1, none⟩ = some (.int .i64 x.version) ∧ w'.cell? ⟨w.heap.size, 2, none⟩ = some (.int .i64 x.epoch) ∧ w'.cell? ⟨w.heap.size, 3, none⟩ = some (.string x.method) ∧ w'.cell? ⟨w.heap.size, 4, none⟩ = some (.string x.host) ∧ w'.cell? ⟨w.heap.size, 5, none⟩ = some (.string x.path) ∧ w'.cell? ⟨w.heap.size, 6, none⟩ = some (.int .u64 (x.a : Int)) ∧ w'.cell? ⟨w.heap.size, 7, none⟩ = some (.int .u64 (x.b : Int)) ∧ w'.cell? ⟨w.heap.size, 8, none⟩ = some (.int .i64 x.kind) ∧ w'.cell? ⟨w.heap.size, 9, none⟩ = some (.int .i64 x.status) ∧ w'.cell? ⟨w.heap.size, 10, none⟩ = some (.string x.route) ∧ w'.cell? ⟨w.heap.size, 11, none⟩ = some (.int .i64 x.rule) ∧ w'.cell? ⟨w.heap.size, 12, none⟩ = some (.string x.service) ∧ w'.cell? ⟨w.heap.size, 13, none⟩ = some (.string x.endp) ∧ w'.cell? ⟨w.heap.size, 14, none⟩ = some (.int .i64 x.fin)) ∧ (w'.cell? ⟨w1.heap.size, 0, none⟩ = some (.int .i64 x.kind) ∧ w'.cell? ⟨w1.heap.size, 1, none⟩ = some (.int .i64 x.status) ∧ w'.cell? ⟨w1.heap.size, 2, none⟩ = some (.string x.route) ∧ w'.cell? ⟨w1.heap.size, 3, none⟩ = some (.int .i64 x.rule) ∧ w'.cell? ⟨w1.heap.size, 4, none⟩ = some (.string x.service) ∧ w'.cell? ⟨w1.heap.size, 5, none⟩ = some (.string x.endp)) ∧ Below w.heap.size w w') (first | exact lr_drew hfirst | (refine lr_step ?_ hb; assumption) | (refine lr_drew ?_; assumption) | assumption)
    (first
      | (go_at_call 39; (first | (with_reducible refine (Hn.out x.number _ Hr.out.number HF.out.number).mono ?_) | (with_reducible refine (Hn.out x.version _ Hr.out.version HF.out.version).mono ?_) | (with_reducible refine (Hn.out x.epoch _ Hr.out.epoch HF.out.epoch).mono ?_) | (with_reducible refine (Hn.out x.kind _ Hr.out.kind HF.out.kind).mono ?_) | (with_reducible refine (Hn.out x.status _ Hr.out.status HF.out.status).mono ?_) | (with_reducible refine (Hn.out x.rule _ Hr.out.rule HF.out.rule).mono ?_) | (with_reducible refine (Hn.out x.fin _ Hr.out.fin HF.out.fin).mono ?_)); rintro e w' ⟨rfl, hb⟩)
      | (go_at_call 40; (first | (with_reducible refine (Ht.out x.method _ HF.out.method).mono ?_) | (with_reducible refine (Ht.out x.host _ HF.out.host).mono ?_) | (with_reducible refine (Ht.out x.path _ HF.out.path).mono ?_) | (with_reducible refine (Ht.out x.route _ HF.out.route).mono ?_) | (with_reducible refine (Ht.out x.service _ HF.out.service).mono ?_) | (with_reducible refine (Ht.out x.endp _ HF.out.endp).mono ?_)); rintro e w' ⟨rfl, hb⟩)
      | (go_at_call 41; (first | (with_reducible refine (Hd.out x.a _ HF.out.a).mono ?_) | (with_reducible refine (Hd.out x.b _ HF.out.b).mono ?_)); rintro e w' ⟨rfl, hb⟩))
  clear hfirst
  go_wp2_with fail
  go_region_held3 (fun w' => (w'.cell? ⟨w.heap.size, 0, none⟩ = some (.int .i64 x.number) ∧ w'.cell? ⟨w.heap.size, 1, none⟩ = some (.int .i64 x.version) ∧ w'.cell? ⟨w.heap.size, 2, none⟩ = some (.int .i64 x.epoch) ∧ w'.cell? ⟨w.heap.size, 3, none⟩ = some (.string x.method) ∧ w'.cell? ⟨w.heap.size, 4, none⟩ = some (.string x.host) ∧ w'.cell? ⟨w.heap.size, 5, none⟩ = some (.string x.path) ∧ w'.cell? ⟨w.heap.size, 6, none⟩ = some (.int .u64 (x.a : Int)) ∧ w'.cell? ⟨w.heap.size, 7, none⟩ = some (.int .u64 (x.b : Int)) ∧ w'.cell? ⟨w.heap.size, 8, none⟩ = some (.int .i64 x.kind) ∧ w'.cell? ⟨w.heap.size, 9, none⟩ = some (.int .i64 x.status) ∧ w'.cell? ⟨w.heap.size, 10, none⟩ = some (.string x.route) ∧ w'.cell? ⟨w.heap.size, 11, none⟩ = some (.int .i64 x.rule) ∧ w'.cell? ⟨w.heap.size, 12, none⟩ = some (.string x.service) ∧ w'.cell? ⟨w.heap.size, 13, none⟩ = some (.string x.endp) ∧ w'.cell? ⟨w.heap.size, 14, none⟩ = some (.int .i64 x.fin)) ∧ (w'.cell? ⟨w1.heap.size, 0, none⟩ = some (.int .i64 x.kind) ∧ w'.cell? ⟨w1.heap.size, 1, none⟩ = some (.int .i64 x.status) ∧ w'.cell? ⟨w1.heap.size, 2, none⟩ = some (.string x.route) ∧ w'.cell? ⟨w1.heap.size, 3, none⟩ = some (.int .i64 x.rule) ∧ w'.cell? ⟨w1.heap.size, 4, none⟩ = some (.string x.service) ∧ w'.cell? ⟨w1.heap.size, 5, none⟩ = some (.string x.endp)) ∧ Below w.heap.size w w') (first | (refine lr_step ?_ hb; assumption) | (refine lr_drew ?_; assumption) | assumption)
    (first
      | (go_at_call 39; (first | (with_reducible refine (Hn.out x.number _ Hr.out.number HF.out.number).mono ?_) | (with_reducible refine (Hn.out x.version _ Hr.out.version HF.out.version).mono ?_) | (with_reducible refine (Hn.out x.epoch _ Hr.out.epoch HF.out.epoch).mono ?_) | (with_reducible refine (Hn.out x.kind _ Hr.out.kind HF.out.kind).mono ?_) | (with_reducible refine (Hn.out x.status _ Hr.out.status HF.out.status).mono ?_) | (with_reducible refine (Hn.out x.rule _ Hr.out.rule HF.out.rule).mono ?_) | (with_reducible refine (Hn.out x.fin _ Hr.out.fin HF.out.fin).mono ?_)); rintro e w' ⟨rfl, hb⟩)
      | (go_at_call 40; (first | (with_reducible refine (Ht.out x.method _ HF.out.method).mono ?_) | (with_reducible refine (Ht.out x.host _ HF.out.host).mono ?_) | (with_reducible refine (Ht.out x.path _ HF.out.path).mono ?_) | (with_reducible refine (Ht.out x.route _ HF.out.route).mono ?_) | (with_reducible refine (Ht.out x.service _ HF.out.service).mono ?_) | (with_reducible refine (Ht.out x.endp _ HF.out.endp).mono ?_)); rintro e w' ⟨rfl, hb⟩)
      | (go_at_call 41; (first | (with_reducible refine (Hd.out x.a _ HF.out.a).mono ?_) | (with_reducible refine (Hd.out x.b _ HF.out.b).mono ?_)); rintro e w' ⟨rfl, hb⟩))
  go_wp2_with fail
  go_region_held3 (fun w' => (w'.cell? ⟨w.heap.size, 0, none⟩ = some (.int .i64 x.number) ∧ w'.cell? ⟨w.heap.size, 1, none⟩ = some (.int .i64 x.version) ∧ w'.cell? ⟨w.heap.size, 2, none⟩ = some (.int .i64 x.epoch) ∧ w'.cell? ⟨w.heap.size, 3, none⟩ = some (.string x.method) ∧ w'.cell? ⟨w.heap.size, 4, none⟩ = some (.string x.host) ∧ w'.cell? ⟨w.heap.size, 5, none⟩ = some (.string x.path) ∧ w'.cell? ⟨w.heap.size, 6, none⟩ = some (.int .u64 (x.a : Int)) ∧ w'.cell? ⟨w.heap.size, 7, none⟩ = some (.int .u64 (x.b : Int)) ∧ w'.cell? ⟨w.heap.size, 8, none⟩ = some (.int .i64 x.kind) ∧ w'.cell? ⟨w.heap.size, 9, none⟩ = some (.int .i64 x.status) ∧ w'.cell? ⟨w.heap.size, 10, none⟩ = some (.string x.route) ∧ w'.cell? ⟨w.heap.size, 11, none⟩ = some (.int .i64 x.rule) ∧ w'.cell? ⟨w.heap.size, 12, none⟩ = some (.string x.service) ∧ w'.cell? ⟨w.heap.size, 13, none⟩ = some (.string x.endp) ∧ w'.cell? ⟨w.heap.size, 14, none⟩ = some (.int .i64 x.fin)) ∧ (w'.cell? ⟨w1.heap.size, 0, none⟩ = some (.int .i64 x.kind) ∧ w'.cell? ⟨w1.heap.size, 1, none⟩ = some (.int .i64 x.status) ∧ w'.cell? ⟨w1.heap.size, 2, none⟩ = some (.string x.route) ∧ w'.cell? ⟨w1.heap.size, 3, none⟩ = some (.int .i64 x.rule) ∧ w'.cell? ⟨w1.heap.size, 4, none⟩ = some (.string x.service) ∧ w'.cell? ⟨w1.heap.size, 5, none⟩ = some (.string x.endp)) ∧ Below w.heap.size w w') (first | (refine lr_step ?_ hb; assumption) | (refine lr_drew ?_; assumption) | assumption)
    (first
      | (go_at_call 39; (first | (with_reducible refine (Hn.out x.number _ Hr.out.number HF.out.number).mono ?_) | (with_reducible refine (Hn.out x.version _ Hr.out.version HF.out.version).mono ?_) | (with_reducible refine (Hn.out x.epoch _ Hr.out.epoch HF.out.epoch).mono ?_) | (with_reducible refine (Hn.out x.kind _ Hr.out.kind HF.out.kind).mono ?_) | (with_reducible refine (Hn.out x.status _ Hr.out.status HF.out.status).mono ?_) | (with_reducible refine (Hn.out x.rule _ Hr.out.rule HF.out.rule).mono ?_) | (with_reducible refine (Hn.out x.fin _ Hr.out.fin HF.out.fin).mono ?_)); rintro e w' ⟨rfl, hb⟩)
      | (go_at_call 40; (first | (with_reducible refine (Ht.out x.method _ HF.out.method).mono ?_) | (with_reducible refine (Ht.out x.host _ HF.out.host).mono ?_) | (with_reducible refine (Ht.out x.path _ HF.out.path).mono ?_) | (with_reducible refine (Ht.out x.route _ HF.out.route).mono ?_) | (with_reducible refine (Ht.out x.service _ HF.out.service).mono ?_) | (with_reducible refine (Ht.out x.endp _ HF.out.endp).mono ?_)); rintro e w' ⟨rfl, hb⟩)
      | (go_at_call 41; (first | (with_reducible refine (Hd.out x.a _ HF.out.a).mono ?_) | (with_reducible refine (Hd.out x.b _ HF.out.b).mono ?_)); rintro e w' ⟨rfl, hb⟩))
  have Hf := Lib.hid (show Below w.heap.size w _ from (show _ ∧ _ ∧ Below w.heap.size w _ from by assumption).2.2)
  go_wp2
  go_ret2
  exact ⟨by rw [Hlast.out]; rfl, Hf.out⟩

end Go.Proofs.YthpflfcgnaichaaDoor
