/-
The walk of line.
-/
import Derived.Test.YthpflfcgnaichaaDoorTraFmt
import Derived.Test.YthpflfcgnaichaaDoorTraEntries
import Derived.Lib.ItoaLen
import Derived.Laws.Concat
set_option linter.unusedVariables false
set_option linter.unusedSimpArgs false
namespace Go.Proofs.YthpflfcgnaichaaDoor
open Go Go.RowKit

def itoaB (n : Int) : ByteArray := ⟨(Lib.itoa n).toArray⟩
def decB (n : Nat) : ByteArray := ⟨(Lib.decDigits n).toArray⟩
def toldB (s : ByteArray) : ByteArray := ⟨(toldL s.data.toList).toArray⟩

abbrev Tab (w : World) : Prop := Lib.TabIs Tryd.prog w "internal/strconv.uint64pow10" .u64 Lib.pow10Tab

theorem tab_later {w w2 : World} (h : Tab w) (hb : Below w.heap.size w w2) : Tab w2 := by
  unfold Tab Lib.TabIs World.var? at *
  cases hg : Tryd.prog.globalNamed "internal/strconv.uint64pow10" with
  | none => simp [hg] at h
  | some g =>
    simp only [hg, Option.bind_some] at h ⊢
    have hlt : g < w.heap.size := by
      rcases Nat.lt_or_ge g w.heap.size with h' | h'
      · exact h'
      · rw [Array.getElem?_eq_none h'] at h; simp at h
    rw [hb.block g hlt]
    exact h

/-- The parts of a line. -/
def partsB (x : Ent) : List ByteArray := [itoaB x.number, itoaB x.version, itoaB x.epoch, toldB x.method, toldB x.host, toldB x.path, decB x.a, decB x.b, itoaB x.kind, itoaB x.status, toldB x.route, itoaB x.rule, toldB x.service, toldB x.endp, itoaB x.fin]

/-- An entry's line. -/
def lineL (x : Ent) : List UInt8 := Lib.join ((partsB x).map (·.data.toList)) [32] ++ [10]

/-- An entry that can be laid in memory. -/
structure Ent.Fit (x : Ent) : Prop where
  number : I64 x.number
  version : I64 x.version
  epoch : I64 x.epoch
  a : x.a < 18446744073709551616
  b : x.b < 18446744073709551616
  kind : I64 x.kind
  status : I64 x.status
  rule : I64 x.rule
  fin : I64 x.fin
  method : x.method.size ≤ 40000000
  host : x.host.size ≤ 40000000
  path : x.path.size ≤ 40000000
  route : x.route.size ≤ 40000000
  service : x.service.size ≤ 40000000
  endp : x.endp.size ≤ 40000000

def LS (w w' : World) (x : Ent) : Prop := (w'.cell? ⟨w.heap.size, 0, none⟩ = some (.int .i64 x.number) ∧ w'.cell? ⟨w.heap.size, 1, none⟩ = some (.int .i64 x.version) ∧ w'.cell? ⟨w.heap.size, 2, none⟩ = some (.int .i64 x.epoch) ∧ w'.cell? ⟨w.heap.size, 3, none⟩ = some (.string x.method) ∧ w'.cell? ⟨w.heap.size, 4, none⟩ = some (.string x.host) ∧ w'.cell? ⟨w.heap.size, 5, none⟩ = some (.string x.path) ∧ w'.cell? ⟨w.heap.size, 6, none⟩ = some (.int .u64 (x.a : Int)) ∧ w'.cell? ⟨w.heap.size, 7, none⟩ = some (.int .u64 (x.b : Int)) ∧ w'.cell? ⟨w.heap.size, 8, none⟩ = some (.int .i64 x.kind) ∧ w'.cell? ⟨w.heap.size, 9, none⟩ = some (.int .i64 x.status) ∧ w'.cell? ⟨w.heap.size, 10, none⟩ = some (.string x.route) ∧ w'.cell? ⟨w.heap.size, 11, none⟩ = some (.int .i64 x.rule) ∧ w'.cell? ⟨w.heap.size, 12, none⟩ = some (.string x.service) ∧ w'.cell? ⟨w.heap.size, 13, none⟩ = some (.string x.endp) ∧ w'.cell? ⟨w.heap.size, 14, none⟩ = some (.int .i64 x.fin)) ∧ (w'.cell? ⟨w.heap.size + 1, 0, none⟩ = some (.int .i64 x.kind) ∧ w'.cell? ⟨w.heap.size + 1, 1, none⟩ = some (.int .i64 x.status) ∧ w'.cell? ⟨w.heap.size + 1, 2, none⟩ = some (.string x.route) ∧ w'.cell? ⟨w.heap.size + 1, 3, none⟩ = some (.int .i64 x.rule) ∧ w'.cell? ⟨w.heap.size + 1, 4, none⟩ = some (.string x.service) ∧ w'.cell? ⟨w.heap.size + 1, 5, none⟩ = some (.string x.endp)) ∧ Below w.heap.size w w'

theorem ls_step {w w1 w2 : World} {x : Ent} (h : LS w w1 x) (hb : Below w1.heap.size w1 w2) : LS w w2 x := by
  obtain ⟨⟨a0, a1, a2, a3, a4, a5, a6, a7, a8, a9, a10, a11, a12, a13, a14⟩, ⟨b0, b1, b2, b3, b4, b5⟩, h3⟩ := h
  have g1 : ∀ j, w1.cell? ⟨w.heap.size, j, none⟩ ≠ none → w2.cell? ⟨w.heap.size, j, none⟩ = w1.cell? ⟨w.heap.size, j, none⟩ := fun j hj => hb.cell (by obtain ⟨v, hv⟩ := Option.ne_none_iff_exists'.1 hj; exact World.block_lt_of_cell? w1 _ hv)
  have g2 : ∀ j, w1.cell? ⟨w.heap.size + 1, j, none⟩ ≠ none → w2.cell? ⟨w.heap.size + 1, j, none⟩ = w1.cell? ⟨w.heap.size + 1, j, none⟩ := fun j hj => hb.cell (by obtain ⟨v, hv⟩ := Option.ne_none_iff_exists'.1 hj; exact World.block_lt_of_cell? w1 _ hv)
  exact ⟨⟨(g1 _ (by rw [a0]; nofun)).trans a0, (g1 _ (by rw [a1]; nofun)).trans a1, (g1 _ (by rw [a2]; nofun)).trans a2, (g1 _ (by rw [a3]; nofun)).trans a3, (g1 _ (by rw [a4]; nofun)).trans a4, (g1 _ (by rw [a5]; nofun)).trans a5, (g1 _ (by rw [a6]; nofun)).trans a6, (g1 _ (by rw [a7]; nofun)).trans a7, (g1 _ (by rw [a8]; nofun)).trans a8, (g1 _ (by rw [a9]; nofun)).trans a9, (g1 _ (by rw [a10]; nofun)).trans a10, (g1 _ (by rw [a11]; nofun)).trans a11, (g1 _ (by rw [a12]; nofun)).trans a12, (g1 _ (by rw [a13]; nofun)).trans a13, (g1 _ (by rw [a14]; nofun)).trans a14⟩, ⟨(g2 _ (by rw [b0]; nofun)).trans b0, (g2 _ (by rw [b1]; nofun)).trans b1, (g2 _ (by rw [b2]; nofun)).trans b2, (g2 _ (by rw [b3]; nofun)).trans b3, (g2 _ (by rw [b4]; nofun)).trans b4, (g2 _ (by rw [b5]; nofun)).trans b5⟩, h3.trans (hb.mono h3.size)⟩

theorem ls_drew {w w1 : World} {x : Ent} (h : LS w w1 x) : LS w w1.drew x := ⟨h.1, h.2.1, h.2.2.drew⟩
theorem ls_alloc {w w1 : World} {x : Ent} (h : LS w w1 x) (o : Obj) : LS w (w1.alloc o) x := ls_step h ((Below.refl _ w1).alloc (Nat.le_refl _) o)

theorem ls_first (w : World) (x : Ent) (S T : TypeId) : LS w ((w.alloc (.cells #[.int .i64 x.number, .int .i64 x.version, .int .i64 x.epoch, .string x.method, .string x.host, .string x.path, .int .u64 (x.a : Int), .int .u64 (x.b : Int), .int .i64 x.kind, .int .i64 x.status, .string x.route, .int .i64 x.rule, .string x.service, .string x.endp, .int .i64 x.fin] S)).alloc (.cells #[.int .i64 x.kind, .int .i64 x.status, .string x.route, .int .i64 x.rule, .string x.service, .string x.endp] T)) x := by
  refine ⟨?_, ?_, two_new _ _ _⟩
  · refine ⟨?_, ?_, ?_, ?_, ?_, ?_, ?_, ?_, ?_, ?_, ?_, ?_, ?_, ?_, ?_⟩ <;> (rw [World.cell?_alloc_lt _ _ _ (by simp), World.cell?_alloc_new]; rfl)
  · have e : w.heap.size + 1 = (w.alloc (.cells #[.int .i64 x.number, .int .i64 x.version, .int .i64 x.epoch, .string x.method, .string x.host, .string x.path, .int .u64 (x.a : Int), .int .u64 (x.b : Int), .int .i64 x.kind, .int .i64 x.status, .string x.route, .int .i64 x.rule, .string x.service, .string x.endp, .int .i64 x.fin] S)).heap.size := by simp
    rw [e]
    refine ⟨?_, ?_, ?_, ?_, ?_, ?_⟩ <;> (rw [World.cell?_alloc_new]; rfl)

theorem ls_tab {w w1 : World} {x : Ent} (ht : Hid (Tab w)) (h : LS w w1 x) : Tab w1 := tab_later ht.out h.2.2

theorem decB_len {n : Nat} (h : n < 18446744073709551616) : (decB n).data.toList.length ≤ 20 := by
  show (Lib.decDigits n).toArray.toList.length ≤ 20
  rw [List.toList_toArray, Lib.decDigits_length]
  exact Lib.nDigits_le20 n h

theorem itoaB_len {n : Int} (h : I64 n) : (itoaB n).data.toList.length ≤ 21 := Lib.itoa_length_le n h.1 h.2

theorem toldL_len (l : List UInt8) : (toldL l).length ≤ 3 * l.length + 1 := by
  unfold toldL
  split
  · simp
  · split
    · rename_i h; rw [h]; decide
    · have := encL_len l; omega

theorem toldB_len {s : ByteArray} (h : s.size ≤ 40000000) : (toldB s).data.toList.length ≤ 120000001 := by
  show (toldL s.data.toList).toArray.toList.length ≤ _
  rw [List.toList_toArray]
  have := toldL_len s.data.toList
  have h2 : s.data.toList.length = s.size := by rw [Array.length_toList, ByteArray.size_data]
  omega

theorem lens_le (B : Nat) : ∀ ls : List (List UInt8), (∀ l ∈ ls, l.length ≤ B) → Lib.lens ls ≤ B * ls.length
  | [], _ => Nat.zero_le _
  | l :: r, h => by
    have h1 := lens_le B r fun m hm => h m (List.mem_cons_of_mem _ hm)
    have h2 := h l (List.mem_cons_self ..)
    unfold Lib.lens at *
    rw [List.map_cons, List.sum_cons, List.length_cons, Nat.mul_add, Nat.mul_one]
    omega

theorem join_le (B : Nat) (s : List UInt8) : ∀ ls : List (List UInt8), (∀ l ∈ ls, l.length ≤ B) → (Lib.join ls s).length ≤ s.length * ls.length + B * ls.length
  | [], _ => by simp [Lib.join_nil]
  | l :: r, h => by
    have h1 := lens_le B (l :: r) h
    rw [Lib.join_length]
    have : s.length * r.length ≤ s.length * (l :: r).length := Nat.mul_le_mul_left _ (by simp)
    omega

theorem parts_le {x : Ent} (h : x.Fit) : ∀ l ∈ (partsB x).map (·.data.toList), l.length ≤ 120000001 := by
  intro l hl
  obtain ⟨s, hs, rfl⟩ := List.mem_map.1 hl
  unfold partsB at hs
  simp only [List.mem_cons, List.not_mem_nil, or_false] at hs
  rcases hs with rfl | rfl | rfl | rfl | rfl | rfl | rfl | rfl | rfl | rfl | rfl | rfl | rfl | rfl | rfl
  · exact Nat.le_trans (itoaB_len h.number) (by decide)
  · exact Nat.le_trans (itoaB_len h.version) (by decide)
  · exact Nat.le_trans (itoaB_len h.epoch) (by decide)
  · exact toldB_len h.method
  · exact toldB_len h.host
  · exact toldB_len h.path
  · exact Nat.le_trans (decB_len h.a) (by decide)
  · exact Nat.le_trans (decB_len h.b) (by decide)
  · exact Nat.le_trans (itoaB_len h.kind) (by decide)
  · exact Nat.le_trans (itoaB_len h.status) (by decide)
  · exact toldB_len h.route
  · exact Nat.le_trans (itoaB_len h.rule) (by decide)
  · exact toldB_len h.service
  · exact toldB_len h.endp
  · exact Nat.le_trans (itoaB_len h.fin) (by decide)

theorem join_len {x : Ent} (h : x.Fit) : (Lib.join ((partsB x).map (·.data.toList)) [32]).length ≤ 2000000000 := by
  have h1 := join_le 120000001 [32] _ (parts_le h)
  have h2 : ((partsB x).map (·.data.toList)).length = 15 := rfl
  rw [h2] at h1
  exact Nat.le_trans h1 (by decide)

theorem add_nl {l : List UInt8} {m : List UInt8} (h : m = l ++ [10]) : (⟨l.toArray⟩ : ByteArray) ++ (⟨#[10]⟩ : ByteArray) = ⟨m.toArray⟩ := by
  subst h
  apply ByteArray.ext
  rw [ByteArray.data_append]
  apply Array.ext'
  simp

theorem join_walk (w1 : World) (x : Ent) (hx : x.Fit) : Calls Tryd.prog 56 #[.slice (some ⟨w1.heap.size, 0, none⟩) 15 15, .string ⟨#[32]⟩] (w1.alloc (.cells #[.string (itoaB x.number), .string (itoaB x.version), .string (itoaB x.epoch), .string (toldB x.method), .string (toldB x.host), .string (toldB x.path), .string (decB x.a), .string (decB x.b), .string (itoaB x.kind), .string (itoaB x.status), .string (toldB x.route), .string (itoaB x.rule), .string (toldB x.service), .string (toldB x.endp), .string (itoaB x.fin)] 9)) fun r w' => r = .returned (.string ⟨(Lib.join ((partsB x).map (·.data.toList)) [32]).toArray⟩) ∧ Below (w1.heap.size + 1) (w1.alloc (.cells #[.string (itoaB x.number), .string (itoaB x.version), .string (itoaB x.epoch), .string (toldB x.method), .string (toldB x.host), .string (toldB x.path), .string (decB x.a), .string (decB x.b), .string (itoaB x.kind), .string (itoaB x.status), .string (toldB x.route), .string (itoaB x.rule), .string (toldB x.service), .string (toldB x.endp), .string (itoaB x.fin)] 9)) w' := by
  have h := Tryd.strings_Join w1.heap.size 0 15 (partsB x) ⟨#[32]⟩ (w1.alloc (.cells #[.string (itoaB x.number), .string (itoaB x.version), .string (itoaB x.epoch), .string (toldB x.method), .string (toldB x.host), .string (toldB x.path), .string (decB x.a), .string (decB x.b), .string (itoaB x.kind), .string (itoaB x.status), .string (toldB x.route), .string (itoaB x.rule), .string (toldB x.service), .string (toldB x.endp), .string (itoaB x.fin)] 9)) (fun j y hj => by
    rw [World.cell?_alloc_new]
    have e : (#[.string (itoaB x.number), .string (itoaB x.version), .string (itoaB x.epoch), .string (toldB x.method), .string (toldB x.host), .string (toldB x.path), .string (decB x.a), .string (decB x.b), .string (itoaB x.kind), .string (itoaB x.status), .string (toldB x.route), .string (itoaB x.rule), .string (toldB x.service), .string (toldB x.endp), .string (itoaB x.fin)] : Array Value) = ((partsB x).map Value.string).toArray := rfl
    rw [e, Nat.zero_add, List.getElem?_toArray, List.getElem?_map, hj]
    rfl) (by simp) (show 15 ≤ 140737488355328 by decide) (Nat.le_refl 15) (Nat.le_trans (join_len hx) (by decide))
  refine h.mono ?_
  rintro r w' ⟨hr, hb⟩
  refine ⟨hr, ?_⟩
  have e : (w1.alloc (.cells #[.string (itoaB x.number), .string (itoaB x.version), .string (itoaB x.epoch), .string (toldB x.method), .string (toldB x.host), .string (toldB x.path), .string (decB x.a), .string (decB x.b), .string (itoaB x.kind), .string (itoaB x.status), .string (toldB x.route), .string (itoaB x.rule), .string (toldB x.service), .string (toldB x.endp), .string (itoaB x.fin)] 9)).heap.size = w1.heap.size + 1 := by simp
  rw [e] at hb
  exact hb

theorem add_walk (w1 : World) (x : Ent) (hx : x.Fit) : (Op.stringOp .add ⟨(Lib.join ((partsB x).map (·.data.toList)) [32]).toArray⟩ ⟨#[10]⟩).run Tryd.prog w1 = .ok (.string ⟨(lineL x).toArray⟩) w1 := by
  have hl := join_len hx
  have hl2 : (⟨(Lib.join ((partsB x).map (·.data.toList)) [32]).toArray⟩ : ByteArray).size = (Lib.join ((partsB x).map (·.data.toList)) [32]).length := List.size_toArray
  rw [run_string_add_sum w1 _ _ (by rw [hl2]; exact Nat.le_trans (Nat.add_le_add_right hl _) (by decide)), add_nl rfl]
  rfl

set_option maxHeartbeats 4000000 in
set_option maxRecDepth 20000 in
theorem line_walk (w : World) (x : Ent) (hx : x.Fit) (htab : Tab w) :
    Calls Tryd.prog 38 #[.agg #[.int .i64 x.number, .int .i64 x.version, .int .i64 x.epoch, .string x.method, .string x.host, .string x.path, .int .u64 (x.a : Int), .int .u64 (x.b : Int), .int .i64 x.kind, .int .i64 x.status, .string x.route, .int .i64 x.rule, .string x.service, .string x.endp, .int .i64 x.fin]] w fun r w' => r = .returned (.string ⟨(lineL x).toArray⟩) ∧ Below w.heap.size w w' := by
  have Hi := Lib.hid (show ∀ (n : Int) (w1 : World), I64 n → Tab w1 → Calls Tryd.prog 53 #[.int .i64 n] w1 fun r w' => r = .returned (.string (itoaB n)) ∧ Below w1.heap.size w1 w' from fun n w1 hn ht => (Tryd.strconv_Itoa n hn.1 hn.2 w1 ht).mono fun e w' ⟨he, k, os, hw⟩ => ⟨he, hw ▸ below_grow w1 k os⟩)
  have Hf := Lib.hid (show ∀ (n : Nat) (w1 : World), n < 18446744073709551616 → Tab w1 → Calls Tryd.prog 55 #[.int .u64 (n : Int), .int .i64 10] w1 fun r w' => r = .returned (.string (decB n)) ∧ Below w1.heap.size w1 w' from fun n w1 hn ht => formatUint_walk n hn w1 ht)
  have Ht := Lib.hid (show ∀ (s : ByteArray) (w1 : World), s.size ≤ 40000000 → Calls Tryd.prog 54 #[.string s] w1 fun r w' => r = .returned (.string (toldB s)) ∧ Below w1.heap.size w1 w' from fun s w1 hs => told_walk w1 s (by omega))
  have Htab := Lib.hid htab
  have HF := Lib.hid hx
  have hfirst := ls_first w x 38 30
  have Hj := Lib.hid (show ∀ w1 : World, Calls Tryd.prog 56 #[.slice (some ⟨w1.heap.size, 0, none⟩) 15 15, .string ⟨#[32]⟩] (w1.alloc (.cells #[.string (itoaB x.number), .string (itoaB x.version), .string (itoaB x.epoch), .string (toldB x.method), .string (toldB x.host), .string (toldB x.path), .string (decB x.a), .string (decB x.b), .string (itoaB x.kind), .string (itoaB x.status), .string (toldB x.route), .string (itoaB x.rule), .string (toldB x.service), .string (toldB x.endp), .string (itoaB x.fin)] 9)) fun r w' => r = .returned (.string ⟨(Lib.join ((partsB x).map (·.data.toList)) [32]).toArray⟩) ∧ Below (w1.heap.size + 1) (w1.alloc (.cells #[.string (itoaB x.number), .string (itoaB x.version), .string (itoaB x.epoch), .string (toldB x.method), .string (toldB x.host), .string (toldB x.path), .string (decB x.a), .string (decB x.b), .string (itoaB x.kind), .string (itoaB x.status), .string (toldB x.route), .string (itoaB x.rule), .string (toldB x.service), .string (toldB x.endp), .string (itoaB x.fin)] 9)) w' from fun w1 => join_walk w1 x hx)
  have ha : ∀ w1, (Op.stringOp .add ⟨(Lib.join ((partsB x).map (·.data.toList)) [32]).toArray⟩ ⟨#[10]⟩).run Tryd.prog w1 = .ok (.string ⟨(lineL x).toArray⟩) w1 := fun w1 => add_walk w1 x hx
  clear htab hx
  go_enter Tryd.func38, Tryd.ntmps38
  go_wp2_with fail
  go_region_held3 (fun w' => (w'.cell? ⟨w.heap.size, 0, none⟩ = some (.int .i64 x.number) ∧ w'.cell? ⟨w.heap.size, 1, none⟩ = some (.int .i64 x.version) ∧ w'.cell? ⟨w.heap.size, 2, none⟩ = some (.int .i64 x.epoch) ∧ w'.cell? ⟨w.heap.size, 3, none⟩ = some (.string x.method) ∧ w'.cell? ⟨w.heap.size, 4, none⟩ = some (.string x.host) ∧ w'.cell? ⟨w.heap.size, 5, none⟩ = some (.string x.path) ∧ w'.cell? ⟨w.heap.size, 6, none⟩ = some (.int .u64 (x.a : Int)) ∧ w'.cell? ⟨w.heap.size, 7, none⟩ = some (.int .u64 (x.b : Int)) ∧ w'.cell? ⟨w.heap.size, 8, none⟩ = some (.int .i64 x.kind) ∧ w'.cell? ⟨w.heap.size, 9, none⟩ = some (.int .i64 x.status) ∧ w'.cell? ⟨w.heap.size, 10, none⟩ = some (.string x.route) ∧ w'.cell? ⟨w.heap.size, 11, none⟩ = some (.int .i64 x.rule) ∧ w'.cell? ⟨w.heap.size, 12, none⟩ = some (.string x.service) ∧ w'.cell? ⟨w.heap.size, 13, none⟩ = some (.string x.endp) ∧ w'.cell? ⟨w.heap.size, 14, none⟩ = some (.int .i64 x.fin)) ∧ (w'.cell? ⟨w.heap.size + 1, 0, none⟩ = some (.int .i64 x.kind) ∧ w'.cell? ⟨w.heap.size + 1, 1, none⟩ = some (.int .i64 x.status) ∧ w'.cell? ⟨w.heap.size + 1, 2, none⟩ = some (.string x.route) ∧ w'.cell? ⟨w.heap.size + 1, 3, none⟩ = some (.int .i64 x.rule) ∧ w'.cell? ⟨w.heap.size + 1, 4, none⟩ = some (.string x.service) ∧ w'.cell? ⟨w.heap.size + 1, 5, none⟩ = some (.string x.endp)) ∧ Below w.heap.size w w') (first | exact ls_drew hfirst | (refine ls_step ?_ hb; assumption) | (refine ls_alloc ?_ _; assumption) | assumption)
    (first
      | (go_at_call 53; (first | ((with_reducible refine (Hi.out x.number _ HF.out.number (ls_tab (x := x) Htab ?_)).mono ?_); assumption) | ((with_reducible refine (Hi.out x.version _ HF.out.version (ls_tab (x := x) Htab ?_)).mono ?_); assumption) | ((with_reducible refine (Hi.out x.epoch _ HF.out.epoch (ls_tab (x := x) Htab ?_)).mono ?_); assumption) | ((with_reducible refine (Hi.out x.kind _ HF.out.kind (ls_tab (x := x) Htab ?_)).mono ?_); assumption) | ((with_reducible refine (Hi.out x.status _ HF.out.status (ls_tab (x := x) Htab ?_)).mono ?_); assumption) | ((with_reducible refine (Hi.out x.rule _ HF.out.rule (ls_tab (x := x) Htab ?_)).mono ?_); assumption) | ((with_reducible refine (Hi.out x.fin _ HF.out.fin (ls_tab (x := x) Htab ?_)).mono ?_); assumption)); rintro e w' ⟨rfl, hb⟩)
      | (go_at_call 54; (first | (with_reducible refine (Ht.out x.method _ HF.out.method).mono ?_) | (with_reducible refine (Ht.out x.host _ HF.out.host).mono ?_) | (with_reducible refine (Ht.out x.path _ HF.out.path).mono ?_) | (with_reducible refine (Ht.out x.route _ HF.out.route).mono ?_) | (with_reducible refine (Ht.out x.service _ HF.out.service).mono ?_) | (with_reducible refine (Ht.out x.endp _ HF.out.endp).mono ?_)); rintro e w' ⟨rfl, hb⟩)
      | (go_at_call 55; (first | ((with_reducible refine (Hf.out x.a _ HF.out.a (ls_tab (x := x) Htab ?_)).mono ?_); assumption) | ((with_reducible refine (Hf.out x.b _ HF.out.b (ls_tab (x := x) Htab ?_)).mono ?_); assumption)); rintro e w' ⟨rfl, hb⟩))
  all_goals
    have hfin : Below w.heap.size w _ := (show _ ∧ _ ∧ Below w.heap.size w (World.alloc _ _) from by assumption).2.2
    have HB := Lib.hid hfin
    clear hfin hfirst
    go_wp2_with fail
    refine (Hj.out _).mono ?_
    rintro e w2 ⟨rfl, h2⟩
    have HB2 := Lib.hid h2
    clear h2 Hj
    go_wp2
    go_ret
    exact ⟨rfl, HB.out.trans (HB2.out.mono (by have := HB.out.size; simpa using this))⟩

end Go.Proofs.YthpflfcgnaichaaDoor
