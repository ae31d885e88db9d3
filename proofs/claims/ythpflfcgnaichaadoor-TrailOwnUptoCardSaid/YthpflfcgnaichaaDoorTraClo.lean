/-
The closures of the program's entry: the next word, a number, a word of 64 bits.
-/
import Derived.Test.YthpflfcgnaichaaDoorTraTxtW
set_option linter.unusedVariables false
set_option linter.unusedSimpArgs false
namespace Go.Proofs.YthpflfcgnaichaaDoor
open Go Go.RowKit

def part (ps : List ByteArray) (j : Nat) : ByteArray := ps.getD j ⟨#[]⟩

/-- What is left of the words. -/
def restV (g j : Nat) : Value := if j < 15 then .slice (some ⟨g, j, none⟩) (15 - j) (15 - j) else .slice (some ⟨g, 14, none⟩) 0 0

abbrev cloV (pb : Nat) : Value := .func (.func 59) #[] #[.pointer (some ⟨pb, 0, none⟩)]

abbrev ZObj : Obj := .cells #[.int .i64 0, .int .i64 0, .int .i64 0, .string ⟨#[]⟩, .string ⟨#[]⟩, .string ⟨#[]⟩, .int .u64 0, .int .u64 0, .int .i64 0, .int .i64 0, .string ⟨#[]⟩, .int .i64 0, .string ⟨#[]⟩, .string ⟨#[]⟩, .int .i64 0] 38

/-- The memory of the program's entry, j words read. -/
structure EN (w0 w : World) (pb nb g : Nat) (ps : List ByteArray) (j : Nat) : Prop where
  glob : Glob w0
  below : Below w0.heap.size w0 w
  rest : w.heap[pb]? = some (.cells #[restV g j] 59 (0, 0))
  clo : w.heap[nb]? = some (.cells #[cloV pb] 78 (0, 0))
  row : ∀ i x, ps[i]? = some x → w.cell? ⟨g, i, none⟩ = some (.string x)
  len : ps.length = 15
  small : ∀ x ∈ ps, x.size ≤ 40000000
  pb0 : w0.heap.size ≤ pb
  ne1 : nb ≠ pb
  ne2 : g ≠ pb
  glt : g < w.heap.size
  res : w.heap[w0.heap.size]? = some ZObj
  ne3 : w0.heap.size ≠ pb

theorem part_at {ps : List ByteArray} {j : Nat} (h : j < ps.length) : ps[j]? = some (part ps j) := by
  unfold part
  rw [List.getD_eq_getElem?_getD, List.getElem?_eq_getElem h]
  rfl

theorem EN.later {w0 w w2 : World} {pb nb g j : Nat} {ps : List ByteArray} (h : EN w0 w pb nb g ps j) (hb : Below w.heap.size w w2) : EN w0 w2 pb nb g ps j :=
  ⟨h.glob, h.below.trans (hb.mono h.below.size), (hb.block pb (lt_of_heap h.rest)).trans h.rest, (hb.block nb (lt_of_heap h.clo)).trans h.clo, fun i x hi => (hb.cell h.glt).trans (h.row i x hi), h.len, h.small, h.pb0, h.ne1, h.ne2, Nat.lt_of_lt_of_le h.glt hb.size, (hb.block _ (lt_of_heap h.res)).trans h.res, h.ne3⟩

theorem EN.drew {w0 w : World} {pb nb g j : Nat} {ps : List ByteArray} (h : EN w0 w pb nb g ps j) : EN w0 w.drew pb nb g ps j := h.later ⟨rfl, rfl, rfl, Nat.le_refl _, fun _ _ => rfl⟩

theorem EN.taken {w0 w : World} {pb nb g j : Nat} {ps : List ByteArray} (h : EN w0 w pb nb g ps j) : EN w0 (w.setCell ⟨pb, 0, none⟩ (restV g (j + 1))) pb nb g ps (j + 1) := by
  have hm : Mod (fun k => k = pb) w (w.setCell ⟨pb, 0, none⟩ (restV g (j + 1))) := (Mod.refl _ w).setCell _ _ (fun _ => rfl)
  refine ⟨h.glob, h.below.trans (hm.below h.below.size fun k hk => hk ▸ h.pb0), ?_, hm.heap h.clo h.ne1, fun i x hi => hm.cell (h.row i x hi) h.ne2, h.len, h.small, h.pb0, h.ne1, h.ne2, Nat.lt_of_lt_of_le h.glt hm.size, hm.heap h.res h.ne3, h.ne3⟩
  have := set_blk h.rest 0 (restV g (j + 1))
  simpa using this

/-- All blocks but one stay. -/
def Kp (pb : Nat) (w w' : World) : Prop := ∀ b o, b ≠ pb → w.heap[b]? = some o → w'.heap[b]? = some o

theorem kp_refl (pb : Nat) (w : World) : Kp pb w w := fun _ _ _ h => h
theorem kp_trans {pb : Nat} {a b c : World} (h : Kp pb a b) (k : Kp pb b c) : Kp pb a c := fun x o hx ho => k x o hx (h x o hx ho)
theorem kp_below {pb : Nat} {w w' : World} (h : Below w.heap.size w w') : Kp pb w w' := fun b o _ hb => (h.block b (lt_of_heap hb)).trans hb
theorem kp_set (w : World) (pb : Nat) (v : Value) : Kp pb w (w.setCell ⟨pb, 0, none⟩ v) := fun b o hb ho => (set_other ⟨pb, 0, none⟩ v hb).trans ho

theorem EN.size {w0 w : World} {pb nb g j : Nat} {ps : List ByteArray} (h : EN w0 w pb nb g ps j) (hj : j < 15) : (part ps j).size ≤ 40000000 :=
  h.small _ (List.mem_of_getElem? (part_at (by rw [h.len]; exact hj)))

set_option maxHeartbeats 1000000 in
theorem EN.next {w0 w : World} {pb nb g j : Nat} {ps : List ByteArray} (h : EN w0 w pb nb g ps j) (hj : j < 15) :
    Calls Tryd.prog 59 #[.pointer (some ⟨pb, 0, none⟩)] w fun r w' => r = .returned (.string (part ps j)) ∧ EN w0 w' pb nb g ps (j + 1) ∧ Kp pb w w' := by
  have hT := And.intro h.taken (kp_set w pb (restV g (j + 1)))
  have c0 : w.cell? ⟨pb, 0, none⟩ = some (restV g j) := cell_blk h.rest 0
  have f0 := frozen_blk h.rest 0
  have x0 : w.cell? ⟨g, j, none⟩ = some (.string (part ps j)) := h.row j _ (part_at (by rw [h.len]; exact hj))
  unfold restV at hT c0
  rw [if_pos hj] at c0
  generalize part ps j = x at *
  by_cases h14 : j = 14
  · subst h14
    rw [if_neg (by decide)] at hT
    have HT := Lib.hid hT
    clear h hT hj
    go_enter Tryd.func59, Tryd.ntmps59
    go_wp2
    go_ret
    exact ⟨rfl, HT.out⟩
  · rw [if_pos (by omega)] at hT
    obtain ⟨m, hm⟩ : ∃ m, m = 15 - j := ⟨_, rfl⟩
    obtain ⟨m1, hm1⟩ : ∃ m1, m1 = 15 - (j + 1) := ⟨_, rfl⟩
    rw [← hm] at c0
    rw [← hm1] at hT
    have e1 : m - 1 = m1 := by omega
    have b1 : (0 : Int) < (m : Int) := by omega
    have b2 : (1 : Int) ≤ (m : Int) := by omega
    have b3 : ¬ m = 1 := by omega
    have b4 : ¬ m1 = 0 := by omega
    have HT := Lib.hid hT
    clear h hT hj hm hm1 h14
    go_enter Tryd.func59, Tryd.ntmps59
    go_wp2
    all_goals go_ret
    all_goals exact ⟨rfl, HT.out⟩

set_option maxHeartbeats 1000000 in
theorem EN.num {w0 w : World} {pb nb g j : Nat} {ps : List ByteArray} (h : EN w0 w pb nb g ps j) (hj : j < 15) :
    Calls Tryd.prog 60 #[.pointer (some ⟨nb, 0, none⟩)] w fun r w' => r = .returned (.int .i64 (atoiV (part ps j))) ∧ EN w0 w' pb nb g ps (j + 1) ∧ Kp pb w w' := by
  have c0 : w.cell? ⟨nb, 0, none⟩ = some (cloV pb) := cell_blk h.clo 0
  have Hn := Lib.hid (h.next hj)
  have Ha := Lib.hid (fun w2 (h2 : EN w0 w2 pb nb g ps (j + 1)) => atoi_c (part ps j) (Nat.le_trans (h.size hj) (by decide)) w2 (glob_later h2.glob h2.below))
  clear h hj
  generalize part ps j = x at *
  go_enter Tryd.func60, Tryd.ntmps60
  go_wp2_with fail
  refine Hn.out.mono ?_
  rintro r w1 ⟨rfl, h1, hk⟩
  have Ha1 := Lib.hid (Ha.out w1 h1)
  have H1 := Lib.hid (fun w2 hb => And.intro (h1.later (w2 := w2) hb) (kp_trans hk (kp_below hb)))
  clear h1 hk Hn Ha
  go_wp2_with fail
  refine Ha1.out.mono ?_
  rintro r w2 ⟨⟨er, rfl⟩, hb⟩
  have H2 := Lib.hid (H1.out w2 hb)
  clear hb Ha1 H1
  go_wp2
  go_ret
  exact ⟨rfl, H2.out⟩

set_option maxHeartbeats 1000000 in
theorem EN.word {w0 w : World} {pb nb g j : Nat} {ps : List ByteArray} (h : EN w0 w pb nb g ps j) (hj : j < 15) :
    Calls Tryd.prog 62 #[.pointer (some ⟨nb, 0, none⟩)] w fun r w' => r = .returned (.int .u64 (puintV (part ps j) : Int)) ∧ EN w0 w' pb nb g ps (j + 1) ∧ Kp pb w w' := by
  have c0 : w.cell? ⟨nb, 0, none⟩ = some (cloV pb) := cell_blk h.clo 0
  have Hn := Lib.hid (h.next hj)
  have Ha := Lib.hid (fun w2 (h2 : EN w0 w2 pb nb g ps (j + 1)) => puint_c (part ps j) (Nat.le_trans (h.size hj) (by decide)) w2 (glob_later h2.glob h2.below))
  clear h hj
  generalize part ps j = x at *
  go_enter Tryd.func62, Tryd.ntmps62
  go_wp2_with fail
  refine Hn.out.mono ?_
  rintro r w1 ⟨rfl, h1, hk⟩
  have Ha1 := Lib.hid (Ha.out w1 h1)
  have H1 := Lib.hid (fun w2 hb => And.intro (h1.later (w2 := w2) hb) (kp_trans hk (kp_below hb)))
  clear h1 hk Hn Ha
  go_wp2_with fail
  refine Ha1.out.mono ?_
  rintro r w2 ⟨⟨er, rfl⟩, hb⟩
  have H2 := Lib.hid (H1.out w2 hb)
  clear hb Ha1 H1
  go_wp2
  go_ret
  exact ⟨rfl, H2.out⟩

def txtB (s : ByteArray) : ByteArray := ⟨(txtS s.data.toList).toArray⟩

theorem EN.text {w0 w : World} {pb nb g j : Nat} {ps : List ByteArray} {s : ByteArray} (h : EN w0 w pb nb g ps j) (hs : s.size ≤ 40000000) :
    Calls Tryd.prog 64 #[.string s] w fun r w' => r = .returned (.string (txtB s)) ∧ EN w0 w' pb nb g ps j ∧ Kp pb w w' :=
  (text_c w s hs).mono fun r w' ⟨hr, hb⟩ => ⟨hr, h.later hb, kp_below hb⟩

end Go.Proofs.YthpflfcgnaichaaDoor
