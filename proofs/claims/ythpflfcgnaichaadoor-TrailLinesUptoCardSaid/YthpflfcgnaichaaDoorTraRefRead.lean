/-
The reference's Reading: next, whole, word, text.
-/
import Derived.Test.YthpflfcgnaichaaDoorTraRefUntW
import Derived.Test.YthpflfcgnaichaaDoorTraClo
set_option linter.unusedVariables false
set_option linter.unusedSimpArgs false
namespace Go.Proofs.YthpflfcgnaichaaDoor
open Go Go.RowKit

/-- A Reading in memory: its parts, j of them read. -/
structure RD (w0 w : World) (rb g : Nat) (ps : List ByteArray) (c j : Nat) (bad : Bool) : Prop where
  below : Below w0.heap.size w0 w
  blk : w.heap[rb]? = some (.cells #[.slice (some ⟨g, 0, none⟩) 15 c, .int .i64 (j : Int), .bool bad] 133 (0, 0))
  row : ∀ i x, ps[i]? = some x → w.cell? ⟨g, i, none⟩ = some (.string x)
  len : ps.length = 15
  small : ∀ x ∈ ps, x.size ≤ 10000000
  rb0 : w0.heap.size ≤ rb
  glt : g < w.heap.size
  ne : g ≠ rb

section
variable {w0 w w2 : World} {rb g c j : Nat} {ps : List ByteArray} {bad : Bool}

theorem RD.later (h : RD w0 w rb g ps c j bad) (hb : Below w.heap.size w w2) : RD w0 w2 rb g ps c j bad :=
  ⟨h.below.trans (hb.mono h.below.size), (hb.block rb (lt_of_heap h.blk)).trans h.blk, fun i x hi => (hb.cell h.glt).trans (h.row i x hi), h.len, h.small, h.rb0, Nat.lt_of_lt_of_le h.glt hb.size, h.ne⟩

theorem RD.put (h : RD w0 w rb g ps c j bad) (o : Nat) (v : Value) (j' : Nat) (b' : Bool) (hv : (#[.slice (some ⟨g, 0, none⟩) 15 c, .int .i64 (j : Int), .bool bad] : Array Value).setIfInBounds o v = #[.slice (some ⟨g, 0, none⟩) 15 c, .int .i64 (j' : Int), .bool b']) : RD w0 (w.setCell ⟨rb, o, none⟩ v) rb g ps c j' b' := by
  have hm : Mod (fun k => k = rb) w (w.setCell ⟨rb, o, none⟩ v) := (Mod.refl _ w).setCell _ _ (fun _ => rfl)
  refine ⟨h.below.trans (hm.below h.below.size fun k hk => hk ▸ h.rb0), ?_, fun i x hi => hm.cell (h.row i x hi) h.ne, h.len, h.small, h.rb0, Nat.lt_of_lt_of_le h.glt hm.size, h.ne⟩
  rw [set_blk h.blk o v, hv]

theorem kp_seto (w : World) (rb o : Nat) (v : Value) : Kp rb w (w.setCell ⟨rb, o, none⟩ v) := fun b ob hb ho => (set_other ⟨rb, o, none⟩ v hb).trans ho

theorem RD.psize (h : RD w0 w rb g ps c j bad) (hj : j < 15) : (part ps j).size ≤ 10000000 :=
  h.small _ (List.mem_of_getElem? (part_at (by rw [h.len]; exact hj)))

set_option maxHeartbeats 1000000 in
theorem RD.next (h : RD w0 w rb g ps c j bad) (hj : j < 15) :
    Calls Tryd.prog 88 #[.pointer (some ⟨rb, 0, none⟩)] w fun r w' => r = .returned (.string (part ps j)) ∧ RD w0 w' rb g ps c (j + 1) bad ∧ Kp rb w w' := by
  have hP := h.put 1 (.int .i64 ((j : Int) + 1)) (j + 1) bad (by simp)
  have HP := Lib.hid (fun n => And.intro (hP.later (w2 := (w.setCell ⟨rb, 1, none⟩ (.int .i64 ((j : Int) + 1))).drewN n) ⟨rfl, rfl, rfl, Nat.le_refl _, fun _ _ => rfl⟩) (kp_trans (kp_seto w rb 1 (.int .i64 ((j : Int) + 1))) (kp_below (pb := rb) (w' := (w.setCell ⟨rb, 1, none⟩ (.int .i64 ((j : Int) + 1))).drewN n) ⟨rfl, rfl, rfl, Nat.le_refl _, fun _ _ => rfl⟩)))
  have c1 : w.cell? ⟨rb, 1, none⟩ = some (.int .i64 (j : Int)) := cell_blk h.blk 1
  have f1 := frozen_blk h.blk 1
  have d0 : (w.setCell ⟨rb, 1, none⟩ (.int .i64 ((j : Int) + 1))).cell? ⟨rb, 0, none⟩ = some (.slice (some ⟨g, 0, none⟩) 15 c) := cell_blk hP.blk 0
  have d1 : (w.setCell ⟨rb, 1, none⟩ (.int .i64 ((j : Int) + 1))).cell? ⟨rb, 1, none⟩ = some (.int .i64 ((j : Int) + 1)) := by
    have := cell_blk hP.blk 1
    simpa using this
  have x0 : (w.setCell ⟨rb, 1, none⟩ (.int .i64 ((j : Int) + 1))).cell? ⟨g, j, none⟩ = some (.string (part ps j)) := hP.row j _ (part_at (by rw [h.len]; exact hj))
  have b1 : (j : Int) < 15 := by omega
  have b0 : (0 : Int) ≤ (j : Int) := by omega
  have w1 : wrap64 ((j : Int) + 1) = (j : Int) + 1 := by unfold wrap64; omega
  have w3 : IntKind.i64.wrap ((j : Int) + 1 - 1) = (j : Int) := by rw [IntKind.wrap_i64]; omega
  have t3 : (((j : Int) + 1 - 1)).toNat = j := by omega
  generalize part ps j = x at *
  clear h hP hj
  go_enter Tryd.func88, Tryd.ntmps88
  go_wp2_with fail
  go_quiet (fail)
  go_wp2
  go_ret
  exact ⟨rfl, HP.out _⟩

def WholeV (s : ByteArray) (n : Int) (ok : Bool) : Prop := I64 n ∧ (ok = true → itoaB n = s ∧ -1 ≤ n) ∧ (∀ m : Int, -1 ≤ m → m ≤ 9223372036854775807 → s.data.toList = Lib.itoa m → ok = true ∧ n = m)
def WordV (s : ByteArray) (n : Nat) (ok : Bool) : Prop := n < 18446744073709551616 ∧ (ok = true → decB n = s) ∧ (∀ m, m < 18446744073709551616 → s.data.toList = Lib.decDigits m → ok = true ∧ n = m)
def UntV (s t : ByteArray) (ok : Bool) : Prop := t.size ≤ s.size ∧ (ok = true → toldB t = s) ∧ (∀ t0, s = toldB t0 → ok = true ∧ t = t0)

def WholeR (w0 w : World) (rb g : Nat) (ps : List ByteArray) (c j : Nat) (bad : Bool) (r : Ending) (w' : World) : Prop :=
  ∃ (n : Int) (ok : Bool), r = .returned (.int .i64 n) ∧ WholeV (part ps j) n ok ∧ RD w0 w' rb g ps c (j + 1) (bad || !ok) ∧ Kp rb w w'
def WordR (w0 w : World) (rb g : Nat) (ps : List ByteArray) (c j : Nat) (bad : Bool) (r : Ending) (w' : World) : Prop :=
  ∃ (n : Nat) (ok : Bool), r = .returned (.int .u64 (n : Int)) ∧ WordV (part ps j) n ok ∧ RD w0 w' rb g ps c (j + 1) (bad || !ok) ∧ Kp rb w w'
def TextR (w0 w : World) (rb g : Nat) (ps : List ByteArray) (c j : Nat) (bad : Bool) (r : Ending) (w' : World) : Prop :=
  ∃ (t : ByteArray) (ok : Bool), r = .returned (.string t) ∧ UntV (part ps j) t ok ∧ RD w0 w' rb g ps c (j + 1) (bad || !ok) ∧ Kp rb w w'

set_option maxHeartbeats 1000000 in
theorem RD.whole (h : RD w0 w rb g ps c j bad) (hj : j < 15) : Calls Tryd.prog 65 #[.pointer (some ⟨rb, 0, none⟩)] w (WholeR w0 w rb g ps c j bad) := by
  have Hn := Lib.hid (h.next hj)
  have Hw := Lib.hid (fun w1 => whole_c w1 (part ps j) (Nat.le_trans (h.psize hj) (by decide)))
  clear h hj
  go_enter Tryd.func65, Tryd.ntmps65
  go_wp2_with fail
  refine Hn.out.mono ?_
  rintro r w1 ⟨rfl, h1, hk⟩
  have Hw1 := Lib.hid (Hw.out w1)
  have H1 := Lib.hid (And.intro h1 hk)
  clear h1 hk Hn Hw
  go_wp2_with fail
  refine Hw1.out.mono ?_
  rintro r w2 ⟨n, ok, rfl, q1, q2, q3, hb⟩
  have h2 := H1.out.1.later hb
  have hk2 : Kp rb w w2 := kp_trans H1.out.2 (kp_below hb)
  have c2 : w2.cell? ⟨rb, 2, none⟩ = some (.bool bad) := cell_blk h2.blk 2
  have f2 := frozen_blk h2.blk 2
  have Hend := Lib.hid (fun (v : Bool) (hv : v = (bad || !ok)) => show WholeR w0 w rb g ps c j bad (.returned (.int .i64 n)) (w2.setCell ⟨rb, 2, none⟩ (.bool v)) from ⟨n, ok, rfl, ⟨q1, q2, q3⟩, by rw [← hv]; exact h2.put 2 (.bool v) (j + 1) v rfl, kp_trans hk2 (kp_seto w2 rb 2 (.bool v))⟩)
  clear h2 hk2 hb q1 q2 q3 Hw1 H1
  cases bad
  · cases ok
    · go_wp2
      go_ret
      exact Hend.out _ rfl
    · go_wp2
      go_ret
      exact Hend.out _ rfl
  · cases ok
    · go_wp2
      go_ret
      exact Hend.out _ rfl
    · go_wp2
      go_ret
      exact Hend.out _ rfl

set_option maxHeartbeats 1000000 in
theorem RD.word (h : RD w0 w rb g ps c j bad) (hj : j < 15) : Calls Tryd.prog 67 #[.pointer (some ⟨rb, 0, none⟩)] w (WordR w0 w rb g ps c j bad) := by
  have Hn := Lib.hid (h.next hj)
  have Hw := Lib.hid (fun w1 => word_c w1 (part ps j) (Nat.le_trans (h.psize hj) (by decide)))
  clear h hj
  go_enter Tryd.func67, Tryd.ntmps67
  go_wp2_with fail
  refine Hn.out.mono ?_
  rintro r w1 ⟨rfl, h1, hk⟩
  have Hw1 := Lib.hid (Hw.out w1)
  have H1 := Lib.hid (And.intro h1 hk)
  clear h1 hk Hn Hw
  go_wp2_with fail
  refine Hw1.out.mono ?_
  rintro r w2 ⟨n, ok, rfl, q1, q2, q3, hb⟩
  have h2 := H1.out.1.later hb
  have hk2 : Kp rb w w2 := kp_trans H1.out.2 (kp_below hb)
  have c2 : w2.cell? ⟨rb, 2, none⟩ = some (.bool bad) := cell_blk h2.blk 2
  have f2 := frozen_blk h2.blk 2
  have Hend := Lib.hid (fun (v : Bool) (hv : v = (bad || !ok)) => show WordR w0 w rb g ps c j bad (.returned (.int .u64 (n : Int))) (w2.setCell ⟨rb, 2, none⟩ (.bool v)) from ⟨n, ok, rfl, ⟨q1, q2, q3⟩, by rw [← hv]; exact h2.put 2 (.bool v) (j + 1) v rfl, kp_trans hk2 (kp_seto w2 rb 2 (.bool v))⟩)
  clear h2 hk2 hb q1 q2 q3 Hw1 H1
  cases bad
  · cases ok
    · go_wp2
      go_ret
      exact Hend.out _ rfl
    · go_wp2
      go_ret
      exact Hend.out _ rfl
  · cases ok
    · go_wp2
      go_ret
      exact Hend.out _ rfl
    · go_wp2
      go_ret
      exact Hend.out _ rfl

set_option maxHeartbeats 1000000 in
theorem RD.text (h : RD w0 w rb g ps c j bad) (hj : j < 15) : Calls Tryd.prog 66 #[.pointer (some ⟨rb, 0, none⟩)] w (TextR w0 w rb g ps c j bad) := by
  have Hn := Lib.hid (h.next hj)
  have Hw := Lib.hid (fun w1 => untold_c w1 (part ps j) (Nat.le_trans (h.psize hj) (by decide)))
  clear h hj
  go_enter Tryd.func66, Tryd.ntmps66
  go_wp2_with fail
  refine Hn.out.mono ?_
  rintro r w1 ⟨rfl, h1, hk⟩
  have Hw1 := Lib.hid (Hw.out w1)
  have H1 := Lib.hid (And.intro h1 hk)
  clear h1 hk Hn Hw
  go_wp2_with fail
  refine Hw1.out.mono ?_
  rintro r w2 ⟨n, ok, rfl, q1, q2, q3, hb⟩
  have h2 := H1.out.1.later hb
  have hk2 : Kp rb w w2 := kp_trans H1.out.2 (kp_below hb)
  have c2 : w2.cell? ⟨rb, 2, none⟩ = some (.bool bad) := cell_blk h2.blk 2
  have f2 := frozen_blk h2.blk 2
  have Hend := Lib.hid (fun (v : Bool) (hv : v = (bad || !ok)) => show TextR w0 w rb g ps c j bad (.returned (.string n)) (w2.setCell ⟨rb, 2, none⟩ (.bool v)) from ⟨n, ok, rfl, ⟨q1, q2, q3⟩, by rw [← hv]; exact h2.put 2 (.bool v) (j + 1) v rfl, kp_trans hk2 (kp_seto w2 rb 2 (.bool v))⟩)
  clear h2 hk2 hb q1 q2 q3 Hw1 H1
  cases bad
  · cases ok
    · go_wp2
      go_ret
      exact Hend.out _ rfl
    · go_wp2
      go_ret
      exact Hend.out _ rfl
  · cases ok
    · go_wp2
      go_ret
      exact Hend.out _ rfl
    · go_wp2
      go_ret
      exact Hend.out _ rfl

end

end Go.Proofs.YthpflfcgnaichaaDoor
