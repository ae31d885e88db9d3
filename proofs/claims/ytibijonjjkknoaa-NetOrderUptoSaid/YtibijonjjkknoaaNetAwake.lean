/-
The function awake of package turnpikelaw04 returns true and changes nothing that was there.
-/
import Derived.Test.YtibijonjjkknoaaNetTo
import Derived.Laws.IdiomStrings
import Derived.Lib.SlBytesConst
set_option linter.unusedVariables false
set_option linter.unusedSimpArgs false
namespace Go.Proofs.Ytibijonjjkknoaa
open Go Go.RowKit

def nameA : ByteArray := { data := #[97] }

/-- A literal row of bytes, read. -/
theorem RdB.lit {w : World} {b : Nat} (ps : List UInt8) {fr : Nat × Nat} (h : w.heap[b]? = some (.cells (bytes ps).toArray 5 fr)) (hl : ps.length ≤ maxLen) : RdB w (some ⟨b, 0, none⟩) ps.length ps := by
  refine ⟨(fun h => by cases h), ?_, Nat.le_refl _, hl⟩
  intro ad had j u hu
  obtain rfl := Option.some.inj had
  rw [Addr.add_lit, Nat.zero_add]
  simp only [World.cell?, h]
  simpa using hu


set_option maxHeartbeats 1000000 in
theorem awake_any (w : World) : Calls Try.prog 7 #[] w fun e w' => e = .returned (.bool true) ∧ Below w.heap.size w w' := by
  have kc := fun (w : World) (C : Array Value) (n c : Nat) => Lib.run_convert_bytes_const (P := Try.prog) w 22 5 C n c Try.underlying22 Try.underlying5
  go_enter Try.func7, Try.ntmps7
  go_wp2_with fail
  refine (new_any _ w.heap.size (Nat.le_refl _)).mono ?_
  rintro e w1 ⟨n, L1, rfl, h1, hm1, hl1⟩
  have hb1 : Below w.heap.size w w1 := hm1.below (Nat.le_refl _) (fun _ f => f.elim)
  have H1 := Lib.hid (show Net1 w.heap.size w w1 L1 n St.new from ⟨h1, hb1, hb1.size⟩)
  clear h1 hm1 hl1 hb1
  go_wp2_with fail
  refine (dial_to H1.out (by decide) nameA (by decide) rfl 0 rfl (St.mk [Cn.new nameA] (.map []) 0) rfl).mono ?_
  rintro e w2 ⟨L2, rfl, h2⟩
  have H2 := Lib.hid h2
  clear h2
  go_wp2_with fail
  obtain ⟨w3, hw3⟩ : ∃ w3, w3 = w2.alloc (.cells #[.int .u8 104, .int .u8 101, .int .u8 121] 5 (3, 4)) := ⟨_, rfl⟩
  rw [← hw3]
  have hm3 : Mod (fun _ => False) w2 w3 := by rw [hw3]; exact (Mod.refl _ w2).alloc _
  have hr3 : RdB w3 (some ⟨w2.heap.size, 0, none⟩) 3 [104, 101, 121] := RdB.lit [104, 101, 121] (by rw [hw3]; exact alloc_new _) (by decide)
  have h3 := H2.out.frame hm3 (fun _ _ _ => id) (fun _ f => f.elim)
  refine (write_to h3 (by decide) 0 0 rfl 0 (Cn.new nameA) rfl rfl (.inl rfl) rfl _ _ _ hr3 (by decide) (St.mk [⟨nameA, true, false, ⟨[104, 101, 121], [], false, false⟩, Sd.zero⟩] (.map []) 0) rfl).mono ?_
  rintro e w4 ⟨L4, rfl, h4, _, _⟩
  have H4 := Lib.hid h4
  clear h4 h3 hr3 hm3 hw3
  go_wp2_with fail
  refine (pass_to H4.out (by decide) 0 0 rfl 0 _ rfl rfl (.inl rfl) 2 (by decide) (by decide) 2 rfl 2 rfl (St.mk [⟨nameA, true, false, ⟨[121], [], false, false⟩, ⟨[], [104, 101], false, false⟩⟩] (.map []) 0) rfl).mono ?_
  rintro e w5 ⟨L5, rfl, h5, _, _⟩
  have H5 := Lib.hid h5
  clear h5
  go_wp2_with fail
  refine (read_to H5.out (by decide) 0 0 rfl 1 _ rfl rfl (.inr rfl) [104, 101] rfl 2 rfl false rfl _ rfl).mono ?_
  rintro e w6 ⟨ao, cap, L6, rfl, h6, own6, _, _⟩
  have hb6 := h6.below
  have hrd := own6.rd rfl
  obtain ⟨g, off, rfl, hc⟩ := hrd.form.resolve_left (by decide)
  have hconv : (convert 22 9 (.slice (some ⟨g, off, none⟩) 2 cap)).run Try.prog w6 = .ok (.string { data := #[104, 101] }) w6 :=
    run_convert_bytes_back w6 22 9 5 ⟨g, off, none⟩ cap [104, 101] Try.underlying22 Try.underlying5 Try.underlying9 (fun j hj => by
      rw [Addr.add_lit]
      rw [hc j hj]
      match j, hj with
      | 0, _ => rfl
      | 1, _ => rfl)
  have Hb6 := Lib.hid hb6
  clear h6 own6 hrd hc hb6
  go_wp2
  go_ret
  exact ⟨rfl, Hb6.out⟩

end Go.Proofs.Ytibijonjjkknoaa
