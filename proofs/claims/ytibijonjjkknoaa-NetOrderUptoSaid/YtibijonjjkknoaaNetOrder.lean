/-
The walk of NetOrder: it answers true, and leaves all that was there as it was.
-/
import Derived.Test.YtibijonjjkknoaaNetOrdL
set_option linter.unusedVariables false
set_option linter.unusedSimpArgs false
namespace Go.Proofs.Ytibijonjjkknoaa
open Go Go.RowKit

set_option maxRecDepth 100000 in
set_option maxHeartbeats 1600000 in
theorem netOrder_walk (w : World) (al : Option Addr) (len cl : Nat) (gl ol : Nat) (hal : 0 < len → al = some ⟨gl, ol, none⟩ ∧ gl < w.heap.size) (kind conn side nn : Nat → Int) (name : Nat → ByteArray) (ad : Nat → Option Addr) (dl dc : Nat → Nat) (ps : Nat → List UInt8)
    (hc : ∀ i, i < len → CallAt w gl (ol + i * 6) (kind i) (name i) (conn i) (side i) (nn i) (ad i) (dl i) (dc i) (ps i)) (sum : Nat → Nat) (hs0 : ∀ i, i < len → sum i + dl i ≤ sum (i + 1)) (hsum : ∀ i, i ≤ len → sum i ≤ 1048576) (hlen : len ≤ 1048576) :
    Calls Try.prog 5 #[.slice al len cl] w fun e w' => e = .returned (.bool true) ∧ Below w.heap.size w w' := by
  have Hal := Lib.hid hal
  have Hc := Lib.hid hc
  have Hs0 := Lib.hid hs0
  have Hsum := Lib.hid hsum
  clear hal hc hs0 hsum
  go_enter Try.func5, Try.ntmps5
  go_wp2_with fail
  refine (awake_any w).mono ?_
  rintro e w1 ⟨rfl, hb1⟩
  have Hb1 := Lib.hid hb1
  have hs1 := hb1.size
  clear hb1
  go_wp2_with fail
  refine (new_any _ w.heap.size hs1).mono ?_
  rintro e w2 ⟨n, L2, rfl, h2, hm2, hl2⟩
  have hb2 : Below w.heap.size w w2 := Hb1.out.trans (hm2.below hs1 (fun _ f => f.elim))
  have H2 := Lib.hid (show Net1 w.heap.size w w2 L2 n St.new from ⟨h2, hb2, hb2.size⟩)
  clear h2 hm2 hl2 hb2
  go_wp2_with fail
  refine (dial_to H2.out (by decide) nameX (by decide) rfl 0 rfl (St.mk [Cn.new nameX] (.map []) 0) rfl).mono ?_
  rintro e w3 ⟨L3, rfl, h3⟩
  have H3 := Lib.hid h3
  clear h3
  go_wp2_with fail
  refine (dial_to H3.out (by decide) nameA (by decide) rfl 1 rfl (St.mk [Cn.new nameX, Cn.new nameA] (.map []) 0) rfl).mono ?_
  rintro e w4 ⟨L4, rfl, h4⟩
  have H4 := Lib.hid h4
  clear h4
  go_wp2_with fail
  refine (dial_to H4.out (by decide) nameY (by decide) rfl 2 rfl (St.mk [Cn.new nameX, Cn.new nameA, Cn.new nameY] (.map []) 0) rfl).mono ?_
  rintro e w5 ⟨L5, rfl, h5⟩
  have H5 := Lib.hid h5
  have hs5 := h5.le
  clear h5
  go_wp2_with fail
  have Hi0 := Lib.hid ((inv_start H5.out rfl rfl rfl).kept (Mod.refl _ _) (Nat.zero_le (sum 0)))
  rename_i Q1 K1 hK1
  refine sLoop (B := w.heap.size) (w0 := w) (sum := sum) (ao := al) (len := len) (cl := cl) (gl := gl) (ol := ol) ?hf Hi0.out (Nat.le_refl _) Hal.out Hc.out (fun i hi => (Hc.out i hi).old) Hs0.out Hsum.out hlen ?_
  case hf => exact ⟨rfl, rfl, rfl, rfl, rfl, rfl, rfl, rfl⟩
  intro a' w' cut hf hI
  refine hK1 _ _ ?_
  refine sAfter hf hI (Hsum.out _ (Nat.le_refl _)) ?_
  intro a2 w2 z1 z2 z3 h2
  refine ⟨z2, .bool true, ?_, rfl, h2.net.1⟩
  rw [← getD_of z3]
  exact results_tmp rfl _ _ _

end Go.Proofs.Ytibijonjjkknoaa
