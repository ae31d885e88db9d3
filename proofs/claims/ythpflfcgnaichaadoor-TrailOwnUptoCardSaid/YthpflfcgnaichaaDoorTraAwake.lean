/-
awake: a log, one entry, its line.
-/
import Derived.Test.YthpflfcgnaichaaDoorTraLg
set_option linter.unusedVariables false
set_option linter.unusedSimpArgs false
namespace Go.Proofs.YthpflfcgnaichaaDoor
open Go Go.RowKit

def E0 : Ent := ⟨0, 3, 1, ⟨#[71, 69, 84]⟩, ⟨#[97, 46, 98]⟩, ⟨#[47, 120]⟩, 5, 7, 1, 0, ⟨#[114]⟩, 0, ⟨#[119, 101, 98]⟩, ⟨#[101, 49]⟩, 0⟩
def E1 : Ent := ⟨0, 3, 1, ⟨#[71, 69, 84]⟩, ⟨#[97, 46, 98]⟩, ⟨#[47, 120]⟩, 5, 7, 1, 0, ⟨#[114]⟩, 0, ⟨#[119, 101, 98]⟩, ⟨#[101, 49]⟩, 1⟩

theorem textE1 : (⟨(textL [E1]).toArray⟩ : ByteArray) = ⟨#[48, 32, 51, 32, 49, 32, 71, 69, 84, 32, 97, 46, 98, 32, 47, 120, 32, 53, 32, 55, 32, 49, 32, 48, 32, 114, 32, 48, 32, 119, 101, 98, 32, 101, 49, 32, 49, 10]⟩ := by
  decide +kernel

theorem fitE1 : E1.Fit := by
  constructor <;> decide

def Aw (w wr : World) (xs : List Ent) : Prop := ∃ v, Lg w wr w.heap.size v xs

set_option maxHeartbeats 4000000 in
set_option maxRecDepth 20000 in
theorem awake_walk (w : World) (htab : Tab w) :
    Calls Tryd.prog 9 #[] w fun r w' => r = .returned (.bool true) ∧ Below w.heap.size w w' := by
  have h0 := (log_new w).alloc (.cells #[.int .i64 0, .int .i64 3, .int .i64 1, .string ⟨#[71, 69, 84]⟩, .string ⟨#[97, 46, 98]⟩, .string ⟨#[47, 120]⟩, .int .u64 5, .int .u64 7, .int .i64 1, .int .i64 0, .string ⟨#[114]⟩, .int .i64 0, .string ⟨#[119, 101, 98]⟩, .string ⟨#[101, 49]⟩, .int .i64 0] 38)
  have Ha := Lib.hid (show Calls Tryd.prog 10 #[.pointer (some ⟨w.heap.size, 0, none⟩), .agg #[.int .i64 0, .int .i64 3, .int .i64 1, .string ⟨#[71, 69, 84]⟩, .string ⟨#[97, 46, 98]⟩, .string ⟨#[47, 120]⟩, .int .u64 5, .int .u64 7, .int .i64 1, .int .i64 0, .string ⟨#[114]⟩, .int .i64 0, .string ⟨#[119, 101, 98]⟩, .string ⟨#[101, 49]⟩, .int .i64 0]] ((w.alloc (.cells #[.slice none 0 0] 27)).alloc (.cells #[.int .i64 0, .int .i64 3, .int .i64 1, .string ⟨#[71, 69, 84]⟩, .string ⟨#[97, 46, 98]⟩, .string ⟨#[47, 120]⟩, .int .u64 5, .int .u64 7, .int .i64 1, .int .i64 0, .string ⟨#[114]⟩, .int .i64 0, .string ⟨#[119, 101, 98]⟩, .string ⟨#[101, 49]⟩, .int .i64 0] 38)) fun r w' => r = .returned (.tuple #[.int .i64 0, .int .i64 0]) ∧ Aw w w' [E0] from
    (h0.add E0 (by decide) (by decide)).mono fun r w' ⟨v', hr, h1, _, _⟩ => ⟨hr, v', h1⟩)
  have Hf := Lib.hid (show ∀ wr, Aw w wr [E0] → Calls Tryd.prog 12 #[.pointer (some ⟨w.heap.size, 0, none⟩), .int .i64 0, .int .i64 1] wr fun r w' => r = .returned (.int .i64 0) ∧ Aw w w' [E1] from
    fun wr ⟨v, h⟩ => (h.fin (by decide) 0 E0 1 rfl rfl (by decide) (by decide)).mono fun r w' ⟨hr, h1, _⟩ => ⟨hr, v, h1⟩)
  have Hb := Lib.hid (show ∀ wr, Aw w wr [E1] → Calls Tryd.prog 12 #[.pointer (some ⟨w.heap.size, 0, none⟩), .int .i64 0, .int .i64 1] wr fun r w' => r = .returned (.int .i64 2) ∧ w' = wr from
    fun wr ⟨v, h⟩ => pendBad_walk wr _ v [E1] h.log (by decide) 0 1 (by decide))
  have Hz := Lib.hid (show ∀ wr, Aw w wr [E1] → Calls Tryd.prog 10 #[.pointer (some ⟨w.heap.size, 0, none⟩), .agg #[.int .i64 0, .int .i64 0, .int .i64 0, .string ⟨#[]⟩, .string ⟨#[]⟩, .string ⟨#[]⟩, .int .u64 0, .int .u64 0, .int .i64 0, .int .i64 0, .string ⟨#[]⟩, .int .i64 0, .string ⟨#[]⟩, .string ⟨#[]⟩, .int .i64 0]] wr fun r w' => r = .returned (.tuple #[.int .i64 0, .int .i64 2]) ∧ Aw w w' [E1] from
    fun wr ⟨v, h⟩ => (h.addBad Ent.zero (by decide)).mono fun r w' ⟨hr, h1, _⟩ => ⟨hr, v, h1⟩)
  have Hc := Lib.hid (show ∀ wr, Aw w wr [E1] → Calls Tryd.prog 15 #[.pointer (some ⟨w.heap.size, 0, none⟩)] wr fun r w' => r = .returned (.int .i64 1) ∧ w' = wr from
    fun wr ⟨v, h⟩ => count_walk wr _ v [E1] h.log)
  have Ht := Lib.hid (show ∀ wr, Aw w wr [E1] → Calls Tryd.prog 31 #[.pointer (some ⟨w.heap.size, 0, none⟩)] wr fun r w' => r = .returned (.string ⟨#[48, 32, 51, 32, 49, 32, 71, 69, 84, 32, 97, 46, 98, 32, 47, 120, 32, 53, 32, 55, 32, 49, 32, 48, 32, 114, 32, 48, 32, 119, 101, 98, 32, 101, 49, 32, 49, 10]⟩) ∧ Below w.heap.size w w' from
    fun wr ⟨v, h⟩ => (text_walk wr _ v [E1] h.log (tab_later htab h.below) (fun x hx => by
      obtain rfl := List.mem_singleton.1 hx
      exact fitE1) (by decide)).mono fun r w' ⟨hr, hb⟩ => ⟨by rw [← textE1]; exact hr, h.below.trans (hb.mono h.below.size)⟩)
  clear h0 htab
  go_enter Tryd.func9, Tryd.ntmps9
  go_wp2_with fail
  refine Ha.out.mono ?_
  rintro r w1 ⟨rfl, h1⟩
  have Hf1 := Lib.hid (Hf.out w1 h1)
  clear h1 Ha Hf
  go_wp2_with fail
  refine Hf1.out.mono ?_
  rintro r w2 ⟨rfl, h2⟩
  have Hb2 := Lib.hid (Hb.out w2 h2)
  have Hz2 := Lib.hid (Hz.out w2 h2)
  clear h2 Hf1 Hb Hz
  go_wp2_with fail
  refine Hb2.out.mono ?_
  rintro r w3 ⟨rfl, hw⟩
  obtain rfl := hw.symm
  clear Hb2 hw
  go_wp2_with fail
  refine Hz2.out.mono ?_
  rintro r w4 ⟨rfl, h4⟩
  have Hc4 := Lib.hid (Hc.out w4 h4)
  have Ht4 := Lib.hid (Ht.out w4 h4)
  clear h4 Hz2 Hc Ht
  go_wp2_with fail
  refine Hc4.out.mono ?_
  rintro r w5 ⟨rfl, hw⟩
  obtain rfl := hw.symm
  clear Hc4 hw
  go_wp2_with fail
  refine Ht4.out.mono ?_
  rintro r w6 ⟨rfl, h6⟩
  have H6 := Lib.hid h6
  clear h6 Ht4
  go_wp2
  go_ret
  exact ⟨rfl, H6.out⟩

end Go.Proofs.YthpflfcgnaichaaDoor
