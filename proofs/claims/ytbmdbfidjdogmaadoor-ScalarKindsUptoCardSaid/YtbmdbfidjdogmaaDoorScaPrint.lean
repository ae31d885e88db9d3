/-
The walk of the program's Print.
-/
import Derived.Test.YtbmdbfidjdogmaaDoorScaReal64
import Derived.Test.YtbmdbfidjdogmaaDoorScaRead
import Derived.Deep.RegionHeld3
set_option linter.unusedVariables false
set_option linter.unusedSimpArgs false
namespace Go.Proofs.YtbmdbfidjdogmaaDoor
open Go Go.RowKit

/-- What both Prints answer: a text, whether it is to be quoted, an error. -/
def PrintS (v : Val) (l : List UInt8) (q : Bool) (er : Int) : Prop :=
  (v.kind = 1 ∧ l = [110, 117, 108, 108] ∧ q = false ∧ er = 0) ∨
  (v.kind = 2 ∧ l = (if v.bool = true then [116, 114, 117, 101] else [102, 97, 108, 115, 101]) ∧ q = false ∧ er = 0) ∨
  (v.kind = 3 ∧ l = Lib.itoa v.int ∧ q = false ∧ er = 0) ∨
  (v.kind = 4 ∧ RealS v.real l er ∧ q = false) ∨
  (v.kind = 5 ∧ l = v.text.data.toList ∧ q = ((readS v.text false).kind != 5) ∧ er = 0) ∨
  ((v.kind < 1 ∨ 5 < v.kind) ∧ l = [] ∧ q = false ∧ er = 2)

def PrintPost (v : Val) (w : World) (e : Ending) (w' : World) : Prop :=
  ∃ (s : ByteArray) (q : Bool) (er : Int), e = .returned (.tuple #[.string s, .bool q, .int .i64 er]) ∧ Below w.heap.size w w' ∧ PrintS v s.data.toList q er

/-- What a value is made of. -/
structure Val.Ok (v : Val) : Prop where
  i1 : -9223372036854775808 ≤ v.int
  i2 : v.int ≤ 9223372036854775807
  r : v.real < 18446744073709551616
  t : v.text.size ≤ 2097152

/-- The memory while a text is looked at. -/
structure PW (w w' : World) : Prop where
  below : Below w.heap.size w w'
  laid : RangeLaid w'
  lt : w.heap.size < w'.heap.size

theorem PW.first {w w' : World} (h : Below w.heap.size w w') (hl : RangeLaid w') (hs : w.heap.size < w'.heap.size) : PW w w' := ⟨h, hl, hs⟩

theorem s_first {w w1 : World} {v : Value} (h : w1.cell? ⟨w.heap.size, 4, none⟩ = some v) (hk : PW w w1) : w1.drew.cell? ⟨w.heap.size, 4, none⟩ = some v ∧ PW w w1.drew :=
  ⟨h, ⟨hk.below.trans ⟨rfl, rfl, rfl, Nat.le_refl _, fun _ _ => rfl⟩, hk.laid, hk.lt⟩⟩

theorem s_laid {w w1 : World} {v : Value} (h : w1.cell? ⟨w.heap.size, 4, none⟩ = some v ∧ PW w w1) : RangeLaid w1 := h.2.laid

theorem s_step {w w1 w2 : World} {v : Value} (hh : w1.cell? ⟨w.heap.size, 4, none⟩ = some v ∧ PW w w1) (hb : Below w1.heap.size w1 w2) : w2.cell? ⟨w.heap.size, 4, none⟩ = some v ∧ PW w w2 := by
  obtain ⟨h, hk⟩ := hh
  refine ⟨(hb.cell (p := ⟨w.heap.size, 4, none⟩) hk.lt).trans h, hk.below.trans (hb.mono hk.below.size), ?_, Nat.lt_of_lt_of_le hk.lt hb.size⟩
  obtain ⟨ev, q1, q2⟩ := hk.laid
  exact ⟨ev, (hb.cell (p := ⟨3, 0, none⟩) (lt_of_cell q1)).trans q1, q2⟩

set_option maxHeartbeats 4000000 in
set_option maxRecDepth 20000 in
theorem print_walk (w : World) (v : Val) (hv : v.Ok) (htab : Tab w) (hl : RangeLaid w) :
    Calls Tryd.prog 16 #[v.v] w fun e w' => PrintPost v w e w' := by
  obtain ⟨kd, b, i, x, t⟩ := v
  obtain ⟨i1, i2, hr, ht⟩ := hv
  have hres : ∀ (s : ByteArray) q er w', Below w.heap.size w w' → PrintS ⟨kd, b, i, x, t⟩ s.data.toList q er → PrintPost ⟨kd, b, i, x, t⟩ w (.returned (.tuple #[.string s, .bool q, .int .i64 er])) w' := fun s q er w' h1 h2 => ⟨s, q, er, rfl, h1, h2⟩
  have Hres := Lib.hid hres
  clear hres
  unfold Val.v valV
  dsimp only at i1 i2 hr ht ⊢
  have hB1 := (Below.refl w.heap.size w).alloc (Nat.le_refl _) (.cells #[.int .i64 kd, .bool b, .int .i64 i, .float .f64 x, .string t] 25)
  have HB1 := Lib.hid hB1
  clear hB1
  have Htab := Lib.hid (Lib.tabIs_alloc htab (.cells #[.int .i64 kd, .bool b, .int .i64 i, .float .f64 x, .string t] 25))
  have Hl := Lib.hid (rangeLaid_alloc hl (.cells #[.int .i64 kd, .bool b, .int .i64 i, .float .f64 x, .string t] 25))
  clear htab hl
  by_cases k1 : kd = 1
  · subst k1
    go_enter Tryd.func16, Tryd.ntmps16
    go_wp2
    go_ret3
    exact Hres.out _ _ _ _ HB1.out (.inl ⟨rfl, rfl, rfl, rfl⟩)
  by_cases k2 : kd = 2
  · subst k2
    clear k1
    have Hf := Lib.hid (fun w => Tryd.strconv_FormatBool b w)
    go_enter Tryd.func16, Tryd.ntmps16
    go_wp2_with fail
    refine (Hf.out _).mono ?_
    rintro e w1 ⟨rfl, hw⟩
    obtain rfl := hw.symm
    clear Hf
    go_wp2
    go_ret3
    exact Hres.out _ _ _ _ HB1.out (.inr (.inl ⟨rfl, by cases b <;> rfl, rfl, rfl⟩))
  by_cases k3 : kd = 3
  · subst k3
    clear k1 k2
    have Hf := Lib.hid (Tryd.strconv_FormatInt_10 i i1 i2 _ Htab.out)
    go_enter Tryd.func16, Tryd.ntmps16
    go_wp2_with fail
    refine Hf.out.mono ?_
    rintro e w1 ⟨rfl, n, os, hw⟩
    have hB2 := below_grow (w.alloc (.cells #[.int .i64 3, .bool b, .int .i64 i, .float .f64 x, .string t] 25)) n os
    rw [← hw] at hB2
    have HB2 := Lib.hid hB2
    clear Hf hw hB2
    go_wp2
    go_ret3
    exact Hres.out _ _ _ _ (HB1.out.trans (HB2.out.mono HB1.out.size)) (.inr (.inr (.inl ⟨rfl, rfl, rfl, rfl⟩)))
  by_cases k4 : kd = 4
  · subst k4
    clear k1 k2 k3
    have Hf := Lib.hid (real64_walk _ x hr Htab.out)
    go_enter Tryd.func16, Tryd.ntmps16
    go_wp2_with fail
    refine Hf.out.mono ?_
    rintro e w1 ⟨s, er, rfl, hb2, hs⟩
    have HB2 := Lib.hid hb2
    have Hs := Lib.hid hs
    clear Hf hs hb2
    go_wp2
    go_ret3
    exact Hres.out _ _ _ _ (HB1.out.trans (HB2.out.mono HB1.out.size)) (.inr (.inr (.inr (.inl ⟨rfl, Hs.out, rfl⟩))))
  by_cases k5 : kd = 5
  · subst k5
    clear k1 k2 k3 k4
    have hf := fun w1 hl => read_walk w1 t ht false hl
    unfold ReadPost at hf
    have Hk : Hid (∀ q, q = ((readS t false).kind != 5) → ∀ w', Below w.heap.size w w' → PrintPost ⟨5, b, i, x, t⟩ w (.returned (.tuple #[.string t, .bool q, .int .i64 0])) w') := Lib.hid fun q hq w' h => Hres.out t q 0 w' h (.inr (.inr (.inr (.inr (.inl ⟨rfl, rfl, hq, rfl⟩)))))
    generalize readS t false = rv at hf Hk
    obtain ⟨kk, bb, ii, xx, tt⟩ := rv
    unfold Val.v valV at hf
    dsimp only at hf Hk
    have hfield : ∀ w', (Instr.field 25 (.agg #[.int .i64 kk, .bool bb, .int .i64 ii, .float .f64 xx, .string tt]) 0).run Tryd.prog w' = .ok (.int .i64 kk) w' := fun _ => by kernel_rfl
    have Hf := Lib.hid hf
    clear hf
    go_enter Tryd.func16, Tryd.ntmps16
    go_wp2_with fail
    have hK0 := PW.first HB1.out Hl.out (by simp)
    have ht0 : (w.alloc (.cells #[.int .i64 5, .bool b, .int .i64 i, .float .f64 x, .string t] 25)).cell? ⟨w.heap.size, 4, none⟩ = some (.string t) := by simp
    go_region_held3 (fun w' => w'.cell? ⟨w.heap.size, 4, none⟩ = some (.string t) ∧ PW w w') (first | exact s_first ht0 hK0 | (refine s_step ?_ hb; assumption) | (constructor <;> assumption))
      (first | (go_at_call 9; refine (Hf.out _ ?_).mono ?_; (refine s_laid (w := w) (v := .string t) ?_; assumption); rintro e w' ⟨rfl, hb⟩))
    all_goals go_wp2
    all_goals go_ret3
    all_goals exact Hk.out _ rfl _ (by first | exact (show _ ∧ PW w _ from by assumption).2.below | exact PW.below (by assumption))
  · have q1 : (kd == 1) = false := beq_eq_false_iff_ne.2 k1
    have q2 : (kd == 2) = false := beq_eq_false_iff_ne.2 k2
    have q3 : (kd == 3) = false := beq_eq_false_iff_ne.2 k3
    have q4 : (kd == 4) = false := beq_eq_false_iff_ne.2 k4
    have q5 : (kd == 5) = false := beq_eq_false_iff_ne.2 k5
    have ho : kd < 1 ∨ 5 < kd := by omega
    have Ho := Lib.hid ho
    clear k1 k2 k3 k4 k5 ho
    go_enter Tryd.func16, Tryd.ntmps16
    go_wp2
    go_ret3
    exact Hres.out _ _ _ _ HB1.out (.inr (.inr (.inr (.inr (.inr ⟨Ho.out, rfl, rfl, rfl⟩)))))

end Go.Proofs.YtbmdbfidjdogmaaDoor
