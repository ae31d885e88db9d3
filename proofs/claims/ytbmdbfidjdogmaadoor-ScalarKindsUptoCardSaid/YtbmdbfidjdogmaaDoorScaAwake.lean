/-
The walk of awake: some texts.
-/
import Derived.Test.YtbmdbfidjdogmaaDoorScaBack
set_option linter.unusedVariables false
set_option linter.unusedSimpArgs false
namespace Go.Proofs.YtbmdbfidjdogmaaDoor
open Go Go.RowKit

abbrev R15 : Nat := 4564560351926583034

theorem no_sol {x M0 : Nat} {k : Int} (hk1 : -22 ≤ k) (hk2 : k ≤ 22) (hM : M0 + 1 < 1000000000000000) (h1 : M0 = 0 ∨ FV (scW M0 k) < FV x) (h2 : FV x < FV (scW (M0 + 1) k)) : ∀ M', ¬ Sol x k M' := by
  rintro M' ⟨a, b, c⟩
  rcases Nat.lt_trichotomy M' (M0 + 1) with q | q | q
  · rcases h1 with h1 | h1
    · omega
    · rcases Nat.lt_or_eq_of_le (Nat.le_of_lt_succ q) with q2 | q2
      · have := sc_mono (k := k) a q2 (by omega) hk1 hk2
        omega
      · subst q2; omega
  · subst q; omega
  · have := sc_mono (k := k) (show 1 ≤ M0 + 1 by omega) q b hk1 hk2
    omega

theorem dec_r15 : Dec R15 15 (-4) 0 := by
  refine .inl ⟨rfl, by decide, by decide, ⟨by decide, by decide, by decide +kernel⟩, ?_⟩
  intro k' h1 h2
  by_cases h3 : k' = -3
  · subst h3
    exact no_sol (M0 := 1) (by decide) (by decide) (by decide) (.inr (by decide +kernel)) (by decide +kernel)
  · have key : ∀ j : Nat, j < 25 → FV R15 < FV (scW (0 + 1) ((j : Int) - 2)) := by decide +kernel
    have h := key (k' + 2).toNat (by omega)
    rw [show (((k' + 2).toNat : Nat) : Int) - 2 = k' by omega] at h
    exact no_sol (M0 := 0) (by omega) h2 (by decide) (.inl rfl) h

theorem realT_r15 : realT 15 (-4) = [48, 46, 48, 48, 49, 53] := by
  have h1 : Lib.decDigits 15 = [49, 53] := Lib.decDigits_two (by decide) (by decide)
  have h2 : Lib.nDigits 15 = 2 := by rw [← Lib.decDigits_length, h1]; rfl
  unfold realT
  rw [h2, h1]
  decide

theorem prints_12 : PrintS ⟨5, false, 0, 0, ⟨#[49, 50]⟩⟩ [49, 50] true 0 := .inr (.inr (.inr (.inr (.inl ⟨rfl, rfl, by decide +kernel, rfl⟩))))
theorem prints_r15 : PrintS ⟨4, false, 0, R15, ⟨#[]⟩⟩ [48, 46, 48, 48, 49, 53] false 0 :=
  .inr (.inr (.inr (.inl ⟨rfl, .inr (.inr (.inr ⟨by decide +kernel, by decide +kernel, 15, -4, 0, (show absW R15 = R15 by decide +kernel) ▸ dec_r15, .inr ⟨rfl, by rw [realT_r15]; decide +kernel, rfl⟩⟩)), rfl⟩)))
theorem prints_9 : PrintS ⟨9, false, 0, 0, ⟨#[]⟩⟩ [] false 2 := .inr (.inr (.inr (.inr (.inr ⟨.inr (by decide), rfl, rfl, rfl⟩))))

theorem print_fixed (w : World) (v : Val) (hv : v.Ok) (htab : Tab w) (hl : RangeLaid w) (s : ByteArray) (q : Bool) (er : Int) (h : PrintS v s.data.toList q er) :
    Calls Tryd.prog 16 #[v.v] w fun e w' => e = .returned (.tuple #[.string s, .bool q, .int .i64 er]) ∧ Below w.heap.size w w' := by
  refine (print_walk w v hv htab hl).mono fun e w' ⟨s', q', er', he, hb, hs⟩ => ?_
  obtain ⟨h1, rfl, rfl⟩ := PrintS.unique h hs
  obtain rfl := ba_ext h1
  exact ⟨he, hb⟩

theorem ok5 (k : Int) (x : Nat) (hx : x < 18446744073709551616) (t : ByteArray) (ht : t.size ≤ 2097152) : Val.Ok ⟨k, false, 0, x, t⟩ := ⟨by show (-9223372036854775808 : Int) ≤ 0; decide, by show (0 : Int) ≤ _; decide, hx, ht⟩

/-- The memory goes on, and what is laid stays. -/
structure GW (w w' : World) : Prop where
  below : Below w.heap.size w w'
  tab : Tab w'
  laid : RangeLaid w'

theorem GW.later {w w' w2 : World} (h : GW w w') (hb : Below w'.heap.size w' w2) : GW w w2 :=
  ⟨h.below.trans (hb.mono h.below.size), tab_later h.tab hb, laid_later h.laid hb⟩

theorem read12 : readS ⟨#[45, 49, 50]⟩ false = ⟨3, false, -12, 0, ⟨#[]⟩⟩ := by kernel_rfl
theorem read007 : readS ⟨#[48, 48, 55]⟩ false = ⟨5, false, 0, 0, ⟨#[48, 48, 55]⟩⟩ := by kernel_rfl
theorem read15 : readS ⟨#[49, 46, 53, 101, 45, 51]⟩ false = ⟨4, false, 0, R15, ⟨#[]⟩⟩ := by kernel_rfl

set_option maxHeartbeats 1000000 in
set_option maxRecDepth 20000 in
theorem awake_walk (w : World) (htab : Tab w) (hl : RangeLaid w) :
    Calls Tryd.prog 11 #[] w fun e w' => e = .returned (.bool true) ∧ Below w.heap.size w w' := by
  have P1 := Lib.hid (show ∀ w, Tab w → RangeLaid w → Calls Tryd.prog 16 #[.agg #[.int .i64 5, .bool false, .int .i64 0, .float .f64 0, .string ⟨#[49, 50]⟩]] w fun e w' => e = .returned (.tuple #[.string ⟨#[49, 50]⟩, .bool true, .int .i64 0]) ∧ Below w.heap.size w w' from
    fun w h1 h2 => print_fixed w ⟨5, false, 0, 0, ⟨#[49, 50]⟩⟩ (ok5 _ _ (by decide) _ (by decide)) h1 h2 ⟨#[49, 50]⟩ true 0 prints_12)
  have P2 := Lib.hid (show ∀ w, Tab w → RangeLaid w → Calls Tryd.prog 16 #[.agg #[.int .i64 4, .bool false, .int .i64 0, .float .f64 4564560351926583034, .string ⟨#[]⟩]] w fun e w' => e = .returned (.tuple #[.string ⟨#[48, 46, 48, 48, 49, 53]⟩, .bool false, .int .i64 0]) ∧ Below w.heap.size w w' from
    fun w h1 h2 => print_fixed w ⟨4, false, 0, R15, ⟨#[]⟩⟩ (ok5 _ _ (by decide) _ (by decide)) h1 h2 ⟨#[48, 46, 48, 48, 49, 53]⟩ false 0 prints_r15)
  have P3 := Lib.hid (show ∀ w, Tab w → RangeLaid w → Calls Tryd.prog 16 #[.agg #[.int .i64 9, .bool false, .int .i64 0, .float .f64 0, .string ⟨#[]⟩]] w fun e w' => e = .returned (.tuple #[.string ⟨#[]⟩, .bool false, .int .i64 2]) ∧ Below w.heap.size w w' from
    fun w h1 h2 => print_fixed w ⟨9, false, 0, 0, ⟨#[]⟩⟩ (ok5 _ _ (by decide) _ (by decide)) h1 h2 ⟨#[]⟩ false 2 prints_9)
  have R1 := Lib.hid (show ∀ w, RangeLaid w → Calls Tryd.prog 9 #[.string ⟨#[45, 49, 50]⟩, .bool false] w fun e w' => e = .returned (.agg #[.int .i64 3, .bool false, .int .i64 (-12), .float .f64 0, .string ⟨#[]⟩]) ∧ Below w.heap.size w w' from
    fun w h => by have := read_walk w ⟨#[45, 49, 50]⟩ (by decide) false h; unfold ReadPost at this; rw [read12] at this; exact this)
  have R2 := Lib.hid (show ∀ w, RangeLaid w → Calls Tryd.prog 9 #[.string ⟨#[48, 48, 55]⟩, .bool false] w fun e w' => e = .returned (.agg #[.int .i64 5, .bool false, .int .i64 0, .float .f64 0, .string ⟨#[48, 48, 55]⟩]) ∧ Below w.heap.size w w' from
    fun w h => by have := read_walk w ⟨#[48, 48, 55]⟩ (by decide) false h; unfold ReadPost at this; rw [read007] at this; exact this)
  have R3 := Lib.hid (show ∀ w, RangeLaid w → Calls Tryd.prog 9 #[.string ⟨#[49, 46, 53, 101, 45, 51]⟩, .bool false] w fun e w' => e = .returned (.agg #[.int .i64 4, .bool false, .int .i64 0, .float .f64 4564560351926583034, .string ⟨#[]⟩]) ∧ Below w.heap.size w w' from
    fun w h => by have := read_walk w ⟨#[49, 46, 53, 101, 45, 51]⟩ (by decide) false h; unfold ReadPost at this; rw [read15] at this; exact this)
  have G0 := Lib.hid (show GW w w from ⟨Below.refl _ _, htab, hl⟩)
  clear htab hl
  have E1 : ∀ w', (binOp .eql 25 (.agg #[.int .i64 3, .bool false, .int .i64 (-12), .float .f64 0, .string ⟨#[]⟩]) (.agg #[.int .i64 3, .bool false, .int .i64 (-12), .float .f64 0, .string ⟨#[]⟩])).run Tryd.prog w' = .ok (.bool true) w' := fun _ => by kernel_rfl
  have E3 : ∀ w', (binOp .eql 25 (.agg #[.int .i64 4, .bool false, .int .i64 0, .float .f64 4564560351926583034, .string ⟨#[]⟩]) (.agg #[.int .i64 4, .bool false, .int .i64 0, .float .f64 4564560351926583034, .string ⟨#[]⟩])).run Tryd.prog w' = .ok (.bool true) w' := fun _ => by kernel_rfl
  have F2 : ∀ w', (Instr.field 25 (.agg #[.int .i64 5, .bool false, .int .i64 0, .float .f64 0, .string ⟨#[48, 48, 55]⟩]) 0).run Tryd.prog w' = .ok (.int .i64 5) w' := fun _ => by kernel_rfl
  go_enter Tryd.func11, Tryd.ntmps11
  go_wp2_with fail
  refine (P1.out _ G0.out.tab G0.out.laid).mono ?_
  rintro e w1 ⟨rfl, hb⟩
  have G1 := Lib.hid (G0.out.later hb)
  clear hb G0 P1
  go_wp2_with fail
  refine (P2.out _ G1.out.tab G1.out.laid).mono ?_
  rintro e w2 ⟨rfl, hb⟩
  have G2 := Lib.hid (G1.out.later hb)
  clear hb G1 P2
  go_wp2_with fail
  refine (P3.out _ G2.out.tab G2.out.laid).mono ?_
  rintro e w3 ⟨rfl, hb⟩
  have G3 := Lib.hid (G2.out.later hb)
  clear hb G2 P3
  go_wp2_with fail
  refine (R1.out _ G3.out.laid).mono ?_
  rintro e w4 ⟨rfl, hb⟩
  have G4 := Lib.hid (G3.out.later hb)
  clear hb G3 R1
  go_wp2_with fail
  refine (R2.out _ G4.out.laid).mono ?_
  rintro e w5 ⟨rfl, hb⟩
  have G5 := Lib.hid (G4.out.later hb)
  clear hb G4 R2
  go_wp2_with fail
  refine (R3.out _ G5.out.laid).mono ?_
  rintro e w6 ⟨rfl, hb⟩
  have G6 := Lib.hid (G5.out.later hb)
  clear hb G5 R3
  go_wp2
  go_ret
  exact ⟨rfl, G6.out.below⟩

end Go.Proofs.YtbmdbfidjdogmaaDoor
