/-
The walk of ScalarKinds.
-/
import Derived.Test.YtbmdbfidjdogmaaDoorScaChars
import Derived.Test.YtbmdbfidjdogmaaDoorScaBackW
import Derived.Laws.StructEq
set_option linter.unusedVariables false
set_option linter.unusedSimpArgs false
namespace Go.Proofs.YtbmdbfidjdogmaaDoor
open Go Go.RowKit

theorem equalIn_float (w : World) (d : Nat) (a b : Nat) : (Op.equalIn (d + 1) 23 (.float .f64 a) (.float .f64 b)).run Tryd.prog w = .ok (Op.floatEq .f64 a b) w := by
  simp [Op.equalIn, run_underlying Tryd.underlying23]

theorem float00 : Op.floatEq .f64 0 0 = true := by decide +kernel

set_option maxRecDepth 20000 in
theorem eqIn_text (t : ByteArray) (w : World) : (Op.equalIn 10000 25 (.agg #[.int .i64 5, .bool false, .int .i64 0, .float .f64 0, .string t]) (.agg #[.int .i64 5, .bool false, .int .i64 0, .float .f64 0, .string t])).run Tryd.prog w = .ok true w := by
  rw [run_equalIn_agg w 9999 _ _ _ (by kernel_rfl) (by kernel_rfl)]
  have e : Tryd.prog.fieldsOf 25 = (match Tryd.prog.underlying 25 with | some (.struct fs) => fs | _ => #[]) := rfl
  rw [Tryd.underlying25] at e
  rw [e]
  simp [Op.eqFields, part, Tryd.isAgg3, Tryd.isAgg4, Tryd.isAgg2, Tryd.isAgg23, Tryd.isAgg9, run_equalIn_int w 9998 _ _ _ _ _ Tryd.underlying3, run_equalIn_int w 9998 _ _ _ _ _ Tryd.underlying2, run_equalIn_bool' w 9998 _ _ _ Tryd.underlying4, equalIn_float w 9998, float00, run_equalIn_string w 9998 _ _ _ Tryd.underlying9]

theorem eql_text (t : ByteArray) (w : World) : (binOp .eql 25 (.agg #[.int .i64 5, .bool false, .int .i64 0, .float .f64 0, .string t]) (.agg #[.int .i64 5, .bool false, .int .i64 0, .float .f64 0, .string t])).run Tryd.prog w = .ok (.bool true) w := by
  rw [run_eql_struct, eqIn_text]; rfl

theorem neq_text (t : ByteArray) (w : World) : (binOp .neq 25 (.agg #[.int .i64 5, .bool false, .int .i64 0, .float .f64 0, .string t]) (.agg #[.int .i64 5, .bool false, .int .i64 0, .float .f64 0, .string t])).run Tryd.prog w = .ok (.bool false) w := by
  rw [run_neq_struct, eqIn_text]; rfl

/-- The NaN that comes of taking a real from itself. -/
def nanX (x : Nat) (w : World) : Nat := (Question.nanBits .f64 x x).cut (w.tape w.drawn (Question.nanBits .f64 x x))

theorem nanX_run {x : Nat} (h : FloatKind.f64.format.sub x x = none) (hf : (Question.nanBits .f64 x x).forced = false) : ∀ t w, (binOp .sub t (.float .f64 x) (.float .f64 x)).run Tryd.prog w = .ok (.float .f64 (nanX x w)) w.drew := by
  intro t w
  simp [binOp, Op.floatArith, h, hf, nanX]

theorem nanX_cmp (x : Nat) (w : World) : (FloatKind.f64.format.order (nanX x w) 0 != some .eq) = true := by
  have h : ∃ n f, Ieee.double.read (nanX x w) = .nan n f := by
    unfold nanX Question.cut
    generalize w.tape w.drawn (Question.nanBits .f64 x x) = t
    obtain ⟨u, hu⟩ : ∃ u, u = t / 2 % (2 ^ 52 - 1) := ⟨_, rfl⟩
    have hu2 : u < 4503599627370495 := by rw [hu]; exact Nat.mod_lt _ (by decide)
    show ∃ n f, Ieee.double.read (t % 2 * 2 ^ 63 + 0x7ff0000000000000 + 1 + t / 2 % (2 ^ 52 - 1)) = .nan n f
    rw [← hu]
    have h1 : (t % 2 * 2 ^ 63 + 0x7ff0000000000000 + 1 + u) % 9223372036854775808 = 9218868437227405313 + u := by omega
    unfold Ieee.Format.read
    simp only [c_sign, c_bin, c_inf, h1, INF]
    rw [if_neg (by omega), if_neg (by omega), if_neg (by omega)]
    exact ⟨_, _, rfl⟩
  obtain ⟨n, f, hn⟩ := h
  show (Ieee.double.order (nanX x w) 0 != some .eq) = true
  unfold Ieee.Format.order
  rw [hn]
  rfl

set_option maxHeartbeats 1000000 in
theorem digit_walk (w : World) (c : UInt8) (h : digC c = true) : Calls Tryd.prog 15 #[.int .u8 (c.toNat : Int)] w fun e w' => e = .returned (.bool true) ∧ w' = w := by
  have hc : (48 ≤ c.toNat ∧ c.toNat ≤ 57) ∨ c.toNat = 45 ∨ c.toNat = 46 ∨ c.toNat = 101 := by
    unfold digC at h
    simp only [Bool.or_eq_true, beq_iff_eq] at h
    rcases h with ((h | h) | h) | h
    · exact .inl ((isD_iff c).1 h)
    · subst h; exact .inr (.inl rfl)
    · subst h; exact .inr (.inr (.inl rfl))
    · subst h; exact .inr (.inr (.inr rfl))
  clear h
  generalize c.toNat = n at *
  rcases hc with ⟨h1, h2⟩ | rfl | rfl | rfl
  · have t1 : (48 : Int) ≤ (n : Int) := by omega
    have t2 : (n : Int) ≤ 57 := by omega
    clear h1 h2
    go_enter Tryd.func15, Tryd.ntmps15
    go_wp2
    go_ret
    exact ⟨rfl, rfl⟩
  · go_enter Tryd.func15, Tryd.ntmps15
    go_wp2
    go_ret
    exact ⟨rfl, rfl⟩
  · go_enter Tryd.func15, Tryd.ntmps15
    go_wp2
    go_ret
    exact ⟨rfl, rfl⟩
  · go_enter Tryd.func15, Tryd.ntmps15
    go_wp2
    go_ret
    exact ⟨rfl, rfl⟩

set_option maxHeartbeats 4000000 in
set_option maxRecDepth 20000 in
theorem kinds_null (w : World) (s : ByteArray) (hs : s.size ≤ 1048576) (htab : Tab w) (hl : RangeLaid w) (hw : wordB s.data.toList = false)
    (hr : ∀ w, RangeLaid w → Calls Tryd.prog 9 #[.string s, .bool false] w fun e w' => e = .returned (.agg #[.int .i64 1, .bool false, .int .i64 0, .float .f64 0, .string ⟨#[]⟩]) ∧ Below w.heap.size w w') :
    Calls Tryd.prog 5 #[.string s] w fun e w' => e = .returned (.bool true) ∧ Below w.heap.size w w' := by
  have Haw := Lib.hid (awake_walk w htab hl)
  have G0 := Lib.hid (show GW w w from ⟨Below.refl _ _, htab, hl⟩)
  have Hr := Lib.hid hr
  have hq := fun w h => read_walk w s (by omega) true h
  unfold ReadPost at hq
  have Hq := Lib.hid (show ∀ w, RangeLaid w → Calls Tryd.prog 9 #[.string s, .bool true] w fun e w' => e = .returned (.agg #[.int .i64 5, .bool false, .int .i64 0, .float .f64 0, .string s]) ∧ Below w.heap.size w w' from hq)
  have hxs : (s ++ ⟨#[120]⟩ : ByteArray).size ≤ 2097152 := by rw [cat_size]; show s.size + 1 ≤ _; omega
  have hx := fun w h => read_walk w (s ++ ⟨#[120]⟩) hxs false h
  unfold ReadPost at hx
  rw [read_x (s := s) (t := s ++ ⟨#[120]⟩) (cat_list _ _)] at hx
  have Hx := Lib.hid (show ∀ w, RangeLaid w → Calls Tryd.prog 9 #[.string (s ++ ⟨#[120]⟩), .bool false] w fun e w' => e = .returned (.agg #[.int .i64 5, .bool false, .int .i64 0, .float .f64 0, .string (s ++ ⟨#[120]⟩)]) ∧ Below w.heap.size w w' from hx)
  have E1 := neq_text s
  have E2 := eql_text (s ++ ⟨#[120]⟩)
  have hcat : s.size + (⟨#[120]⟩ : ByteArray).size ≤ 9223372036854775807 := by show s.size + 1 ≤ _; omega
  have hst := @store_float
  unfold wordB at hw
  have q1 : (s.toList == [46, 110, 97, 110]) = false := by rw [Lib.toList_data]; revert hw; cases (s.data.toList == [46, 110, 97, 110]) <;> simp
  have q2 : (s.toList == [46, 105, 110, 102]) = false := by rw [Lib.toList_data]; revert hw; cases (s.data.toList == [46, 105, 110, 102]) <;> simp
  have q3 : (s.toList == [45, 46, 105, 110, 102]) = false := by rw [Lib.toList_data]; revert hw; cases (s.data.toList == [45, 46, 105, 110, 102]) <;> simp
  clear hw
  clear hq hx hxs htab hl hr
  go_enter Tryd.func5, Tryd.ntmps5
  go_wp2_with fail
  refine Haw.out.mono ?_
  rintro e w1 ⟨rfl, hb⟩
  have G1 := Lib.hid (G0.out.later hb)
  clear hb G0 Haw
  go_wp2_with fail
  refine (Hr.out _ G1.out.laid).mono ?_
  rintro e w2 ⟨rfl, hb⟩
  have G2 := Lib.hid (G1.out.later hb)
  clear hb G1 Hr
  have X2 := Lib.hid (VW.new G2.out 25 ⟨1, false, 0, 0, ⟨#[]⟩⟩)
  clear G2
  go_wp2_with fail
  refine (Hq.out _ X2.out.g.laid).mono ?_
  rintro e w3 ⟨rfl, hb⟩
  have X3 := Lib.hid (X2.out.later hb)
  clear hb X2 Hq
  have Y4 := Lib.hid (VW.new X3.out.g 25 ⟨5, false, 0, 0, s⟩)
  have X4 := Lib.hid (X3.out.later ((Below.refl _ w3).alloc (Nat.le_refl _) (.cells #[.int .i64 5, .bool false, .int .i64 0, .float .f64 0, .string s] 25)))
  clear X3
  go_upto_region 5 with (fail)
  obtain ⟨w4, hw4⟩ : ∃ w4, w4 = w3.alloc (.cells #[.int .i64 5, .bool false, .int .i64 0, .float .f64 0, .string s] 25) := ⟨_, rfl⟩
  rw [← hw4]
  rw [← hw4] at X4 Y4
  clear hw4
  obtain ⟨x0, x1, x2, x3, x4⟩ := X4.out.cells
  obtain ⟨y0, y1, y2, y3, y4⟩ := Y4.out.cells
  dsimp only at x0 x1 x2 x3 x4 y0 y1 y2 y3 y4
  go_wp2_with fail
  refine (Hx.out _ X4.out.g.laid).mono ?_
  rintro e w5 ⟨rfl, hb⟩
  have G5 := Lib.hid (X4.out.g.later hb)
  clear hb
  go_wp2
  go_ret
  exact ⟨rfl, (G5.out.alloc _).below⟩
set_option maxHeartbeats 4000000 in
set_option maxRecDepth 20000 in
theorem kinds_bool (w : World) (s : ByteArray) (hs : s.size ≤ 1048576) (htab : Tab w) (hl : RangeLaid w) (b : Bool) (hw : wordB s.data.toList = false)
    (hr : ∀ w, RangeLaid w → Calls Tryd.prog 9 #[.string s, .bool false] w fun e w' => e = .returned (.agg #[.int .i64 2, .bool b, .int .i64 0, .float .f64 0, .string ⟨#[]⟩]) ∧ Below w.heap.size w w') :
    Calls Tryd.prog 5 #[.string s] w fun e w' => e = .returned (.bool true) ∧ Below w.heap.size w w' := by
  have Haw := Lib.hid (awake_walk w htab hl)
  have G0 := Lib.hid (show GW w w from ⟨Below.refl _ _, htab, hl⟩)
  have Hr := Lib.hid hr
  have hq := fun w h => read_walk w s (by omega) true h
  unfold ReadPost at hq
  have Hq := Lib.hid (show ∀ w, RangeLaid w → Calls Tryd.prog 9 #[.string s, .bool true] w fun e w' => e = .returned (.agg #[.int .i64 5, .bool false, .int .i64 0, .float .f64 0, .string s]) ∧ Below w.heap.size w w' from hq)
  have hxs : (s ++ ⟨#[120]⟩ : ByteArray).size ≤ 2097152 := by rw [cat_size]; show s.size + 1 ≤ _; omega
  have hx := fun w h => read_walk w (s ++ ⟨#[120]⟩) hxs false h
  unfold ReadPost at hx
  rw [read_x (s := s) (t := s ++ ⟨#[120]⟩) (cat_list _ _)] at hx
  have Hx := Lib.hid (show ∀ w, RangeLaid w → Calls Tryd.prog 9 #[.string (s ++ ⟨#[120]⟩), .bool false] w fun e w' => e = .returned (.agg #[.int .i64 5, .bool false, .int .i64 0, .float .f64 0, .string (s ++ ⟨#[120]⟩)]) ∧ Below w.heap.size w w' from hx)
  have E1 := neq_text s
  have E2 := eql_text (s ++ ⟨#[120]⟩)
  have hcat : s.size + (⟨#[120]⟩ : ByteArray).size ≤ 9223372036854775807 := by show s.size + 1 ≤ _; omega
  have hst := @store_float
  unfold wordB at hw
  have q1 : (s.toList == [46, 110, 97, 110]) = false := by rw [Lib.toList_data]; revert hw; cases (s.data.toList == [46, 110, 97, 110]) <;> simp
  have q2 : (s.toList == [46, 105, 110, 102]) = false := by rw [Lib.toList_data]; revert hw; cases (s.data.toList == [46, 105, 110, 102]) <;> simp
  have q3 : (s.toList == [45, 46, 105, 110, 102]) = false := by rw [Lib.toList_data]; revert hw; cases (s.data.toList == [45, 46, 105, 110, 102]) <;> simp
  clear hw
  clear hq hx hxs htab hl hr
  go_enter Tryd.func5, Tryd.ntmps5
  go_wp2_with fail
  refine Haw.out.mono ?_
  rintro e w1 ⟨rfl, hb⟩
  have G1 := Lib.hid (G0.out.later hb)
  clear hb G0 Haw
  go_wp2_with fail
  refine (Hr.out _ G1.out.laid).mono ?_
  rintro e w2 ⟨rfl, hb⟩
  have G2 := Lib.hid (G1.out.later hb)
  clear hb G1 Hr
  have X2 := Lib.hid (VW.new G2.out 25 ⟨2, b, 0, 0, ⟨#[]⟩⟩)
  clear G2
  go_wp2_with fail
  refine (Hq.out _ X2.out.g.laid).mono ?_
  rintro e w3 ⟨rfl, hb⟩
  have X3 := Lib.hid (X2.out.later hb)
  clear hb X2 Hq
  have Y4 := Lib.hid (VW.new X3.out.g 25 ⟨5, false, 0, 0, s⟩)
  have X4 := Lib.hid (X3.out.later ((Below.refl _ w3).alloc (Nat.le_refl _) (.cells #[.int .i64 5, .bool false, .int .i64 0, .float .f64 0, .string s] 25)))
  clear X3
  go_upto_region 5 with (fail)
  obtain ⟨w4, hw4⟩ : ∃ w4, w4 = w3.alloc (.cells #[.int .i64 5, .bool false, .int .i64 0, .float .f64 0, .string s] 25) := ⟨_, rfl⟩
  rw [← hw4]
  rw [← hw4] at X4 Y4
  clear hw4
  obtain ⟨x0, x1, x2, x3, x4⟩ := X4.out.cells
  obtain ⟨y0, y1, y2, y3, y4⟩ := Y4.out.cells
  dsimp only at x0 x1 x2 x3 x4 y0 y1 y2 y3 y4
  go_wp2_with fail
  refine (Hx.out _ X4.out.g.laid).mono ?_
  rintro e w5 ⟨rfl, hb⟩
  have G5 := Lib.hid (X4.out.g.later hb)
  clear hb
  go_wp2
  go_ret
  exact ⟨rfl, (G5.out.alloc _).below⟩
set_option maxHeartbeats 4000000 in
set_option maxRecDepth 20000 in
theorem kinds_int (w : World) (s : ByteArray) (hs : s.size ≤ 1048576) (htab : Tab w) (hl : RangeLaid w) (i : Int) (hc : ∀ c ∈ s.data.toList, digC c = true) (hw : wordB s.data.toList = false)
    (hr : ∀ w, RangeLaid w → Calls Tryd.prog 9 #[.string s, .bool false] w fun e w' => e = .returned (.agg #[.int .i64 3, .bool false, .int .i64 i, .float .f64 0, .string ⟨#[]⟩]) ∧ Below w.heap.size w w') :
    Calls Tryd.prog 5 #[.string s] w fun e w' => e = .returned (.bool true) ∧ Below w.heap.size w w' := by
  have Haw := Lib.hid (awake_walk w htab hl)
  have G0 := Lib.hid (show GW w w from ⟨Below.refl _ _, htab, hl⟩)
  have Hr := Lib.hid hr
  have hq := fun w h => read_walk w s (by omega) true h
  unfold ReadPost at hq
  have Hq := Lib.hid (show ∀ w, RangeLaid w → Calls Tryd.prog 9 #[.string s, .bool true] w fun e w' => e = .returned (.agg #[.int .i64 5, .bool false, .int .i64 0, .float .f64 0, .string s]) ∧ Below w.heap.size w w' from hq)
  have hxs : (s ++ ⟨#[120]⟩ : ByteArray).size ≤ 2097152 := by rw [cat_size]; show s.size + 1 ≤ _; omega
  have hx := fun w h => read_walk w (s ++ ⟨#[120]⟩) hxs false h
  unfold ReadPost at hx
  rw [read_x (s := s) (t := s ++ ⟨#[120]⟩) (cat_list _ _)] at hx
  have Hx := Lib.hid (show ∀ w, RangeLaid w → Calls Tryd.prog 9 #[.string (s ++ ⟨#[120]⟩), .bool false] w fun e w' => e = .returned (.agg #[.int .i64 5, .bool false, .int .i64 0, .float .f64 0, .string (s ++ ⟨#[120]⟩)]) ∧ Below w.heap.size w w' from hx)
  have E1 := neq_text s
  have E2 := eql_text (s ++ ⟨#[120]⟩)
  have hcat : s.size + (⟨#[120]⟩ : ByteArray).size ≤ 9223372036854775807 := by show s.size + 1 ≤ _; omega
  have hst := @store_float
  unfold wordB at hw
  have q1 : (s.toList == [46, 110, 97, 110]) = false := by rw [Lib.toList_data]; revert hw; cases (s.data.toList == [46, 110, 97, 110]) <;> simp
  have q2 : (s.toList == [46, 105, 110, 102]) = false := by rw [Lib.toList_data]; revert hw; cases (s.data.toList == [46, 105, 110, 102]) <;> simp
  have q3 : (s.toList == [45, 46, 105, 110, 102]) = false := by rw [Lib.toList_data]; revert hw; cases (s.data.toList == [45, 46, 105, 110, 102]) <;> simp
  have Hc := Lib.hid hc
  clear hc
  clear hw
  clear hq hx hxs htab hl hr
  go_enter Tryd.func5, Tryd.ntmps5
  go_wp2_with fail
  refine Haw.out.mono ?_
  rintro e w1 ⟨rfl, hb⟩
  have G1 := Lib.hid (G0.out.later hb)
  clear hb G0 Haw
  go_wp2_with fail
  refine (Hr.out _ G1.out.laid).mono ?_
  rintro e w2 ⟨rfl, hb⟩
  have G2 := Lib.hid (G1.out.later hb)
  clear hb G1 Hr
  have X2 := Lib.hid (VW.new G2.out 25 ⟨3, false, i, 0, ⟨#[]⟩⟩)
  clear G2
  go_wp2_with fail
  refine (Hq.out _ X2.out.g.laid).mono ?_
  rintro e w3 ⟨rfl, hb⟩
  have X3 := Lib.hid (X2.out.later hb)
  clear hb X2 Hq
  have Y4 := Lib.hid (VW.new X3.out.g 25 ⟨5, false, 0, 0, s⟩)
  have X4 := Lib.hid (X3.out.later ((Below.refl _ w3).alloc (Nat.le_refl _) (.cells #[.int .i64 5, .bool false, .int .i64 0, .float .f64 0, .string s] 25)))
  clear X3
  go_upto_region 5 with (fail)
  obtain ⟨w4, hw4⟩ : ∃ w4, w4 = w3.alloc (.cells #[.int .i64 5, .bool false, .int .i64 0, .float .f64 0, .string s] 25) := ⟨_, rfl⟩
  rw [← hw4]
  rw [← hw4] at X4 Y4
  clear hw4
  obtain ⟨x0, x1, x2, x3, x4⟩ := X4.out.cells
  obtain ⟨y0, y1, y2, y3, y4⟩ := Y4.out.cells
  dsimp only at x0 x1 x2 x3 x4 y0 y1 y2 y3 y4
  go_wp2_with fail
  go_loop [6, 7] (fun i o => ∃ k : Nat, i = .int .i64 k ∧ Hid (k ≤ s.size)) (fun i _ => s.size - (intOf i).toNat)
  case atStart => exact ⟨0, rfl, Nat.zero_le _⟩
  case round =>
    obtain ⟨k, rfl, hk⟩ := hrel
    by_cases hlt : k < s.size
    · have Hd := Lib.hid (digit_walk w4 s[k] (digit_mem Hc.out hlt))
      go_wp2_with fail
      (with_reducible refine Hd.out.mono ?_)
      rintro e w5 ⟨rfl, hw⟩
      obtain rfl := hw.symm
      clear Hd
      go_wp2
      go_round
      case rel => exact ⟨k + 1, by go_num, hlt⟩
      case measure => simp [intOf]; omega
    · clear hk
      go_wp2_with fail
      refine (Hx.out _ X4.out.g.laid).mono ?_
      rintro e w5 ⟨rfl, hb⟩
      have G5 := Lib.hid (X4.out.g.later hb)
      clear hb
      go_wp2
      go_ret
      exact ⟨rfl, (G5.out.alloc _).below⟩
set_option maxHeartbeats 4000000 in
set_option maxRecDepth 20000 in
theorem kinds_real (w : World) (s : ByteArray) (hs : s.size ≤ 1048576) (htab : Tab w) (hl : RangeLaid w) (x m : Nat) (neg : Bool) (p : Int) (hn : Ieee.double.read x = .number neg m p) (hc : ∀ c ∈ s.data.toList, digC c = true) (hw : wordB s.data.toList = false)
    (hr : ∀ w, RangeLaid w → Calls Tryd.prog 9 #[.string s, .bool false] w fun e w' => e = .returned (.agg #[.int .i64 4, .bool false, .int .i64 0, .float .f64 x, .string ⟨#[]⟩]) ∧ Below w.heap.size w w') :
    Calls Tryd.prog 5 #[.string s] w fun e w' => e = .returned (.bool true) ∧ Below w.heap.size w w' := by
  have Haw := Lib.hid (awake_walk w htab hl)
  have G0 := Lib.hid (show GW w w from ⟨Below.refl _ _, htab, hl⟩)
  have Hr := Lib.hid hr
  have hq := fun w h => read_walk w s (by omega) true h
  unfold ReadPost at hq
  have Hq := Lib.hid (show ∀ w, RangeLaid w → Calls Tryd.prog 9 #[.string s, .bool true] w fun e w' => e = .returned (.agg #[.int .i64 5, .bool false, .int .i64 0, .float .f64 0, .string s]) ∧ Below w.heap.size w w' from hq)
  have hxs : (s ++ ⟨#[120]⟩ : ByteArray).size ≤ 2097152 := by rw [cat_size]; show s.size + 1 ≤ _; omega
  have hx := fun w h => read_walk w (s ++ ⟨#[120]⟩) hxs false h
  unfold ReadPost at hx
  rw [read_x (s := s) (t := s ++ ⟨#[120]⟩) (cat_list _ _)] at hx
  have Hx := Lib.hid (show ∀ w, RangeLaid w → Calls Tryd.prog 9 #[.string (s ++ ⟨#[120]⟩), .bool false] w fun e w' => e = .returned (.agg #[.int .i64 5, .bool false, .int .i64 0, .float .f64 0, .string (s ++ ⟨#[120]⟩)]) ∧ Below w.heap.size w w' from hx)
  have E1 := neq_text s
  have E2 := eql_text (s ++ ⟨#[120]⟩)
  have hcat : s.size + (⟨#[120]⟩ : ByteArray).size ≤ 9223372036854775807 := by show s.size + 1 ≤ _; omega
  have hst := @store_float
  unfold wordB at hw
  have q1 : (s.toList == [46, 110, 97, 110]) = false := by rw [Lib.toList_data]; revert hw; cases (s.data.toList == [46, 110, 97, 110]) <;> simp
  have q2 : (s.toList == [46, 105, 110, 102]) = false := by rw [Lib.toList_data]; revert hw; cases (s.data.toList == [46, 105, 110, 102]) <;> simp
  have q3 : (s.toList == [45, 46, 105, 110, 102]) = false := by rw [Lib.toList_data]; revert hw; cases (s.data.toList == [45, 46, 105, 110, 102]) <;> simp
  have Hc := Lib.hid hc
  clear hc
  have f1 := num_self hn
  have f2 := sub_run (sub_num hn)
  have f3 : (FloatKind.f64.format.order 0 0 != some .eq) = false := by decide +kernel
  clear hw hn
  clear hq hx hxs htab hl hr
  go_enter Tryd.func5, Tryd.ntmps5
  go_wp2_with fail
  refine Haw.out.mono ?_
  rintro e w1 ⟨rfl, hb⟩
  have G1 := Lib.hid (G0.out.later hb)
  clear hb G0 Haw
  go_wp2_with fail
  refine (Hr.out _ G1.out.laid).mono ?_
  rintro e w2 ⟨rfl, hb⟩
  have G2 := Lib.hid (G1.out.later hb)
  clear hb G1 Hr
  have X2 := Lib.hid (VW.new G2.out 25 ⟨4, false, 0, x, ⟨#[]⟩⟩)
  clear G2
  go_wp2_with fail
  refine (Hq.out _ X2.out.g.laid).mono ?_
  rintro e w3 ⟨rfl, hb⟩
  have X3 := Lib.hid (X2.out.later hb)
  clear hb X2 Hq
  have Y4 := Lib.hid (VW.new X3.out.g 25 ⟨5, false, 0, 0, s⟩)
  have X4 := Lib.hid (X3.out.later ((Below.refl _ w3).alloc (Nat.le_refl _) (.cells #[.int .i64 5, .bool false, .int .i64 0, .float .f64 0, .string s] 25)))
  clear X3
  go_upto_region 5 with (fail)
  obtain ⟨w4, hw4⟩ : ∃ w4, w4 = w3.alloc (.cells #[.int .i64 5, .bool false, .int .i64 0, .float .f64 0, .string s] 25) := ⟨_, rfl⟩
  rw [← hw4]
  rw [← hw4] at X4 Y4
  clear hw4
  obtain ⟨x0, x1, x2, x3, x4⟩ := X4.out.cells
  obtain ⟨y0, y1, y2, y3, y4⟩ := Y4.out.cells
  dsimp only at x0 x1 x2 x3 x4 y0 y1 y2 y3 y4
  go_wp2_with fail
  go_loop [6, 7] (fun i o => ∃ k : Nat, i = .int .i64 k ∧ Hid (k ≤ s.size)) (fun i _ => s.size - (intOf i).toNat)
  case atStart => exact ⟨0, rfl, Nat.zero_le _⟩
  case round =>
    obtain ⟨k, rfl, hk⟩ := hrel
    by_cases hlt : k < s.size
    · have Hd := Lib.hid (digit_walk w4 s[k] (digit_mem Hc.out hlt))
      go_wp2_with fail
      (with_reducible refine Hd.out.mono ?_)
      rintro e w5 ⟨rfl, hw⟩
      obtain rfl := hw.symm
      clear Hd
      go_wp2
      go_round
      case rel => exact ⟨k + 1, by go_num, hlt⟩
      case measure => simp [intOf]; omega
    · clear hk
      go_wp2_with fail
      refine (Hx.out _ X4.out.g.laid).mono ?_
      rintro e w5 ⟨rfl, hb⟩
      have G5 := Lib.hid (X4.out.g.later hb)
      clear hb
      go_wp2
      go_ret
      exact ⟨rfl, (G5.out.alloc _).below⟩
set_option maxHeartbeats 4000000 in
set_option maxRecDepth 20000 in
theorem kinds_text (w : World) (s : ByteArray) (hs : s.size ≤ 1048576) (htab : Tab w) (hl : RangeLaid w) (hw : wordB s.data.toList = false)
    (hr : ∀ w, RangeLaid w → Calls Tryd.prog 9 #[.string s, .bool false] w fun e w' => e = .returned (.agg #[.int .i64 5, .bool false, .int .i64 0, .float .f64 0, .string s]) ∧ Below w.heap.size w w') :
    Calls Tryd.prog 5 #[.string s] w fun e w' => e = .returned (.bool true) ∧ Below w.heap.size w w' := by
  have Haw := Lib.hid (awake_walk w htab hl)
  have G0 := Lib.hid (show GW w w from ⟨Below.refl _ _, htab, hl⟩)
  have Hr := Lib.hid hr
  have hq := fun w h => read_walk w s (by omega) true h
  unfold ReadPost at hq
  have Hq := Lib.hid (show ∀ w, RangeLaid w → Calls Tryd.prog 9 #[.string s, .bool true] w fun e w' => e = .returned (.agg #[.int .i64 5, .bool false, .int .i64 0, .float .f64 0, .string s]) ∧ Below w.heap.size w w' from hq)
  have hxs : (s ++ ⟨#[120]⟩ : ByteArray).size ≤ 2097152 := by rw [cat_size]; show s.size + 1 ≤ _; omega
  have hx := fun w h => read_walk w (s ++ ⟨#[120]⟩) hxs false h
  unfold ReadPost at hx
  rw [read_x (s := s) (t := s ++ ⟨#[120]⟩) (cat_list _ _)] at hx
  have Hx := Lib.hid (show ∀ w, RangeLaid w → Calls Tryd.prog 9 #[.string (s ++ ⟨#[120]⟩), .bool false] w fun e w' => e = .returned (.agg #[.int .i64 5, .bool false, .int .i64 0, .float .f64 0, .string (s ++ ⟨#[120]⟩)]) ∧ Below w.heap.size w w' from hx)
  have E1 := neq_text s
  have E2 := eql_text (s ++ ⟨#[120]⟩)
  have hcat : s.size + (⟨#[120]⟩ : ByteArray).size ≤ 9223372036854775807 := by show s.size + 1 ≤ _; omega
  have hst := @store_float
  unfold wordB at hw
  have q1 : (s.toList == [46, 110, 97, 110]) = false := by rw [Lib.toList_data]; revert hw; cases (s.data.toList == [46, 110, 97, 110]) <;> simp
  have q2 : (s.toList == [46, 105, 110, 102]) = false := by rw [Lib.toList_data]; revert hw; cases (s.data.toList == [46, 105, 110, 102]) <;> simp
  have q3 : (s.toList == [45, 46, 105, 110, 102]) = false := by rw [Lib.toList_data]; revert hw; cases (s.data.toList == [45, 46, 105, 110, 102]) <;> simp
  have q4 : (s.toList == s.toList) = true := beq_self_eq_true _
  clear hw
  clear hq hx hxs htab hl hr
  go_enter Tryd.func5, Tryd.ntmps5
  go_wp2_with fail
  refine Haw.out.mono ?_
  rintro e w1 ⟨rfl, hb⟩
  have G1 := Lib.hid (G0.out.later hb)
  clear hb G0 Haw
  go_wp2_with fail
  refine (Hr.out _ G1.out.laid).mono ?_
  rintro e w2 ⟨rfl, hb⟩
  have G2 := Lib.hid (G1.out.later hb)
  clear hb G1 Hr
  have X2 := Lib.hid (VW.new G2.out 25 ⟨5, false, 0, 0, s⟩)
  clear G2
  go_wp2_with fail
  refine (Hq.out _ X2.out.g.laid).mono ?_
  rintro e w3 ⟨rfl, hb⟩
  have X3 := Lib.hid (X2.out.later hb)
  clear hb X2 Hq
  have Y4 := Lib.hid (VW.new X3.out.g 25 ⟨5, false, 0, 0, s⟩)
  have X4 := Lib.hid (X3.out.later ((Below.refl _ w3).alloc (Nat.le_refl _) (.cells #[.int .i64 5, .bool false, .int .i64 0, .float .f64 0, .string s] 25)))
  clear X3
  go_upto_region 5 with (fail)
  obtain ⟨w4, hw4⟩ : ∃ w4, w4 = w3.alloc (.cells #[.int .i64 5, .bool false, .int .i64 0, .float .f64 0, .string s] 25) := ⟨_, rfl⟩
  rw [← hw4]
  rw [← hw4] at X4 Y4
  clear hw4
  obtain ⟨x0, x1, x2, x3, x4⟩ := X4.out.cells
  obtain ⟨y0, y1, y2, y3, y4⟩ := Y4.out.cells
  dsimp only at x0 x1 x2 x3 x4 y0 y1 y2 y3 y4
  go_wp2_with fail
  refine (Hx.out _ X4.out.g.laid).mono ?_
  rintro e w5 ⟨rfl, hb⟩
  have G5 := Lib.hid (X4.out.g.later hb)
  clear hb
  go_wp2
  go_ret
  exact ⟨rfl, (G5.out.alloc _).below⟩
set_option maxHeartbeats 4000000 in
set_option maxRecDepth 20000 in
theorem kinds_nan (w : World) (s : ByteArray) (hs : s.size ≤ 1048576) (htab : Tab w) (hl : RangeLaid w) (e0 : s = ⟨#[46, 110, 97, 110]⟩)
    (hr : ∀ w, RangeLaid w → Calls Tryd.prog 9 #[.string s, .bool false] w fun e w' => e = .returned (.agg #[.int .i64 4, .bool false, .int .i64 0, .float .f64 9221120237041090561, .string ⟨#[]⟩]) ∧ Below w.heap.size w w') :
    Calls Tryd.prog 5 #[.string s] w fun e w' => e = .returned (.bool true) ∧ Below w.heap.size w w' := by
  have Haw := Lib.hid (awake_walk w htab hl)
  have G0 := Lib.hid (show GW w w from ⟨Below.refl _ _, htab, hl⟩)
  have Hr := Lib.hid hr
  have hq := fun w h => read_walk w s (by omega) true h
  unfold ReadPost at hq
  have Hq := Lib.hid (show ∀ w, RangeLaid w → Calls Tryd.prog 9 #[.string s, .bool true] w fun e w' => e = .returned (.agg #[.int .i64 5, .bool false, .int .i64 0, .float .f64 0, .string s]) ∧ Below w.heap.size w w' from hq)
  have hxs : (s ++ ⟨#[120]⟩ : ByteArray).size ≤ 2097152 := by rw [cat_size]; show s.size + 1 ≤ _; omega
  have hx := fun w h => read_walk w (s ++ ⟨#[120]⟩) hxs false h
  unfold ReadPost at hx
  rw [read_x (s := s) (t := s ++ ⟨#[120]⟩) (cat_list _ _)] at hx
  have Hx := Lib.hid (show ∀ w, RangeLaid w → Calls Tryd.prog 9 #[.string (s ++ ⟨#[120]⟩), .bool false] w fun e w' => e = .returned (.agg #[.int .i64 5, .bool false, .int .i64 0, .float .f64 0, .string (s ++ ⟨#[120]⟩)]) ∧ Below w.heap.size w w' from hx)
  have E1 := neq_text s
  have E2 := eql_text (s ++ ⟨#[120]⟩)
  have hcat : s.size + (⟨#[120]⟩ : ByteArray).size ≤ 9223372036854775807 := by show s.size + 1 ≤ _; omega
  have hst := @store_float
  have f1 : (FloatKind.f64.format.order 9221120237041090561 9221120237041090561 != some .eq) = true := by decide +kernel
  have q1 : (s.toList == [46, 110, 97, 110]) = true := by rw [Lib.toList_data, e0]; rfl
  have q2 : (s.toList == [46, 105, 110, 102]) = false := by rw [Lib.toList_data, e0]; rfl
  have q3 : (s.toList == [45, 46, 105, 110, 102]) = false := by rw [Lib.toList_data, e0]; rfl
  clear e0
  clear hq hx hxs htab hl hr
  go_enter Tryd.func5, Tryd.ntmps5
  go_wp2_with fail
  refine Haw.out.mono ?_
  rintro e w1 ⟨rfl, hb⟩
  have G1 := Lib.hid (G0.out.later hb)
  clear hb G0 Haw
  go_wp2_with fail
  refine (Hr.out _ G1.out.laid).mono ?_
  rintro e w2 ⟨rfl, hb⟩
  have G2 := Lib.hid (G1.out.later hb)
  clear hb G1 Hr
  have X2 := Lib.hid (VW.new G2.out 25 ⟨4, false, 0, 9221120237041090561, ⟨#[]⟩⟩)
  clear G2
  go_wp2_with fail
  refine (Hq.out _ X2.out.g.laid).mono ?_
  rintro e w3 ⟨rfl, hb⟩
  have X3 := Lib.hid (X2.out.later hb)
  clear hb X2 Hq
  have Y4 := Lib.hid (VW.new X3.out.g 25 ⟨5, false, 0, 0, s⟩)
  have X4 := Lib.hid (X3.out.later ((Below.refl _ w3).alloc (Nat.le_refl _) (.cells #[.int .i64 5, .bool false, .int .i64 0, .float .f64 0, .string s] 25)))
  clear X3
  go_upto_region 5 with (fail)
  obtain ⟨w4, hw4⟩ : ∃ w4, w4 = w3.alloc (.cells #[.int .i64 5, .bool false, .int .i64 0, .float .f64 0, .string s] 25) := ⟨_, rfl⟩
  rw [← hw4]
  rw [← hw4] at X4 Y4
  clear hw4
  obtain ⟨x0, x1, x2, x3, x4⟩ := X4.out.cells
  obtain ⟨y0, y1, y2, y3, y4⟩ := Y4.out.cells
  dsimp only at x0 x1 x2 x3 x4 y0 y1 y2 y3 y4
  go_wp2_with fail
  refine (Hx.out _ X4.out.g.laid).mono ?_
  rintro e w5 ⟨rfl, hb⟩
  have G5 := Lib.hid (X4.out.g.later hb)
  clear hb
  go_wp2
  go_ret
  exact ⟨rfl, (G5.out.alloc _).below⟩
set_option maxHeartbeats 4000000 in
set_option maxRecDepth 20000 in
theorem kinds_inf (w : World) (s : ByteArray) (hs : s.size ≤ 1048576) (htab : Tab w) (hl : RangeLaid w) (e0 : s = ⟨#[46, 105, 110, 102]⟩)
    (hr : ∀ w, RangeLaid w → Calls Tryd.prog 9 #[.string s, .bool false] w fun e w' => e = .returned (.agg #[.int .i64 4, .bool false, .int .i64 0, .float .f64 9218868437227405312, .string ⟨#[]⟩]) ∧ Below w.heap.size w w') :
    Calls Tryd.prog 5 #[.string s] w fun e w' => e = .returned (.bool true) ∧ Below w.heap.size w w' := by
  have Haw := Lib.hid (awake_walk w htab hl)
  have G0 := Lib.hid (show GW w w from ⟨Below.refl _ _, htab, hl⟩)
  have Hr := Lib.hid hr
  have hq := fun w h => read_walk w s (by omega) true h
  unfold ReadPost at hq
  have Hq := Lib.hid (show ∀ w, RangeLaid w → Calls Tryd.prog 9 #[.string s, .bool true] w fun e w' => e = .returned (.agg #[.int .i64 5, .bool false, .int .i64 0, .float .f64 0, .string s]) ∧ Below w.heap.size w w' from hq)
  have hxs : (s ++ ⟨#[120]⟩ : ByteArray).size ≤ 2097152 := by rw [cat_size]; show s.size + 1 ≤ _; omega
  have hx := fun w h => read_walk w (s ++ ⟨#[120]⟩) hxs false h
  unfold ReadPost at hx
  rw [read_x (s := s) (t := s ++ ⟨#[120]⟩) (cat_list _ _)] at hx
  have Hx := Lib.hid (show ∀ w, RangeLaid w → Calls Tryd.prog 9 #[.string (s ++ ⟨#[120]⟩), .bool false] w fun e w' => e = .returned (.agg #[.int .i64 5, .bool false, .int .i64 0, .float .f64 0, .string (s ++ ⟨#[120]⟩)]) ∧ Below w.heap.size w w' from hx)
  have E1 := neq_text s
  have E2 := eql_text (s ++ ⟨#[120]⟩)
  have hcat : s.size + (⟨#[120]⟩ : ByteArray).size ≤ 9223372036854775807 := by show s.size + 1 ≤ _; omega
  have hst := @store_float
  have f1 : (FloatKind.f64.format.order 9218868437227405312 9218868437227405312 != some .eq) = false := by decide +kernel
  have q1 : (s.toList == [46, 110, 97, 110]) = false := by rw [Lib.toList_data, e0]; rfl
  have q2 : (s.toList == [46, 105, 110, 102]) = true := by rw [Lib.toList_data, e0]; rfl
  have q3 : (s.toList == [45, 46, 105, 110, 102]) = false := by rw [Lib.toList_data, e0]; rfl
  clear e0
  clear hq hx hxs htab hl hr
  go_enter Tryd.func5, Tryd.ntmps5
  go_wp2_with fail
  refine Haw.out.mono ?_
  rintro e w1 ⟨rfl, hb⟩
  have G1 := Lib.hid (G0.out.later hb)
  clear hb G0 Haw
  go_wp2_with fail
  refine (Hr.out _ G1.out.laid).mono ?_
  rintro e w2 ⟨rfl, hb⟩
  have G2 := Lib.hid (G1.out.later hb)
  clear hb G1 Hr
  have X2 := Lib.hid (VW.new G2.out 25 ⟨4, false, 0, 9218868437227405312, ⟨#[]⟩⟩)
  clear G2
  go_wp2_with fail
  refine (Hq.out _ X2.out.g.laid).mono ?_
  rintro e w3 ⟨rfl, hb⟩
  have X3 := Lib.hid (X2.out.later hb)
  clear hb X2 Hq
  have Y4 := Lib.hid (VW.new X3.out.g 25 ⟨5, false, 0, 0, s⟩)
  have X4 := Lib.hid (X3.out.later ((Below.refl _ w3).alloc (Nat.le_refl _) (.cells #[.int .i64 5, .bool false, .int .i64 0, .float .f64 0, .string s] 25)))
  clear X3
  go_upto_region 5 with (fail)
  obtain ⟨w4, hw4⟩ : ∃ w4, w4 = w3.alloc (.cells #[.int .i64 5, .bool false, .int .i64 0, .float .f64 0, .string s] 25) := ⟨_, rfl⟩
  rw [← hw4]
  rw [← hw4] at X4 Y4
  clear hw4
  obtain ⟨x0, x1, x2, x3, x4⟩ := X4.out.cells
  obtain ⟨y0, y1, y2, y3, y4⟩ := Y4.out.cells
  dsimp only at x0 x1 x2 x3 x4 y0 y1 y2 y3 y4
  have f2 := fun t => nanX_run (x := 9218868437227405312) (by decide +kernel) rfl t w4
  have f3 := nanX_cmp 9218868437227405312 w4
  generalize nanX 9218868437227405312 w4 = nw at *
  have Xd := Lib.hid X4.out.drew
  go_wp2_with fail
  refine (Hx.out _ Xd.out.g.laid).mono ?_
  rintro e w5 ⟨rfl, hb⟩
  have G5 := Lib.hid (Xd.out.g.later hb)
  clear hb
  go_wp2
  go_ret
  exact ⟨rfl, (G5.out.alloc _).below⟩
set_option maxHeartbeats 4000000 in
set_option maxRecDepth 20000 in
theorem kinds_ninf (w : World) (s : ByteArray) (hs : s.size ≤ 1048576) (htab : Tab w) (hl : RangeLaid w) (e0 : s = ⟨#[45, 46, 105, 110, 102]⟩)
    (hr : ∀ w, RangeLaid w → Calls Tryd.prog 9 #[.string s, .bool false] w fun e w' => e = .returned (.agg #[.int .i64 4, .bool false, .int .i64 0, .float .f64 18442240474082181120, .string ⟨#[]⟩]) ∧ Below w.heap.size w w') :
    Calls Tryd.prog 5 #[.string s] w fun e w' => e = .returned (.bool true) ∧ Below w.heap.size w w' := by
  have Haw := Lib.hid (awake_walk w htab hl)
  have G0 := Lib.hid (show GW w w from ⟨Below.refl _ _, htab, hl⟩)
  have Hr := Lib.hid hr
  have hq := fun w h => read_walk w s (by omega) true h
  unfold ReadPost at hq
  have Hq := Lib.hid (show ∀ w, RangeLaid w → Calls Tryd.prog 9 #[.string s, .bool true] w fun e w' => e = .returned (.agg #[.int .i64 5, .bool false, .int .i64 0, .float .f64 0, .string s]) ∧ Below w.heap.size w w' from hq)
  have hxs : (s ++ ⟨#[120]⟩ : ByteArray).size ≤ 2097152 := by rw [cat_size]; show s.size + 1 ≤ _; omega
  have hx := fun w h => read_walk w (s ++ ⟨#[120]⟩) hxs false h
  unfold ReadPost at hx
  rw [read_x (s := s) (t := s ++ ⟨#[120]⟩) (cat_list _ _)] at hx
  have Hx := Lib.hid (show ∀ w, RangeLaid w → Calls Tryd.prog 9 #[.string (s ++ ⟨#[120]⟩), .bool false] w fun e w' => e = .returned (.agg #[.int .i64 5, .bool false, .int .i64 0, .float .f64 0, .string (s ++ ⟨#[120]⟩)]) ∧ Below w.heap.size w w' from hx)
  have E1 := neq_text s
  have E2 := eql_text (s ++ ⟨#[120]⟩)
  have hcat : s.size + (⟨#[120]⟩ : ByteArray).size ≤ 9223372036854775807 := by show s.size + 1 ≤ _; omega
  have hst := @store_float
  have f1 : (FloatKind.f64.format.order 18442240474082181120 18442240474082181120 != some .eq) = false := by decide +kernel
  have q1 : (s.toList == [46, 110, 97, 110]) = false := by rw [Lib.toList_data, e0]; rfl
  have q2 : (s.toList == [46, 105, 110, 102]) = false := by rw [Lib.toList_data, e0]; rfl
  have q3 : (s.toList == [45, 46, 105, 110, 102]) = true := by rw [Lib.toList_data, e0]; rfl
  clear e0
  clear hq hx hxs htab hl hr
  go_enter Tryd.func5, Tryd.ntmps5
  go_wp2_with fail
  refine Haw.out.mono ?_
  rintro e w1 ⟨rfl, hb⟩
  have G1 := Lib.hid (G0.out.later hb)
  clear hb G0 Haw
  go_wp2_with fail
  refine (Hr.out _ G1.out.laid).mono ?_
  rintro e w2 ⟨rfl, hb⟩
  have G2 := Lib.hid (G1.out.later hb)
  clear hb G1 Hr
  have X2 := Lib.hid (VW.new G2.out 25 ⟨4, false, 0, 18442240474082181120, ⟨#[]⟩⟩)
  clear G2
  go_wp2_with fail
  refine (Hq.out _ X2.out.g.laid).mono ?_
  rintro e w3 ⟨rfl, hb⟩
  have X3 := Lib.hid (X2.out.later hb)
  clear hb X2 Hq
  have Y4 := Lib.hid (VW.new X3.out.g 25 ⟨5, false, 0, 0, s⟩)
  have X4 := Lib.hid (X3.out.later ((Below.refl _ w3).alloc (Nat.le_refl _) (.cells #[.int .i64 5, .bool false, .int .i64 0, .float .f64 0, .string s] 25)))
  clear X3
  go_upto_region 5 with (fail)
  obtain ⟨w4, hw4⟩ : ∃ w4, w4 = w3.alloc (.cells #[.int .i64 5, .bool false, .int .i64 0, .float .f64 0, .string s] 25) := ⟨_, rfl⟩
  rw [← hw4]
  rw [← hw4] at X4 Y4
  clear hw4
  obtain ⟨x0, x1, x2, x3, x4⟩ := X4.out.cells
  obtain ⟨y0, y1, y2, y3, y4⟩ := Y4.out.cells
  dsimp only at x0 x1 x2 x3 x4 y0 y1 y2 y3 y4
  have f2 := fun t => nanX_run (x := 18442240474082181120) (by decide +kernel) rfl t w4
  have f3 := nanX_cmp 18442240474082181120 w4
  generalize nanX 18442240474082181120 w4 = nw at *
  have Xd := Lib.hid X4.out.drew
  go_wp2_with fail
  refine (Hx.out _ Xd.out.g.laid).mono ?_
  rintro e w5 ⟨rfl, hb⟩
  have G5 := Lib.hid (Xd.out.g.later hb)
  clear hb
  go_wp2
  go_ret
  exact ⟨rfl, (G5.out.alloc _).below⟩
theorem kinds_walk (w : World) (s : ByteArray) (hs : s.size ≤ 1048576) (htab : Tab w) (hl : RangeLaid w) :
    Calls Tryd.prog 5 #[.string s] w fun e w' => e = .returned (.bool true) ∧ Below w.heap.size w w' := by
  have hr := fun w h => read_walk w s (by omega) false h
  unfold ReadPost at hr
  have hf := read_form s
  generalize readS s false = v at *
  cases hf with
  | small k b hk hw =>
    rcases hk with ⟨rfl, rfl⟩ | rfl
    · exact kinds_null w s hs htab hl hw hr
    · exact kinds_bool w s hs htab hl b hw hr
  | int i hc hw => exact kinds_int w s hs htab hl i hc hw hr
  | real x m neg p hn hc hw => exact kinds_real w s hs htab hl x m neg p hn hc hw hr
  | nan e => exact kinds_nan w s hs htab hl e hr
  | inf e => exact kinds_inf w s hs htab hl e hr
  | ninf e => exact kinds_ninf w s hs htab hl e hr
  | text hw => exact kinds_text w s hs htab hl hw hr

end Go.Proofs.YtbmdbfidjdogmaaDoor
