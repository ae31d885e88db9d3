/-
The walk of the program's integer: what strconv.ParseInt answers for digits.
-/
import Derived.Test.YtbmdbfidjdogmaaDoorScaRefDec
import Derived.Test.YtbmdbfidjdogmaaDoorScaShelf
import Derived.Lib.AtoiErrMem
set_option linter.unusedVariables false
set_option linter.unusedSimpArgs false
namespace Go.Proofs.YtbmdbfidjdogmaaDoor
open Go Go.RowKit

theorem numN_ge_acc : ∀ (l : List UInt8) (acc : Nat), acc ≤ l.foldl (fun n c => 10 * n + (c.toNat - 48)) acc := by
  intro l
  induction l with
  | nil => intro acc; exact Nat.le_refl _
  | cons c r ih => intro acc; exact Nat.le_trans (by omega) (ih (10 * acc + (c.toNat - 48)))

theorem parse_digits (M : Nat) (hM : M ≤ 18446744073709551619) : ∀ (l : List UInt8) (acc : Nat), acc ≤ M → l.all isD = true →
    Lib.parseUintM M acc l = if l.foldl (fun n c => 10 * n + (c.toNat - 48)) acc ≤ M then .ok (l.foldl (fun n c => 10 * n + (c.toNat - 48)) acc) else .range := by
  intro l
  induction l with
  | nil => intro acc h _; simp [Lib.parseUintM, h]
  | cons c r ih =>
    intro acc h hd
    rw [List.all_cons] at hd
    simp only [Bool.and_eq_true] at hd
    have h2 := (isD_iff c).1 hd.1
    have hge := numN_ge_acc r (10 * acc + (c.toNat - 48))
    rw [List.foldl_cons, Lib.parseUintM, if_pos h2, Nat.mul_comm acc 10]
    by_cases h3 : 1844674407370955162 ≤ acc
    · rw [if_pos h3, if_neg]
      intro q
      have := Nat.le_trans hge q
      omega
    · rw [if_neg h3]
      by_cases h4 : M < 10 * acc + (c.toNat - 48)
      · rw [if_pos h4, if_neg]
        intro q
        have := Nat.le_trans hge q
        omega
      · rw [if_neg h4]
        exact ih _ (by omega) hd.2

theorem parse_pos {l : List UInt8} (hd : allD l = true) : Lib.parseIntB 64 l = if numN l ≤ 9223372036854775807 then .ok (numN l : Int) else .range := by
  have hall := allD_all hd
  cases l with
  | nil => cases hd
  | cons c r =>
    have hp := parse_digits (2 ^ 64 - 1) (by decide) (c :: r) 0 (by decide) hall
    have hc : isD c = true := by
      rw [List.all_cons] at hall
      simp only [Bool.and_eq_true] at hall
      exact hall.1
    have hc2 := (isD_iff c).1 hc
    have e1 : ¬ (c.toNat = 43 ∨ c.toNat = 45) := by omega
    have e2 : ¬ c.toNat = 45 := by omega
    unfold Lib.parseIntB
    simp only [if_neg e1]
    unfold Lib.parseUintB
    rw [if_neg (by simp), hp]
    rw [show (c :: r).foldl (fun n c => 10 * n + (c.toNat - 48)) 0 = numN (c :: r) from rfl]
    generalize numN (c :: r) = n
    by_cases h1 : n ≤ 2 ^ 64 - 1
    · rw [if_pos h1]
      simp only [e2]
      by_cases h2 : n ≤ 9223372036854775807
      · rw [if_pos h2, if_neg (by simp; omega)]
        simp
      · rw [if_neg h2, if_pos (by simp; omega)]
    · rw [if_neg h1, if_neg (by omega)]

theorem parse_neg {l : List UInt8} (hd : allD l = true) : Lib.parseIntB 64 (45 :: l) = if numN l ≤ 9223372036854775808 then .ok (-(numN l : Int)) else .range := by
  have hall := allD_all hd
  cases l with
  | nil => cases hd
  | cons c r =>
    have hp := parse_digits (2 ^ 64 - 1) (by decide) (c :: r) 0 (by decide) hall
    have e1 : ((45 : UInt8).toNat = 43 ∨ (45 : UInt8).toNat = 45) := .inr rfl
    have e2 : (45 : UInt8).toNat = 45 := rfl
    unfold Lib.parseIntB
    simp only [if_pos e1]
    unfold Lib.parseUintB
    rw [if_neg (by simp), hp]
    rw [show (c :: r).foldl (fun n c => 10 * n + (c.toNat - 48)) 0 = numN (c :: r) from rfl]
    generalize numN (c :: r) = n
    by_cases h1 : n ≤ 2 ^ 64 - 1
    · rw [if_pos h1]
      simp only [e2]
      by_cases h2 : n ≤ 9223372036854775808
      · rw [if_pos h2, if_neg (by simp), if_neg (by simp; omega)]
        simp
      · rw [if_neg h2, if_neg (by simp), if_pos (by simp; omega)]
    · rw [if_neg h1, if_neg (by omega)]

/-- The int of digits with a sign, as the program has it. -/
def intP (l : List UInt8) (below : Bool) : Option Int :=
  if below = true then
    if l = [48] then none
    else if numN l ≤ 9223372036854775808 then some (-(numN l : Int)) else none
  else if numN l ≤ 9223372036854775807 then some (numN l : Int) else none

def valV (kind : Int) (b : Bool) (i : Int) (x : Nat) (s : ByteArray) : Value := .agg #[.int .i64 kind, .bool b, .int .i64 i, .float .f64 x, .string s]

def IntPostP (l : List UInt8) (below : Bool) (w : World) (e : Ending) (w' : World) : Prop :=
  ∃ (i : Int) (ok : Bool), e = .returned (.tuple #[valV 3 false i 0 ⟨#[]⟩, .bool ok]) ∧ Below w.heap.size w w' ∧ (ok = true ∧ intP l below = some i ∨ ok = false ∧ intP l below = none)

theorem below_of_parse {w0 w w' : World} {e : TypeId} (h0 : Below w0.heap.size w0 w) (h : w' = w ∨ ∃ t, w' = Lib.bytesWorld w e t) : Below w0.heap.size w0 w' := by
  rcases h with rfl | ⟨t, rfl⟩
  · exact h0
  · exact h0.trans ((Lib.bytesWorld_below w e t).mono h0.size)

theorem store_float {a : Addr} {b : Nat} {m : Mode} : ∀ w, (store a (.float .f64 b) m).run Tryd.prog w = stored Tryd.prog w a (.float .f64 b) m := fun w => run_store Tryd.prog w a _ m rfl

theorem lt_of_cell {w : World} {a : Addr} {v : Value} (h : w.cell? a = some v) : a.block < w.heap.size := by
  rcases Nat.lt_or_ge a.block w.heap.size with h2 | h2
  · exact h2
  · rw [World.cell?, Array.getElem?_eq_none h2] at h; cases h

/-- ErrRange is laid. -/
def RangeLaid (w : World) : Prop := ∃ ev, w.cell? ⟨3, 0, none⟩ = some ev ∧ (ev = .nilIface ∨ ∃ te pe, ev = .iface te pe)

set_option maxHeartbeats 1000000 in
theorem integer_walk (w : World) (s : ByteArray) (hmax : s.size ≤ 2097152) (below : Bool) (hd : allD s.data.toList = true) (hv : RangeLaid w) :
    Calls Tryd.prog 40 #[.string s, .bool below] w fun e w' => IntPostP s.data.toList below w e w' := by
  obtain ⟨ev, hv1, hv2⟩ := hv
  have Hd := Lib.hid hd
  have hblt : (⟨3, 0, none⟩ : Addr).block < w.heap.size := lt_of_cell hv1
  have hst := @store_float
  clear hd
  cases below with
  | false =>
    have hp := parse_pos Hd.out
    have hne : (s.toList == [45, 48]) = false := by
      rw [Lib.toList_data]
      refine beq_eq_false_iff_ne.2 ?_
      intro q
      have := Hd.out
      rw [q] at this
      exact absurd this (by decide)
    by_cases hle : numN s.data.toList ≤ 9223372036854775807
    · rw [if_pos hle] at hp
      have hres : ∀ (i : Int) w', Below w.heap.size w w' → IntPostP s.data.toList false w (.returned (.tuple #[valV 3 false (numN s.data.toList : Int) 0 ⟨#[]⟩, .bool true])) w' := fun _ w' h => ⟨_, true, rfl, h, .inl ⟨rfl, by unfold intP; rw [if_neg (by decide), if_pos hle]⟩⟩
      clear hle
      have Hp := Lib.hid (fun w => Tryd.strconv_ParseInt_10_at64_ok s (by omega) _ hp w)
      clear hp
      go_enter Tryd.func40, Tryd.ntmps40
      go_wp2_with fail
      refine (Hp.out _).mono ?_
      rintro e w1 ⟨rfl, hw⟩
      have hb := below_of_parse ((Below.refl _ w).alloc (Nat.le_refl _) _) hw
      have hb2 := below_of_parse (Below.refl _ _) hw
      have hlt : w.heap.size < (w.alloc (Obj.cells #[.int .i64 0, .bool false, .int .i64 0, .float .f64 0, .string ⟨#[]⟩] 25)).heap.size := by simp
      have f0 := hb2.frozen (p := ⟨w.heap.size, 0, none⟩) hlt
      have f1 := hb2.frozen (p := ⟨w.heap.size, 1, none⟩) hlt
      have f2 := hb2.frozen (p := ⟨w.heap.size, 2, none⟩) hlt
      have f3 := hb2.frozen (p := ⟨w.heap.size, 3, none⟩) hlt
      have f4 := hb2.frozen (p := ⟨w.heap.size, 4, none⟩) hlt
      have c0 := hb2.cell (p := ⟨w.heap.size, 0, none⟩) hlt
      have c1 := hb2.cell (p := ⟨w.heap.size, 1, none⟩) hlt
      have c2 := hb2.cell (p := ⟨w.heap.size, 2, none⟩) hlt
      have c3 := hb2.cell (p := ⟨w.heap.size, 3, none⟩) hlt
      have c4 := hb2.cell (p := ⟨w.heap.size, 4, none⟩) hlt
      simp at f0 f1 f2 f3 f4 c0 c1 c2 c3 c4
      clear hw hlt hb2
      go_wp2
      refine bodyPost_ret (v := .tuple #[valV 3 false (numN s.data.toList : Int) 0 ⟨#[]⟩, .bool true]) (by simp [results, Tryd.results40, go_sem, valV, f0, f1, f2, f3, f4, c0, c1, c2, c3, c4]) rfl ?_
      exact hres 0 _ (((((hb.setCell (Nat.le_refl _) _).setCell (Nat.le_refl _) _).setCell (Nat.le_refl _) _).setCell (Nat.le_refl _) _).setCell (Nat.le_refl _) _)
    · rw [if_neg hle] at hp
      have hres : ∀ (i : Int) w', Below w.heap.size w w' → IntPostP s.data.toList false w (.returned (.tuple #[valV 3 false i 0 ⟨#[]⟩, .bool false])) w' := fun i w' h => ⟨_, false, rfl, h, .inr ⟨rfl, by unfold intP; rw [if_neg (by decide), if_neg hle]⟩⟩
      clear hle
      have Hp := Lib.hid (fun w (hv1 : w.cell? ⟨3, 0, none⟩ = some ev) => Tryd.strconv_ParseInt_10_at64_range s (by omega) hp ev w hv1 hv2)
      clear hp
      go_enter Tryd.func40, Tryd.ntmps40
      go_wp2_with fail
      refine (Hp.out _ ?_).mono ?_
      · rw [((Below.refl w.heap.size w).alloc (Nat.le_refl _) _).cell hblt]; exact hv1
      rintro e w1 ⟨N, rfl, hN, hob, hb2⟩
      have hb := ((Below.refl _ w).alloc (Nat.le_refl _) _).trans (hb2.mono (by simp))
      have hlt : w.heap.size < (w.alloc (Obj.cells #[.int .i64 0, .bool false, .int .i64 0, .float .f64 0, .string ⟨#[]⟩] 25)).heap.size := by simp
      have f0 := hb2.frozen (p := ⟨w.heap.size, 0, none⟩) hlt
      have f1 := hb2.frozen (p := ⟨w.heap.size, 1, none⟩) hlt
      have f2 := hb2.frozen (p := ⟨w.heap.size, 2, none⟩) hlt
      have f3 := hb2.frozen (p := ⟨w.heap.size, 3, none⟩) hlt
      have f4 := hb2.frozen (p := ⟨w.heap.size, 4, none⟩) hlt
      have c0 := hb2.cell (p := ⟨w.heap.size, 0, none⟩) hlt
      have c1 := hb2.cell (p := ⟨w.heap.size, 1, none⟩) hlt
      have c2 := hb2.cell (p := ⟨w.heap.size, 2, none⟩) hlt
      have c3 := hb2.cell (p := ⟨w.heap.size, 3, none⟩) hlt
      have c4 := hb2.cell (p := ⟨w.heap.size, 4, none⟩) hlt
      simp at f0 f1 f2 f3 f4 c0 c1 c2 c3 c4
      clear hN hob hlt hb2
      go_wp2
      refine bodyPost_ret (v := .tuple #[valV 3 false (Lib.intSat 64 s.data.toList) 0 ⟨#[]⟩, .bool false]) (by simp [results, Tryd.results40, go_sem, valV, f0, f1, f2, f3, f4, c0, c1, c2, c3, c4]) rfl ?_
      exact hres _ _ (((((hb.setCell (Nat.le_refl _) _).setCell (Nat.le_refl _) _).setCell (Nat.le_refl _) _).setCell (Nat.le_refl _) _).setCell (Nat.le_refl _) _)
  | true =>
    have hl : ((⟨#[45]⟩ : ByteArray) ++ s).data.toList = 45 :: s.data.toList := ByteArray.toList_data_append
    have hsz : ((⟨#[45]⟩ : ByteArray) ++ s).size = s.size + 1 := by rw [← size_list, hl, List.length_cons, size_list]
    have hp := parse_neg Hd.out
    rw [← hl] at hp
    have hcat : (⟨#[45]⟩ : ByteArray).size + s.size ≤ 9223372036854775807 := by
      have : (⟨#[45]⟩ : ByteArray).size = 1 := rfl
      omega
    by_cases hz : s.data.toList = [48]
    · have hne : (((⟨#[45]⟩ : ByteArray) ++ s).toList == [45, 48]) = true := by
        rw [Lib.toList_data, hl, hz]; rfl
      have hle : numN s.data.toList ≤ 9223372036854775808 := by rw [hz]; decide
      rw [if_pos hle] at hp
      have hres : ∀ (i : Int) w', Below w.heap.size w w' → IntPostP s.data.toList true w (.returned (.tuple #[valV 3 false i 0 ⟨#[]⟩, .bool false])) w' := fun i w' h => ⟨_, false, rfl, h, .inr ⟨rfl, by unfold intP; rw [if_pos rfl, if_pos hz]⟩⟩
      clear hle hz hl
      have Hp := Lib.hid (fun w => Tryd.strconv_ParseInt_10_at64_ok (⟨#[45]⟩ ++ s) (by rw [hsz]; omega) _ hp w)
      clear hp
      go_enter Tryd.func40, Tryd.ntmps40
      go_wp2_with fail
      refine (Hp.out _).mono ?_
      rintro e w1 ⟨rfl, hw⟩
      have hb := below_of_parse ((Below.refl _ w).alloc (Nat.le_refl _) _) hw
      have hb2 := below_of_parse (Below.refl _ _) hw
      have hlt : w.heap.size < (w.alloc (Obj.cells #[.int .i64 0, .bool false, .int .i64 0, .float .f64 0, .string ⟨#[]⟩] 25)).heap.size := by simp
      have f0 := hb2.frozen (p := ⟨w.heap.size, 0, none⟩) hlt
      have f1 := hb2.frozen (p := ⟨w.heap.size, 1, none⟩) hlt
      have f2 := hb2.frozen (p := ⟨w.heap.size, 2, none⟩) hlt
      have f3 := hb2.frozen (p := ⟨w.heap.size, 3, none⟩) hlt
      have f4 := hb2.frozen (p := ⟨w.heap.size, 4, none⟩) hlt
      have c0 := hb2.cell (p := ⟨w.heap.size, 0, none⟩) hlt
      have c1 := hb2.cell (p := ⟨w.heap.size, 1, none⟩) hlt
      have c2 := hb2.cell (p := ⟨w.heap.size, 2, none⟩) hlt
      have c3 := hb2.cell (p := ⟨w.heap.size, 3, none⟩) hlt
      have c4 := hb2.cell (p := ⟨w.heap.size, 4, none⟩) hlt
      simp at f0 f1 f2 f3 f4 c0 c1 c2 c3 c4
      clear hw hlt hb2
      go_wp2
      refine bodyPost_ret (v := .tuple #[valV 3 false (-(numN s.data.toList : Int)) 0 ⟨#[]⟩, .bool false]) (by simp [results, Tryd.results40, go_sem, valV, f0, f1, f2, f3, f4, c0, c1, c2, c3, c4]) rfl ?_
      exact hres _ _ (((((hb.setCell (Nat.le_refl _) _).setCell (Nat.le_refl _) _).setCell (Nat.le_refl _) _).setCell (Nat.le_refl _) _).setCell (Nat.le_refl _) _)
    · have hne : (((⟨#[45]⟩ : ByteArray) ++ s).toList == [45, 48]) = false := by
        rw [Lib.toList_data, hl]
        refine beq_eq_false_iff_ne.2 ?_
        intro q
        exact hz (List.cons.inj q).2
      by_cases hle : numN s.data.toList ≤ 9223372036854775808
      · rw [if_pos hle] at hp
        have hres : ∀ (i : Int) w', Below w.heap.size w w' → IntPostP s.data.toList true w (.returned (.tuple #[valV 3 false (-(numN s.data.toList : Int)) 0 ⟨#[]⟩, .bool true])) w' := fun i w' h => ⟨_, true, rfl, h, .inl ⟨rfl, by unfold intP; rw [if_pos rfl, if_neg hz, if_pos hle]⟩⟩
        clear hle hl
        have Hp := Lib.hid (fun w => Tryd.strconv_ParseInt_10_at64_ok (⟨#[45]⟩ ++ s) (by rw [hsz]; omega) _ hp w)
        clear hp
        go_enter Tryd.func40, Tryd.ntmps40
        go_wp2_with fail
        refine (Hp.out _).mono ?_
        rintro e w1 ⟨rfl, hw⟩
        have hb := below_of_parse ((Below.refl _ w).alloc (Nat.le_refl _) _) hw
        have hb2 := below_of_parse (Below.refl _ _) hw
        have hlt : w.heap.size < (w.alloc (Obj.cells #[.int .i64 0, .bool false, .int .i64 0, .float .f64 0, .string ⟨#[]⟩] 25)).heap.size := by simp
        have f0 := hb2.frozen (p := ⟨w.heap.size, 0, none⟩) hlt
        have f1 := hb2.frozen (p := ⟨w.heap.size, 1, none⟩) hlt
        have f2 := hb2.frozen (p := ⟨w.heap.size, 2, none⟩) hlt
        have f3 := hb2.frozen (p := ⟨w.heap.size, 3, none⟩) hlt
        have f4 := hb2.frozen (p := ⟨w.heap.size, 4, none⟩) hlt
        have c0 := hb2.cell (p := ⟨w.heap.size, 0, none⟩) hlt
        have c1 := hb2.cell (p := ⟨w.heap.size, 1, none⟩) hlt
        have c2 := hb2.cell (p := ⟨w.heap.size, 2, none⟩) hlt
        have c3 := hb2.cell (p := ⟨w.heap.size, 3, none⟩) hlt
        have c4 := hb2.cell (p := ⟨w.heap.size, 4, none⟩) hlt
        simp at f0 f1 f2 f3 f4 c0 c1 c2 c3 c4
        clear hw hlt hb2
        go_wp2
        refine bodyPost_ret (v := .tuple #[valV 3 false (-(numN s.data.toList : Int)) 0 ⟨#[]⟩, .bool true]) (by simp [results, Tryd.results40, go_sem, valV, f0, f1, f2, f3, f4, c0, c1, c2, c3, c4]) rfl ?_
        exact hres 0 _ (((((hb.setCell (Nat.le_refl _) _).setCell (Nat.le_refl _) _).setCell (Nat.le_refl _) _).setCell (Nat.le_refl _) _).setCell (Nat.le_refl _) _)
      · rw [if_neg hle] at hp
        have hres : ∀ (i : Int) w', Below w.heap.size w w' → IntPostP s.data.toList true w (.returned (.tuple #[valV 3 false i 0 ⟨#[]⟩, .bool false])) w' := fun i w' h => ⟨_, false, rfl, h, .inr ⟨rfl, by unfold intP; rw [if_pos rfl, if_neg hz, if_neg hle]⟩⟩
        clear hle hl
        have Hp := Lib.hid (fun w (hv1 : w.cell? ⟨3, 0, none⟩ = some ev) => Tryd.strconv_ParseInt_10_at64_range (⟨#[45]⟩ ++ s) (by rw [hsz]; omega) hp ev w hv1 hv2)
        clear hp
        go_enter Tryd.func40, Tryd.ntmps40
        go_wp2_with fail
        refine (Hp.out _ ?_).mono ?_
        · rw [((Below.refl w.heap.size w).alloc (Nat.le_refl _) _).cell hblt]; exact hv1
        rintro e w1 ⟨N, rfl, hN, hob, hb2⟩
        have hb := ((Below.refl _ w).alloc (Nat.le_refl _) _).trans (hb2.mono (by simp))
        have hlt : w.heap.size < (w.alloc (Obj.cells #[.int .i64 0, .bool false, .int .i64 0, .float .f64 0, .string ⟨#[]⟩] 25)).heap.size := by simp
        have f0 := hb2.frozen (p := ⟨w.heap.size, 0, none⟩) hlt
        have f1 := hb2.frozen (p := ⟨w.heap.size, 1, none⟩) hlt
        have f2 := hb2.frozen (p := ⟨w.heap.size, 2, none⟩) hlt
        have f3 := hb2.frozen (p := ⟨w.heap.size, 3, none⟩) hlt
        have f4 := hb2.frozen (p := ⟨w.heap.size, 4, none⟩) hlt
        have c0 := hb2.cell (p := ⟨w.heap.size, 0, none⟩) hlt
        have c1 := hb2.cell (p := ⟨w.heap.size, 1, none⟩) hlt
        have c2 := hb2.cell (p := ⟨w.heap.size, 2, none⟩) hlt
        have c3 := hb2.cell (p := ⟨w.heap.size, 3, none⟩) hlt
        have c4 := hb2.cell (p := ⟨w.heap.size, 4, none⟩) hlt
        simp at f0 f1 f2 f3 f4 c0 c1 c2 c3 c4
        clear hN hob hlt hb2
        go_wp2
        refine bodyPost_ret (v := .tuple #[valV 3 false (Lib.intSat 64 (⟨#[45]⟩ ++ s).data.toList) 0 ⟨#[]⟩, .bool false]) (by simp [results, Tryd.results40, go_sem, valV, f0, f1, f2, f3, f4, c0, c1, c2, c3, c4]) rfl ?_
        exact hres _ _ (((((hb.setCell (Nat.le_refl _) _).setCell (Nat.le_refl _) _).setCell (Nat.le_refl _) _).setCell (Nat.le_refl _) _).setCell (Nat.le_refl _) _)

end Go.Proofs.YtbmdbfidjdogmaaDoor
