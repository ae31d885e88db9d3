/-
What a number is, by the places at which the program looks. Plain laws.
-/
import Derived.Test.YtbmdbfidjdogmaaDoorScaGram
set_option linter.unusedVariables false
set_option linter.unusedSimpArgs false
namespace Go.Proofs.YtbmdbfidjdogmaaDoor
open Go Go.RowKit

theorem whole_tw {r : List UInt8} (h : wholeL r = true) : r.takeWhile isD = r := tw_self (whole_all h)

/-- The digits ahead are no whole number: no number at all. -/
theorem bad_digits {l r : List UInt8} {b : Bool} (hm : minusL l = (r, b)) (h : wholeL (r.takeWhile isD) = false) : intR l = none ∧ decR l = none := by
  refine ⟨intR_none hm ?_, decR_none hm ?_⟩
  · cases hq : wholeL r with
    | false => rfl
    | true => rw [whole_tw hq, hq] at h; cases h
  · rintro ⟨t, _, q⟩
    rw [q] at h; cases h

theorem tw_all_isD (r : List UInt8) : (r.takeWhile isD).all isD = true := List.all_takeWhile

theorem whole_of {r : List UInt8} (h0 : (r.takeWhile isD).length ≠ 0) (h : ¬ (1 < (r.takeWhile isD).length ∧ (r.takeWhile isD).head? = some 48)) : wholeL (r.takeWhile isD) = true := by
  have hd := tw_all_isD r
  generalize r.takeWhile isD = d at *
  unfold wholeL allD
  rw [hd]
  cases d with
  | nil => exact absurd rfl h0
  | cons c q =>
    simp only [List.isEmpty_cons, Bool.not_false, Bool.and_true, Bool.true_and, Bool.or_eq_true, decide_eq_true_eq]
    rcases Nat.lt_or_ge 1 (c :: q).length with h1 | h1
    · exact .inl fun e => h ⟨h1, e⟩
    · exact .inr (by simp at h1 ⊢; exact h1)

theorem not_whole {r : List UInt8} (h : 1 < (r.takeWhile isD).length) (h2 : (r.takeWhile isD).head? = some 48) : wholeL (r.takeWhile isD) = false := by
  cases hq : wholeL (r.takeWhile isD) with
  | false => rfl
  | true =>
    unfold wholeL at hq
    simp only [Bool.and_eq_true, Bool.or_eq_true, decide_eq_true_eq] at hq
    rcases hq.2 with h3 | h3
    · exact absurd h2 h3
    · omega

theorem tw_head {r : List UInt8} (h : 0 < (r.takeWhile isD).length) : (r.takeWhile isD).head? = r.head? := by
  cases r with
  | nil => rfl
  | cons c q =>
    rw [List.takeWhile_cons] at h ⊢
    split
    · rfl
    · rename_i hn
      rw [if_neg hn] at h
      simp at h

theorem tw_len_le (r : List UInt8) : (r.takeWhile isD).length ≤ r.length := List.IsPrefix.length_le (List.takeWhile_prefix isD)

/-- Digits alone. -/
theorem tw_full {r : List UInt8} (h : (r.takeWhile isD).length = r.length) : r.takeWhile isD = r :=
  List.IsPrefix.eq_of_length (List.takeWhile_prefix isD) h

theorem not_int {l r : List UInt8} {b : Bool} (hm : minusL l = (r, b)) (h : (r.takeWhile isD).length ≠ r.length) : intR l = none := by
  refine intR_none hm ?_
  cases hq : wholeL r with
  | false => rfl
  | true => exact absurd (by rw [whole_tw hq]) h

theorem tail_split (t : List UInt8) : ∃ u, t = t.takeWhile isD ++ u ∧ (u = [] ∨ ∃ c v, u = c :: v ∧ isD c = false) := by
  refine ⟨t.dropWhile isD, List.takeWhile_append_dropWhile.symm, ?_⟩
  cases hd : t.dropWhile isD with
  | nil => exact .inl rfl
  | cons c v =>
    have := List.head?_dropWhile_not (p := isD) (l := t)
    rw [hd] at this
    exact .inr ⟨c, v, rfl, by simpa using this⟩

theorem get_at {s : ByteArray} {pre post : List UInt8} {c : UInt8} (h : s.data.toList = pre ++ c :: post) {k : Nat} (hk : k = pre.length) (hlt : k < s.size) : s[k] = c := by
  subst hk
  rw [get_list s _ hlt]
  simp [h]

theorem split_at {s : ByteArray} {k : Nat} (hlt : k < s.size) : s.data.toList = s.data.toList.take k ++ s[k] :: s.data.toList.drop (k + 1) := by
  rw [get_list s k hlt, ← List.drop_eq_getElem_cons (by rw [size_list]; exact hlt), List.take_append_drop]

theorem tw_take (r : List UInt8) : r.takeWhile isD = r.take (r.takeWhile isD).length := List.prefix_iff_eq_take.1 (List.takeWhile_prefix isD)

/-- No point behind the digits. -/
theorem no_point {l : List UInt8} {r : ByteArray} {b : Bool} {n : Nat} (hm : minusL l = (r.data.toList, b)) (hn : n = (r.data.toList.takeWhile isD).length) (hlt : n < r.size) (h : r[n] ≠ 46) : decR l = none := by
  refine decR_none hm ?_
  rintro ⟨t, e, _⟩
  exact h (get_at e hn hlt)

/-- Digits, a point, and what stands behind it. -/
theorem point_form {r : ByteArray} {n : Nat} (hn : n = (r.data.toList.takeWhile isD).length) (hlt : n < r.size) (h : r[n] = 46) :
    r.data.toList = r.data.toList.takeWhile isD ++ 46 :: (r.extract (n + 1) r.size).data.toList := by
  have e := split_at hlt
  rw [h] at e
  rw [ext_from]
  have := tw_take r.data.toList
  rw [← hn] at this
  rw [this]
  exact e

theorem no_digits_behind {l d t : List UInt8} {b : Bool} (hm : minusL l = (d ++ 46 :: t, b)) (hd : d.all isD = true) (h : (t.takeWhile isD).length = 0) : decR l = none := by
  obtain ⟨x, y, ok, hc⟩ : ∃ x y ok, cutL t 101 = (x, y, ok) := ⟨_, _, _, rfl⟩
  rw [decR_form hm hd hc, if_neg]
  rintro ⟨_, q⟩
  obtain ⟨u, e, hu⟩ := tail_split t
  rw [List.eq_nil_of_length_eq_zero h, List.nil_append] at e
  have hx : x = (cutL t 101).1 := by rw [hc]
  have hall : ([] : List UInt8).all isD = true := rfl
  rcases hu with hu | ⟨c, v, hu, hcd⟩
  · rw [e, hu] at hx
    rw [hx] at q
    cases q
  · by_cases h101 : c = 101
    · have := cut_e (b := []) (v := v) hall
      rw [List.nil_append] at this
      rw [e, hu, h101, this] at hx
      rw [hx] at q
      cases q
    · have := cut_bad (b := []) (v := v) hall hcd h101
      rw [List.nil_append] at this
      rw [e, hu] at hx
      rw [hx, this] at q
      cases q

/-- The form of a decimal that has a power of ten, or none. -/
def decF (d b : List UInt8) (neg : Bool) (k : Option Int) : Option (Nat × Int × Bool) :=
  match k with
  | some k => if numN (d ++ b) ≤ 999999999999999 ∧ b.length ≤ 200 ∧ ¬ Bad (numN (d ++ b)) (k - (b.length : Int)) then some (numN (d ++ b), k - (b.length : Int), neg) else none
  | none => none

theorem allD_of {b : List UInt8} (h : b.all isD = true) (h0 : b.length ≠ 0) : allD b = true := by
  unfold allD
  rw [h]
  cases b with
  | nil => exact absurd rfl h0
  | cons c r => rfl

theorem dec_end {l d t : List UInt8} {neg : Bool} (hm : minusL l = (d ++ 46 :: t, neg)) (hw : wholeL d = true) (h0 : (t.takeWhile isD).length ≠ 0) (h : (t.takeWhile isD).length = t.length) :
    decR l = decF d (t.takeWhile isD) neg (some 0) := by
  have ht := tw_full h
  rw [ht] at h0 ⊢
  have hall : t.all isD = true := by rw [← ht]; exact tw_all_isD t
  rw [decR_form hm (whole_all hw) (cut_end hall), if_pos ⟨hw, allD_of hall h0⟩]
  rfl

theorem dec_pow {l d t v : List UInt8} {neg : Bool} (hm : minusL l = (d ++ 46 :: t, neg)) (hw : wholeL d = true) (h0 : (t.takeWhile isD).length ≠ 0) (h : t = t.takeWhile isD ++ 101 :: v) :
    decR l = decF d (t.takeWhile isD) neg (powR true v) := by
  have hall := tw_all_isD t
  generalize t.takeWhile isD = b at *
  subst h
  rw [decR_form hm (whole_all hw) (cut_e hall), if_pos ⟨hw, allD_of hall h0⟩]
  rfl

theorem dec_odd {l d t v : List UInt8} {c : UInt8} {neg : Bool} (hm : minusL l = (d ++ 46 :: t, neg)) (hd : d.all isD = true) (h : t = t.takeWhile isD ++ c :: v) (hc : isD c = false) (hne : c ≠ 101) :
    decR l = none := by
  obtain ⟨x, y, ok, hcu⟩ : ∃ x y ok, cutL t 101 = (x, y, ok) := ⟨_, _, _, rfl⟩
  rw [decR_form hm hd hcu, if_neg]
  rintro ⟨_, q⟩
  have := cut_bad (v := v) (tw_all_isD t) hc hne
  rw [← h, hcu] at this
  simp only at this
  rw [this] at q
  cases q

/-- Behind the digits stands no digit. -/
theorem behind_form {t : ByteArray} {k : Nat} (hk : k = (t.data.toList.takeWhile isD).length) (hlt : k < t.size) : t.data.toList = t.data.toList.takeWhile isD ++ t[k] :: (t.extract (k + 1) t.size).data.toList ∧ isD t[k] = false := by
  have e := split_at hlt
  have h2 := tw_take t.data.toList
  rw [← hk] at h2
  rw [ext_from]
  refine ⟨by rw [h2]; exact e, ?_⟩
  obtain ⟨u, e2, hu⟩ := tail_split t.data.toList
  have hlen := congrArg List.length e2
  rw [List.length_append, ← hk, size_list] at hlen
  rcases hu with rfl | ⟨c, v, rfl, hc⟩
  · simp at hlen; omega
  · rw [get_at e2 hk hlt]
    exact hc

theorem behind_r {r : ByteArray} {n k N : Nat} (hk : k = ((r.extract (n + 1) r.size).data.toList.takeWhile isD).length) (hN : N = n + 1 + k) (hlt : N < r.size) :
    (r.extract (n + 1) r.size).data.toList = (r.extract (n + 1) r.size).data.toList.takeWhile isD ++ r[N] :: (r.extract (N + 1) r.size).data.toList ∧ isD r[N] = false := by
  have hT : (r.extract (n + 1) r.size).size = r.size - (n + 1) := by
    rw [← size_list, ext_from, List.length_drop, size_list]
  have hlt2 : k < (r.extract (n + 1) r.size).size := by omega
  have h := behind_form hk hlt2
  have e1 : (r.extract (n + 1) r.size)[k] = r[N] := by
    rw [get_list _ _ hlt2, get_list _ _ hlt]
    simp only [ext_from, List.getElem_drop]
    congr 1
    exact hN.symm
  have e2 : ((r.extract (n + 1) r.size).extract (k + 1) (r.extract (n + 1) r.size).size).data.toList = (r.extract (N + 1) r.size).data.toList := by
    rw [ext_from, ext_from, ext_from, List.drop_drop]
    congr 1
    omega
  rw [e1, e2] at h
  exact h

/-- The power, by its digits. -/
theorem pow_form {v p : List UInt8} {down : Bool} (hm : minusL v = (p, down)) : powR true v = if (p.takeWhile isD).length ≠ 0 ∧ (p.takeWhile isD).length ≤ 2 ∧ (p.takeWhile isD).length = p.length then some (if down = true then -(numN p : Int) else (numN p : Int)) else none := by
  unfold powR
  rw [if_pos rfl, hm]
  simp only
  by_cases h : allD p = true ∧ p.length ≤ 2
  · have ht := tw_self (allD_all h.1)
    have hc : p.length ≠ 0 ∧ p.length ≤ 2 ∧ p.length = p.length := ⟨by intro q; exact allD_ne h.1 (List.eq_nil_of_length_eq_zero q), h.2, rfl⟩
    rw [if_pos h, ht, if_pos hc]
  · rw [if_neg h, if_neg]
    rintro ⟨h0, h1, h2⟩
    have ht := tw_full h2
    apply h
    rw [ht] at h1 h0
    refine ⟨allD_of ?_ h0, h1⟩
    rw [← ht]
    exact tw_all_isD p

theorem valS_small {l : List UInt8} (h : l.all isD = true) (hl : l.length ≤ 2) : valS l = numN l ∧ numN l ≤ 99 := by
  have h1 := numN_lt h
  have h2 : 10 ^ l.length ≤ 10 ^ 2 := Nat.pow_le_pow_right (by decide) hl
  rw [valS_eq]
  omega

/-- What the program's number comes to, once its power is known. -/
theorem dec_last {d b : List UInt8} {neg : Bool} {p : Int} (hp : p ≤ 99) (k : Int) (hk : k = p - (b.length : Int)) :
    (Bad (valS (d ++ b)) k → decF d b neg (some p) = none) ∧ (¬ Bad (valS (d ++ b)) k → decF d b neg (some p) = some (valS (d ++ b), k, neg)) := by
  have hb := bad_held (d ++ b) k b.length p hp hk
  unfold decF
  simp only
  rw [← hk]
  constructor
  · intro h
    rw [if_neg (hb.1 h)]
  · intro h
    have h2 := Decidable.of_not_not (fun q => h (hb.2 q))
    rw [if_pos h2, held_eq _ _ h]

end Go.Proofs.YtbmdbfidjdogmaaDoor
