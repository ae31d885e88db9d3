/-
What a number is: the document's splitting and the program's are the same. Plain laws.
-/
import Derived.Test.YtbmdbfidjdogmaaDoorScaInt
set_option linter.unusedVariables false
set_option linter.unusedSimpArgs false
namespace Go.Proofs.YtbmdbfidjdogmaaDoor
open Go Go.RowKit

theorem cutL_true {l x y : List UInt8} {c : UInt8} (h : cutL l c = (x, y, true)) : l = x ++ c :: y ∧ (∀ z ∈ x, (z != c) = true) := by
  unfold cutL at h
  split at h
  · cases h
  · rename_i hn
    simp only [Prod.mk.injEq, and_true] at h
    obtain ⟨rfl, rfl⟩ := h
    have e := List.takeWhile_append_dropWhile (p := fun x => x != c) (l := l)
    refine ⟨?_, fun z hz => List.all_eq_true.1 (List.all_takeWhile (p := fun x => x != c)) z hz⟩
    cases hd : l.dropWhile (fun x => x != c) with
    | nil =>
      exfalso
      rw [hd, List.append_nil] at e
      apply hn
      rw [List.all_eq_true]
      intro z hz
      rw [← e] at hz
      exact List.all_eq_true.1 (List.all_takeWhile (p := fun x => x != c)) z hz
    | cons q r =>
      have hq : ¬ (q != c) = true := by
        have := List.head?_dropWhile_not (p := fun x => x != c) (l := l)
        rw [hd] at this
        simpa using this
      have hqc : q = c := by simpa using hq
      rw [hd] at e
      conv => lhs; rw [← e]
      rw [hqc]
      simp [hd, hqc]

theorem cutL_prefix {l x y : List UInt8} {c : UInt8} {ok : Bool} (h : cutL l c = (x, y, ok)) : ∃ z, l = x ++ z := by
  cases ok with
  | true => exact ⟨_, (cutL_true h).1⟩
  | false =>
    unfold cutL at h
    split at h
    · simp only [Prod.mk.injEq] at h
      exact ⟨[], by rw [h.1, List.append_nil]⟩
    · cases h

theorem cutL_of {x y : List UInt8} {c : UInt8} (h : ∀ z ∈ x, (z != c) = true) : cutL (x ++ c :: y) c = (x, y, true) := by
  have hn : ¬ (c != c) = true := by simp
  unfold cutL
  rw [if_neg, List.takeWhile_append_of_pos h, List.takeWhile_cons_of_neg (p := fun x => x != c) hn, List.dropWhile_append_of_pos h, List.dropWhile_cons_of_neg (p := fun x => x != c) hn]
  · simp
  · intro q
    rw [List.all_eq_true] at q
    exact hn (q c (by simp))

theorem cutL_none {l : List UInt8} {c : UInt8} (h : ∀ z ∈ l, (z != c) = true) : cutL l c = (l, [], false) := by
  unfold cutL
  rw [if_pos (List.all_eq_true.2 h)]

theorem dig_ne {c e : UInt8} (h : isD c = true) (he : isD e = false) : (c != e) = true := by
  rw [bne_iff_ne]
  intro q
  rw [q, he] at h
  cases h

theorem digs_ne {l : List UInt8} {e : UInt8} (h : l.all isD = true) (he : isD e = false) : ∀ z ∈ l, (z != e) = true :=
  fun z hz => dig_ne (List.all_eq_true.1 h z hz) he

theorem allD_ne {l : List UInt8} (h : allD l = true) : l ≠ [] := by
  rintro rfl
  cases h

theorem wholeL_allD {l : List UInt8} (h : wholeL l = true) : allD l = true := by
  unfold wholeL at h
  simp only [Bool.and_eq_true] at h
  exact h.1

/-- A decimal has digits, a point, and more. -/
theorem decR_shape {l : List UInt8} (h : decR l ≠ none) : ∃ a t, (minusL l).1 = a ++ 46 :: t ∧ wholeL a = true := by
  unfold decR at h
  simp only at h
  split at h
  · rename_i hc
    obtain ⟨h1, h2, h3⟩ := hc
    have e1 : cutL (cutL (minusL l).1 101).1 46 = ((cutL (cutL (minusL l).1 101).1 46).1, (cutL (cutL (minusL l).1 101).1 46).2.1, true) := by
      rw [← h1]
    obtain ⟨e2, _⟩ := cutL_true e1
    obtain ⟨z, hz⟩ := cutL_prefix (l := (minusL l).1) (c := 101) (x := (cutL (minusL l).1 101).1) (y := (cutL (minusL l).1 101).2.1) (ok := (cutL (minusL l).1 101).2.2) rfl
    refine ⟨(cutL (cutL (minusL l).1 101).1 46).1, (cutL (cutL (minusL l).1 101).1 46).2.1 ++ z, ?_, h2⟩
    conv => lhs; rw [hz, e2]
    simp
  · exact absurd rfl h

theorem tw_shape {a t : List UInt8} (h : a.all isD = true) : (a ++ 46 :: t).takeWhile isD = a := by
  rw [List.takeWhile_append_of_pos (List.all_eq_true.1 h), List.takeWhile_cons_of_neg (by decide), List.append_nil]

/-- No decimal, where there is none: the digits ahead do not stand ahead of a point, or are no whole number. -/
theorem decR_none {l r : List UInt8} {b : Bool} (hm : minusL l = (r, b)) (h : ¬ ∃ t, r = r.takeWhile isD ++ 46 :: t ∧ wholeL (r.takeWhile isD) = true) : decR l = none := by
  apply Decidable.byContradiction
  intro hn
  obtain ⟨a, t, e, ha⟩ := decR_shape hn
  rw [hm] at e
  simp only at e
  apply h
  refine ⟨t, ?_⟩
  rw [e, tw_shape (whole_all ha)]
  exact ⟨rfl, ha⟩

theorem intR_none {l r : List UInt8} {b : Bool} (hm : minusL l = (r, b)) (h : wholeL r = false) : intR l = none := by
  unfold intR
  rw [hm, if_pos h]

theorem numN_pos_acc : ∀ (l : List UInt8) (acc : Nat), 0 < acc → 0 < l.foldl (fun n c => 10 * n + (c.toNat - 48)) acc := fun l acc h => Nat.lt_of_lt_of_le h (numN_ge_acc l acc)

theorem numN_pos {l : List UInt8} (h : wholeL l = true) (h2 : l ≠ [48]) : 0 < numN l := by
  have hd := allD_all (wholeL_allD h)
  cases l with
  | nil => cases h
  | cons c r =>
    rw [List.all_cons] at hd
    simp only [Bool.and_eq_true] at hd
    have hc := (isD_iff c).1 hd.1
    have hne : c.toNat ≠ 48 := by
      intro q
      have hc48 : c = 48 := UInt8.toNat_inj.1 (by simpa using q)
      subst hc48
      unfold wholeL at h
      simp only [Bool.and_eq_true, Bool.or_eq_true] at h
      rcases h.2 with h3 | h3
      · simp at h3
      · simp at h3
        subst h3
        exact h2 rfl
    show 0 < (c :: r).foldl (fun n c => 10 * n + (c.toNat - 48)) 0
    rw [List.foldl_cons]
    exact numN_pos_acc r _ (by omega)

theorem intR_whole {l r : List UInt8} {b : Bool} (hm : minusL l = (r, b)) (h : wholeL r = true) : intR l = intP r b := by
  unfold intR intP
  rw [hm]
  simp only
  rw [if_neg (by simp [h])]
  cases b with
  | false => simp
  | true =>
    simp only [if_true]
    by_cases h48 : r = [48]
    · rw [if_pos h48, if_pos h48]
    · rw [if_neg h48, if_neg h48]
      have := numN_pos h h48
      by_cases hle : numN r ≤ 9223372036854775808
      · rw [if_pos ⟨hle, this⟩, if_pos hle]
      · rw [if_neg (fun q => hle q.1), if_neg hle]

/-- A whole number is no decimal. -/
theorem decR_digits {l r : List UInt8} {b : Bool} (hm : minusL l = (r, b)) (h : r.all isD = true) : decR l = none := by
  refine decR_none hm ?_
  rintro ⟨t, e, _⟩
  rw [tw_self h] at e
  have := congrArg List.length e
  simp at this

theorem decR_form {l d t x y : List UInt8} {b ok : Bool} (hm : minusL l = (d ++ 46 :: t, b)) (hd : d.all isD = true) (hc : cutL t 101 = (x, y, ok)) :
    decR l = if wholeL d = true ∧ allD x = true then
      match powR ok y with
      | some k => if numN (d ++ x) ≤ 999999999999999 ∧ x.length ≤ 200 ∧ ¬ Bad (numN (d ++ x)) (k - (x.length : Int)) then some (numN (d ++ x), k - (x.length : Int), b) else none
      | none => none
    else none := by
  have h1 : cutL (d ++ 46 :: t) 101 = (d ++ 46 :: x, y, ok) := by
    cases ok with
    | true =>
      obtain ⟨e, hx⟩ := cutL_true hc
      have : d ++ 46 :: t = (d ++ 46 :: x) ++ 101 :: y := by rw [e]; simp
      rw [this]
      refine cutL_of ?_
      intro z hz
      rcases List.mem_append.1 hz with hz | hz
      · exact digs_ne hd (by decide) z hz
      · rcases List.mem_cons.1 hz with rfl | hz
        · decide
        · exact hx z hz
    | false =>
      unfold cutL at hc
      split at hc
      · rename_i hall
        simp only [Prod.mk.injEq, and_true] at hc
        obtain ⟨rfl, rfl⟩ := hc
        refine cutL_none ?_
        intro z hz
        rcases List.mem_append.1 hz with hz | hz
        · exact digs_ne hd (by decide) z hz
        · rcases List.mem_cons.1 hz with rfl | hz
          · decide
          · exact List.all_eq_true.1 hall z hz
      · cases hc
  have h2 : cutL (d ++ 46 :: x) 46 = (d, x, true) := cutL_of (digs_ne hd (by decide))
  unfold decR
  simp only [hm, h1, h2, true_and]
  rfl

theorem cut_end {b : List UInt8} (hb : b.all isD = true) : cutL b 101 = (b, [], false) := cutL_none (digs_ne hb (by decide))

theorem cut_e {b v : List UInt8} (hb : b.all isD = true) : cutL (b ++ 101 :: v) 101 = (b, v, true) := cutL_of (digs_ne hb (by decide))

/-- Behind the digits stands what is neither a digit nor an 'e': a fault. -/
theorem cut_bad {b v : List UInt8} {c : UInt8} (hb : b.all isD = true) (hc : isD c = false) (h : c ≠ 101) : allD (cutL (b ++ c :: v) 101).1 = false := by
  cases hq : allD (cutL (b ++ c :: v) 101).1 with
  | false => rfl
  | true =>
    exfalso
    have hx := allD_all hq
    have key : ∃ w, (cutL (b ++ c :: v) 101).1 = b ++ c :: w := by
      unfold cutL
      split
      · exact ⟨v, rfl⟩
      · simp only
        rw [List.takeWhile_append_of_pos (digs_ne hb (by decide)), List.takeWhile_cons_of_pos (by simpa using h)]
        exact ⟨_, rfl⟩
    obtain ⟨w, hw⟩ := key
    rw [hw, List.all_append, List.all_cons, hc] at hx
    simp at hx

theorem valS_eq_acc : ∀ (l : List UInt8) (a b : Nat), a = min b 1000000000000000000 → l.foldl (fun m c => min (m * 10 + (c.toNat - 48)) 1000000000000000000) a = min (l.foldl (fun n c => 10 * n + (c.toNat - 48)) b) 1000000000000000000 := by
  intro l
  induction l with
  | nil => intro a b h; exact h
  | cons c r ih =>
    intro a b h
    rw [List.foldl_cons, List.foldl_cons]
    exact ih _ _ (by omega)

theorem valS_eq (l : List UInt8) : valS l = min (numN l) 1000000000000000000 := valS_eq_acc l 0 0 (by decide)

/-- Held or not, a number is as bad. -/
theorem bad_held (l : List UInt8) (k : Int) (n : Nat) (p : Int) (hp : p ≤ 99) (hk : k = p - (n : Int)) : Bad (valS l) k ↔ ¬ (numN l ≤ 999999999999999 ∧ n ≤ 200 ∧ ¬ Bad (numN l) k) := by
  rw [valS_eq]
  unfold Bad
  generalize numN l = x
  omega

theorem held_eq (l : List UInt8) (k : Int) (h : ¬ Bad (valS l) k) : valS l = numN l := by
  rw [valS_eq] at h ⊢
  unfold Bad at h
  omega

end Go.Proofs.YtbmdbfidjdogmaaDoor
