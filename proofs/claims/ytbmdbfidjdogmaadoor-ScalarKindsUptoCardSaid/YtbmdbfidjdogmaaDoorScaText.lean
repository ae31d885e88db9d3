/-
The text of a number with a power of ten, and an int's digits, read as just that number. Plain laws.
-/
import Derived.Test.YtbmdbfidjdogmaaDoorScaReal
import Derived.Test.YtbmdbfidjdogmaaDoorFloQ
import Derived.Lib.ItoaMem
set_option linter.unusedVariables false
set_option linter.unusedSimpArgs false
namespace Go.Proofs.YtbmdbfidjdogmaaDoor
open Go Go.RowKit

theorem toNat_dig {d : Nat} (h : d < 10) : (UInt8.ofNat (48 + d)).toNat = 48 + d := by
  rw [UInt8.toNat_ofNat']; omega

theorem isD_dig {d : Nat} (h : d < 10) : isD (UInt8.ofNat (48 + d)) = true := by
  rw [isD_iff, toNat_dig h]; omega

theorem numN_acc (b : List UInt8) : ∀ acc : Nat, b.foldl (fun n c => 10 * n + (c.toNat - 48)) acc = acc * 10 ^ b.length + numN b := by
  induction b with
  | nil => intro acc; simp [numN]
  | cons c r ih =>
    intro acc
    unfold numN
    rw [List.foldl_cons, List.foldl_cons, ih, ih (10 * 0 + (c.toNat - 48)), List.length_cons, Nat.pow_succ, Nat.add_mul, Nat.add_mul]
    have : 10 * acc * 10 ^ r.length = acc * (10 ^ r.length * 10) := by ac_rfl
    rw [this]
    omega

theorem numN_app (a b : List UInt8) : numN (a ++ b) = numN a * 10 ^ b.length + numN b := by
  conv => lhs; unfold numN
  rw [List.foldl_append, numN_acc]
  rfl

theorem numN_noughts (j : Nat) : numN (List.replicate j 48) = 0 := by
  induction j with
  | zero => rfl
  | succ j ih =>
    rw [List.replicate_succ]
    show numN ([48] ++ List.replicate j 48) = 0
    rw [numN_app, ih]
    show 0 * _ + 0 = 0
    omega

theorem noughts_isD (j : Nat) : (List.replicate j (48 : UInt8)).all isD = true := by
  rw [List.all_eq_true]
  intro x hx
  rw [(List.mem_replicate.1 hx).2]
  decide

theorem dec_isD (u : Nat) : (Lib.decDigits u).all isD = true := by
  induction u using Nat.strongRecOn with
  | _ u ih =>
    rw [Lib.decDigits]
    by_cases h : u < 10
    · rw [dif_pos h, List.all_cons, isD_dig h, List.all_nil]; rfl
    · rw [dif_neg h, List.all_append, ih (u / 10) (by omega), List.all_cons, isD_dig (Nat.mod_lt u (by decide : 10 > 0)), List.all_nil]; rfl

theorem dec_num (u : Nat) : numN (Lib.decDigits u) = u := by
  induction u using Nat.strongRecOn with
  | _ u ih =>
    rw [Lib.decDigits]
    by_cases h : u < 10
    · rw [dif_pos h]
      show 10 * 0 + ((UInt8.ofNat (48 + u)).toNat - 48) = u
      rw [toNat_dig h]; omega
    · rw [dif_neg h, numN_snoc, ih (u / 10) (by omega), toNat_dig (Nat.mod_lt u (by decide))]
      omega

/-- Digits of a number, the first ahead. -/
theorem dec_cons (u : Nat) : ∃ c r, Lib.decDigits u = c :: r ∧ isD c = true ∧ (1 ≤ u → c ≠ 48) ∧ r.all isD = true ∧ r.length + 1 = Lib.nDigits u := by
  induction u using Nat.strongRecOn with
  | _ u ih =>
    by_cases h : u < 10
    · refine ⟨UInt8.ofNat (48 + u), [], Lib.decDigits_one h, isD_dig h, fun h1 q => ?_, rfl, by rw [Lib.nDigits_small h]; rfl⟩
      have := congrArg UInt8.toNat q
      rw [toNat_dig h] at this
      have e : (48 : UInt8).toNat = 48 := rfl
      omega
    · obtain ⟨c, r, h1, h2, h3, h4, h5⟩ := ih (u / 10) (by omega)
      refine ⟨c, r ++ [UInt8.ofNat (48 + u % 10)], ?_, h2, fun _ => h3 (by omega), ?_, ?_⟩
      · rw [Lib.decDigits, dif_neg h, h1]; rfl
      · rw [List.all_append, h4, List.all_cons, isD_dig (Nat.mod_lt u (by decide : 10 > 0)), List.all_nil]; rfl
      · rw [Lib.nDigits_big h, List.length_append, ← h5]; rfl

theorem dec_whole (u : Nat) : wholeL (Lib.decDigits u) = true := by
  obtain ⟨c, r, h1, h2, h3, h4, h5⟩ := dec_cons u
  have ha := dec_isD u
  rw [h1] at ha ⊢
  unfold wholeL allD
  rw [ha]
  by_cases hu : 1 ≤ u
  · have := h3 hu
    simp [this]
  · have h0 : u = 0 := by omega
    subst h0
    rw [Lib.nDigits_small (by decide)] at h5
    have : r = [] := List.eq_nil_of_length_eq_zero (by omega)
    subst this
    simp

theorem minus_sign {l : List UInt8} {c : UInt8} {r : List UInt8} (b : Bool) (h : l = c :: r) (hc : isD c = true) : minusL ((if b = true then [45] else []) ++ l) = (l, b) := by
  subst h
  cases b with
  | true => rfl
  | false =>
    have : c ≠ 45 := by rintro rfl; cases hc
    show (if c = 45 then (r, true) else (c :: r, false)) = _
    rw [if_neg this]

/-- No word begins with a digit, or with a minus and a digit. -/
theorem not_word {s : ByteArray} {c : UInt8} {r : List UInt8} (b : Bool) (hc : isD c = true) (h : s.data.toList = (if b = true then [45] else []) ++ c :: r) : readS s false = readN s := by
  have hd : ∀ e : UInt8, isD e = false → c ≠ e := fun e he q => by rw [q, he] at hc; cases hc
  have n1 := hd 126 (by decide)
  have n2 := hd 110 (by decide)
  have n3 := hd 116 (by decide)
  have n4 := hd 102 (by decide)
  have n5 := hd 46 (by decide)
  have n6 := hd 45 (by decide)
  unfold readS
  rw [h]
  cases b <;> simp [n1, n2, n3, n4, n5, n6]

theorem int_reads {n : Int} (h1 : -9223372036854775808 ≤ n) (h2 : n ≤ 9223372036854775807) : intR (Lib.itoa n) = some n := by
  unfold Lib.itoa
  by_cases h : n < 0
  · rw [if_pos h]
    obtain ⟨c, r, e1, e2, e3, e4, e5⟩ := dec_cons n.natAbs
    have hm := minus_sign true e1 e2
    have hm' : minusL (45 :: Lib.decDigits n.natAbs) = (Lib.decDigits n.natAbs, true) := hm
    have hne : Lib.decDigits n.natAbs ≠ [48] := by
      intro q
      have := dec_num n.natAbs
      rw [q] at this
      have e : numN [48] = 0 := rfl
      omega
    unfold intR
    rw [hm']
    simp only [dec_whole]
    rw [if_neg (by simp), if_pos trivial, if_neg hne, dec_num, if_pos (by omega)]
    congr 1
    omega
  · rw [if_neg h]
    obtain ⟨c, r, e1, e2, e3, e4, e5⟩ := dec_cons n.toNat
    have hm := minus_sign false e1 e2
    have hm' : minusL (Lib.decDigits n.toNat) = (Lib.decDigits n.toNat, false) := hm
    unfold intR
    rw [hm']
    simp only [dec_whole]
    rw [if_neg (by simp), if_neg (by simp), dec_num, if_pos (by omega)]
    congr 1
    omega

theorem itoa_head (n : Int) : ∃ b c r, isD c = true ∧ Lib.itoa n = (if b = true then [45] else []) ++ c :: r := by
  unfold Lib.itoa
  by_cases h : n < 0
  · rw [if_pos h]
    obtain ⟨c, r, e1, e2, e3, e4, e5⟩ := dec_cons n.natAbs
    exact ⟨true, c, r, e2, by rw [e1]; rfl⟩
  · rw [if_neg h]
    obtain ⟨c, r, e1, e2, e3, e4, e5⟩ := dec_cons n.toNat
    exact ⟨false, c, r, e2, by rw [e1]; rfl⟩

theorem sc_tens {m : Nat} {k : Int} (hm0 : 1 ≤ m) (hk1 : -22 ≤ k) : ∀ j : Nat, m * 10 ^ j < 1000000000000000 → k + j ≤ 22 → scW (m * 10 ^ j) k = scW m (k + j) := by
  intro j
  induction j with
  | zero => intro _ _; simp
  | succ j ih =>
    intro h1 h2
    have hp : 0 < 10 ^ j := Nat.pow_pos (by decide)
    rw [Nat.pow_succ, ← Nat.mul_assoc] at h1 ⊢
    have h3 : m * 10 ^ j < 1000000000000000 := by omega
    -- ten times of k is one of the next
    have hm1 : 1 ≤ m * 10 ^ j := Nat.mul_pos hm0 hp
    have hlt : k + 1 ≤ 22 := by omega
    rw [sc_ten hm1 h1 hk1 hlt]
    have : ∀ k' : Int, k' = k + 1 → -22 ≤ k' → scW (m * 10 ^ j) k' = scW m (k' + j) := by
      intro k' hk' hl
      subst hk'
      clear ih
      revert h3
      have aux : ∀ (i : Nat) (q : Int), -22 ≤ q → m * 10 ^ i < 1000000000000000 → q + i ≤ 22 → scW (m * 10 ^ i) q = scW m (q + i) := by
        intro i
        induction i with
        | zero => intro q _ _ _; simp
        | succ i ih2 =>
          intro q q1 q2 q3
          have hp2 : 0 < 10 ^ i := Nat.pow_pos (by decide)
          rw [Nat.pow_succ, ← Nat.mul_assoc] at q2 ⊢
          rw [sc_ten (Nat.mul_pos hm0 hp2) q2 q1 (by omega), ih2 (q + 1) (by omega) (by omega) (by omega)]
          congr 1
          omega
      intro h3
      exact aux j (k + 1) hl h3 (by omega)
    rw [this (k + 1) rfl (by omega)]
    congr 1
    omega

theorem decF_of {d b : List UInt8} {neg : Bool} {p k : Int} {m : Nat} (h1 : numN (d ++ b) = m) (h2 : m < 1000000000000000) (h3 : b.length ≤ 200) (h4 : p - (b.length : Int) = k) (h5 : -22 ≤ k) (h6 : k ≤ 22) : decF d b neg (some p) = some (m, k, neg) := by
  unfold decF
  dsimp only
  rw [h1, h4, if_pos]
  refine ⟨by omega, h3, ?_⟩
  unfold Bad
  omega

theorem tw_behind {b : List UInt8} (hb : b.all isD = true) (v : List UInt8) : (b ++ 101 :: v).takeWhile isD = b := by
  have h2 : ∀ x ∈ b, isD x = true := by simpa using hb
  rw [List.takeWhile_append_of_pos h2, List.takeWhile_cons_of_neg (by decide), List.append_nil]

theorem pow_small {p : Nat} (h : p < 100) : powR true (Lib.decDigits p) = some (p : Int) := by
  obtain ⟨c, r, e1, e2, e3, e4, e5⟩ := dec_cons p
  have hm := minus_sign false e1 e2
  have hm' : minusL (Lib.decDigits p) = (Lib.decDigits p, false) := hm
  have ht := tw_self (dec_isD p)
  have hl := Lib.decDigits_length p
  have hn := nDigits_le 1 p (by omega)
  rw [pow_form hm', ht, if_pos, dec_num]
  · rfl
  · have := Lib.nDigits_pos p
    omega

/-- What a real's text reads as. -/
theorem real_reads {M : Nat} {k : Int} (h1 : 1 ≤ M) (h2 : M < 1000000000000000) (hk1 : -22 ≤ k) (hk2 : k ≤ 22) (neg : Bool) :
    (∃ c r, isD c = true ∧ realT M k = c :: r) ∧ intR ((if neg = true then [45] else []) ++ realT M k) = none ∧ ∃ m' k', decR ((if neg = true then [45] else []) ++ realT M k) = some (m', k', neg) ∧ scW m' k' = scW M k := by
  obtain ⟨c, r, e1, e2, e3, e4, e5⟩ := dec_cons M
  have hc48 := e3 h1
  have hn15 := nDigits_le 14 M h2
  have hlt := Lib.lt_pow_nDigits M
  have hnum := dec_num M
  have hisD := dec_isD M
  have hlen := Lib.decDigits_length M
  have hpos := Lib.nDigits_pos M
  obtain ⟨n, hn⟩ : ∃ n, n = Lib.nDigits M := ⟨_, rfl⟩
  rw [← hn] at hn15 hlt hlen hpos e5
  -- it is digits, a point, and more
  have key : ∃ d t, realT M k = d ++ 46 :: t ∧ wholeL d = true ∧ ∃ m' k', (∀ l, minusL l = (d ++ 46 :: t, neg) → decR l = some (m', k', neg)) ∧ scW m' k' = scW M k := by
    unfold realT
    rw [← hn]
    by_cases h0 : 0 ≤ k
    · rw [if_pos h0]
      by_cases hs : (n : Int) + k + 1 ≤ 15
      · rw [if_pos hs]
        refine ⟨Lib.decDigits M ++ List.replicate k.toNat 48, [48], by simp, ?_, M * 10 ^ (k.toNat + 1), -1, ?_, ?_⟩
        · unfold wholeL allD
          rw [List.all_append, hisD, noughts_isD, e1]
          simp [hc48]
        · intro l hl
          have hw : wholeL (Lib.decDigits M ++ List.replicate k.toNat 48) = true := by
            unfold wholeL allD
            rw [List.all_append, hisD, noughts_isD, e1]
            simp [hc48]
          rw [dec_end hl hw (by decide) (by decide)]
          refine decF_of ?_ ?_ (by decide) (by decide) (by decide) (by decide)
          · show numN (Lib.decDigits M ++ List.replicate k.toNat 48 ++ [48]) = _
            rw [numN_app, numN_app, hnum, numN_noughts, List.length_replicate, Nat.pow_succ]
            show (M * 10 ^ k.toNat + 0) * 10 ^ 1 + 0 = _
            rw [Nat.add_zero, Nat.add_zero, Nat.pow_one, Nat.mul_assoc]
          · have q : M * 10 ^ (k.toNat + 1) < 10 ^ n * 10 ^ (k.toNat + 1) := Nat.mul_lt_mul_of_pos_right hlt (Nat.pow_pos (by decide))
            rw [← Nat.pow_add] at q
            exact Nat.lt_of_lt_of_le q (Nat.pow_le_pow_right (by decide) (show n + (k.toNat + 1) ≤ 15 by omega))
        · have q : M * 10 ^ (k.toNat + 1) < 10 ^ n * 10 ^ (k.toNat + 1) := Nat.mul_lt_mul_of_pos_right hlt (Nat.pow_pos (by decide))
          rw [← Nat.pow_add] at q
          have q2 := Nat.lt_of_lt_of_le q (Nat.pow_le_pow_right (by decide) (show n + (k.toNat + 1) ≤ 15 by omega))
          rw [sc_tens h1 (by decide) (k.toNat + 1) q2 (by omega)]
          congr 1
          omega
      · rw [if_neg hs, e1]
        have hp : (k + (n : Int) - 1).toNat < 100 := by omega
        have hpow := pow_small hp
        have hw : wholeL [c] = true := by
          unfold wholeL allD
          simp [e2]
        by_cases hn1 : n = 1
        · rw [if_pos hn1]
          have hr : r = [] := List.eq_nil_of_length_eq_zero (by omega)
          subst hr
          rw [e1] at hnum
          refine ⟨[c], [48] ++ 101 :: Lib.decDigits (k + (n : Int) - 1).toNat, by simp, hw, M * 10, k - 1, ?_, ?_⟩
          · intro l hl
            have ht := tw_behind (b := [48]) (by decide) (Lib.decDigits (k + (n : Int) - 1).toNat)
            rw [dec_pow hl hw (by rw [ht]; decide) (by rw [ht]), ht, hpow]
            refine decF_of ?_ ?_ (by decide) ?_ (by omega) (by omega)
            · rw [numN_app, hnum]
              rfl
            · have : n ≤ 1 := by omega
              have : 10 ^ n ≤ 10 ^ 1 := Nat.pow_le_pow_right (by decide) this
              omega
            · show ((k + (n : Int) - 1).toNat : Int) - 1 = _
              omega
          · have : n ≤ 1 := by omega
            have : 10 ^ n ≤ 10 ^ 1 := Nat.pow_le_pow_right (by decide) this
            rw [sc_ten h1 (by omega) (by omega) (by omega)]
            congr 1
            omega
        · rw [if_neg hn1]
          refine ⟨[c], r ++ 101 :: Lib.decDigits (k + (n : Int) - 1).toNat, by simp, hw, M, k, ?_, rfl⟩
          intro l hl
          have ht := tw_behind (b := r) e4 (Lib.decDigits (k + (n : Int) - 1).toNat)
          rw [dec_pow hl hw (by rw [ht]; omega) (by rw [ht]), ht, hpow]
          refine decF_of ?_ h2 (by omega) ?_ hk1 hk2
          · show numN (c :: r) = _
            rw [← e1, hnum]
          · have : r.length = n - 1 := by omega
            rw [this]
            omega
    · rw [if_neg h0]
      obtain ⟨z, hz⟩ : ∃ z, z = (1 - k - (n : Int)).toNat := ⟨_, rfl⟩
      rw [← hz]
      obtain ⟨q, hq⟩ : ∃ q, q = (max (1 - k) (n : Int) + k).toNat := ⟨_, rfl⟩
      rw [← hq]
      have hSlen : (List.replicate z (48 : UInt8) ++ Lib.decDigits M).length = z + n := by
        rw [List.length_append, List.length_replicate, hlen]
      have hSnum : numN (List.replicate z (48 : UInt8) ++ Lib.decDigits M) = M := by
        rw [numN_app, numN_noughts, hnum, Nat.zero_mul, Nat.zero_add]
      have hSall : (List.replicate z (48 : UInt8) ++ Lib.decDigits M).all isD = true := by
        rw [List.all_append, noughts_isD, hisD]; rfl
      have hShead : z = 0 → (List.replicate z (48 : UInt8) ++ Lib.decDigits M).head? ≠ some 48 := by
        intro hz0
        rw [hz0, e1]
        simp [hc48]
      generalize List.replicate z (48 : UInt8) ++ Lib.decDigits M = S at *
      have hq1 : 1 ≤ q := by omega
      have hqz : q ≤ z + n := by omega
      have hbl : (S.drop q).length = (-k).toNat := by rw [List.length_drop, hSlen]; omega
      have hdl : (S.take q).length = q := by rw [List.length_take, hSlen]; omega
      have hda : (S.take q).all isD = true := by
        rw [List.all_eq_true] at hSall ⊢
        exact fun x hx => hSall x (List.mem_of_mem_take hx)
      have hba : (S.drop q).all isD = true := by
        rw [List.all_eq_true] at hSall ⊢
        exact fun x hx => hSall x (List.mem_of_mem_drop hx)
      have hw : wholeL (S.take q) = true := by
        unfold wholeL
        rw [allD_of hda (by omega), Bool.true_and]
        by_cases hz0 : z = 0
        · have : (S.take q).head? = S.head? := by
            cases S with
            | nil => simp
            | cons a b =>
              rw [show q = (q - 1) + 1 by omega, List.take_succ_cons]
              rfl
          rw [this]
          simp [hShead hz0]
        · have : (S.take q).length = 1 := by omega
          simp [this]
      refine ⟨S.take q, S.drop q, by simp, hw, M, k, ?_, rfl⟩
      intro l hl
      have ht := tw_self hba
      rw [dec_end hl hw (by rw [ht]; omega) (by rw [ht]), ht]
      refine decF_of ?_ h2 (by omega) (by omega) hk1 hk2
      rw [List.take_append_drop, hSnum]
  obtain ⟨d, t, k1, k2, m', k', k3, k4⟩ := key
  have hdne := allD_ne (wholeL_allD k2)
  have hdall := whole_all k2
  cases hd : d with
  | nil => exact absurd hd hdne
  | cons a b =>
    have ha : isD a = true := by
      rw [hd] at hdall
      simp only [List.all_cons, Bool.and_eq_true] at hdall
      exact hdall.1
    have hR : realT M k = a :: (b ++ 46 :: t) := by rw [k1, hd]; rfl
    have hm := minus_sign neg hR ha
    refine ⟨⟨a, _, ha, hR⟩, ?_, m', k', k3 _ (by rw [hm, k1]), k4⟩
    refine intR_none hm ?_
    rw [k1]
    cases hw : wholeL (d ++ 46 :: t) with
    | false => rfl
    | true =>
      have := whole_all hw
      rw [List.all_append, List.all_cons] at this
      simp [isD] at this

theorem negW_negW (x : Nat) : negW (negW x) = x := by
  show (x ^^^ 2 ^ 63) ^^^ 2 ^ 63 = x
  rw [Nat.xor_assoc, Nat.xor_self, Nat.xor_zero]

/-- A double is its magnitude and its sign. -/
theorem abs_sign (x : Nat) : x = if decide (9223372036854775808 ≤ x) = true then negW (absW x) else absW x := by
  unfold absW
  by_cases h : 9223372036854775808 ≤ x
  · rw [decide_eq_true h, if_pos rfl, if_pos h, negW_negW]
  · rw [decide_eq_false h, if_neg (by simp), if_neg h]

theorem signL_if (x : Nat) : signL x = if decide (9223372036854775808 ≤ x) = true then [45] else [] := by
  unfold signL
  by_cases h : 9223372036854775808 ≤ x
  · rw [if_pos h, decide_eq_true h, if_pos rfl]
  · rw [if_neg h, decide_eq_false h, if_neg (by simp)]

/-- A real as it is read: what is no number is one. -/
def canonR (x : Nat) : Nat := if INF < absW x then nanB else x

theorem neg_inf : negW INF = ninfB := by decide +kernel
theorem neg_zero : negW 0 = 9223372036854775808 := by decide +kernel

/-- What is told of a real reads as that real. -/
theorem realS_reads {x : Nat} {l : List UInt8} (h : RealS x l 0) {s : ByteArray} (hs : s.data.toList = l) : readS s false = ⟨4, false, 0, canonR x, ⟨#[]⟩⟩ := by
  have hx := abs_sign x
  unfold canonR
  rcases h with ⟨h1, h2, h3⟩ | ⟨h1, h2, h3⟩ | ⟨h1, h2, h3⟩ | ⟨h1, h2, M, k, e, hd, h3⟩
  · rw [if_pos h1]
    unfold readS
    rw [hs, h2]
    simp
  · rw [if_neg (by rw [h1]; exact Nat.lt_irrefl _)]
    rw [h1] at hx
    rw [signL_if] at h2
    unfold readS
    rw [hs, h2]
    cases hb : decide (9223372036854775808 ≤ x) with
    | true =>
      rw [hb, if_pos rfl, neg_inf] at hx
      rw [hx]
      simp
    | false =>
      rw [hb, if_neg (by simp)] at hx
      rw [hx]
      simp [infB]
  · rw [if_neg (by rw [h1]; exact Nat.not_lt.2 (Nat.zero_le _))]
    rw [h1] at hx
    rw [signL_if] at h2
    have hw := not_word (s := s) (c := 48) (r := [46, 48]) (decide (9223372036854775808 ≤ x)) (by decide) (by rw [hs, h2])
    rw [hw]
    unfold readN
    rw [hs, h2]
    cases hb : decide (9223372036854775808 ≤ x) with
    | true =>
      rw [hb, if_pos rfl] at hx
      have e1 : intR ((if true = true then [45] else []) ++ [48, 46, 48]) = none := by decide +kernel
      have e2 : decR ((if true = true then [45] else []) ++ [48, 46, 48]) = some (0, -1, true) := by decide +kernel
      have e3 : scW 0 (-1) = 0 := by decide +kernel
      rw [e1, e2]
      simp only [e3]
      rw [if_pos trivial, ← hx]
    | false =>
      rw [hb, if_neg (by simp)] at hx
      have e1 : intR ((if false = true then [45] else []) ++ [48, 46, 48]) = none := by decide +kernel
      have e2 : decR ((if false = true then [45] else []) ++ [48, 46, 48]) = some (0, -1, false) := by decide +kernel
      have e3 : scW 0 (-1) = 0 := by decide +kernel
      rw [e1, e2]
      simp only [e3]
      rw [if_neg (by simp), ← hx]
  · rcases h3 with ⟨_, _, h4⟩ | ⟨he, h2l, _⟩
    · cases h4
    · subst he
      rcases hd with ⟨_, k1, k2, hsol, hno⟩ | ⟨h4, _⟩
      · rw [if_neg (by omega)]
        rw [signL_if] at h2l
        obtain ⟨⟨c, r, hc, hr⟩, r1, m', k', r2, r3⟩ := real_reads hsol.1 hsol.2.1 k1 k2 (decide (9223372036854775808 ≤ x))
        have hw := not_word (s := s) (c := c) (r := r) (decide (9223372036854775808 ≤ x)) hc (by rw [hs, h2l, hr])
        have hy : scW m' k' = absW x := by rw [r3]; exact FV_inj hsol.2.2
        rw [hw]
        unfold readN
        rw [hs, h2l, r1, r2]
        dsimp only
        rw [hy, ← hx]
      · cases h4

end Go.Proofs.YtbmdbfidjdogmaaDoor
