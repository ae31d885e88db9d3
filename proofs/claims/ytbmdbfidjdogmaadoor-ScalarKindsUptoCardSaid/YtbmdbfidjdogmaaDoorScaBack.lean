/-
There and back: what is printed reads as the same value, and what is read can be printed. Plain laws.
-/
import Derived.Test.YtbmdbfidjdogmaaDoorScaPrints
set_option linter.unusedVariables false
set_option linter.unusedSimpArgs false
namespace Go.Proofs.YtbmdbfidjdogmaaDoor
open Go Go.RowKit

/-- A value as it is read: one field alone, and one no-number alone. -/
def canon (v : Val) : Val :=
  if v.kind = 1 then ⟨1, false, 0, 0, ⟨#[]⟩⟩
  else if v.kind = 2 then ⟨2, v.bool, 0, 0, ⟨#[]⟩⟩
  else if v.kind = 3 then ⟨3, false, v.int, 0, ⟨#[]⟩⟩
  else if v.kind = 4 then ⟨4, false, 0, canonR v.real, ⟨#[]⟩⟩
  else ⟨5, false, 0, 0, v.text⟩

theorem readN_kind (s : ByteArray) : 3 ≤ (readN s).kind ∧ (readN s).kind ≤ 5 ∧ ((readN s).kind = 5 → readN s = ⟨5, false, 0, 0, s⟩) := by
  unfold readN
  split
  · exact ⟨show (3 : Int) ≤ 3 by decide, show (3 : Int) ≤ 5 by decide, fun h => by cases h⟩
  · split
    · exact ⟨show (3 : Int) ≤ 4 by decide, show (4 : Int) ≤ 5 by decide, fun h => by cases h⟩
    · exact ⟨show (3 : Int) ≤ 5 by decide, show (5 : Int) ≤ 5 by decide, fun _ => rfl⟩

theorem readS_kind (s : ByteArray) (q : Bool) : 1 ≤ (readS s q).kind ∧ (readS s q).kind ≤ 5 ∧ ((readS s q).kind = 5 → readS s q = ⟨5, false, 0, 0, s⟩) := by
  unfold readS
  repeat' split
  all_goals first | (obtain ⟨h1, h2, h3⟩ := readN_kind s; exact ⟨by omega, h2, h3⟩) | exact ⟨show (1 : Int) ≤ 5 by decide, show (5 : Int) ≤ 5 by decide, fun _ => rfl⟩ | exact ⟨show (1 : Int) ≤ 1 by decide, show (1 : Int) ≤ 5 by decide, fun h => by cases h⟩ | exact ⟨show (1 : Int) ≤ 2 by decide, show (2 : Int) ≤ 5 by decide, fun h => by cases h⟩ | exact ⟨show (1 : Int) ≤ 4 by decide, show (4 : Int) ≤ 5 by decide, fun h => by cases h⟩

theorem ba_ext {s t : ByteArray} (h : s.data.toList = t.data.toList) : s = t := ByteArray.ext (Array.toList_inj.1 h)

/-- What is printed reads as the same value. -/
theorem back_reads {v : Val} (hv : v.Ok) {l : List UInt8} {q : Bool} (h : PrintS v l q 0) {s : ByteArray} (hs : s.data.toList = l) : readS s q = canon v := by
  rcases h with ⟨a1, a2, a3, a4⟩ | ⟨a1, a2, a3, a4⟩ | ⟨a1, a2, a3, a4⟩ | ⟨a1, a2, a3⟩ | ⟨a1, a2, a3, a4⟩ | ⟨a1, a2, a3, a4⟩
  · subst a3
    unfold readS canon
    rw [hs, a2, a1]
    simp
  · subst a3
    unfold readS canon
    rw [hs, a2, a1]
    cases v.bool <;> simp
  · subst a3
    obtain ⟨b, c, r, hc, hr⟩ := itoa_head v.int
    rw [not_word b hc (by rw [hs, a2, hr])]
    unfold readN canon
    rw [hs, a2, int_reads hv.i1 hv.i2, a1]
    simp
  · subst a3
    rw [realS_reads a2 hs]
    unfold canon
    rw [a1]
    simp
  · have hst : s = v.text := ba_ext (by rw [hs, a2])
    subst hst
    have hc : canon v = ⟨5, false, 0, 0, v.text⟩ := by unfold canon; rw [a1]; simp
    rw [hc]
    cases q with
    | true => rfl
    | false =>
      have hk : (readS v.text false).kind = 5 := by
        have : ((readS v.text false).kind != 5) = false := a3.symm
        simpa using this
      exact (readS_kind v.text false).2.2 hk
  · cases a4

theorem print_err {v : Val} {l : List UInt8} {q : Bool} {er : Int} (h : PrintS v l q er) (he : er ≠ 0) : l = [] ∧ q = false ∧ er = 2 := by
  rcases h with ⟨a1, a2, a3, a4⟩ | ⟨a1, a2, a3, a4⟩ | ⟨a1, a2, a3, a4⟩ | ⟨a1, a2, a3⟩ | ⟨a1, a2, a3, a4⟩ | ⟨a1, a2, a3, a4⟩
  · exact absurd a4 he
  · exact absurd a4 he
  · exact absurd a4 he
  · rcases a2 with ⟨b1, b2, b3⟩ | ⟨b1, b2, b3⟩ | ⟨b1, b2, b3⟩ | ⟨b1, b2, M, k, e, b3, b4⟩
    · exact absurd b3 he
    · exact absurd b3 he
    · exact absurd b3 he
    · rcases b4 with ⟨c1, c2, c3⟩ | ⟨c1, c2, c3⟩
      · exact ⟨c2, a3, c3⟩
      · exact absurd c3 he
  · exact absurd a4 he
  · exact ⟨a2, a3, a4⟩

theorem print_kind {v : Val} {l : List UInt8} {q : Bool} (h : PrintS v l q 0) : 1 ≤ v.kind ∧ v.kind ≤ 5 := by
  rcases h with ⟨a1, a2, a3, a4⟩ | ⟨a1, a2, a3, a4⟩ | ⟨a1, a2, a3, a4⟩ | ⟨a1, a2, a3⟩ | ⟨a1, a2, a3, a4⟩ | ⟨a1, a2, a3, a4⟩ <;> omega

theorem sc_fin {m : Nat} {k : Int} (h : ¬ Bad m k) : scW m k < INF := by
  unfold Bad at h
  by_cases h0 : 1 ≤ m
  · exact (sc_near rfl h0 (by omega) (by omega) (by omega)).1
  · have hm : m = 0 := by omega
    subst hm
    have key : ∀ j : Nat, j < 45 → scW 0 ((j : Int) - 22) < INF := by decide +kernel
    have := key (k + 22).toNat (by omega)
    rw [show (((k + 22).toNat : Nat) : Int) - 22 = k by omega] at this
    exact this

theorem sc_zero {k : Int} (h1 : -22 ≤ k) (h2 : k ≤ 22) : scW 0 k = 0 := by
  have key : ∀ j : Nat, j < 45 → scW 0 ((j : Int) - 22) = 0 := by decide +kernel
  have := key (k + 22).toNat (by omega)
  rw [show (((k + 22).toNat : Nat) : Int) - 22 = k by omega] at this
  exact this

theorem negW_low {y : Nat} (h : y < 9223372036854775808) : negW y = 9223372036854775808 + y := by
  have h2 := negW_eq (x := 9223372036854775808 + y) (by omega) (by omega)
  rw [Nat.add_sub_cancel_left] at h2
  have h3 := congrArg negW h2
  rw [negW_negW] at h3
  exact h3.symm

theorem absW_neg {y : Nat} (h : y < 9223372036854775808) : absW (negW y) = y := by
  unfold absW
  rw [negW_low h, if_pos (by omega), ← negW_low h, negW_negW]

theorem absW_low {y : Nat} (h : y < 9223372036854775808) : absW y = y := by
  unfold absW
  rw [if_neg (by omega)]

theorem decR_ok {l : List UInt8} {m : Nat} {k : Int} {b : Bool} (h : decR l = some (m, k, b)) : ¬ Bad m k := by
  unfold decR at h
  dsimp only at h
  split at h
  · split at h
    · split at h
      · rename_i hc
        simp only [Option.some.injEq, Prod.mk.injEq] at h
        obtain ⟨rfl, rfl, rfl⟩ := h
        exact hc.2.2
      · cases h
    · cases h
  · cases h

theorem intR_ok {l : List UInt8} {n : Int} (h : intR l = some n) : -9223372036854775808 ≤ n ∧ n ≤ 9223372036854775807 := by
  unfold intR at h
  split at h
  · cases h
  · split at h
    · split at h
      · cases h
      · split at h
        · simp only [Option.some.injEq] at h; omega
        · cases h
    · split at h
      · simp only [Option.some.injEq] at h; omega
      · cases h

theorem readS_ok {s : ByteArray} (hs : s.size ≤ 2097152) (q : Bool) : (readS s q).Ok := by
  have he : (⟨#[]⟩ : ByteArray).size ≤ 2097152 := by decide
  have z : ∀ k b, Val.Ok ⟨k, b, 0, 0, ⟨#[]⟩⟩ := fun k b => ⟨by show (-9223372036854775808 : Int) ≤ 0; decide, by show (0 : Int) ≤ _; decide, by show 0 < _; decide, he⟩
  have zr : ∀ x, x < 18446744073709551616 → Val.Ok ⟨4, false, 0, x, ⟨#[]⟩⟩ := fun x hx => ⟨by show (-9223372036854775808 : Int) ≤ 0; decide, by show (0 : Int) ≤ _; decide, hx, he⟩
  have zt : Val.Ok ⟨5, false, 0, 0, s⟩ := ⟨by show (-9223372036854775808 : Int) ≤ 0; decide, by show (0 : Int) ≤ _; decide, by show 0 < _; decide, hs⟩
  have zn : (readN s).Ok := by
    unfold readN
    split
    · rename_i i hi
      obtain ⟨h1, h2⟩ := intR_ok hi
      exact ⟨h1, h2, by show 0 < _; decide, he⟩
    · split
      · rename_i m k b hd
        have hf := sc_fin (decR_ok hd)
        unfold INF at hf
        refine zr _ ?_
        split
        · rw [negW_low (by omega)]; omega
        · omega
      · exact zt
  unfold readS
  repeat' split
  · exact zt
  · exact z _ _
  · exact z _ _
  · exact z _ _
  · exact zr _ (by decide)
  · exact zr _ (by decide)
  · exact zr _ (by decide)
  · exact zn

theorem canon_read (s : ByteArray) (q : Bool) : canon (readS s q) = readS s q := by
  have z5 : ∀ t, canon ⟨5, false, 0, 0, t⟩ = ⟨5, false, 0, 0, t⟩ := fun t => by simp [canon]
  have zn : canon (readN s) = readN s := by
    unfold readN
    split
    · simp [canon]
    · split
      · rename_i m k b hd
        have hf := sc_fin (decR_ok hd)
        have h63 : scW m k < 9223372036854775808 := by unfold INF at hf; omega
        have hc : canonR (if b = true then negW (scW m k) else scW m k) = if b = true then negW (scW m k) else scW m k := by
          unfold canonR
          rw [if_neg]
          cases b with
          | true => rw [if_pos rfl, absW_neg h63]; omega
          | false => rw [if_neg (by simp), absW_low h63]; omega
        unfold canon
        simp only [hc]
        simp
      · exact z5 s
  unfold readS
  repeat' split
  · exact z5 s
  · simp [canon]
  · simp [canon]
  · simp [canon]
  · have : canonR nanB = nanB := by decide +kernel
    simp [canon, this]
  · have : canonR infB = infB := by decide +kernel
    simp [canon, this]
  · have : canonR ninfB = ninfB := by decide +kernel
    simp [canon, this]
  · exact zn

theorem nan_self {x : Nat} (hx : x < 18446744073709551616) : nanF x = decide (INF < absW x) := by
  have h : nanF x = !(eqF x x) := rfl
  rw [h]
  rcases Nat.lt_or_ge INF (absW x) with q | q
  · rw [decide_eq_true q]
    cases he : eqF x x with
    | true => exact absurd (eq_num hx he) (Nat.not_le.2 q)
    | false => rfl
  · rw [self_num hx q, decide_eq_false (Nat.not_lt.2 q)]
    rfl

theorem same_canon {v : Val} (hv : v.Ok) (h1 : 1 ≤ v.kind) (h2 : v.kind ≤ 5) : sameG sgnF (canon v) v = true := by
  obtain ⟨kd, b, i, x, t⟩ := v
  dsimp only at h1 h2
  have hx := hv.r
  dsimp only at hx
  rcases (show kd = 1 ∨ kd = 2 ∨ kd = 3 ∨ kd = 4 ∨ kd = 5 by omega) with rfl | rfl | rfl | rfl | rfl
  · simp [canon, sameG]
  · simp [canon, sameG]
  · simp [canon, sameG]
  · have : sameG sgnF (canon ⟨4, b, i, x, t⟩) ⟨4, b, i, x, t⟩ = ((nanF (canonR x) && nanF x) || (eqF (canonR x) x && (sgnF (canonR x) == sgnF x))) := by simp [canon, sameG]
    rw [this, nan_self hx]
    unfold canonR
    by_cases hn : INF < absW x
    · have h2 : nanF nanB = true := by decide +kernel
      rw [if_pos hn, decide_eq_true hn, h2]
      rfl
    · rw [if_neg hn, self_num hx (Nat.not_lt.1 hn)]
      simp
  · simp [canon, sameG]

/-- What is read can be printed. -/
theorem read_prints (s : ByteArray) (q : Bool) {l : List UInt8} {r : Bool} {er : Int} (h : PrintS (readS s q) l r er) : er = 0 := by
  have hk := readS_kind s q
  -- a real of a number and a power has a text
  have key : ∀ m k b, ¬ Bad m k → ∀ l er, RealS (if b = true then negW (scW m k) else scW m k) l er → er = 0 := by
    intro m k b hb l er hR
    have hf := sc_fin hb
    have h63 : scW m k < 9223372036854775808 := by unfold INF at hf; omega
    have ha : absW (if b = true then negW (scW m k) else scW m k) = scW m k := by
      cases b with
      | true => rw [if_pos rfl, absW_neg h63]
      | false => rw [if_neg (by simp), absW_low h63]
    rcases hR with ⟨a1, a2, a3⟩ | ⟨a1, a2, a3⟩ | ⟨a1, a2, a3⟩ | ⟨a1, a2, M, k', e, a3, a4⟩
    · exact a3
    · exact a3
    · exact a3
    · rcases a4 with ⟨c1, c2, c3⟩ | ⟨c1, c2, c3⟩
      · exfalso
        subst c1
        rcases a3 with ⟨d1, _⟩ | ⟨_, _, _, d4⟩
        · cases d1
        · unfold Bad at hb
          rw [ha] at d4 a2
          refine d4 k (by omega) (by omega) m ⟨?_, by omega, rfl⟩
          rcases Nat.eq_zero_or_pos m with q0 | q0
          · subst q0
            rw [sc_zero (by omega) (by omega)] at a2
            omega
          · exact q0
      · exact c3
  have real4 : ∀ x b i t, readS s q = ⟨4, b, i, x, t⟩ → ∀ l er, RealS x l er → er = 0 := by
    intro x b i t hr l er hR
    have zn : ∀ x b i t, readN s = ⟨4, b, i, x, t⟩ → ∀ l er, RealS x l er → er = 0 := by
      intro x b i t hr l er hR
      unfold readN at hr
      split at hr
      · cases hr
      · split at hr
        · rename_i m k bb hd
          simp only [Val.mk.injEq] at hr
          obtain ⟨_, _, _, rfl, _⟩ := hr
          exact key m k bb (decR_ok hd) l er hR
        · cases hr
    have words : ∀ y, (INF < absW y ∨ absW y = INF) → ∀ l er, RealS y l er → er = 0 := by
      intro y hy l er hR
      rcases hR with ⟨a1, a2, a3⟩ | ⟨a1, a2, a3⟩ | ⟨a1, a2, a3⟩ | ⟨a1, a2, M, k', e, a3, a4⟩
      · exact a3
      · exact a3
      · exact a3
      · omega
    unfold readS at hr
    repeat' split at hr
    all_goals first
      | exact zn _ _ _ _ hr l er hR
      | (simp only [Val.mk.injEq] at hr; obtain ⟨_, _, _, rfl, _⟩ := hr; exact words _ (by decide +kernel) l er hR)
      | (simp only [Val.mk.injEq] at hr; exact absurd hr.1 (by decide))
  rcases h with ⟨a1, a2, a3, a4⟩ | ⟨a1, a2, a3, a4⟩ | ⟨a1, a2, a3, a4⟩ | ⟨a1, a2, a3⟩ | ⟨a1, a2, a3, a4⟩ | ⟨a1, a2, a3, a4⟩
  · exact a4
  · exact a4
  · exact a4
  · have : readS s q = ⟨4, (readS s q).bool, (readS s q).int, (readS s q).real, (readS s q).text⟩ := by
      rw [← a1]
    exact real4 _ _ _ _ this l er a2
  · exact a4
  · omega

theorem realT_len {M : Nat} {k : Int} (h1 : 1 ≤ M) (h2 : M < 1000000000000000) (hk1 : -22 ≤ k) (hk2 : k ≤ 22) : (realT M k).length ≤ 60 := by
  have hn15 := nDigits_le 14 M h2
  have hlen := Lib.decDigits_length M
  unfold realT
  split
  · split
    · rw [List.length_append, List.length_append, List.length_replicate, hlen]
      show _ + _ + 2 ≤ 60
      omega
    · have hp : (Lib.decDigits (k + (Lib.nDigits M : Int) - 1).toNat).length ≤ 2 := by
        rw [Lib.decDigits_length]; exact nDigits_le 1 _ (by omega)
      rw [List.length_append, List.length_append, List.length_append, List.length_append, List.length_take, hlen]
      have : (if Lib.nDigits M = 1 then [48] else (Lib.decDigits M).drop 1 : List UInt8).length ≤ 15 := by
        split
        · show 1 ≤ 15; decide
        · rw [List.length_drop, hlen]; omega
      show min 1 (Lib.nDigits M) + 1 + _ + 1 + _ ≤ 60
      omega
  · rw [List.length_append, List.length_append, List.length_take, List.length_drop, List.length_append, List.length_replicate, hlen]
    show _ + 1 + _ ≤ 60
    omega

theorem print_len {v : Val} (hv : v.Ok) {l : List UInt8} {q : Bool} {er : Int} (h : PrintS v l q er) : l.length ≤ 2097152 := by
  rcases h with ⟨a1, a2, a3, a4⟩ | ⟨a1, a2, a3, a4⟩ | ⟨a1, a2, a3, a4⟩ | ⟨a1, a2, a3⟩ | ⟨a1, a2, a3, a4⟩ | ⟨a1, a2, a3, a4⟩
  · rw [a2]; decide
  · rw [a2]; split <;> decide
  · rw [a2]
    obtain ⟨i1, i2, _, _⟩ := hv
    unfold Lib.itoa
    split
    · rw [List.length_cons, Lib.decDigits_length]
      have := nDigits_le 19 v.int.natAbs (by omega)
      omega
    · rw [Lib.decDigits_length]
      have := nDigits_le 19 v.int.toNat (by omega)
      omega
  · have hsg : (signL v.real).length ≤ 1 := by unfold signL; split <;> decide
    rcases a2 with ⟨b1, b2, b3⟩ | ⟨b1, b2, b3⟩ | ⟨b1, b2, b3⟩ | ⟨b1, b2, M, k, e, b3, b4⟩
    · rw [b2]; decide
    · rw [b2, List.length_append]; show _ + 4 ≤ _; omega
    · rw [b2, List.length_append]; show _ + 3 ≤ _; omega
    · rcases b4 with ⟨c1, c2, c3⟩ | ⟨c1, c2, c3⟩
      · rw [c2]; decide
      · subst c1
        rcases b3 with ⟨_, d1, d2, d3, _⟩ | ⟨d1, _⟩
        · rw [c2, List.length_append]
          have := realT_len d3.1 d3.2.1 d1 d2
          omega
        · cases d1
  · rw [a2, size_list]; exact hv.t
  · rw [a2]; decide

end Go.Proofs.YtbmdbfidjdogmaaDoor
