/-
More of the small functions on texts.
-/
import Derived.Test.YtbmdbfidjdogmaaDoorScaStr
import Derived.Deep.QuietTactic
import Derived.BigQuiet
set_option linter.unusedVariables false
set_option linter.unusedSimpArgs false
namespace Go.Proofs.YtbmdbfidjdogmaaDoor
open Go Go.RowKit

/-- What stands behind a '-' ahead. -/
def minusL : List UInt8 → List UInt8 × Bool
  | [] => ([], false)
  | c :: r => if c = 45 then (r, true) else (c :: r, false)

theorem ext_list (s : ByteArray) (a b : Nat) : (s.extract a b).data.toList = (s.data.toList.drop a).take (b - a) := by
  rw [ByteArray.data_extract, Array.toList_extract]

theorem ext_from (s : ByteArray) (a : Nat) : (s.extract a s.size).data.toList = s.data.toList.drop a := by
  rw [ext_list, List.take_of_length_le (by rw [List.length_drop, size_list]; exact Nat.le_refl _)]

theorem ext_size (s : ByteArray) (a b : Nat) : (s.extract a b).size ≤ s.size := by
  rw [← size_list, ext_list, ← size_list, List.length_take, List.length_drop]
  omega

theorem list_cons (s : ByteArray) (h : 0 < s.size) : s.data.toList = s[0] :: s.data.toList.drop 1 := by
  have := List.drop_eq_getElem_cons (l := s.data.toList) (i := 0) (by rw [size_list]; exact h)
  rw [List.drop_zero] at this
  rw [get_list s 0 h]
  exact this

def MinusPost (s : ByteArray) (w : World) (e : Ending) (w' : World) : Prop :=
  ∃ (s' : ByteArray) (b : Bool), e = .returned (.tuple #[.string s', .bool b]) ∧ w' = w ∧ minusL s.data.toList = (s'.data.toList, b) ∧ s'.size ≤ s.size

set_option maxHeartbeats 1000000 in
theorem minus_walk (w : World) (s : ByteArray) (hmax : s.size ≤ maxLen) : Calls Tryd.prog 41 #[.string s] w fun e w' => MinusPost s w e w' := by
  have hle : s.size ≤ 9223372036854775807 := by unfold maxLen at hmax; omega
  by_cases h0 : 0 < s.size
  · by_cases hc : s[0] = 45
    · have n1 : ((s[0].toNat : Int) == 45) = true := by rw [hc]; rfl
      have hres : MinusPost s w (.returned (.tuple #[.string (s.extract 1 s.size), .bool true])) w := by
        refine ⟨_, _, rfl, rfl, ?_, ext_size _ _ _⟩
        rw [ext_from, list_cons s h0]
        simp only [minusL, hc, if_true]
        rfl
      clear hc
      go_enter Tryd.func41, Tryd.ntmps41
      go_wp2
      go_ret2
      exact hres
    · have n1 : ((s[0].toNat : Int) == 45) = false := by
        simp
        intro e
        exact hc (UInt8.toNat_inj.1 (by simpa using (by omega : s[0].toNat = 45)))
      have hres : MinusPost s w (.returned (.tuple #[.string s, .bool false])) w := by
        refine ⟨_, _, rfl, rfl, ?_, Nat.le_refl _⟩
        rw [list_cons s h0]
        simp only [minusL, if_neg hc]
      clear hc
      go_enter Tryd.func41, Tryd.ntmps41
      go_wp2
      go_ret2
      exact hres
  · have hres : MinusPost s w (.returned (.tuple #[.string s, .bool false])) w := by
      refine ⟨_, _, rfl, rfl, ?_, Nat.le_refl _⟩
      have : s.data.toList = [] := List.eq_nil_of_length_eq_zero (by rw [size_list]; omega)
      rw [this]
      rfl
    go_enter Tryd.func41, Tryd.ntmps41
    go_wp2
    go_ret2
    exact hres

/-- Digits without a nought ahead. -/
def wholeL (l : List UInt8) : Bool := allD l && (decide (l.head? ≠ some 48) || decide (l.length = 1))

set_option maxHeartbeats 1000000 in
theorem whole_walk (w : World) (s : ByteArray) (hmax : s.size ≤ maxLen) (b : Bool) (hb : wholeL s.data.toList = b) : Calls Tryd.prog 42 #[.string s] w fun e w' => e = .returned (.bool b) ∧ w' = w := by
  have hle : s.size ≤ 9223372036854775807 := by unfold maxLen at hmax; omega
  have Hd := Lib.hid (refDigits_walk w s hmax _ rfl)
  cases hd : allD s.data.toList with
  | false =>
    have hbf : b = false := by rw [← hb]; unfold wholeL; rw [hd]; rfl
    subst hbf
    rw [hd] at Hd
    clear hb hd
    go_enter Tryd.func42, Tryd.ntmps42
    go_wp2_with fail
    refine Hd.out.mono ?_
    rintro e w1 ⟨rfl, hw⟩
    obtain rfl := hw.symm
    go_wp2
    go_ret
    exact ⟨rfl, rfl⟩
  | true =>
    have h0 : 0 < s.size := by
      rcases Nat.eq_zero_or_pos s.size with h | h
      · have : s.data.toList = [] := List.eq_nil_of_length_eq_zero (by rw [size_list]; exact h)
        rw [this] at hd
        cases hd
      · exact h
    have hl := list_cons s h0
    rw [hd] at Hd
    by_cases hc : s[0] = 48
    · have n1 : ((s[0].toNat : Int) != 48) = false := by rw [hc]; rfl
      by_cases h1 : s.size = 1
      · have n2 : ((s.size : Int) == 1) = true := by simp [h1]
        have hbt : b = true := by rw [← hb]; unfold wholeL; rw [hd, size_list, h1]; simp
        subst hbt
        clear hb hd hl hc h1
        go_enter Tryd.func42, Tryd.ntmps42
        go_wp2_with fail
        refine Hd.out.mono ?_
        rintro e w1 ⟨rfl, hw⟩
        obtain rfl := hw.symm
        go_wp2
        go_ret
        exact ⟨rfl, rfl⟩
      · have n2 : ((s.size : Int) == 1) = false := by simp; omega
        have hbf : b = false := by rw [← hb]; unfold wholeL; rw [hd, size_list, hl]; simp [hc, h1]
        subst hbf
        clear hb hd hl hc h1
        go_enter Tryd.func42, Tryd.ntmps42
        go_wp2_with fail
        refine Hd.out.mono ?_
        rintro e w1 ⟨rfl, hw⟩
        obtain rfl := hw.symm
        go_wp2
        go_ret
        exact ⟨rfl, rfl⟩
    · have n1 : ((s[0].toNat : Int) != 48) = true := by
        simp
        intro e
        exact hc (UInt8.toNat_inj.1 (by simpa using (by omega : s[0].toNat = 48)))
      have hbt : b = true := by rw [← hb]; unfold wholeL; rw [hd, hl]; simp [hc]
      subst hbt
      clear hb hd hl hc
      go_enter Tryd.func42, Tryd.ntmps42
      go_wp2_with fail
      refine Hd.out.mono ?_
      rintro e w1 ⟨rfl, hw⟩
      obtain rfl := hw.symm
      go_wp2
      go_ret
      exact ⟨rfl, rfl⟩

/-- The number that digits spell. -/
def numN (l : List UInt8) : Nat := l.foldl (fun n c => 10 * n + (c.toNat - 48)) 0

theorem numN_snoc (l : List UInt8) (c : UInt8) : numN (l ++ [c]) = 10 * numN l + (c.toNat - 48) := by simp [numN]

theorem numN_take_le (l : List UInt8) : ∀ k, numN (l.take k) ≤ numN l := by
  intro k
  have h : ∀ (r : List UInt8) (n : Nat), n ≤ r.foldl (fun n c => 10 * n + (c.toNat - 48)) n := by
    intro r
    induction r with
    | nil => intro n; exact Nat.le_refl _
    | cons c r ih => intro n; exact Nat.le_trans (by omega) (ih (10 * n + (c.toNat - 48)))
  conv => rhs; rw [← List.take_append_drop k l]
  unfold numN
  rw [List.foldl_append]
  exact h _ _

set_option maxHeartbeats 1000000 in
theorem number_walk (w : World) (s : ByteArray) (hmax : s.size ≤ maxLen) (lim : Nat) (hl1 : 9 ≤ lim) (hl2 : lim ≤ 9223372036854775808) (hd : s.data.toList.all isD = true) (n : Nat) (b : Bool)
    (hb : decide (numN s.data.toList ≤ lim) = b) (hn : (if b = true then numN s.data.toList else 0) = n) :
    Calls Tryd.prog 43 #[.string s, .int .u64 lim] w fun e w' => e = .returned (.tuple #[.int .u64 n, .bool b]) ∧ w' = w := by
  have hle : s.size ≤ 9223372036854775807 := by unfold maxLen at hmax; omega
  have Hb := Lib.hid hb
  have Hn := Lib.hid hn
  have Hd := Lib.hid hd
  have Hl1 := Lib.hid hl1
  have Hl2 := Lib.hid hl2
  clear hb hn hd hl1 hl2
  go_enter Tryd.func43, Tryd.ntmps43
  go_wp2
  go_loopw [6, 7] (fun v i wr => ∃ k m : Nat, i = .int .i64 k ∧ v = .int .u64 m ∧ w = wr ∧ Hid (k ≤ s.size ∧ m = numN (s.data.toList.take k) ∧ m ≤ lim)) (fun _ i _ => s.size - (intOf i).toNat)
  case atStart => exact ⟨0, 0, rfl, rfl, rfl, Nat.zero_le _, rfl, Nat.zero_le _⟩
  case round =>
    obtain ⟨k, m, rfl, rfl, rfl, hk⟩ := hrel
    by_cases hlt : k < s.size
    · have hdk : isD s[k] = true := List.all_eq_true.1 Hd.out _ (mem_get s k hlt)
      have hd2 := (isD_iff _).1 hdk
      have q1 := Hl1.out
      have q2 := Hl2.out
      have q3 := hk.out.2.2
      obtain ⟨d, hdd⟩ : ∃ d : Nat, d = s[k].toNat - 48 := ⟨_, rfl⟩
      obtain ⟨a, ha⟩ : ∃ a : Nat, a = lim - d := ⟨_, rfl⟩
      obtain ⟨c, hc⟩ : ∃ c : Nat, c = a / 10 := ⟨_, rfl⟩
      have hsub : IntKind.u8.wrap ((s[k].toNat : Int) - 48) = (d : Int) := by rw [IntKind.wrap_u8]; omega
      have hd64 : IntKind.u64.wrap (d : Int) = (d : Int) := by rw [IntKind.wrap_u64]; omega
      have hla : IntKind.u64.wrap ((lim : Int) - (d : Int)) = (a : Int) := by rw [IntKind.wrap_u64]; omega
      have hquo : IntKind.u64.wrap ((a : Int) / 10) = (c : Int) := by rw [IntKind.wrap_u64]; omega
      have hnext : numN (s.data.toList.take (k + 1)) = 10 * m + d := by rw [take_next s k hlt, numN_snoc, ← hk.out.2.1, hdd]
      by_cases hov : c < m
      · have hbf : b = false := by
          rw [← Hb.out]
          have := numN_take_le s.data.toList (k + 1)
          rw [hnext] at this
          exact decide_eq_false (by omega)
        subst hbf
        have hn0 : n = 0 := by rw [← Hn.out, if_neg (by decide)]
        subst hn0
        have n1 : (c : Int) < (m : Int) := by omega
        clear hdk hd2 q1 q2 q3 hdd ha hc hnext hov
        go_wp2
        go_ret2
        exact ⟨rfl, rfl⟩
      · have n1 : ¬ (c : Int) < (m : Int) := by omega
        obtain ⟨t, ht⟩ : ∃ t : Nat, t = 10 * m := ⟨_, rfl⟩
        have hmul : IntKind.u64.wrap (10 * (m : Int)) = (t : Int) := by rw [IntKind.wrap_u64]; omega
        have hadd : IntKind.u64.wrap ((t : Int) + (d : Int)) = ((t + d : Nat) : Int) := by rw [IntKind.wrap_u64]; omega
        have Hnew := Lib.hid (show t + d = numN (s.data.toList.take (k + 1)) ∧ t + d ≤ lim by rw [hnext, ht]; omega)
        clear hdk hd2 q1 q2 q3 hdd ha hc hnext hov ht
        go_wp2
        go_roundw
        case rel => exact ⟨k + 1, t + d, rfl, by first | rfl | (rw [← hadd]) | (congr 1), (by first | rfl | trivial), by omega, Hnew.out⟩
        case measure => simp [intOf]; omega
    · have hks : k = s.size := by have := hk.out.1; omega
      have hm : m = numN s.data.toList := by
        rw [hk.out.2.1, List.take_of_length_le (by rw [size_list]; omega)]
      have hbt : b = true := by
        rw [← Hb.out, ← hm]
        exact decide_eq_true hk.out.2.2
      subst hbt
      have hn0 : m = n := by rw [← Hn.out, if_pos rfl, hm]
      subst hn0
      clear hm hks
      go_wp2
      go_ret2
      exact ⟨rfl, rfl⟩

/-- What stands ahead of and behind the first byte c. -/
def cutL (l : List UInt8) (c : UInt8) : List UInt8 × List UInt8 × Bool :=
  if l.all (· != c) = true then (l, [], false) else (l.takeWhile (· != c), (l.dropWhile (· != c)).drop 1, true)

def CutPost (s : ByteArray) (c : UInt8) (w : World) (e : Ending) (w' : World) : Prop :=
  ∃ (a b : ByteArray) (ok : Bool), e = .returned (.tuple #[.string a, .string b, .bool ok]) ∧ (∃ n, w' = w.drewN n) ∧ cutL s.data.toList c = (a.data.toList, b.data.toList, ok) ∧ a.size ≤ s.size ∧ b.size ≤ s.size

theorem cut_at {s : ByteArray} {c : UInt8} {k : Nat} (hk : k < s.size) (h : ∀ x ∈ s.data.toList.take k, (x != c) = true) (hc : s[k] = c) :
    cutL s.data.toList c = ((s.extract 0 k).data.toList, (s.extract (k + 1) s.size).data.toList, true) := by
  have e : s.data.toList = s.data.toList.take k ++ s[k] :: s.data.toList.drop (k + 1) := by
    rw [get_list s k hk, ← List.drop_eq_getElem_cons (by rw [size_list]; exact hk), List.take_append_drop]
  have hn : ¬ (s[k] != c) = true := by rw [hc]; simp
  have h1 : s.data.toList.takeWhile (· != c) = s.data.toList.take k := by
    conv => lhs; rw [e]
    rw [List.takeWhile_append_of_pos h, List.takeWhile_cons_of_neg (p := fun x => x != c) hn, List.append_nil]
  have h2 : s.data.toList.dropWhile (· != c) = s[k] :: s.data.toList.drop (k + 1) := by
    conv => lhs; rw [e]
    rw [List.dropWhile_append_of_pos h, List.dropWhile_cons_of_neg (p := fun x => x != c) hn]
  have h3 : ¬ s.data.toList.all (· != c) = true := by
    intro q
    exact hn (List.all_eq_true.1 q _ (mem_get s k hk))
  unfold cutL
  rw [if_neg h3, h1, h2, ext_from, ext_list, List.drop_zero, Nat.sub_zero]
  rfl

set_option maxHeartbeats 1000000 in
theorem cut_walk (w : World) (s : ByteArray) (hmax : s.size ≤ maxLen) (c : UInt8) : Calls Tryd.prog 44 #[.string s, .int .u8 (c.toNat : Int)] w fun e w' => CutPost s c w e w' := by
  have hle : s.size ≤ 9223372036854775807 := by unfold maxLen at hmax; omega
  go_enter Tryd.func44, Tryd.ntmps44
  go_wp2
  go_loopw [7] (fun i wr => ∃ k : Nat, i = .int .i64 k ∧ w = wr ∧ Hid (k ≤ s.size ∧ ∀ x ∈ s.data.toList.take k, (x != c) = true)) (fun i _ => s.size - (intOf i).toNat)
  case atStart => exact ⟨0, rfl, rfl, Nat.zero_le _, fun x hx => by simp at hx⟩
  case round =>
    obtain ⟨k, rfl, rfl, hk⟩ := hrel
    by_cases hlt : k < s.size
    · by_cases hc : s[k] = c
      · have n1 : ((s[k].toNat : Int) == (c.toNat : Int)) = true := by rw [hc]; simp
        have Hres := Lib.hid (cut_at hlt hk.out.2 hc)
        clear hc
        have m1 : (k : Int) ≤ (s.size : Int) := by omega
        have m2 : (k : Int) + 1 ≤ (s.size : Int) := by omega
        go_wp2
        go_quiet (fail)
        go_wp2
        go_ret3
        exact ⟨_, _, _, rfl, ⟨_, rfl⟩, Hres.out, ext_size _ _ _, ext_size _ _ _⟩
      · have n1 : ((s[k].toNat : Int) == (c.toNat : Int)) = false := by
          simp
          intro e
          exact hc (UInt8.toNat_inj.1 (by omega))
        have Hc := Lib.hid hc
        clear hc
        go_wp2
        go_roundw
        case rel =>
          refine ⟨k + 1, rfl, (by first | rfl | trivial), by omega, fun x hx => ?_⟩
          rw [take_next s k hlt, List.mem_append] at hx
          rcases hx with hx | hx
          · exact hk.out.2 x hx
          · obtain rfl := List.mem_singleton.1 hx
            simpa using Hc.out
        case measure => simp [intOf]; omega
    · have hres : CutPost s c w (.returned (.tuple #[.string s, .string { data := #[] }, .bool false])) w := by
        refine ⟨_, _, _, rfl, ⟨0, rfl⟩, ?_, Nat.le_refl _, Nat.zero_le _⟩
        have h := hk.out.2
        rw [List.take_of_length_le (by rw [size_list]; have := hk.out.1; omega)] at h
        unfold cutL
        rw [if_pos (List.all_eq_true.2 h)]
      go_wp2
      go_ret3
      exact hres

end Go.Proofs.YtbmdbfidjdogmaaDoor
