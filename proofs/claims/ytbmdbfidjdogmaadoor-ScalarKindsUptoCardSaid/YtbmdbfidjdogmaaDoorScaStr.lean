/-
Digits in a text: the walks of the small functions that read them.
-/
import Derived.Test.YtbmdbfidjdogmaaDoorScaTen
set_option linter.unusedVariables false
set_option linter.unusedSimpArgs false
namespace Go.Proofs.YtbmdbfidjdogmaaDoor
open Go Go.RowKit

def isD (c : UInt8) : Bool := decide (48 ≤ c.toNat) && decide (c.toNat ≤ 57)

theorem isD_iff (c : UInt8) : isD c = true ↔ 48 ≤ c.toNat ∧ c.toNat ≤ 57 := by simp [isD]

/-- All digits, one at least. -/
def allD (l : List UInt8) : Bool := !l.isEmpty && l.all isD

theorem size_list (s : ByteArray) : s.data.toList.length = s.size := by rw [Array.length_toList]; rfl

theorem get_list (s : ByteArray) (k : Nat) (h : k < s.size) : s[k] = s.data.toList[k]'(by rw [size_list]; exact h) := rfl

theorem take_next (s : ByteArray) (k : Nat) (h : k < s.size) : s.data.toList.take (k + 1) = s.data.toList.take k ++ [s[k]] := by
  rw [List.take_succ_eq_append_getElem (by rw [size_list]; exact h), get_list s k h]

theorem mem_get (s : ByteArray) (k : Nat) (h : k < s.size) : s[k] ∈ s.data.toList := by
  rw [get_list s k h]; exact List.getElem_mem _

set_option maxHeartbeats 1000000 in
theorem refDigits_walk (w : World) (s : ByteArray) (hmax : s.size ≤ maxLen) (b : Bool) (hb : allD s.data.toList = b) : Calls Tryd.prog 45 #[.string s] w fun e w' => e = .returned (.bool b) ∧ w' = w := by
  have Hb := Lib.hid hb
  clear hb
  have hle : s.size ≤ 9223372036854775807 := by unfold maxLen at hmax; omega
  go_enter Tryd.func45, Tryd.ntmps45
  go_wp2
  go_loopw [3] (fun i wr => ∃ k : Nat, i = .int .i64 k ∧ w = wr ∧ Hid (k ≤ s.size ∧ (s.data.toList.take k).all isD = true)) (fun i _ => s.size - (intOf i).toNat)
  case atStart => exact ⟨0, rfl, rfl, Nat.zero_le _, rfl⟩
  case round =>
    obtain ⟨k, rfl, rfl, hk⟩ := hrel
    by_cases hlt : k < s.size
    · by_cases hd : isD s[k] = true
      · have hd2 := (isD_iff _).1 hd
        have n1 : ¬ ((s[k].toNat : Int) < 48) := by omega
        have n2 : ¬ (57 < (s[k].toNat : Int)) := by omega
        have Hd := Lib.hid hd
        clear hd hd2
        go_wp2
        go_roundw
        case rel =>
          refine ⟨k + 1, rfl, (by first | rfl | trivial), by omega, ?_⟩
          rw [take_next s k hlt, List.all_append, hk.out.2]
          simp [Hd.out]
        case measure => simp [intOf]; omega
      · have hbf : b = false := by
          rw [← Hb.out]
          unfold allD
          have : s.data.toList.all isD = false := by
            rw [List.all_eq_false]
            exact ⟨_, mem_get s k hlt, hd⟩
          rw [this, Bool.and_false]
        subst hbf
        by_cases n1 : (s[k].toNat : Int) < 48
        · clear hd
          go_wp2
          go_ret
          exact ⟨rfl, rfl⟩
        · have n2 : 57 < (s[k].toNat : Int) := by
            rw [isD_iff] at hd; omega
          clear hd
          go_wp2
          go_ret
          exact ⟨rfl, rfl⟩
    · have hks : k = s.size := by have := hk.out.1; omega
      subst hks
      have hall : s.data.toList.all isD = true := by
        have := hk.out.2
        rw [List.take_of_length_le (by rw [size_list]; exact Nat.le_refl _)] at this
        exact this
      by_cases h0 : 0 < s.size
      · have hbt : b = true := by
          rw [← Hb.out]
          unfold allD
          rw [hall]
          have hne : s.data.toList.isEmpty = false := by
            cases hq : s.data.toList with
            | nil => have := size_list s; rw [hq] at this; simp at this; omega
            | cons x r => rfl
          rw [hne]
          rfl
        subst hbt
        clear hlt hall hk
        go_wp2
        go_ret
        exact ⟨rfl, rfl⟩
      · have hbf : b = false := by
          rw [← Hb.out]
          unfold allD
          have : s.data.toList = [] := List.eq_nil_of_length_eq_zero (by rw [size_list]; omega)
          rw [this]
          rfl
        subst hbf
        clear hlt hall hk
        go_wp2
        go_ret
        exact ⟨rfl, rfl⟩

/-- The number that digits spell, held at 10^18. -/
def valS (l : List UInt8) : Nat := l.foldl (fun m c => min (m * 10 + (c.toNat - 48)) 1000000000000000000) 0

theorem valS_snoc (l : List UInt8) (c : UInt8) : valS (l ++ [c]) = min (valS l * 10 + (c.toNat - 48)) 1000000000000000000 := by simp [valS]

theorem valS_le (l : List UInt8) : valS l ≤ 1000000000000000000 := by
  rcases List.eq_nil_or_concat l with rfl | ⟨r, c, rfl⟩
  · exact Nat.zero_le _
  · rw [List.concat_eq_append, valS_snoc]; exact Nat.min_le_right _ _

theorem tw_self {l : List UInt8} (h : l.all isD = true) : l.takeWhile isD = l := by
  have h2 : ∀ x ∈ l, isD x = true := by simpa using h
  have := List.takeWhile_append_of_pos (p := isD) (l₁ := l) (l₂ := []) h2
  simpa using this

theorem tw_all {l : List UInt8} {k : Nat} (h : (l.take k).all isD = true) (hk : l.length ≤ k) : l.takeWhile isD = l.take k := by
  rw [List.take_of_length_le hk] at h ⊢
  exact tw_self h

theorem tw_stop {s : ByteArray} {k : Nat} (h : (s.data.toList.take k).all isD = true) (hk : k < s.size) (hn : ¬ isD s[k] = true) : s.data.toList.takeWhile isD = s.data.toList.take k := by
  have e : s.data.toList = s.data.toList.take k ++ s[k] :: s.data.toList.drop (k + 1) := by
    rw [get_list s k hk, ← List.drop_eq_getElem_cons (by rw [size_list]; exact hk), List.take_append_drop]
  have h2 : ∀ x ∈ s.data.toList.take k, isD x = true := by simpa using h
  conv => lhs; rw [e]
  rw [List.takeWhile_append_of_pos h2, List.takeWhile_cons_of_neg hn, List.append_nil]

set_option maxHeartbeats 1000000 in
theorem digits_walk (w : World) (s : ByteArray) (hmax : s.size ≤ maxLen) (n m : Nat) (hn : (s.data.toList.takeWhile isD).length = n) (hm : valS (s.data.toList.takeWhile isD) = m) :
    Calls Tryd.prog 39 #[.string s] w fun e w' => e = .returned (.tuple #[.int .i64 n, .int .u64 m]) ∧ w' = w := by
  have Hn := Lib.hid hn
  have Hm := Lib.hid hm
  clear hn hm
  have hle : s.size ≤ 9223372036854775807 := by unfold maxLen at hmax; omega
  go_enter Tryd.func39, Tryd.ntmps39
  go_wp2
  go_loopw [4, 5] (fun i v wr => ∃ k v' : Nat, i = .int .i64 k ∧ v = .int .u64 v' ∧ w = wr ∧ Hid (k ≤ s.size ∧ (s.data.toList.take k).all isD = true ∧ v' = valS (s.data.toList.take k))) (fun i _ _ => s.size - (intOf i).toNat)
  case atStart => exact ⟨0, 0, rfl, rfl, rfl, Nat.zero_le _, rfl, rfl⟩
  case round =>
    obtain ⟨k, v', rfl, rfl, rfl, hk⟩ := hrel
    by_cases hlt : k < s.size
    · by_cases hd : isD s[k] = true
      · have hd2 := (isD_iff _).1 hd
        have n1 : (48 : Int) ≤ (s[k].toNat : Int) := by omega
        have n2 : (s[k].toNat : Int) ≤ 57 := by omega
        have hv := valS_le (s.data.toList.take k)
        rw [← hk.out.2.2] at hv
        obtain ⟨d, hdd⟩ : ∃ d : Nat, d = s[k].toNat - 48 := ⟨_, rfl⟩
        obtain ⟨t, ht⟩ : ∃ t : Nat, t = v' * 10 := ⟨_, rfl⟩
        obtain ⟨u, hu⟩ : ∃ u : Nat, u = t + d := ⟨_, rfl⟩
        have hsub : IntKind.u8.wrap ((s[k].toNat : Int) - 48) = (d : Int) := by
          rw [IntKind.wrap_u8]; omega
        have hmul : IntKind.u64.wrap ((v' : Int) * 10) = (t : Int) := by rw [IntKind.wrap_u64]; omega
        have hadd : IntKind.u64.wrap ((t : Int) + IntKind.u64.wrap (d : Int)) = (u : Int) := by rw [IntKind.wrap_u64, IntKind.wrap_u64]; omega
        obtain ⟨v2, hv2⟩ : ∃ v2 : Nat, v2 = min u 1000000000000000000 := ⟨_, rfl⟩
        have hmin : (if (1000000000000000000 : Int) < (u : Int) then (1000000000000000000 : Int) else (u : Int)) = (v2 : Int) := by split <;> omega
        have Hnew := Lib.hid (show v2 = valS (s.data.toList.take (k + 1)) by rw [take_next s k hlt, valS_snoc, ← hk.out.2.2, hv2, hu, ht, hdd])
        have Hd := Lib.hid hd
        clear hd hd2 hv hdd ht hu hv2
        go_wp2
        go_roundw
        case rel =>
          refine ⟨k + 1, v2, rfl, by first | rfl | (rw [← hmin]), (by first | rfl | trivial), by omega, ?_, Hnew.out⟩
          rw [take_next s k hlt, List.all_append, hk.out.2.1]
          simp [Hd.out]
        case measure => simp [intOf]; omega
      · have htw := tw_stop hk.out.2.1 hlt hd
        have hkn : k = n := by rw [← Hn.out, htw, List.length_take, size_list]; omega
        have hvm : v' = m := by rw [← Hm.out, htw]; exact hk.out.2.2
        subst hkn
        subst hvm
        by_cases n1 : (48 : Int) ≤ (s[k].toNat : Int)
        · have n2 : ¬ (s[k].toNat : Int) ≤ 57 := by
            rw [isD_iff] at hd; omega
          clear hd htw
          go_wp2
          go_ret2
          exact ⟨rfl, rfl⟩
        · clear hd htw
          go_wp2
          go_ret2
          exact ⟨rfl, rfl⟩
    · have htw := tw_all hk.out.2.1 (by rw [size_list]; have := hk.out.1; omega)
      have hkn : k = n := by rw [← Hn.out, htw, List.length_take, size_list]; have := hk.out.1; omega
      have hvm : v' = m := by rw [← Hm.out, htw]; exact hk.out.2.2
      subst hkn
      subst hvm
      clear htw
      go_wp2
      go_ret2
      exact ⟨rfl, rfl⟩

end Go.Proofs.YtbmdbfidjdogmaaDoor
