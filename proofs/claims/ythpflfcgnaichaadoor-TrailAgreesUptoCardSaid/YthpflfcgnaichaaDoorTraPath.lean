/-
paths.path, begins, PathPattern, Path: what they answer is a function of their texts.
-/
import Derived.Test.YthpflfcgnaichaaDoorTraTxtW
import Derived.Test.YthpflfcgnaichaaDoorTraSame
import Derived.Test.YthpflfcgnaichaaDoorTraShelfC
set_option linter.unusedVariables false
set_option linter.unusedSimpArgs false
namespace Go.Proofs.YthpflfcgnaichaaDoor
open Go Go.RowKit

def pchar (c : UInt8) : Bool := decide (33 ≤ c.toNat ∧ c.toNat ≤ 126)

def pathB (l : List UInt8) : Bool := decide (1 ≤ l.length ∧ l.length ≤ 256 ∧ l[0]? = some 47) && l.all pchar

theorem path_no {l : List UInt8} (h : ¬ (1 ≤ l.length ∧ l.length ≤ 256 ∧ l[0]? = some 47)) : pathB l = false := by
  unfold pathB
  rw [decide_eq_false h]
  rfl

theorem path_bad {l : List UInt8} {k : Nat} {c : UInt8} (hc : l[k]? = some c) (h : pchar c = false) : pathB l = false := by
  unfold pathB
  rw [Bool.and_eq_false_iff]
  refine .inr ?_
  rw [List.all_eq_false]
  exact ⟨c, List.mem_of_getElem? hc, by rw [h]; decide⟩

theorem path_yes {l : List UInt8} (h : 1 ≤ l.length ∧ l.length ≤ 256 ∧ l[0]? = some 47) (ha : ∀ (j : Nat) (c : UInt8), j < l.length → l[j]? = some c → pchar c = true) : pathB l = true := by
  unfold pathB
  rw [decide_eq_true h, Bool.true_and, List.all_eq_true]
  intro c hc
  obtain ⟨j, hj, e⟩ := List.getElem_of_mem hc
  exact ha j c hj (by rw [List.getElem?_eq_getElem hj, e])

set_option maxHeartbeats 2000000 in
theorem path_c (w : World) (s : ByteArray) : Calls Tryd.prog 121 #[.string s] w fun r w' => r = .returned (.bool (pathB s.data.toList)) ∧ w' = w := by
  have hsl := size_list s
  by_cases h1 : s.size < 1
  · have hf := path_no (l := s.data.toList) (by omega)
    rw [hf]
    have b1 : (s.size : Int) < 1 := by omega
    clear hf hsl h1
    go_enter Tryd.func121, Tryd.ntmps121
    go_wp2
    go_ret
    exact ⟨rfl, rfl⟩
  have b1 : (1 : Int) ≤ (s.size : Int) := by omega
  by_cases h2 : 256 < s.size
  · have hf := path_no (l := s.data.toList) (by omega)
    rw [hf]
    have b2 : (256 : Int) < (s.size : Int) := by omega
    clear hf hsl h1 h2
    go_enter Tryd.func121, Tryd.ntmps121
    go_wp2
    go_ret
    exact ⟨rfl, rfl⟩
  have b2 : (s.size : Int) ≤ 256 := by omega
  obtain ⟨c0, hc0⟩ : ∃ c, s.data.toList[0]? = some c := ⟨s.data.toList[0]'(by omega), List.getElem?_eq_getElem _⟩
  have hi0 := idx_run' (0 : Int) rfl hc0
  by_cases h3 : c0.toNat = 47
  rotate_left
  · have hf := path_no (l := s.data.toList) (fun ⟨_, _, q⟩ => by
      rw [hc0] at q
      obtain rfl := Option.some.inj q
      exact h3 rfl)
    rw [hf]
    have t1 : ((c0.toNat : Int) != 47) = true := by rw [bne_iff_ne]; omega
    clear hf hsl h1 h2 h3 hc0
    go_enter Tryd.func121, Tryd.ntmps121
    go_wp2
    go_ret
    exact ⟨rfl, rfl⟩
  have t1 : ((c0.toNat : Int) != 47) = false := by rw [bne_eq_false_iff_eq]; omega
  have hc47 : c0 = 47 := by apply UInt8.toNat_inj.1; rw [h3]; rfl
  have Hh := Lib.hid (show 1 ≤ s.data.toList.length ∧ s.data.toList.length ≤ 256 ∧ s.data.toList[0]? = some 47 from ⟨by omega, by omega, by rw [hc0, hc47]⟩)
  obtain ⟨n, hn⟩ : ∃ n, n = s.size := ⟨_, rfl⟩
  have Hn := Lib.hid hn
  obtain ⟨l, hl⟩ : ∃ l, l = s.data.toList := ⟨_, rfl⟩
  have Hl := Lib.hid hl
  have H256 := Lib.hid (show n ≤ 256 by omega)
  rw [← hl]
  clear hsl h1 h2 h3 hc47 hc0 hn hl
  go_enter Tryd.func121, Tryd.ntmps121
  go_wp2
  go_loop [19] (fun v => ∃ k : Nat, v = .int .i64 (k : Int) ∧ Hid (k ≤ n ∧ ∀ (j : Nat) (c : UInt8), j < k → l[j]? = some c → pchar c = true)) (fun v => n - (intOf v).toNat)
  case atStart => exact ⟨0, rfl, Lib.hid ⟨Nat.zero_le _, fun j c h => absurd h (Nat.not_lt_zero _)⟩⟩
  case round =>
    obtain ⟨k, rfl, H⟩ := hrel
    have hn : n = s.size := Hn.out
    have hl : l = s.data.toList := Hl.out
    by_cases hkn : k < n
    · obtain ⟨c, hc⟩ : ∃ c, l[k]? = some c := ⟨l[k]'(by rw [hl, size_list]; omega), List.getElem?_eq_getElem _⟩
      have hidx := idx_run' (s := s) (k : Int) rfl (by rw [← hl]; exact hc)
      have b3 : (k : Int) < (s.size : Int) := by omega
      have wk : wrap64 ((k : Int) + 1) = (k : Int) + 1 := by have := H256.out; unfold wrap64; omega
      have Hms := Lib.hid (meas_step hkn wk)
      have Hgo := Lib.hid (go_step wk)
      by_cases hlo : c.toNat < 33
      · have p1 : (c.toNat : Int) < 33 := by omega
        have hf := path_bad hc (show pchar c = false by unfold pchar; exact decide_eq_false (by omega))
        have Hf := Lib.hid hf
        clear hn hl hkn hc hlo H hf wk
        go_wp2
        go_ret
        exact ⟨(congrArg (fun b => Ending.returned (.bool b)) Hf.out).symm, rfl⟩
      · have p1 : (33 : Int) ≤ (c.toNat : Int) := by omega
        by_cases hhi : 126 < c.toNat
        · have p2 : (126 : Int) < (c.toNat : Int) := by omega
          have hf := path_bad hc (show pchar c = false by unfold pchar; exact decide_eq_false (by omega))
          have Hf := Lib.hid hf
          clear hn hl hkn hc hlo hhi H hf wk
          go_wp2
          go_ret
          exact ⟨(congrArg (fun b => Ending.returned (.bool b)) Hf.out).symm, rfl⟩
        · have p2 : (c.toNat : Int) ≤ 126 := by omega
          have Hend := Lib.hid (show k + 1 ≤ n ∧ ∀ (j : Nat) (c : UInt8), j < k + 1 → l[j]? = some c → pchar c = true from ⟨hkn, fun j d hj hd => by
            by_cases e : j = k
            · subst e
              rw [hc] at hd
              obtain rfl := Option.some.inj hd
              unfold pchar
              exact decide_eq_true (by omega)
            · exact H.out.2 j d (by omega) hd⟩)
          clear hn hl hkn hc hlo hhi H wk
          go_wp2
          go_round
          case rel => exact ⟨k + 1, by go_num, Hend⟩
          case measure => have := Hn.out; simp [intOf]; omega
    · have b3 : (s.size : Int) ≤ (k : Int) := by omega
      have hf := path_yes (l := l) (by rw [hl]; exact Hh.out) (fun j c hj hc => H.out.2 j c (by rw [hl, size_list] at hj; omega) hc)
      have Hf := Lib.hid hf
      clear hn hl hkn H hf
      go_wp2
      go_ret
      exact ⟨(congrArg (fun b => Ending.returned (.bool b)) Hf.out).symm, rfl⟩

end Go.Proofs.YthpflfcgnaichaaDoor
