/-
strings.Split at a blank is the cut at blanks.
-/
import Derived.Test.YthpflfcgnaichaaDoorTraClo
set_option linter.unusedVariables false
set_option linter.unusedSimpArgs false
namespace Go.Proofs.YthpflfcgnaichaaDoor
open Go Go.RowKit

theorem words_none (p : List UInt8) (h : ∀ k : Nat, p[k]? ≠ some (32 : UInt8)) : wordsL p = [p] := by
  induction p with
  | nil => rfl
  | cons c r ih =>
    have hc : ¬ c.toNat = 32 := fun e => h 0 (by
      have : c = 32 := by apply UInt8.toNat_inj.1; rw [e]; rfl
      rw [this]; rfl)
    exact wordsL_ch hc (ih fun k hk => h (k + 1) hk)

theorem words_cut (p q : List UInt8) (h : ∀ k : Nat, p[k]? ≠ some (32 : UInt8)) : wordsL (p ++ 32 :: q) = p :: wordsL q := by
  induction p with
  | nil => exact wordsL_sp q
  | cons c r ih =>
    have hc : ¬ c.toNat = 32 := fun e => h 0 (by
      have : c = 32 := by apply UInt8.toNat_inj.1; rw [e]; rfl
      rw [this]; rfl)
    exact wordsL_ch hc (ih fun k hk => h (k + 1) hk)

abbrev spB : ByteArray := ⟨#[32]⟩

theorem idx_sp (s : ByteArray) : Lib.indexB s spB = Lib.indexByte s.data.toList 32 := by
  show Lib.index s.data.toList [32] = _
  rw [Lib.index_one]

theorem words_split : ∀ (n : Nat) (s : ByteArray), s.size ≤ n → (Lib.splitB spB 0 (Lib.countB s spB) s).map (·.data.toList) = wordsL s.data.toList := by
  intro n
  induction n with
  | zero =>
    intro s hs
    have hl : s.data.toList = [] := List.eq_nil_of_length_eq_zero (by rw [size_list]; omega)
    have hm : Lib.indexB s spB = -1 := by rw [idx_sp, hl]; rfl
    rw [Lib.splitB_miss _ _ _ _ hm, List.map_cons, List.map_nil, hl]
    rfl
  | succ n ih =>
    intro s hs
    by_cases hm : Lib.indexB s spB = -1
    · rw [Lib.splitB_miss _ _ _ _ hm, List.map_cons, List.map_nil]
      rw [idx_sp] at hm
      exact (words_none _ (Lib.indexByte_none hm)).symm
    · have hge : -1 ≤ Lib.indexB s spB := by rw [idx_sp]; exact Lib.indexByte_ge _ _
      obtain ⟨i, hi⟩ : ∃ i : Nat, Lib.indexB s spB = (i : Int) := ⟨(Lib.indexB s spB).toNat, by omega⟩
      have hi2 := hi
      rw [idx_sp] at hi2
      obtain ⟨h1, h2⟩ := Lib.indexByte_some hi2
      have hlt : i < s.data.toList.length := (List.getElem?_eq_some_iff.1 h1).1
      rw [Lib.countB_hit s spB i (by decide) hi, Nat.add_comm, Lib.splitB_hit _ _ _ _ i hi, List.map_cons, Nat.add_zero]
      have e2 : (s.extract (i + spB.size) s.size).data.toList = s.data.toList.drop (i + 1) := Lib.extract_to_end _ _
      rw [ih _ (by rw [← size_list, e2, List.length_drop, size_list]; omega), e2, Lib.extract_from_zero]
      have e3 : s.data.toList = s.data.toList.take i ++ 32 :: s.data.toList.drop (i + 1) := by
        rw [← drop_at h1, List.take_append_drop]
      conv => rhs; rw [e3]
      refine (words_cut _ _ fun k hk => ?_).symm
      rw [List.getElem?_take] at hk
      by_cases hki : k < i
      · rw [if_pos hki] at hk
        exact h2 k hki hk
      · rw [if_neg hki] at hk
        cases hk

theorem split_len (s : ByteArray) : (Lib.splitB spB 0 (Lib.countB s spB) s).length = Lib.countB s spB + 1 := Lib.splitB_all spB (by decide) 0 _ s rfl

end Go.Proofs.YthpflfcgnaichaaDoor
