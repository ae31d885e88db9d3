/-
The walk of told.
-/
import Derived.Test.YthpflfcgnaichaaDoorTraSame
import Derived.Test.YthpflfcgnaichaaDoorTraShelf
set_option linter.unusedVariables false
set_option linter.unusedSimpArgs false
namespace Go.Proofs.YthpflfcgnaichaaDoor
open Go Go.RowKit

theorem idx_run {s : ByteArray} {k : Nat} {c : UInt8} (kd : IntKind) (h : s.data.toList[k]? = some c) : ∀ w, (Instr.index 9 (.string s) (.int kd (k : Int))).run Tryd.prog w = .ok (.int .u8 (c.toNat : Int)) w := by
  intro w
  obtain ⟨hk, he⟩ := List.getElem?_eq_some_iff.1 h
  have hk2 : k < s.size := by rw [← ByteArray.size_data, ← Array.length_toList]; exact hk
  rw [run_index_string w _ s kd _ Tryd.underlying9, dif_pos ⟨by omega, by omega⟩]
  have e : s[(k : Int).toNat]'(by omega) = c := by
    rw [← he]
    rfl
  rw [e]

def hexB : ByteArray := ⟨#[48, 49, 50, 51, 52, 53, 54, 55, 56, 57, 97, 98, 99, 100, 101, 102]⟩

def hexC (n : Nat) : UInt8 := hexB.data.toList.getD n 0

theorem hex_run (kd : IntKind) {n : Nat} (h : n < 16) : ∀ w, (Instr.index 9 (.string hexB) (.int kd (n : Int))).run Tryd.prog w = .ok (.int .u8 ((hexC n).toNat : Int)) w := by
  refine idx_run kd ?_
  unfold hexC
  rw [List.getD_eq_getElem?_getD, List.getElem?_eq_getElem (by exact h)]
  rfl

/-- One byte's form. -/
def encC (c : UInt8) : List UInt8 := if 32 < c.toNat ∧ c.toNat < 127 ∧ c.toNat ≠ 37 then [c] else [37, hexC (c.toNat / 16), hexC (c.toNat % 16)]

def encL (l : List UInt8) : List UInt8 := l.flatMap encC

/-- A text's form. -/
def toldL (l : List UInt8) : List UInt8 := if l = [] then [45] else if l = [45] then [37, 50, 100] else encL l

theorem encL_snoc (l : List UInt8) (c : UInt8) : encL (l ++ [c]) = encL l ++ encC c := by simp [encL]

theorem encC_len (c : UInt8) : (encC c).length ≤ 3 := by
  unfold encC
  split <;> simp

theorem encL_len (l : List UInt8) : (encL l).length ≤ 3 * l.length := by
  induction l with
  | nil => exact Nat.le_refl _
  | cons c r ih =>
    show (encC c ++ encL r).length ≤ _
    rw [List.length_append, List.length_cons]
    have := encC_len c
    omega

/-- The builder of a call that began in w, its bytes l. -/
structure PW (w wr : World) (l : List UInt8) : Prop where
  build : Lib.IsBuilderF 102 5 w.heap.size w.heap.size (Lib.byteCells l) wr
  below : Below w.heap.size w wr

theorem PW.start (w : World) : PW w (w.alloc (.cells #[.pointer none, .slice none 0 0] 102)) [] :=
  ⟨Lib.IsBuilderF.of (Lib.fresh_isBuilder _ _ w), (Below.refl _ _).alloc (Nat.le_refl _) _⟩

theorem byteCells_snoc (l : List UInt8) (c : UInt8) : Lib.byteCells (l ++ [c]) = Lib.byteCells l ++ [.int .u8 (c.toNat : Int)] := by simp [Lib.byteCells]

theorem PW.byte {w wr : World} {l : List UInt8} (h : PW w wr l) (c : UInt8) (hl : l.length + 1 ≤ 140737488355328) :
    Calls Tryd.prog 78 #[.pointer (some ⟨w.heap.size, 0, none⟩), .int .u8 (c.toNat : Int)] wr fun e w' => e = .returned .nilIface ∧ PW w w' (l ++ [c]) := by
  refine (Tryd.Builder_WriteByte_k w.heap.size w.heap.size _ (c.toNat : Int) wr h.build (by rw [Lib.byteCells_length]; exact hl) h.below.size).mono ?_
  rintro e w' ⟨he, h1, h2, _⟩
  exact ⟨he, .inr (by rw [byteCells_snoc]; exact h1), h.below.trans h2⟩

theorem PW.string {w wr : World} {l : List UInt8} (h : PW w wr l) :
    Calls Tryd.prog 46 #[.pointer (some ⟨w.heap.size, 0, none⟩)] wr fun e w' => e = .returned (.string ⟨l.toArray⟩) ∧ PW w w' l := by
  refine (Tryd.Builder_String_any_k w.heap.size w.heap.size l wr h.build h.below.size).mono ?_
  rintro e w' ⟨he, h1, h2, _⟩
  exact ⟨he, h1, h.below.trans h2⟩

theorem shr_run (c : UInt8) : ∀ w, (binOp .shr 5 (.int .u8 (c.toNat : Int)) (.int .u64 4)).run Tryd.prog w = .ok (.int .u8 ((c.toNat / 16 : Nat) : Int)) w := by
  intro w
  simp [binOp, Op.shift]
  have e : (2 : Int) ^ min 4 IntKind.u8.bits = 16 := rfl
  rw [e, Int.fdiv_eq_ediv_of_nonneg _ (by decide)]

theorem and_run (c : UInt8) : ∀ w, (binOp .and 5 (.int .u8 (c.toNat : Int)) (.int .u8 15)).run Tryd.prog w = .ok (.int .u8 ((c.toNat % 16 : Nat) : Int)) w := by
  intro w
  simp [binOp, Op.intBits]
  have e : (2 : Nat) ^ IntKind.u8.bits = 256 := rfl
  have h := c.toNat_lt
  rw [e, Nat.mod_eq_of_lt (by omega), show (15 % 256 : Nat) = 2 ^ 4 - 1 from rfl, Nat.and_two_pow_sub_one_eq_mod]
  have q : ∀ m : Nat, m < 16 → IntKind.u8.wrap (m : Int) = (m : Int) := by decide
  rw [q _ (by omega)]
  omega

theorem beq_no {s : ByteArray} {l : List UInt8} (h : ¬ s.data.toList = l) : (s.toList == l) = false := by
  rw [ByteArray.toList_eq]
  exact beq_eq_false_iff_ne.2 h

theorem wrap_small2 {k : Nat} (h : k < 40000000000001) : wrap64 ((k : Int) + 1) = (k : Int) + 1 := by unfold wrap64; omega

theorem encL_next {l : List UInt8} {k : Nat} {c : UInt8} (h : l[k]? = some c) : encL (l.take (k + 1)) = encL (l.take k) ++ encC c := by
  rw [List.take_add_one, h]
  exact encL_snoc _ _

theorem encC_yes {c : UInt8} (h1 : 32 < c.toNat) (h2 : c.toNat < 127) (h3 : c.toNat ≠ 37) : encC c = [c] := if_pos ⟨h1, h2, h3⟩

theorem encC_no {c : UInt8} (h : ¬ (32 < c.toNat ∧ c.toNat < 127 ∧ c.toNat ≠ 37)) : encC c = [37, hexC (c.toNat / 16), hexC (c.toNat % 16)] := if_neg h

theorem enc_room {s : ByteArray} (k : Nat) (hs : s.size ≤ 40000000000000) : (encL (s.data.toList.take k)).length ≤ 120000000000000 := by
  have h1 := encL_len (s.data.toList.take k)
  have h2 : (s.data.toList.take k).length ≤ s.data.toList.length := by rw [List.length_take]; omega
  have h3 : s.data.toList.length = s.size := by rw [Array.length_toList, ByteArray.size_data]
  omega

theorem told_end {a b : List UInt8} {c x y z : UInt8} (h : encC c = [x, y, z]) (hb : b = a ++ encC c) : a ++ [x] ++ [y] ++ [z] = b := by
  rw [hb, h]
  simp

theorem hexGet {n : Nat} (h : n < 16) : (⟨#[48, 49, 50, 51, 52, 53, 54, 55, 56, 57, 97, 98, 99, 100, 101, 102]⟩ : ByteArray)[n]'(h) = hexC n := by
  unfold hexC
  rw [List.getD_eq_getElem?_getD, List.getElem?_eq_getElem (by exact h)]
  rfl

theorem told_else {s : ByteArray} (h0 : ¬ s = ⟨#[]⟩) (h1 : ¬ s = ⟨#[45]⟩) : toldL s.data.toList = encL s.data.toList := by
  unfold toldL
  rw [if_neg (fun h => h0 (ByteArray.ext (Array.ext' h))), if_neg (fun h => h1 (ByteArray.ext (Array.ext' h)))]

set_option maxHeartbeats 1500000 in
set_option maxRecDepth 20000 in
theorem told_walk (w : World) (s : ByteArray) (hs : s.size ≤ 40000000000000) :
    Calls Tryd.prog 54 #[.string s] w fun r w' => r = .returned (.string ⟨(toldL s.data.toList).toArray⟩) ∧ Below w.heap.size w w' := by
  by_cases h0 : s = ⟨#[]⟩
  · subst h0
    go_enter Tryd.func54, Tryd.ntmps54
    go_wp2
    go_ret
    exact ⟨rfl, Below.refl _ _⟩
  by_cases h1 : s = ⟨#[45]⟩
  · subst h1
    go_enter Tryd.func54, Tryd.ntmps54
    go_wp2
    go_ret
    exact ⟨rfl, Below.refl _ _⟩
  rw [told_else h0 h1]
  have t0 := beq_no (l := []) (fun h => h0 (ByteArray.ext (Array.ext' h)))
  have t1 := beq_no (l := [45]) (fun h => h1 (ByteArray.ext (Array.ext' h)))
  obtain ⟨n, hn⟩ : ∃ n, n = s.size := ⟨_, rfl⟩
  have Hn := Lib.hid hn
  have Hs := Lib.hid hs
  have HT := Lib.hid (PW.start w)
  clear h0 h1 hn hs
  go_enter Tryd.func54, Tryd.ntmps54
  go_wp2
  clear t0 t1
  go_loopw [13] (fun i wr => ∃ k : Nat, i = .int .i64 (k : Int) ∧ Hid (k ≤ n ∧ PW w wr (encL (s.data.toList.take k)))) (fun i _ => n - (intOf i).toNat)
  case atStart => exact ⟨0, rfl, Lib.hid ⟨Nat.zero_le _, HT.out⟩⟩
  case round =>
    obtain ⟨k, rfl, H⟩ := hrel
    have hn := Hn.out
    by_cases hkn : k < n
    · obtain ⟨c, hc⟩ : ∃ c, s.data.toList[k]? = some c := ⟨s.data.toList[k]'(by rw [Array.length_toList, ByteArray.size_data]; omega), List.getElem?_eq_getElem _⟩
      have k1 := idx_run .i64 hc
      have b1 : (k : Int) < (n : Int) := by omega
      have c1 : (k : Int) < (s.size : Int) := by omega
      have hs := Hs.out
      have wk := wrap_small2 (show k < 40000000000001 by omega)
      have Hms := Lib.hid (meas_step hkn wk)
      have Hgo := Lib.hid (go_step wk)
      have Hnx := Lib.hid (encL_next hc)
      have Hkn := Lib.hid hkn
      have Hrm := Lib.hid (enc_room k hs)
      have hP := H.out.2
      clear hn hc hkn wk hs H
      generalize encL (s.data.toList.take k) = l at *
      by_cases hp : 32 < c.toNat ∧ c.toNat < 127 ∧ c.toNat ≠ 37
      · have Hb := Lib.hid (hP.byte c (by have := Hrm.out; omega))
        have Hy := Lib.hid (encC_yes hp.1 hp.2.1 hp.2.2)
        have p1 : (32 : Int) < (c.toNat : Int) := by omega
        have p2 : (c.toNat : Int) < 127 := by omega
        have p3 : ((c.toNat : Int) != 37) = true := by
          have := hp.2.2
          simp
          omega
        clear hp hP
        go_wp2_with fail
        refine Hb.out.mono ?_
        rintro e w1 ⟨rfl, h1⟩
        have hnx := Hnx.out
        rw [Hy.out] at hnx
        rw [← hnx] at h1
        have Hend := Lib.hid (show k + 1 ≤ n ∧ PW w w1 (encL (s.data.toList.take (k + 1))) from ⟨Hkn.out, h1⟩)
        clear h1 hnx Hb Hnx
        go_wp2
        go_roundw
        case rel => exact ⟨k + 1, Hgo.out, Hend⟩
        case measure => exact Hms.out
      · have Hno := Lib.hid (encC_no hp)
        have Hb := Lib.hid (hP.byte 37 (by have := Hrm.out; omega))
        have Hp := Lib.hid hp
        have k2 := shr_run c
        have k3 := and_run c
        have q1 : c.toNat / 16 < 16 := by have := c.toNat_lt; omega
        have q2 : c.toNat % 16 < 16 := by omega
        have e1 := Lib.hid (hexGet q1)
        have e2 := Lib.hid (hexGet q2)
        have hcase : (c.toNat : Int) ≤ 32 ∨ (32 < (c.toNat : Int) ∧ 127 ≤ (c.toNat : Int)) ∨ (32 < (c.toNat : Int) ∧ (c.toNat : Int) < 127 ∧ ((c.toNat : Int) != 37) = false) := by
          by_cases q1 : c.toNat ≤ 32
          · exact .inl (by omega)
          by_cases q2 : 127 ≤ c.toNat
          · exact .inr (.inl ⟨by omega, by omega⟩)
          · have q3 : c.toNat = 37 := Classical.byContradiction fun q3 => hp ⟨by omega, by omega, q3⟩
            exact .inr (.inr ⟨by omega, by omega, by rw [q3]; rfl⟩)
        clear hp hP
        have Hn2 := Lib.hid (told_end Hno.out Hnx.out)
        clear Hno Hnx
        rcases hcase with p1 | ⟨p1, p2⟩ | ⟨p1, p2, p3⟩
        all_goals
          go_wp2_with fail
          refine Hb.out.mono ?_
          rintro e w1 ⟨rfl, h1⟩
          have Hb2 := Lib.hid (h1.byte ((⟨#[48, 49, 50, 51, 52, 53, 54, 55, 56, 57, 97, 98, 99, 100, 101, 102]⟩ : ByteArray)[c.toNat / 16]'q1) (by rw [List.length_append]; have := Hrm.out; simp; omega))
          clear h1 Hb
          go_wp2_with fail
          refine Hb2.out.mono ?_
          rintro e w2 ⟨rfl, h2⟩
          have Hb3 := Lib.hid (h2.byte ((⟨#[48, 49, 50, 51, 52, 53, 54, 55, 56, 57, 97, 98, 99, 100, 101, 102]⟩ : ByteArray)[c.toNat % 16]'q2) (by rw [List.length_append, List.length_append]; have := Hrm.out; simp; omega))
          clear h2 Hb2
          go_wp2_with fail
          refine Hb3.out.mono ?_
          rintro e w3 ⟨rfl, h3⟩
          rw [e1.out, e2.out, Hn2.out] at h3
          have Hend := Lib.hid (show k + 1 ≤ n ∧ PW w w3 (encL (s.data.toList.take (k + 1))) from ⟨Hkn.out, h3⟩)
          clear h3 Hb3
          go_wp2
          go_roundw
          case rel => exact ⟨k + 1, Hgo.out, Hend⟩
          case measure => exact Hms.out
    · have hP := H.out.2
      have hge : n ≤ k := by omega
      have b2 : (s.size : Int) ≤ (k : Int) := by omega
      rw [List.take_of_length_le (by rw [Array.length_toList, ByteArray.size_data]; omega)] at hP
      have Hs2 := Lib.hid (hP.string)
      clear hP hn H
      go_wp2_with fail
      refine Hs2.out.mono ?_
      rintro e w1 ⟨rfl, h1⟩
      have Hend := Lib.hid h1.below
      clear h1 Hs2
      go_wp2
      go_ret
      exact ⟨rfl, Hend.out⟩

end Go.Proofs.YthpflfcgnaichaaDoor
