/-
The bytes of a number's text; a letter more makes a text of it. Plain laws.
-/
import Derived.Test.YtbmdbfidjdogmaaDoorScaAwake
set_option linter.unusedVariables false
set_option linter.unusedSimpArgs false
namespace Go.Proofs.YtbmdbfidjdogmaaDoor
open Go Go.RowKit

/-- May a number's text have that byte? -/
def digC (c : UInt8) : Bool := isD c || c == 45 || c == 46 || c == 101

theorem digC_of {c : UInt8} (h : isD c = true) : digC c = true := by unfold digC; rw [h]; rfl

theorem minusL_form (l : List UInt8) : (minusL l).2 = true ∧ l = 45 :: (minusL l).1 ∨ (minusL l).2 = false ∧ l = (minusL l).1 := by
  cases l with
  | nil => exact .inr ⟨rfl, rfl⟩
  | cons c r =>
    by_cases h : c = 45
    · subst h; exact .inl ⟨rfl, rfl⟩
    · refine .inr ?_
      have : minusL (c :: r) = (c :: r, false) := by
        show (if c = 45 then (r, true) else (c :: r, false)) = _
        rw [if_neg h]
      rw [this]
      exact ⟨rfl, rfl⟩

theorem minusL_mem {l : List UInt8} (h : ∀ c ∈ (minusL l).1, digC c = true) : ∀ c ∈ l, digC c = true := by
  rcases minusL_form l with ⟨_, e⟩ | ⟨_, e⟩
  · rw [e]
    intro c hc
    rcases List.mem_cons.1 hc with rfl | q
    · decide
    · exact h c q
  · rw [e]; exact h

theorem all_mem {l : List UInt8} (h : l.all isD = true) : ∀ c ∈ l, digC c = true := fun c hc => digC_of (List.all_eq_true.1 h c hc)

theorem intR_chars {l : List UInt8} {n : Int} (h : intR l = some n) : ∀ c ∈ l, digC c = true := by
  refine minusL_mem ?_
  cases hw : wholeL (minusL l).1 with
  | false =>
    unfold intR at h
    rw [if_pos hw] at h
    cases h
  | true => exact all_mem (whole_all hw)

theorem cutL_mem (l : List UInt8) (e : UInt8) (he : digC e = true) (h1 : ∀ c ∈ (cutL l e).1, digC c = true) (h2 : ∀ c ∈ (cutL l e).2.1, digC c = true) : ∀ c ∈ l, digC c = true := by
  obtain ⟨x, y, ok, hc⟩ : ∃ x y ok, cutL l e = (x, y, ok) := ⟨_, _, _, rfl⟩
  rw [hc] at h1 h2
  cases ok with
  | true =>
    obtain ⟨q, _⟩ := cutL_true hc
    rw [q]
    intro c hm
    rcases List.mem_append.1 hm with m | m
    · exact h1 c m
    · rcases List.mem_cons.1 m with rfl | m
      · exact he
      · exact h2 c m
  | false =>
    unfold cutL at hc
    split at hc
    · simp only [Prod.mk.injEq] at hc
      rw [← hc.1] at h1
      exact h1
    · cases hc

theorem powR_mem {b : Bool} {l : List UInt8} {k : Int} (h : powR b l = some k) (hb : b = true) : ∀ c ∈ l, digC c = true := by
  subst hb
  refine minusL_mem ?_
  unfold powR at h
  rw [if_pos rfl] at h
  split at h
  · rename_i hc
    exact all_mem (allD_all hc.1)
  · cases h

theorem decR_chars {l : List UInt8} {p : Nat × Int × Bool} (h : decR l = some p) : ∀ c ∈ l, digC c = true := by
  refine minusL_mem ?_
  unfold decR at h
  dsimp only at h
  split at h
  · rename_i hc
    split at h
    · rename_i k hk
      refine cutL_mem _ 101 (by decide) (cutL_mem _ 46 (by decide) (all_mem (whole_all hc.2.1)) (all_mem (allD_all hc.2.2))) ?_
      cases hp : (cutL (minusL l).1 101).2.2 with
      | true => exact powR_mem hk hp
      | false =>
        have : (cutL (minusL l).1 101).2.1 = [] := by
          unfold cutL at hp ⊢
          split at hp
          · rename_i ha; rw [if_pos ha]
          · cases hp
        rw [this]
        intro c hm
        cases hm
    · cases h
  · cases h

/-- Is it one of the three words of reals? -/
def wordB (l : List UInt8) : Bool := (l == [46, 110, 97, 110] || l == [46, 105, 110, 102]) || l == [45, 46, 105, 110, 102]

theorem sub_num {x m : Nat} {neg : Bool} {p : Int} (h : Ieee.double.read x = .number neg m p) : floatBits .sub .f64 x x = some 0 := by
  show Ieee.double.sub x x = some 0
  unfold Ieee.Format.sub
  rw [h]
  have e : ∀ k : Nat, Ieee.signed neg m k + Ieee.signed (!neg) m k = 0 := by
    intro k
    unfold Ieee.signed
    cases neg <;> simp <;> omega
  show (Ieee.Datum.sum (.number neg m p) (.number (!neg) m p)).map Ieee.double.write = some 0
  unfold Ieee.Datum.sum
  dsimp only
  rw [e]
  cases neg
  · show some (Ieee.double.nearest false 0 _) = some 0
    unfold Ieee.Format.nearest
    rw [if_pos rfl, word_false]
  · show some (Ieee.double.nearest false 0 _) = some 0
    unfold Ieee.Format.nearest
    rw [if_pos rfl, word_false]

theorem read_num {y : Nat} (hy : y < INF) (b : Bool) : ∃ neg m p, Ieee.double.read (if b = true then negW y else y) = .number neg m p := by
  cases b with
  | true =>
    obtain ⟨mag, up, h1, _⟩ := read_neg y hy
    rw [if_pos rfl, negW_low (by unfold INF at hy; omega), h1]
    exact ⟨_, _, _, rfl⟩
  | false =>
    obtain ⟨mag, up, h1, _⟩ := read_pos y hy
    rw [if_neg (by simp), h1]
    exact ⟨_, _, _, rfl⟩

theorem num_self {x m : Nat} {neg : Bool} {p : Int} (h : Ieee.double.read x = .number neg m p) : (FloatKind.f64.format.order x x != some .eq) = false := by
  rcases order_self x with q | q
  · rw [q]; rfl
  · exfalso
    have q' : Ieee.double.order x x = none := q
    unfold Ieee.Format.order at q'
    rw [h] at q'
    cases q'

/-- The forms of what is read of a plain text. -/
inductive Form (s : ByteArray) : Val → Prop where
  | small (k : Int) (b : Bool) (hk : k = 1 ∧ b = false ∨ k = 2) (hw : wordB s.data.toList = false) : Form s ⟨k, b, 0, 0, ⟨#[]⟩⟩
  | int (i : Int) (hc : ∀ c ∈ s.data.toList, digC c = true) (hw : wordB s.data.toList = false) : Form s ⟨3, false, i, 0, ⟨#[]⟩⟩
  | real (x m : Nat) (neg : Bool) (p : Int) (hr : Ieee.double.read x = .number neg m p) (hc : ∀ c ∈ s.data.toList, digC c = true) (hw : wordB s.data.toList = false) : Form s ⟨4, false, 0, x, ⟨#[]⟩⟩
  | nan (hs : s = ⟨#[46, 110, 97, 110]⟩) : Form s ⟨4, false, 0, nanB, ⟨#[]⟩⟩
  | inf (hs : s = ⟨#[46, 105, 110, 102]⟩) : Form s ⟨4, false, 0, infB, ⟨#[]⟩⟩
  | ninf (hs : s = ⟨#[45, 46, 105, 110, 102]⟩) : Form s ⟨4, false, 0, ninfB, ⟨#[]⟩⟩
  | text (hw : wordB s.data.toList = false) : Form s ⟨5, false, 0, 0, s⟩

theorem word_no {l : List UInt8} (h1 : ¬ l = [46, 110, 97, 110]) (h2 : ¬ l = [46, 105, 110, 102]) (h3 : ¬ l = [45, 46, 105, 110, 102]) : wordB l = false := by
  unfold wordB
  simp [h1, h2, h3]

theorem read_form (s : ByteArray) : Form s (readS s false) := by
  by_cases h1 : s.data.toList = [46, 110, 97, 110]
  · have e : readS s false = ⟨4, false, 0, nanB, ⟨#[]⟩⟩ := by unfold readS; rw [h1]; simp
    rw [e]; exact .nan (ba_ext h1)
  by_cases h2 : s.data.toList = [46, 105, 110, 102]
  · have e : readS s false = ⟨4, false, 0, infB, ⟨#[]⟩⟩ := by unfold readS; rw [h2]; simp
    rw [e]; exact .inf (ba_ext h2)
  by_cases h3 : s.data.toList = [45, 46, 105, 110, 102]
  · have e : readS s false = ⟨4, false, 0, ninfB, ⟨#[]⟩⟩ := by unfold readS; rw [h3]; simp
    rw [e]; exact .ninf (ba_ext h3)
  have hw := word_no h1 h2 h3
  unfold readS
  rw [if_neg (by simp)]
  split
  · exact .small 1 false (.inl ⟨rfl, rfl⟩) hw
  split
  · exact .small 2 true (.inr rfl) hw
  split
  · exact .small 2 false (.inr rfl) hw
  unfold readN
  split
  · rename_i i hi
    exact .int i (intR_chars hi) hw
  · split
    · rename_i m k b hd
      obtain ⟨neg, mm, p, hr⟩ := read_num (sc_fin (decR_ok hd)) b
      exact .real _ mm neg p hr (decR_chars hd) hw
    · exact .text hw

/-- A letter more makes a text of it. -/
theorem read_x {s t : ByteArray} (h : t.data.toList = s.data.toList ++ [120]) : readS t false = ⟨5, false, 0, 0, t⟩ := by
  have hbad : ¬ (∀ c ∈ t.data.toList, digC c = true) := by
    intro q
    have := q 120 (by rw [h]; simp)
    revert this
    decide
  have hne : ∀ w : List UInt8, w.getLast? ≠ some 120 → t.data.toList ≠ w := by
    intro w hw q
    apply hw
    rw [← q, h]
    simp
  unfold readS
  rw [if_neg (by simp), if_neg, if_neg (hne _ (by decide)), if_neg (hne _ (by decide)), if_neg (hne _ (by decide)), if_neg (hne _ (by decide)), if_neg (hne _ (by decide))]
  · unfold readN
    cases hi : intR t.data.toList with
    | some i => exact absurd (intR_chars hi) hbad
    | none =>
      cases hd : decR t.data.toList with
      | some p => exact absurd (decR_chars hd) hbad
      | none => rfl
  · rintro (q | q | q)
    · exact hne [] (by decide) q
    · exact hne [126] (by decide) q
    · exact hne [110, 117, 108, 108] (by decide) q

theorem digit_mem {s : ByteArray} (h : ∀ c ∈ s.data.toList, digC c = true) {k : Nat} (hk : k < s.size) : digC s[k] = true := h _ (mem_get s k hk)

end Go.Proofs.YtbmdbfidjdogmaaDoor
