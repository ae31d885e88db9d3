/-
Plain laws of an entry's line: what is told is read back.
-/
import Derived.Test.YthpflfcgnaichaaDoorTraRefLine
import Derived.Lib.AtoiAll
import Derived.Lib.ParseIntB
import Derived.Lib.Split
set_option linter.unusedVariables false
set_option linter.unusedSimpArgs false
namespace Go.Proofs.YthpflfcgnaichaaDoor
open Go Go.RowKit

def isDg (c : UInt8) : Bool := decide (48 ≤ c.toNat ∧ c.toNat ≤ 57)
def numF (acc : Nat) (l : List UInt8) : Nat := l.foldl (fun n c => 10 * n + (c.toNat - 48)) acc

theorem dgt_nat {d : Nat} (h : d < 10) : (UInt8.ofNat (48 + d)).toNat = 48 + d := UInt8.toNat_ofNat_of_lt (by show 48 + d < 256; omega)

theorem isDg_dgt {d : Nat} (h : d < 10) : isDg (UInt8.ofNat (48 + d)) = true := by
  unfold isDg
  rw [dgt_nat h]
  simp
  omega

theorem dec_step (u : Nat) (h : ¬ u < 10) : Lib.decDigits u = Lib.decDigits (u / 10) ++ [UInt8.ofNat (48 + u % 10)] := by
  conv => lhs; rw [Lib.decDigits]
  rw [dif_neg h]

theorem dec_dg (u : Nat) : (Lib.decDigits u).all isDg = true := by
  induction u using Nat.strongRecOn with
  | _ u ih =>
    by_cases h : u < 10
    · rw [Lib.decDigits_one h, List.all_cons, List.all_nil, isDg_dgt h]
      rfl
    · rw [dec_step u h, List.all_append, ih (u / 10) (by omega), List.all_cons, List.all_nil, isDg_dgt (show u % 10 < 10 by omega)]
      rfl

theorem dec_num (u : Nat) : numF 0 (Lib.decDigits u) = u := by
  induction u using Nat.strongRecOn with
  | _ u ih =>
    by_cases h : u < 10
    · rw [Lib.decDigits_one h]
      unfold numF
      simp only [List.foldl_cons, List.foldl_nil]
      rw [dgt_nat h]
      omega
    · rw [dec_step u h]
      unfold numF at ih ⊢
      rw [List.foldl_append, ih (u / 10) (by omega)]
      simp only [List.foldl_cons, List.foldl_nil]
      rw [dgt_nat (show u % 10 < 10 by omega)]
      omega

theorem dec_ne (u : Nat) : Lib.decDigits u ≠ [] := fun h => by
  have h1 := Lib.decDigits_length u
  have h2 := Lib.nDigits_pos u
  rw [h] at h1
  simp at h1
  omega

theorem num_ge (l : List UInt8) : ∀ acc, acc ≤ numF acc l := by
  induction l with
  | nil => intro acc; exact Nat.le_refl _
  | cons c r ih => intro acc; exact Nat.le_trans (by omega) (ih (10 * acc + (c.toNat - 48)))

theorem isDg_iff {c : UInt8} : isDg c = true ↔ 48 ≤ c.toNat ∧ c.toNat ≤ 57 := by unfold isDg; rw [decide_eq_true_eq]

theorem parse_ok : ∀ (l : List UInt8) (acc : Nat), l.all isDg = true → numF acc l < 18446744073709551616 → Lib.parseUint10 acc l = .ok (numF acc l) ∧ Lib.parseUintM 18446744073709551615 acc l = .ok (numF acc l)
  | [], acc, _, _ => ⟨rfl, rfl⟩
  | c :: r, acc, hd, hn => by
    rw [List.all_cons, Bool.and_eq_true] at hd
    have h2 := isDg_iff.1 hd.1
    have hn' : numF (10 * acc + (c.toNat - 48)) r < 18446744073709551616 := hn
    have h3 := num_ge r (10 * acc + (c.toNat - 48))
    have e : acc * 10 = 10 * acc := Nat.mul_comm _ _
    obtain ⟨i1, i2⟩ := parse_ok r (10 * acc + (c.toNat - 48)) hd.2 hn'
    constructor
    · unfold Lib.parseUint10
      rw [if_pos h2, if_neg (by omega), if_neg (by omega), e]
      exact i1
    · unfold Lib.parseUintM
      rw [if_pos h2, if_neg (by omega), if_neg (by omega), e]
      exact i2

/-- Atoi reads back what Itoa told. -/
theorem atoi_back (n : Int) (h0 : -1 ≤ n) (h1 : n ≤ 9223372036854775807) : Lib.atoiAll (Lib.itoa n) = .ok n := by
  by_cases hm : n = -1
  · subst hm; decide +kernel
  · obtain ⟨k, rfl⟩ : ∃ k : Nat, n = (k : Int) := ⟨n.toNat, by omega⟩
    rw [Lib.itoa_nonneg]
    have hall := dec_dg k
    have hnum := dec_num k
    have hne := dec_ne k
    obtain ⟨c, r, hl⟩ : ∃ c r, Lib.decDigits k = c :: r := by
      cases h : Lib.decDigits k with
      | nil => exact absurd h hne
      | cons c r => exact ⟨c, r, rfl⟩
    rw [hl] at hall hnum ⊢
    have hall2 := hall
    rw [List.all_cons, Bool.and_eq_true] at hall2
    have hc := isDg_iff.1 hall2.1
    have hp := (parse_ok (c :: r) 0 hall (by rw [hnum]; omega)).1
    rw [hnum] at hp
    unfold Lib.atoiAll Lib.parseMag
    dsimp only
    have m1 : ¬ (c.toNat = 43 ∨ c.toNat = 45) := by omega
    rw [if_neg m1, if_neg (by simp), hp]
    dsimp only
    have n1 : ¬ (¬ c.toNat = 45 ∧ 9223372036854775808 ≤ k) := by omega
    have n2 : ¬ (c.toNat = 45 ∧ 9223372036854775808 < k) := by omega
    have n3 : ¬ c.toNat = 45 := by omega
    simp only [n3, not_false_eq_true, true_and, false_and, if_false]
    rw [if_neg (by omega)]

theorem puint_back (n : Nat) (h : n < 18446744073709551616) : Lib.parseUintB 64 (Lib.decDigits n) = .ok n := by
  unfold Lib.parseUintB
  rw [if_neg (dec_ne n)]
  have := (parse_ok (Lib.decDigits n) 0 (dec_dg n) (by rw [dec_num]; exact h)).2
  rw [dec_num] at this
  exact this

theorem itoa_inj {n m : Int} (h0 : -1 ≤ n) (h1 : n ≤ 9223372036854775807) (g0 : -1 ≤ m) (g1 : m ≤ 9223372036854775807) (h : Lib.itoa n = Lib.itoa m) : n = m := by
  have a := atoi_back n h0 h1
  have b := atoi_back m g0 g1
  rw [h, b] at a
  injection a with a
  exact a.symm

theorem dec_inj {n m : Nat} (h : Lib.decDigits n = Lib.decDigits m) : n = m := by rw [← dec_num n, h, dec_num m]

/-- A hexadecimal digit's value, or -1. -/
def hexV (c : UInt8) : Int := Lib.indexByte hexB.data.toList c

theorem hexV_of : ∀ q : Nat, q < 16 → hexV (hexC q) = (q : Int) := by decide +kernel

/-- A text out of its form, as far as it can be read (two bytes behind a stroke). -/
def txtL : List UInt8 → List UInt8
  | [] => []
  | [c] => [c]
  | [c, h] => [c, h]
  | c :: h :: l :: r => if c.toNat = 37 then UInt8.ofNat ((16 * hexV h + hexV l % 16) % 256).toNat :: txtL r else c :: txtL (h :: l :: r)

theorem txtL_nil : txtL [] = [] := by rw [txtL]

theorem txtL_plain {c : UInt8} (r : List UInt8) (h : ¬ c.toNat = 37) : txtL (c :: r) = c :: txtL r := by
  cases r with
  | nil => simp [txtL]
  | cons x r =>
    cases r with
    | nil => rw [txtL, txtL]
    | cons y r => rw [txtL, if_neg h]

theorem txtL_short {c : UInt8} (r : List UInt8) (h : r.length < 2) : txtL (c :: r) = c :: txtL r := by
  cases r with
  | nil => simp [txtL]
  | cons x r =>
    cases r with
    | nil => rw [txtL, txtL]
    | cons y r => simp at h; omega

theorem txtL_hex {c : UInt8} (h l : UInt8) (r : List UInt8) (hc : c.toNat = 37) : txtL (c :: h :: l :: r) = UInt8.ofNat ((16 * hexV h + hexV l % 16) % 256).toNat :: txtL r := by
  rw [txtL, if_pos hc]

theorem hex_back : ∀ n : Nat, n < 256 → UInt8.ofNat ((16 * hexV (hexC (n / 16)) + hexV (hexC (n % 16)) % 16) % 256).toNat = UInt8.ofNat n := by
  intro n hn
  rw [hexV_of _ (by omega), hexV_of _ (by omega)]
  congr 1
  omega

theorem txt_enc (l : List UInt8) (r : List UInt8) : txtL (encL l ++ r) = l ++ txtL r := by
  induction l with
  | nil => rfl
  | cons c l ih =>
    show txtL ((encC c ++ encL l) ++ r) = _
    by_cases h : 32 < c.toNat ∧ c.toNat < 127 ∧ c.toNat ≠ 37
    · rw [encC_yes h.1 h.2.1 h.2.2]
      show txtL (c :: (encL l ++ r)) = _
      rw [txtL_plain _ h.2.2, ih]
      rfl
    · rw [encC_no h]
      show txtL (37 :: hexC (c.toNat / 16) :: hexC (c.toNat % 16) :: (encL l ++ r)) = _
      rw [txtL_hex _ _ _ rfl, ih, hex_back _ c.toNat_lt, UInt8.ofNat_toNat]
      rfl

/-- The program's reading of a told form. -/
def txtS (l : List UInt8) : List UInt8 := if l = [45] then [] else txtL l

theorem encL_ne {l : List UInt8} (h : l ≠ []) (h1 : l ≠ [45]) : encL l ≠ [45] := by
  intro e
  have q := txt_enc l []
  rw [List.append_nil, e] at q
  have q2 : txtL [45] = [45] := by rw [txtL_plain _ (by decide), txtL_nil]
  rw [q2] at q
  rw [txtL_nil, List.append_nil] at q
  exact h1 q.symm

theorem txt_told (l : List UInt8) : txtS (toldL l) = l := by
  unfold toldL
  by_cases h : l = []
  · rw [if_pos h, h]; rfl
  by_cases h1 : l = [45]
  · rw [if_neg h, if_pos h1, h1]
    unfold txtS
    rw [if_neg (by decide), txtL_hex _ _ _ (by decide), txtL_nil]
    decide +kernel
  · rw [if_neg h, if_neg h1]
    unfold txtS
    rw [if_neg (encL_ne h h1)]
    have := txt_enc l []
    rw [List.append_nil] at this
    rw [this, txtL_nil, List.append_nil]

theorem told_inj {a b : ByteArray} (h : toldB a = toldB b) : a = b := by
  have h1 : toldL a.data.toList = toldL b.data.toList := by
    have := congrArg (fun s : ByteArray => s.data.toList) h
    exact this
  have h2 : a.data.toList = b.data.toList := by rw [← txt_told a.data.toList, h1, txt_told]
  exact ByteArray.ext (Array.ext' h2)

/-- No byte of a told part is a blank or a line feed. -/
def visible (c : UInt8) : Bool := decide (33 ≤ c.toNat)

theorem vis_dec (n : Nat) : (Lib.decDigits n).all visible = true := by
  have h := dec_dg n
  rw [List.all_eq_true] at h ⊢
  intro c hc
  have := isDg_iff.1 (h c hc)
  unfold visible
  rw [decide_eq_true_eq]
  omega

theorem vis_itoa (n : Int) : (Lib.itoa n).all visible = true := by
  unfold Lib.itoa
  split
  · rw [List.all_cons, vis_dec]
    decide
  · exact vis_dec _

theorem vis_hex : ∀ q : Nat, q < 16 → visible (hexC q) = true := by decide +kernel

theorem vis_encC (c : UInt8) : (encC c).all visible = true := by
  have hlt := c.toNat_lt
  by_cases h : 32 < c.toNat ∧ c.toNat < 127 ∧ c.toNat ≠ 37
  · rw [encC_yes h.1 h.2.1 h.2.2]
    unfold visible
    simp
    omega
  · rw [encC_no h]
    simp only [List.all_cons, List.all_nil, Bool.and_true, Bool.and_eq_true]
    exact ⟨by decide, vis_hex _ (by omega), vis_hex _ (by omega)⟩

theorem vis_told (l : List UInt8) : (toldL l).all visible = true := by
  unfold toldL
  split
  · decide
  · split
    · decide
    · induction l with
      | nil => rfl
      | cons c l ih =>
        show (encC c ++ encL l).all visible = true
        rw [List.all_append, vis_encC]
        by_cases h : l = []
        · subst h; rfl
        · by_cases h1 : l = [45]
          · subst h1; decide +kernel
          · exact ih h h1

theorem vis_parts (x : Ent) : ∀ p ∈ (partsB x).map (·.data.toList), p.all visible = true := by
  intro p hp
  obtain ⟨s, hs, rfl⟩ := List.mem_map.1 hp
  unfold partsB at hs
  simp only [List.mem_cons, List.not_mem_nil, or_false] at hs
  rcases hs with rfl | rfl | rfl | rfl | rfl | rfl | rfl | rfl | rfl | rfl | rfl | rfl | rfl | rfl | rfl
  all_goals first
    | exact vis_itoa _
    | exact vis_told _
    | exact vis_dec _

/-- Cut at blanks. -/
def wordsL : List UInt8 → List (List UInt8)
  | [] => [[]]
  | c :: r => if c.toNat = 32 then [] :: wordsL r else match wordsL r with
    | [] => [[c]]
    | p :: ps => (c :: p) :: ps

theorem wordsL_sp (r : List UInt8) : wordsL (32 :: r) = [] :: wordsL r := by
  rw [wordsL, if_pos (by decide)]

theorem words_ne (l : List UInt8) : wordsL l ≠ [] := by
  cases l with
  | nil => simp [wordsL]
  | cons c r =>
    rw [wordsL]
    split
    · simp
    · split <;> simp

theorem wordsL_ch {c : UInt8} {r p : List UInt8} {ps : List (List UInt8)} (h : ¬ c.toNat = 32) (hw : wordsL r = p :: ps) : wordsL (c :: r) = (c :: p) :: ps := by
  rw [wordsL, if_neg h, hw]

theorem words_some (l : List UInt8) : ∃ p ps, wordsL l = p :: ps := by
  cases h : wordsL l with
  | nil => exact absurd h (words_ne l)
  | cons p ps => exact ⟨p, ps, rfl⟩

theorem words_join (l : List UInt8) : Lib.join (wordsL l) [32] = l := by
  induction l with
  | nil => rfl
  | cons c r ih =>
    obtain ⟨p, ps, hw⟩ := words_some r
    rw [hw, Lib.join_cons] at ih
    by_cases h : c.toNat = 32
    · have hc : c = 32 := by apply UInt8.toNat_inj.1; rw [h]; rfl
      rw [hc, wordsL_sp, hw, Lib.join_cons, ← ih]
      simp [Lib.joinTail]
    · rw [wordsL_ch h hw, Lib.join_cons, List.cons_append, ih]

theorem vis_ne {c : UInt8} (h : visible c = true) : ¬ c.toNat = 32 := by
  unfold visible at h
  rw [decide_eq_true_eq] at h
  omega

theorem words_one (p : List UInt8) (h : p.all visible = true) : wordsL p = [p] := by
  induction p with
  | nil => rfl
  | cons c r ih =>
    rw [List.all_cons, Bool.and_eq_true] at h
    exact wordsL_ch (vis_ne h.1) (ih h.2)

theorem words_more (p q : List UInt8) (h : p.all visible = true) : wordsL (p ++ 32 :: q) = p :: wordsL q := by
  induction p with
  | nil => exact wordsL_sp q
  | cons c r ih =>
    rw [List.all_cons, Bool.and_eq_true] at h
    exact wordsL_ch (vis_ne h.1) (ih h.2)

theorem words_of_join : ∀ (ps : List (List UInt8)), ps ≠ [] → (∀ p ∈ ps, p.all visible = true) → wordsL (Lib.join ps [32]) = ps
  | [], h, _ => absurd rfl h
  | [p], _, h => by rw [Lib.join_one]; exact words_one p (h p (List.mem_singleton.2 rfl))
  | p :: q :: r, _, h => by
    have ih := words_of_join (q :: r) (by simp) fun x hx => h x (List.mem_cons_of_mem _ hx)
    rw [Lib.join_cons]
    rw [Lib.join_cons] at ih
    simp only [Lib.joinTail, List.map_cons, List.flatten_cons, List.cons_append, List.nil_append] at ih ⊢
    rw [words_more _ _ (h p (List.mem_cons_self ..)), ih]

/-- A line without its line feed says an entry. -/
structure IsL (l : List UInt8) (e : Ent) : Prop where
  fit : e.Fit
  may : e.may = true
  num : 0 ≤ e.number
  line : lineL e = l ++ [10]

theorem IsL.words {l : List UInt8} {e : Ent} (h : IsL l e) : wordsL l = (partsB e).map (·.data.toList) := by
  have h1 : Lib.join ((partsB e).map (·.data.toList)) [32] = l := by
    have := h.line
    unfold lineL at this
    exact List.append_cancel_right this
  rw [← h1]
  exact words_of_join _ (by unfold partsB; simp) (vis_parts e)

theorem IsL.vis {l : List UInt8} {e : Ent} (h : IsL l e) : ∀ c ∈ l, 32 ≤ c.toNat := by
  have h1 : Lib.join ((partsB e).map (·.data.toList)) [32] = l := by
    have := h.line
    unfold lineL at this
    exact List.append_cancel_right this
  rw [← h1]
  have hv := vis_parts e
  generalize (partsB e).map (·.data.toList) = ps at hv
  intro c hc
  have key : ∀ ps : List (List UInt8), (∀ p ∈ ps, p.all visible = true) → ∀ c ∈ Lib.joinTail [32] ps, 32 ≤ c.toNat := by
    intro ps
    induction ps with
    | nil => intro _ c hc; simp [Lib.joinTail] at hc
    | cons p r ih =>
      intro h c hc
      simp only [Lib.joinTail, List.map_cons, List.flatten_cons, List.mem_append, List.mem_cons, List.not_mem_nil, or_false] at hc
      rcases hc with (rfl | hc) | hc
      · decide
      · have := (List.all_eq_true.1 (h p (List.mem_cons_self ..))) c hc
        unfold visible at this
        rw [decide_eq_true_eq] at this
        omega
      · exact ih (fun q hq => h q (List.mem_cons_of_mem _ hq)) c hc
  cases ps with
  | nil => simp [Lib.join_nil] at hc
  | cons p r =>
    rw [Lib.join_cons, List.mem_append] at hc
    rcases hc with hc | hc
    · have := (List.all_eq_true.1 (hv p (List.mem_cons_self ..))) c hc
      unfold visible at this
      rw [decide_eq_true_eq] at this
      omega
    · exact key r (fun q hq => hv q (List.mem_cons_of_mem _ hq)) c hc

theorem IsL.uniq {l : List UInt8} {e e' : Ent} (h : IsL l e) (h' : IsL l e') : e = e' := by
  have q := h.words.symm.trans h'.words
  have m := may_parts h.may h.num
  have m' := may_parts h'.may h'.num
  have f := h.fit
  have f' := h'.fit
  unfold partsB at q
  simp only [List.map_cons, List.map_nil, List.cons.injEq, and_true] at q
  obtain ⟨q0, q1, q2, q3, q4, q5, q6, q7, q8, q9, q10, q11, q12, q13, q14⟩ := q
  have i0 := itoa_inj m.number f.number.2 m'.number f'.number.2 q0
  have i1 := itoa_inj m.version f.version.2 m'.version f'.version.2 q1
  have i2 := itoa_inj m.epoch f.epoch.2 m'.epoch f'.epoch.2 q2
  have i8 := itoa_inj m.kind f.kind.2 m'.kind f'.kind.2 q8
  have i9 := itoa_inj m.status f.status.2 m'.status f'.status.2 q9
  have i11 := itoa_inj m.rule f.rule.2 m'.rule f'.rule.2 q11
  have i14 := itoa_inj m.fin f.fin.2 m'.fin f'.fin.2 q14
  have i6 := dec_inj q6
  have i7 := dec_inj q7
  have s3 := told_inj (ByteArray.ext (Array.ext' q3))
  have s4 := told_inj (ByteArray.ext (Array.ext' q4))
  have s5 := told_inj (ByteArray.ext (Array.ext' q5))
  have s10 := told_inj (ByteArray.ext (Array.ext' q10))
  have s12 := told_inj (ByteArray.ext (Array.ext' q12))
  have s13 := told_inj (ByteArray.ext (Array.ext' q13))
  obtain ⟨⟩ := e
  obtain ⟨⟩ := e'
  simp only at *
  subst i0 i1 i2 i6 i7 i8 i9 i11 i14 s3 s4 s5 s10 s12 s13
  rfl

end Go.Proofs.YthpflfcgnaichaaDoor
