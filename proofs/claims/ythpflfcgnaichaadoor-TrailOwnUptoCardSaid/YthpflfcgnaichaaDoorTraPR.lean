/-
What a text says: the entries of its lines, as far as they are any.
-/
import Derived.Test.YthpflfcgnaichaaDoorTraPlain
import Derived.Test.YthpflfcgnaichaaDoorTraWords
set_option linter.unusedVariables false
set_option linter.unusedSimpArgs false
namespace Go.Proofs.YthpflfcgnaichaaDoor
open Go Go.RowKit

/-- The text l says the entries es, and all of it is said (true), or something behind them is none (false). -/
inductive PR : List UInt8 → List Ent → Bool → Prop
  | done : PR [] [] true
  | cut {l : List UInt8} (h : l ≠ []) (hn : ¬ (10 : UInt8) ∈ l) : PR l [] false
  | bad {x r : List UInt8} (hx : ¬ (10 : UInt8) ∈ x) (hb : ∀ e, ¬ IsL x e) : PR (x ++ 10 :: r) [] false
  | step {x r : List UInt8} {e : Ent} {es : List Ent} {b : Bool} (hx : ¬ (10 : UInt8) ∈ x) (he : IsL x e) (h : PR r es b) : PR (x ++ 10 :: r) (e :: es) b

theorem nl_split {x y r s : List UInt8} (hx : ¬ (10 : UInt8) ∈ x) (hy : ¬ (10 : UInt8) ∈ y) (h : x ++ 10 :: r = y ++ 10 :: s) : x = y ∧ r = s := by
  induction x generalizing y with
  | nil =>
    cases y with
    | nil => exact ⟨rfl, by simpa using h⟩
    | cons c y =>
      simp only [List.nil_append, List.cons_append, List.cons.injEq] at h
      exact absurd (h.1 ▸ List.mem_cons_self ..) hy
  | cons c x ih =>
    cases y with
    | nil =>
      simp only [List.nil_append, List.cons_append, List.cons.injEq] at h
      exact absurd (h.1 ▸ List.mem_cons_self ..) hx
    | cons d y =>
      simp only [List.cons_append, List.cons.injEq] at h
      obtain ⟨h1, h2⟩ := ih (fun m => hx (List.mem_cons_of_mem _ m)) (fun m => hy (List.mem_cons_of_mem _ m)) h.2
      exact ⟨by rw [h.1, h1], h2⟩

theorem PR.uniq {l : List UInt8} {es es' : List Ent} {b b' : Bool} (h : PR l es b) (h' : PR l es' b') : es = es' ∧ b = b' := by
  induction h generalizing es' b' with
  | done =>
    generalize hl : ([] : List UInt8) = l at h'
    cases h' with
    | done => exact ⟨rfl, rfl⟩
    | cut h hn => exact absurd hl.symm h
    | bad hx hb => simp at hl
    | step hx he h => simp at hl
  | @cut l h hn =>
    cases h' with
    | done => exact absurd rfl h
    | cut h hn => exact ⟨rfl, rfl⟩
    | bad hx hb => exact absurd (by simp) hn
    | step hx he h => exact absurd (by simp) hn
  | @bad x r hx hb =>
    generalize hl : x ++ 10 :: r = l at h'
    cases h' with
    | done => simp at hl
    | cut h hn => exact absurd (by rw [← hl]; simp) hn
    | bad hx' hb' => exact ⟨rfl, rfl⟩
    | step hx' he' h' =>
      obtain ⟨rfl, rfl⟩ := nl_split hx hx' hl
      exact absurd he' (hb _)
  | @step x r e es b hx he h ih =>
    generalize hl : x ++ 10 :: r = l at h'
    cases h' with
    | done => simp at hl
    | cut h hn => exact absurd (by rw [← hl]; simp) hn
    | bad hx' hb' =>
      obtain ⟨rfl, rfl⟩ := nl_split hx hx' hl
      exact absurd he (hb' _)
    | step hx' he' h' =>
      obtain ⟨rfl, rfl⟩ := nl_split hx hx' hl
      obtain ⟨rfl, rfl⟩ := ih h'
      exact ⟨by rw [he.uniq he'], rfl⟩

theorem is_nonl {l : List UInt8} {e : Ent} (h : IsL l e) : ¬ (10 : UInt8) ∈ l := fun m => by
  have := h.vis 10 m
  exact absurd this (by decide)

theorem PR.good {l : List UInt8} {es : List Ent} {b : Bool} (h : PR l es b) : ∀ e ∈ es, e.Fit ∧ e.may = true ∧ 0 ≤ e.number := by
  induction h with
  | done => nofun
  | cut h hn => nofun
  | bad hx hb => nofun
  | step hx he h ih =>
    intro e hm
    rcases List.mem_cons.1 hm with rfl | hm
    · exact ⟨he.fit, he.may, he.num⟩
    · exact ih e hm

/-- A text that says all is just the entries' lines. -/
theorem PR.text {l : List UInt8} {es : List Ent} {b : Bool} (h : PR l es b) (hb : b = true) : l = es.flatMap lineL := by
  induction h with
  | done => rfl
  | cut h hn => cases hb
  | bad hx hb' => cases hb
  | step hx he h ih =>
    rw [List.flatMap_cons, he.line, ← ih hb]
    simp

/-- The lines of entries say them. -/
theorem PR.of_text : ∀ (es : List Ent), (∀ e ∈ es, e.Fit ∧ e.may = true ∧ 0 ≤ e.number) → PR (es.flatMap lineL) es true
  | [], _ => .done
  | e :: es, h => by
    obtain ⟨h1, h2, h3⟩ := h e (List.mem_cons_self ..)
    have hl : lineL e = Lib.join ((partsB e).map (·.data.toList)) [32] ++ [10] := rfl
    have hi : IsL (Lib.join ((partsB e).map (·.data.toList)) [32]) e := ⟨h1, h2, h3, hl⟩
    rw [List.flatMap_cons, hl, List.append_assoc, List.singleton_append]
    exact .step (is_nonl hi) hi (PR.of_text es fun x hx => h x (List.mem_cons_of_mem _ hx))

theorem PR.len {l : List UInt8} {es : List Ent} {b : Bool} (h : PR l es b) : es.length ≤ l.length := by
  induction h with
  | done => exact Nat.le_refl _
  | cut h hn => exact Nat.zero_le _
  | bad hx hb => exact Nat.zero_le _
  | step hx he h ih => simp; omega

/-- The rest r of l comes behind the entries es. -/
def PRest (l : List UInt8) (es : List Ent) (r : List UInt8) : Prop := ∀ es' b, PR r es' b → PR l (es ++ es') b

theorem PRest.first (l : List UInt8) : PRest l [] l := fun _ _ h => h

theorem PRest.next {l x y : List UInt8} {es : List Ent} {e : Ent} (h : PRest l es (x ++ 10 :: y)) (hx : ¬ (10 : UInt8) ∈ x) (he : IsL x e) : PRest l (es ++ [e]) y := fun es' b h' => by
  have := h _ _ (.step hx he h')
  rw [List.append_assoc]
  exact this

/-- No line is longer than M. -/
inductive Seg (M : Nat) : List UInt8 → Prop
  | last {l : List UInt8} (hn : ¬ (10 : UInt8) ∈ l) (h : l.length ≤ M) : Seg M l
  | line {x r : List UInt8} (hx : ¬ (10 : UInt8) ∈ x) (hl : x.length ≤ M) (h : Seg M r) : Seg M (x ++ 10 :: r)

theorem Seg.front {M : Nat} {x y : List UInt8} (h : Seg M (x ++ 10 :: y)) (hx : ¬ (10 : UInt8) ∈ x) : x.length ≤ M ∧ Seg M y := by
  generalize hl : x ++ 10 :: y = l at h
  cases h with
  | last hn h => exact absurd (by rw [← hl]; simp) hn
  | line hx' hl' h' =>
    obtain ⟨rfl, rfl⟩ := nl_split hx hx' hl
    exact ⟨hl', h'⟩

theorem Seg.only {M : Nat} {l : List UInt8} (h : Seg M l) (hn : ¬ (10 : UInt8) ∈ l) : l.length ≤ M := by
  cases h with
  | last hn' h => exact h
  | line hx' hl' h' => exact absurd (by simp) hn

theorem nl_find (l : List UInt8) : (¬ (10 : UInt8) ∈ l) ∨ ∃ x y, l = x ++ 10 :: y ∧ ¬ (10 : UInt8) ∈ x := by
  induction l with
  | nil => exact .inl nofun
  | cons c r ih =>
    by_cases h : c = 10
    · exact .inr ⟨[], r, by rw [h]; rfl, nofun⟩
    · rcases ih with h1 | ⟨x, y, h1, h2⟩
      · refine .inl fun hm => ?_
        rcases List.mem_cons.1 hm with e | e
        · exact h e.symm
        · exact h1 e
      · refine .inr ⟨c :: x, y, by rw [h1]; rfl, fun hm => ?_⟩
        rcases List.mem_cons.1 hm with e | e
        · exact h e.symm
        · exact h2 e

theorem Seg.of_len {M : Nat} : ∀ (n : Nat) (l : List UInt8), l.length ≤ n → l.length ≤ M → Seg M l
  | 0, l, h, _ => by
    obtain rfl : l = [] := List.eq_nil_of_length_eq_zero (by omega)
    exact .last nofun (Nat.zero_le _)
  | n + 1, l, h, hM => by
    rcases nl_find l with h1 | ⟨x, y, h1, h2⟩
    · exact .last h1 hM
    · subst h1
      rw [List.length_append, List.length_cons] at h hM
      exact .line h2 (by omega) (Seg.of_len n y (by omega) (by omega))

theorem Seg.of_text {M : Nat} : ∀ (es : List Ent), (∀ e ∈ es, e.Fit ∧ e.may = true ∧ 0 ≤ e.number) → (∀ e ∈ es, (lineL e).length ≤ M) → Seg M (es.flatMap lineL)
  | [], _, _ => .last nofun (Nat.zero_le _)
  | e :: es, h, hM => by
    obtain ⟨h1, h2, h3⟩ := h e (List.mem_cons_self ..)
    have hl : lineL e = Lib.join ((partsB e).map (·.data.toList)) [32] ++ [10] := rfl
    have hi : IsL (Lib.join ((partsB e).map (·.data.toList)) [32]) e := ⟨h1, h2, h3, hl⟩
    have hm := hM e (List.mem_cons_self ..)
    rw [hl, List.length_append] at hm
    rw [List.flatMap_cons, hl, List.append_assoc, List.singleton_append]
    exact .line (is_nonl hi) (by omega) (Seg.of_text es (fun x hx => h x (List.mem_cons_of_mem _ hx)) fun x hx => hM x (List.mem_cons_of_mem _ hx))

theorem words_count (l : List UInt8) : (wordsL l).length ≤ l.length + 1 := by
  induction l with
  | nil => exact Nat.le_refl _
  | cons c r ih =>
    by_cases h : c.toNat = 32
    · have hc : c = 32 := by apply UInt8.toNat_inj.1; rw [h]; rfl
      rw [hc, wordsL_sp]
      simp
      omega
    · obtain ⟨q, qs, hw⟩ := words_some r
      rw [wordsL_ch h hw]
      rw [hw] at ih
      simp at ih ⊢
      omega

theorem IsL.len {x : List UInt8} {e : Ent} (h : IsL x e) : 14 ≤ x.length := by
  have h1 := words_count x
  rw [h.words] at h1
  have h2 : ((partsB e).map (·.data.toList)).length = 15 := rfl
  omega

/-- The cut at a line feed. -/
theorem cut_nl (l : List UInt8) : (∃ x y, l = x ++ 10 :: y ∧ (¬ (10 : UInt8) ∈ x) ∧ Lib.cut l [10] = (x, y, true)) ∨ ((¬ (10 : UInt8) ∈ l) ∧ Lib.cut l [10] = (l, [], false)) := by
  unfold Lib.cut
  rw [Lib.index_one]
  by_cases h : Lib.indexByte l 10 = -1
  · refine .inr ⟨fun hm => ?_, ?_⟩
    · obtain ⟨k, hk, e⟩ := List.getElem_of_mem hm
      exact Lib.indexByte_none h k (by rw [List.getElem?_eq_getElem hk, e])
    · rw [h]; simp
  · have hge := Lib.indexByte_ge l 10
    obtain ⟨i, hi⟩ : ∃ i : Nat, Lib.indexByte l 10 = (i : Int) := ⟨(Lib.indexByte l 10).toNat, by omega⟩
    obtain ⟨h1, h2⟩ := Lib.indexByte_some hi
    refine .inl ⟨l.take i, l.drop (i + 1), ?_, fun hm => ?_, ?_⟩
    · rw [← drop_at h1, List.take_append_drop]
    · obtain ⟨k, hk, e⟩ := List.getElem_of_mem hm
      have hki : k < i := by
        rw [List.length_take] at hk
        omega
      refine h2 k hki ?_
      rw [List.getElem_take] at e
      rw [List.getElem?_eq_getElem (by rw [List.length_take] at hk; omega), e]
    · rw [hi]; simp

end Go.Proofs.YthpflfcgnaichaaDoor
