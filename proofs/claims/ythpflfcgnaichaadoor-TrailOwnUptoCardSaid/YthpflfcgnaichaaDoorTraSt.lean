/-
The state of TrailScripts: on each side a log, and one that a copy left behind.
-/
import Derived.Test.YthpflfcgnaichaaDoorTraIs
import Derived.Test.YthpflfcgnaichaaDoorTraOps
set_option linter.unusedVariables false
set_option linter.unusedSimpArgs false
namespace Go.Proofs.YthpflfcgnaichaaDoor
open Go Go.RowKit

/-- A log's entries: good ones, numbered, at most k. -/
structure AllGood (xs : List Ent) (k : Nat) : Prop where
  good : ∀ x ∈ xs, x.Good
  num : Numbered xs
  len : xs.length ≤ k

theorem AllGood.mono {xs : List Ent} {k m : Nat} (h : AllGood xs k) (hm : k ≤ m) : AllGood xs m := ⟨h.good, h.num, Nat.le_trans h.len hm⟩

theorem AllGood.nil (k : Nat) : AllGood [] k := ⟨nofun, fun i e h => by simp at h, Nat.zero_le _⟩

theorem num_good {e : Ent} {n : Nat} (hf : e.Fit) (hm : e.may = true) (hn : n < 65537) : (e.num n).Good := by
  refine ⟨⟨?_, hf.version, hf.epoch, hf.a, hf.b, hf.kind, hf.status, hf.rule, hf.fin, hf.method, hf.host, hf.path, hf.route, hf.service, hf.endp⟩, hm, ?_⟩
  · show I64 (n : Int)
    constructor <;> omega
  · show 0 ≤ (n : Int)
    omega

theorem AllGood.add {xs : List Ent} {k : Nat} {e : Ent} (h : AllGood xs k) (hk : k ≤ 60) (hf : e.Fit) (hm : e.may = true) : AllGood (xs ++ [e.num xs.length]) (k + 1) := by
  refine ⟨fun x hx => ?_, fun i x hi => ?_, ?_⟩
  · rcases List.mem_append.1 hx with q | q
    · exact h.good x q
    · obtain rfl := List.mem_singleton.1 q
      exact num_good hf hm (by have := h.len; omega)
  · by_cases q : i < xs.length
    · rw [List.getElem?_append_left q] at hi
      exact h.num i x hi
    · rw [List.getElem?_append_right (by omega)] at hi
      have q2 : i - xs.length = 0 := by
        have := (List.getElem?_eq_some_iff.1 hi).1
        simp at this
        omega
      rw [q2] at hi
      obtain rfl := Option.some.inj hi
      show (xs.length : Int) = (i : Int)
      omega
  · rw [List.length_append]
    have := h.len
    simp
    omega

theorem ended_good {e : Ent} {how : Int} (h : e.Good) (h1 : 1 ≤ how) (h7 : how ≤ 7) : (e.ended how).Good := by
  refine ⟨⟨h.fit.number, h.fit.version, h.fit.epoch, h.fit.a, h.fit.b, h.fit.kind, h.fit.status, h.fit.rule, ?_, h.fit.method, h.fit.host, h.fit.path, h.fit.route, h.fit.service, h.fit.endp⟩, ?_, h.num⟩
  · show I64 how
    constructor <;> omega
  · have hm := h.may
    unfold Ent.may at hm ⊢
    simp only [Bool.and_eq_true, decide_eq_true_eq] at hm ⊢
    obtain ⟨q1, q2, q3, q4, q5, q6, q7, q8, q9⟩ := hm
    exact ⟨q1, q2, q3, q4, q5, q6, q7, by show 0 ≤ how; omega, by show how ≤ 7; omega⟩

theorem AllGood.fin {xs : List Ent} {k i : Nat} {e : Ent} {how : Int} (h : AllGood xs k) (hi : xs[i]? = some e) (h1 : 1 ≤ how) (h7 : how ≤ 7) : AllGood (xs.set i (e.ended how)) k := by
  refine ⟨fun x hx => ?_, fun j x hj => ?_, by rw [List.length_set]; exact h.len⟩
  · rcases List.mem_or_eq_of_mem_set hx with q | q
    · exact h.good x q
    · subst q
      exact ended_good (h.good e (List.mem_of_getElem? hi)) h1 h7
  · rw [List.getElem?_set] at hj
    by_cases q : i = j
    · subst q
      have hlt := (List.getElem?_eq_some_iff.1 hi).1
      rw [if_pos rfl, if_pos hlt] at hj
      obtain rfl := Option.some.inj hj
      exact h.num i e hi
    · rw [if_neg q] at hj
      exact h.num j x hj

/-- What a copy left behind, beside the log. -/
structure Behind (S T : TypeId) (w : World) (lb : Nat) (v : Value) (lb2 : Nat) (v2 : Value) (ys : List Ent) : Prop where
  log : LogAt w S T lb2 v2 ys
  ne : lb2 ≠ lb
  apart : ∀ g, v.ownBlock = some g → v2.ownBlock ≠ some g

def SecS (S T : TypeId) (w : World) (lb : Nat) (v : Value) (b : Bool) (lf : Value) (ys : List Ent) : Prop :=
  match b with
  | false => lf = .pointer none
  | true => ∃ lb2 v2, lf = .pointer (some ⟨lb2, 0, none⟩) ∧ Behind S T w lb v lb2 v2 ys

structure SP (S T : TypeId) (w0 w : World) (lb : Nat) (v : Value) (xs : List Ent) (b : Bool) (lf : Value) (ys : List Ent) : Prop where
  log : LogAt w S T lb v xs
  below : Below w0.heap.size w0 w
  lb0 : w0.heap.size ≤ lb
  vb : ∀ g, v.ownBlock = some g → w0.heap.size ≤ g
  sec : SecS S T w lb v b lf ys

section
variable {S T : TypeId} {w0 w w2 : World} {lb : Nat} {v : Value} {xs : List Ent} {b : Bool} {lf : Value} {ys : List Ent}

theorem SecS.frame (h : SecS S T w lb v b lf ys) (hf : ∀ lb2 v2, LogAt w S T lb2 v2 ys → lb2 ≠ lb → (∀ g, v.ownBlock = some g → v2.ownBlock ≠ some g) → LogAt w2 S T lb2 v2 ys) : SecS S T w2 lb v b lf ys := by
  cases b with
  | false => exact h
  | true =>
    obtain ⟨lb2, v2, h1, h2⟩ := h
    exact ⟨lb2, v2, h1, ⟨hf lb2 v2 h2.log h2.ne h2.apart, h2.ne, h2.apart⟩⟩

theorem SP.later (h : SP S T w0 w lb v xs b lf ys) (hb : Below w.heap.size w w2) : SP S T w0 w2 lb v xs b lf ys :=
  ⟨log_later h.log hb, h.below.trans (hb.mono h.below.size), h.lb0, h.vb, h.sec.frame fun _ _ q _ _ => log_later q hb⟩

/-- Blocks of other types change. -/
theorem log_foreign {F : Nat → Prop} (h : LogAt w S T lb v xs) (hm : Mod F w w2) (hF : ∀ k c T' fz, F k → w.heap[k]? = some (.cells c T' fz) → T' ≠ S ∧ T' ≠ T) : LogAt w2 S T lb v xs :=
  h.frame hm (fun q => (hF lb _ _ _ q h.blk).1 rfl) (fun g hg q => by
    obtain ⟨c, fz, hc⟩ := row_kind h.row g hg
    exact (hF g _ _ _ q hc).2 rfl)

theorem SP.foreign {F : Nat → Prop} (h : SP S T w0 w lb v xs b lf ys) (hm : Mod F w w2) (hF : ∀ k c T' fz, F k → w.heap[k]? = some (.cells c T' fz) → T' ≠ S ∧ T' ≠ T) (hB : ∀ k, F k → w0.heap.size ≤ k) : SP S T w0 w2 lb v xs b lf ys :=
  ⟨log_foreign h.log hm hF, h.below.trans (hm.below h.below.size hB), h.lb0, h.vb, h.sec.frame fun _ _ q _ _ => log_foreign q hm hF⟩

/-- The blocks of a log are of its types. -/
theorem log_types (h : LogAt w S T lb v xs) (k : Nat) (c : Array Value) (T' : TypeId) (fz : Nat × Nat) (hk : k = lb ∨ v.ownBlock = some k) (hh : w.heap[k]? = some (.cells c T' fz)) : T' = S ∨ T' = T := by
  rcases hk with rfl | hk
  · rw [h.blk] at hh
    injection hh with hh
    injection hh with _ hT _
    exact .inl hT.symm
  · obtain ⟨c2, fz2, hc⟩ := row_kind h.row k hk
    rw [hc] at hh
    injection hh with hh
    injection hh with _ hT _
    exact .inr hT.symm

theorem SP.mod_other {S2 T2 : TypeId} {rb : Nat} {u : Value} {zs : List Ent} {rf : Value} {F : Nat → Prop} (h : SP S T w0 w lb v xs b lf ys) (hr : SP S2 T2 w0 w rb u zs b rf ys) (hne : S ≠ S2 ∧ S ≠ T2 ∧ T ≠ S2 ∧ T ≠ T2) (hm : Mod F w w2) (hF : ∀ k, F k → k = lb ∨ v.ownBlock = some k) : SP S2 T2 w0 w2 rb u zs b rf ys :=
  hr.foreign hm (fun k c T' fz hk hh => by
    rcases log_types h.log k c T' fz (hF k hk) hh with rfl | rfl
    · exact ⟨hne.1, hne.2.1⟩
    · exact ⟨hne.2.2.1, hne.2.2.2⟩) (fun k hk => by
    rcases hF k hk with rfl | q
    · exact h.lb0
    · exact h.vb k q)

theorem behind_log (hne : S ≠ T) (h : LogAt w S T lb v xs) {lb2 : Nat} {v2 : Value} (h2 : LogAt w S T lb2 v2 ys) : lb ≠ lb2 → v2.ownBlock ≠ some lb ∧ v.ownBlock ≠ some lb2 := fun _ => by
  constructor
  · intro q
    obtain ⟨c, fz, hc⟩ := row_kind h2.row lb q
    rw [h.blk] at hc
    injection hc with hc
    injection hc with _ hT _
    exact hne hT
  · intro q
    obtain ⟨c, fz, hc⟩ := row_kind h.row lb2 q
    rw [h2.blk] at hc
    injection hc with hc
    injection hc with _ hT _
    exact hne hT

theorem SP.add {e : Ent} {r : Ending} (hne : S ≠ T) (h : SP S T w0 w lb v xs b lf ys) (hp : AddPost w S T lb v xs e r w2) : r = .returned (.tuple #[.int .i64 (xs.length : Int), .int .i64 0]) ∧ ∃ v', SP S T w0 w2 lb v' (xs ++ [e.num xs.length]) b lf ys ∧ Mod (fun k => k = lb ∨ v.ownBlock = some k) w w2 := by
  obtain ⟨v', hr, h1, h2, h3⟩ := hp
  refine ⟨hr, v', ⟨h1, h.below.trans (h2.below h.below.size fun k hk => ?_), h.lb0, fun g hg => ?_, ?_⟩, h2⟩
  · rcases hk with rfl | hk
    · exact h.lb0
    · exact h.vb k hk
  · rcases h3 g hg with q | q
    · exact h.vb g q
    · exact Nat.le_trans h.below.size q
  · have hs := h.sec
    cases b with
    | false => exact hs
    | true =>
      obtain ⟨lb2, v2, q1, q2⟩ := hs
      have q3 := behind_log hne h.log q2.log (Ne.symm q2.ne)
      refine ⟨lb2, v2, q1, ⟨q2.log.frame h2 (fun q => ?_) (fun g hg q => ?_), q2.ne, fun g hg q => ?_⟩⟩
      · rcases q with q | q
        · exact q2.ne q
        · exact q3.2 q
      · rcases q with q | q
        · exact q3.1 (q ▸ hg)
        · exact q2.apart g q hg
      · rcases h3 g hg with q4 | q4
        · exact q2.apart g q4 q
        · have := (q2.log.row.lt g q).2
          omega

theorem SP.fin {xs' : List Ent} {r : Ending} (hne : S ≠ T) (h : SP S T w0 w lb v xs b lf ys) (hp : EndPost w S T lb v xs' r w2) : r = .returned (.int .i64 0) ∧ SP S T w0 w2 lb v xs' b lf ys ∧ Mod (fun k => v.ownBlock = some k) w w2 := by
  obtain ⟨hr, h1, h2⟩ := hp
  refine ⟨hr, ⟨h1, h.below.trans (h2.below h.below.size fun k hk => h.vb k hk), h.lb0, h.vb, ?_⟩, h2⟩
  have hs := h.sec
  cases b with
  | false => exact hs
  | true =>
    obtain ⟨lb2, v2, q1, q2⟩ := hs
    have q3 := behind_log hne h.log q2.log (Ne.symm q2.ne)
    exact ⟨lb2, v2, q1, ⟨q2.log.frame h2 (fun q => q3.2 q) (fun g hg q => q2.apart g q hg), q2.ne, q2.apart⟩⟩

/-- A copy is left behind. -/
theorem SP.copyStay {lb2 : Nat} {v2 : Value} (h : SP S T w0 w lb v xs b lf ys) (hl : LogAt w2 S T lb2 v2 xs) (hb : Below w.heap.size w w2) (hlb : w.heap.size ≤ lb2) (hv : ∀ g, v2.ownBlock = some g → w.heap.size ≤ g) : SP S T w0 w2 lb v xs true (.pointer (some ⟨lb2, 0, none⟩)) xs :=
  ⟨log_later h.log hb, h.below.trans (hb.mono h.below.size), h.lb0, h.vb, lb2, v2, rfl, hl, fun q => by have := lt_of_heap h.log.blk; omega, fun g hg q => by
    have q1 := (h.log.row.lt g hg).2
    have q2 := hv g q
    omega⟩

/-- One goes on with the copy. -/
theorem SP.copyOn {lb2 : Nat} {v2 : Value} (h : SP S T w0 w lb v xs b lf ys) (hl : LogAt w2 S T lb2 v2 xs) (hb : Below w.heap.size w w2) (hlb : w.heap.size ≤ lb2) (hv : ∀ g, v2.ownBlock = some g → w.heap.size ≤ g) : SP S T w0 w2 lb2 v2 xs true (.pointer (some ⟨lb, 0, none⟩)) xs :=
  ⟨hl, h.below.trans (hb.mono h.below.size), Nat.le_trans h.below.size hlb, fun g hg => Nat.le_trans h.below.size (hv g hg), lb, v, rfl, log_later h.log hb, fun q => by have := lt_of_heap h.log.blk; omega, fun g hg q => by
    have q1 := (h.log.row.lt g q).2
    have q2 := hv g hg
    omega⟩
end

abbrev PS := SP 27 38
abbrev RS := SP 50 32

/-- The state behind some calls. -/
inductive ScSt (w0 w : World) : Value → Value → Value → Value → Nat → Prop
  | nil {k : Nat} (h : Below w0.heap.size w0 w) : ScSt w0 w (.pointer none) (.pointer none) (.pointer none) (.pointer none) k
  | one {lb rb k : Nat} {v u lf sd : Value} {xs ys : List Ent} {b : Bool} (p : PS w0 w lb v xs b lf ys) (r : RS w0 w rb u xs b sd ys) (g : AllGood xs k) (g2 : AllGood ys 60) : ScSt w0 w (.pointer (some ⟨lb, 0, none⟩)) (.pointer (some ⟨rb, 0, none⟩)) lf sd k

theorem ScSt.below {w0 w : World} {lv dv lf sd : Value} {k : Nat} (h : ScSt w0 w lv dv lf sd k) : Below w0.heap.size w0 w := by
  cases h with
  | nil h => exact h
  | one p r g g2 => exact p.below

theorem ScSt.later {w0 w w2 : World} {lv dv lf sd : Value} {k : Nat} (h : ScSt w0 w lv dv lf sd k) (hb : Below w.heap.size w w2) : ScSt w0 w2 lv dv lf sd k := by
  cases h with
  | nil h => exact .nil (h.trans (hb.mono h.size))
  | one p r g g2 => exact .one (p.later hb) (r.later hb) g g2

theorem ScSt.mono {w0 w : World} {lv dv lf sd : Value} {k m : Nat} (h : ScSt w0 w lv dv lf sd k) (hm : k ≤ m) : ScSt w0 w lv dv lf sd m := by
  cases h with
  | nil h => exact .nil h
  | one p r g g2 => exact .one p r (g.mono hm) g2

end Go.Proofs.YthpflfcgnaichaaDoor
