/-
What a net of the program and one of the reference have in common, and that each call keeps it. Plain lists: no memory occurs here.
-/
import Derived.Test.YtibijonjjkknoaaNetProg
import Derived.Test.YtibijonjjkknoaaNetRefR
set_option linter.unusedVariables false
set_option linter.unusedSimpArgs false
namespace Go.Proofs.Ytibijonjjkknoaa
open Go Go.RowKit

structure Live (c : Cn) (d : RC) : Prop where
  u0 : c.s0.under = (d.W 0).drop (d.P 0)
  u1 : c.s1.under = (d.W 1).drop (d.P 1)
  t0 : c.s0.there = d.left 1
  t1 : c.s1.there = d.left 0
  c0 : c.s0.closed = d.C 0
  c1 : c.s1.closed = d.C 1
  e0 : c.s0.ended = d.E 1
  e1 : c.s1.ended = d.E 0
  l0 : c.s0.under.length ≤ 1048576
  l1 : c.s1.under.length ≤ 1048576

structure CP (c : Cn) (d : RC) (N : Nat) : Prop where
  name : c.name = d.name
  waiting : c.waiting = d.waiting
  cut : c.cut = d.cut
  p : ∀ k, d.P k ≤ (d.W k).length
  q : ∀ k, d.Q k ≤ d.P k
  w : ∀ k, (d.W k).length ≤ N * 1048576
  live : c.cut = false → Live c d

theorem CP.ok {c : Cn} {d : RC} {N : Nat} (h : CP c d N) (hN : N ≤ 67108864) : d.Ok := ⟨h.p, h.q, fun k => Nat.le_trans (h.w k) (by omega)⟩

theorem CP.next {c : Cn} {d : RC} {N : Nat} (h : CP c d N) : CP c d (N + 1) := ⟨h.name, h.waiting, h.cut, h.p, h.q, fun k => Nat.le_trans (h.w k) (by omega), h.live⟩

theorem Live.under_len {c : Cn} {d : RC} (h : Live c d) : c.s0.under.length = (d.W 0).length - d.P 0 ∧ c.s1.under.length = (d.W 1).length - d.P 1 := by
  rw [h.u0, h.u1, List.length_drop, List.length_drop]
  exact ⟨rfl, rfl⟩

theorem CP.new (name : ByteArray) (N : Nat) : CP (Cn.new name) (RC.new name) N :=
  ⟨rfl, rfl, rfl, fun _ => Nat.le_refl _, fun _ => Nat.le_refl _, fun _ => Nat.zero_le _, fun _ => ⟨rfl, rfl, rfl, rfl, rfl, rfl, rfl, rfl, Nat.zero_le _, Nat.zero_le _⟩⟩

theorem CP.accept {c : Cn} {d : RC} {N : Nat} (h : CP c d N) : CP { c with waiting := false } { d with waiting := false } (N + 1) :=
  ⟨h.name, rfl, h.cut, h.p, h.q, h.next.w, fun hc => ⟨(h.live hc).u0, (h.live hc).u1, (h.live hc).t0, (h.live hc).t1, (h.live hc).c0, (h.live hc).c1, (h.live hc).e0, (h.live hc).e1, (h.live hc).l0, (h.live hc).l1⟩⟩

theorem CP.cutOff {c : Cn} {d : RC} {N : Nat} (h : CP c d N) : CP c.cutOff { d with cut := true } (N + 1) :=
  ⟨h.name, h.waiting, rfl, h.p, h.q, h.next.w, fun hc => by cases hc⟩

theorem drop_app {α : Type} {l m : List α} {n : Nat} (h : n ≤ l.length) : (l ++ m).drop n = l.drop n ++ m := List.drop_append_of_le_length h
theorem take_app {α : Type} {l m : List α} {n : Nat} (h : n ≤ l.length) : (l ++ m).take n = l.take n := List.take_append_of_le_length h

theorem setf_at {α : Type} (f : Nat → α) (k i : Nat) (v : α) : setf f k v i = if i = k then v else f i := rfl

theorem CP.wrote0 {c : Cn} {d : RC} {N : Nat} (h : CP c d N) (hc : c.cut = false) {ps : List UInt8} (hl : c.s0.under.length + ps.length ≤ 1048576) :
    CP (c.setSd 0 { c.sd 0 with under := (c.sd 0).under ++ ps }) { d with W := setf d.W 0 (d.W 0 ++ ps) } (N + 1) := by
  have hv := h.live hc
  refine ⟨h.name, h.waiting, h.cut, fun k => ?_, h.q, fun k => ?_, fun _ => ⟨?_, hv.u1, hv.t0, ?_, hv.c0, hv.c1, hv.e0, hv.e1, ?_, hv.l1⟩⟩
  · show d.P k ≤ (setf d.W 0 (d.W 0 ++ ps) k).length
    rw [setf_at]
    split
    · rename_i e; subst e; rw [List.length_append]; have := h.p 0; omega
    · exact h.p k
  · show (setf d.W 0 (d.W 0 ++ ps) k).length ≤ _
    rw [setf_at]
    split
    · rename_i e; subst e; rw [List.length_append]; have := h.w 0; omega
    · exact h.next.w k
  · show c.s0.under ++ ps = (d.W 0 ++ ps).drop (d.P 0)
    rw [drop_app (h.p 0), ← hv.u0]
  · show c.s1.there = ((d.W 0 ++ ps).take (d.P 0)).drop (d.Q 0)
    rw [take_app (h.p 0)]
    exact hv.t1
  · show (c.s0.under ++ ps).length ≤ _
    rw [List.length_append]; exact hl

theorem CP.wrote1 {c : Cn} {d : RC} {N : Nat} (h : CP c d N) (hc : c.cut = false) {ps : List UInt8} (hl : c.s1.under.length + ps.length ≤ 1048576) :
    CP (c.setSd 1 { c.sd 1 with under := (c.sd 1).under ++ ps }) { d with W := setf d.W 1 (d.W 1 ++ ps) } (N + 1) := by
  have hv := h.live hc
  refine ⟨h.name, h.waiting, h.cut, fun k => ?_, h.q, fun k => ?_, fun _ => ⟨hv.u0, ?_, ?_, hv.t1, hv.c0, hv.c1, hv.e0, hv.e1, hv.l0, ?_⟩⟩
  · show d.P k ≤ (setf d.W 1 (d.W 1 ++ ps) k).length
    rw [setf_at]
    split
    · rename_i e; subst e; rw [List.length_append]; have := h.p 1; omega
    · exact h.p k
  · show (setf d.W 1 (d.W 1 ++ ps) k).length ≤ _
    rw [setf_at]
    split
    · rename_i e; subst e; rw [List.length_append]; have := h.w 1; omega
    · exact h.next.w k
  · show c.s1.under ++ ps = (d.W 1 ++ ps).drop (d.P 1)
    rw [drop_app (h.p 1), ← hv.u1]
  · show c.s0.there = ((d.W 1 ++ ps).take (d.P 1)).drop (d.Q 1)
    rw [take_app (h.p 1)]
    exact hv.t0
  · show (c.s1.under ++ ps).length ≤ _
    rw [List.length_append]; exact hl

theorem CP.closed0 {c : Cn} {d : RC} {N : Nat} (h : CP c d N) (hc : c.cut = false) : CP (c.setSd 0 { c.sd 0 with closed := true }) { d with C := setf d.C 0 true } (N + 1) := by
  have hv := h.live hc
  exact ⟨h.name, h.waiting, h.cut, h.p, h.q, h.next.w, fun _ => ⟨hv.u0, hv.u1, hv.t0, hv.t1, rfl, hv.c1, hv.e0, hv.e1, hv.l0, hv.l1⟩⟩

theorem CP.closed1 {c : Cn} {d : RC} {N : Nat} (h : CP c d N) (hc : c.cut = false) : CP (c.setSd 1 { c.sd 1 with closed := true }) { d with C := setf d.C 1 true } (N + 1) := by
  have hv := h.live hc
  exact ⟨h.name, h.waiting, h.cut, h.p, h.q, h.next.w, fun _ => ⟨hv.u0, hv.u1, hv.t0, hv.t1, hv.c0, rfl, hv.e0, hv.e1, hv.l0, hv.l1⟩⟩

theorem left_more {W : List UInt8} {P Q m : Nat} (hQ : Q ≤ P) (hP : P ≤ W.length) : (W.take P).drop Q ++ (W.drop P).take m = (W.take (P + m)).drop Q := by
  rw [List.take_add, drop_app (by rw [List.length_take, Nat.min_eq_left hP]; exact hQ)]

theorem CP.passed0 {c : Cn} {d : RC} {N : Nat} (h : CP c d N) (hc : c.cut = false) {m : Nat} (hm : m ≤ (d.W 0).length - d.P 0) : CP (c.passed 0 m) (d.passed 0 m) (N + 1) := by
  have hv := h.live hc
  have hp := h.p 0
  have hul := hv.under_len.1
  have e1 : (c.passed 0 m) = { c with s0 := { c.s0 with under := c.s0.under.drop m }, s1 := { c.s1 with there := c.s1.there ++ c.s0.under.take m, ended := c.s1.ended || (c.s0.closed && decide (c.s0.under.length ≤ m)) } } := rfl
  refine ⟨h.name, h.waiting, h.cut, fun k => ?_, fun k => ?_, h.next.w, fun _ => ⟨?_, hv.u1, hv.t0, ?_, hv.c0, hv.c1, ?_, ?_, ?_, hv.l1⟩⟩
  · show setf d.P 0 (d.P 0 + m) k ≤ (d.W k).length
    rw [setf_at]
    split
    · rename_i e; subst e; omega
    · exact h.p k
  · show d.Q k ≤ setf d.P 0 (d.P 0 + m) k
    rw [setf_at]
    split
    · rename_i e; subst e; have := h.q 0; omega
    · exact h.q k
  · show c.s0.under.drop m = (d.W 0).drop (d.P 0 + m)
    rw [hv.u0, List.drop_drop]
  · show c.s1.there ++ c.s0.under.take m = ((d.W 0).take (d.P 0 + m)).drop (d.Q 0)
    rw [hv.t1, hv.u0]
    exact left_more (h.q 0) (h.p 0)
  · show c.s0.ended = (if d.C 0 = true ∧ d.P 0 + m = (d.W 0).length then setf d.E 0 true else d.E) 1
    rw [hv.e0]
    split <;> rfl
  · show (c.s1.ended || (c.s0.closed && decide (c.s0.under.length ≤ m))) = (if d.C 0 = true ∧ d.P 0 + m = (d.W 0).length then setf d.E 0 true else d.E) 0
    rw [hv.e1, hv.c0]
    by_cases hd : d.C 0 = true ∧ d.P 0 + m = (d.W 0).length
    · rw [if_pos hd, hd.1, decide_eq_true (by omega)]
      simp [setf]
    · rw [if_neg hd]
      cases hC : d.C 0 with
      | false => simp
      | true => rw [decide_eq_false (fun q => hd ⟨hC, by omega⟩)]; simp
  · show (c.s0.under.drop m).length ≤ _
    rw [List.length_drop]; have := hv.l0; omega

theorem CP.passed1 {c : Cn} {d : RC} {N : Nat} (h : CP c d N) (hc : c.cut = false) {m : Nat} (hm : m ≤ (d.W 1).length - d.P 1) : CP (c.passed 1 m) (d.passed 1 m) (N + 1) := by
  have hv := h.live hc
  have hp := h.p 1
  have hul := hv.under_len.2
  refine ⟨h.name, h.waiting, h.cut, fun k => ?_, fun k => ?_, h.next.w, fun _ => ⟨hv.u0, ?_, ?_, hv.t1, hv.c0, hv.c1, ?_, ?_, hv.l0, ?_⟩⟩
  · show setf d.P 1 (d.P 1 + m) k ≤ (d.W k).length
    rw [setf_at]
    split
    · rename_i e; subst e; omega
    · exact h.p k
  · show d.Q k ≤ setf d.P 1 (d.P 1 + m) k
    rw [setf_at]
    split
    · rename_i e; subst e; have := h.q 1; omega
    · exact h.q k
  · show c.s1.under.drop m = (d.W 1).drop (d.P 1 + m)
    rw [hv.u1, List.drop_drop]
  · show c.s0.there ++ c.s1.under.take m = ((d.W 1).take (d.P 1 + m)).drop (d.Q 1)
    rw [hv.t0, hv.u1]
    exact left_more (h.q 1) (h.p 1)
  · show (c.s0.ended || (c.s1.closed && decide (c.s1.under.length ≤ m))) = (if d.C 1 = true ∧ d.P 1 + m = (d.W 1).length then setf d.E 1 true else d.E) 1
    rw [hv.e0, hv.c1]
    by_cases hd : d.C 1 = true ∧ d.P 1 + m = (d.W 1).length
    · rw [if_pos hd, hd.1, decide_eq_true (by omega)]
      simp [setf]
    · rw [if_neg hd]
      cases hC : d.C 1 with
      | false => simp
      | true => rw [decide_eq_false (fun q => hd ⟨hC, by omega⟩)]; simp
  · show c.s1.ended = (if d.C 1 = true ∧ d.P 1 + m = (d.W 1).length then setf d.E 1 true else d.E) 0
    rw [hv.e1]
    split <;> rfl
  · show (c.s1.under.drop m).length ≤ _
    rw [List.length_drop]; have := hv.l1; omega

theorem left_none {W : List UInt8} {P : Nat} : (W.take P).drop P = [] := List.drop_eq_nil_of_le (by rw [List.length_take]; omega)

/-- Side 0 reads what side 1 has written. -/
theorem CP.read0 {c : Cn} {d : RC} {N : Nat} (h : CP c d N) (hc : c.cut = false) : CP (c.setSd 0 { c.sd 0 with there := [] }) { d with Q := setf d.Q 1 (d.P 1) } (N + 1) := by
  have hv := h.live hc
  refine ⟨h.name, h.waiting, h.cut, h.p, fun k => ?_, h.next.w, fun _ => ⟨hv.u0, hv.u1, ?_, hv.t1, hv.c0, hv.c1, hv.e0, hv.e1, hv.l0, hv.l1⟩⟩
  · show setf d.Q 1 (d.P 1) k ≤ d.P k
    rw [setf_at]
    split
    · rename_i e; subst e; exact Nat.le_refl _
    · exact h.q k
  · show ([] : List UInt8) = ((d.W 1).take (d.P 1)).drop (d.P 1)
    rw [left_none]

theorem CP.read1 {c : Cn} {d : RC} {N : Nat} (h : CP c d N) (hc : c.cut = false) : CP (c.setSd 1 { c.sd 1 with there := [] }) { d with Q := setf d.Q 0 (d.P 0) } (N + 1) := by
  have hv := h.live hc
  refine ⟨h.name, h.waiting, h.cut, h.p, fun k => ?_, h.next.w, fun _ => ⟨hv.u0, hv.u1, hv.t0, ?_, hv.c0, hv.c1, hv.e0, hv.e1, hv.l0, hv.l1⟩⟩
  · show setf d.Q 0 (d.P 0) k ≤ d.P k
    rw [setf_at]
    split
    · rename_i e; subst e; exact Nat.le_refl _
    · exact h.q k
  · show ([] : List UInt8) = ((d.W 0).take (d.P 0)).drop (d.P 0)
    rw [left_none]

abbrev keyS (name : ByteArray) : Lit := .string name.data.toList
abbrev zeroD : MapD := .lit (.int .i64 0)

structure Pair (S : St) (R : RS) (N : Nat) : Prop where
  len : S.cs.length = R.cs.length
  cn : ∀ (i : Nat) c d, S.cs[i]? = some c → R.cs[i]? = some d → CP c d N
  nt : R.names.length = R.times.length
  nn : R.names.length ≤ N
  nc : R.cs.length ≤ 4096
  m : S.m ≤ N
  isMap : Maps.IsMap S.D
  mp : ∀ name, (∃ k t, R.hit name k ∧ R.times[k]? = some t ∧ S.D.atKey (keyS name) zeroD = .lit (.int .i64 t)) ∨ (R.miss name ∧ S.D.atKey (keyS name) zeroD = .lit (.int .i64 0))
  tm : ∀ (j : Nat) t, R.times[j]? = some t → 0 ≤ t ∧ t ≤ 9223372036854775807
  uq : ∀ (i j : Nat) s, R.names[i]? = some s → R.names[j]? = some s → i = j

theorem Pair.init : Pair St.new ⟨[], [], []⟩ 0 :=
  ⟨rfl, fun i c d h _ => by simp [St.new] at h, rfl, Nat.le_refl _, Nat.zero_le _, Nat.le_refl _, ⟨[], rfl⟩, fun name => .inr ⟨fun j s h => by simp at h, rfl⟩, fun j t h => by simp at h, fun i j s h _ => by simp at h⟩

section
variable {S : St} {R : RS} {N : Nat}

theorem Pair.next (h : Pair S R N) : Pair S R (N + 1) := ⟨h.len, fun i c d hc hd => (h.cn i c d hc hd).next, h.nt, Nat.le_succ_of_le h.nn, h.nc, Nat.le_succ_of_le h.m, h.isMap, h.mp, h.tm, h.uq⟩

theorem Pair.setConn (h : Pair S R N) {i : Nat} {c' : Cn} {d' : RC} (hcp : CP c' d' (N + 1)) : Pair { S with cs := S.cs.set i c' } { R with cs := R.cs.set i d' } (N + 1) := by
  refine ⟨by simp [h.len], fun j c d hc hd => ?_, h.nt, Nat.le_succ_of_le h.nn, by simp [h.nc], Nat.le_succ_of_le h.m, h.isMap, h.mp, h.tm, h.uq⟩
  by_cases e : i = j
  · subst e
    rw [List.getElem?_set, if_pos rfl] at hc hd
    split at hc
    · split at hd
      · cases hc; cases hd; exact hcp
      · cases hd
    · cases hc
  · rw [List.getElem?_set, if_neg e] at hc hd
    exact (h.cn j c d hc hd).next

theorem Pair.dialed (h : Pair S R N) (hlt : R.cs.length < 4096) (name : ByteArray) : Pair { S with cs := S.cs ++ [Cn.new name] } { R with cs := R.cs ++ [RC.new name] } (N + 1) := by
  refine ⟨by simp [h.len], fun j c d hc hd => ?_, h.nt, Nat.le_succ_of_le h.nn, by simp; omega, Nat.le_succ_of_le h.m, h.isMap, h.mp, h.tm, h.uq⟩
  rcases Nat.lt_or_ge j R.cs.length with hj | hj
  · rw [List.getElem?_append_left (by have := h.len; omega)] at hc
    rw [List.getElem?_append_left hj] at hd
    exact (h.cn j c d hc hd).next
  · rw [List.getElem?_append_right (by have := h.len; omega)] at hc
    rw [List.getElem?_append_right hj] at hd
    rw [h.len] at hc
    have : j - R.cs.length = 0 := by
      have := (List.getElem?_eq_some_iff.1 hd).1
      simp at this; omega
    rw [this] at hc hd
    cases hc; cases hd
    exact CP.new name _

theorem key_inj {a b : ByteArray} (h : keyS a = keyS b) : a = b := by
  have : a.data.toList = b.data.toList := by simpa [keyS] using h
  exact ByteArray.ext (Array.toList_inj.1 this)

theorem hit_uniq {name : ByteArray} {i j : Nat} (hi : R.hit name i) (hj : R.hit name j) : i = j := by
  rcases Nat.lt_trichotomy i j with h | h | h
  · exact absurd rfl (hj.2 i h name hi.1)
  · exact h
  · exact absurd rfl (hi.2 j h name hj.1)

/-- The time of a name that is there is put anew. -/
theorem Pair.retime (h : Pair S R N) {name : ByteArray} {k : Nat} (hh : R.hit name k) (t : Int) (h0 : 0 ≤ t) (h1 : t ≤ 9223372036854775807) : Pair { S with D := S.D.put (keyS name) (.lit (.int .i64 t)), m := S.m + 1 } { R with times := R.times.set k t } (N + 1) := by
  have hk := (List.getElem?_eq_some_iff.1 hh.1).1
  refine ⟨h.len, fun j c d hc hd => (h.cn j c d hc hd).next, by simp [h.nt], Nat.le_succ_of_le h.nn, h.nc, Nat.succ_le_succ h.m, h.isMap.put _ _, fun name' => ?_, fun j x hx => ?_, h.uq⟩
  · by_cases e : name' = name
    · subst e
      left
      refine ⟨k, t, hh, ?_, Maps.atKey_put_same h.isMap (show WideAt.IsKeyLit (keyS name') from trivial) _ _⟩
      rw [List.getElem?_set, if_pos rfl, if_pos (by rw [← h.nt]; exact hk)]
    · have hne : keyS name' ≠ keyS name := fun q => e (key_inj q)
      rcases h.mp name' with ⟨k', t', q1, q2, q3⟩ | ⟨q1, q3⟩
      · left
        refine ⟨k', t', q1, ?_, by rw [← q3]; exact Maps.atKey_put_other hne _ _⟩
        show (R.times.set k t)[k']? = some t'
        rw [List.getElem?_set, if_neg (fun q => by
          subst q
          exact e (Option.some.inj (q1.1.symm.trans hh.1)))]
        exact q2
      · right
        exact ⟨q1, by rw [← q3]; exact Maps.atKey_put_other hne _ _⟩
  · have hx2 : (R.times.set k t)[j]? = some x := hx
    rw [List.getElem?_set] at hx2
    split at hx2
    · split at hx2
      · cases hx2; exact ⟨h0, h1⟩
      · cases hx2
    · exact h.tm j x hx2

/-- A name is new. -/
theorem Pair.newname (h : Pair S R N) {name : ByteArray} (hm : R.miss name) (t : Int) (h0 : 0 ≤ t) (h1 : t ≤ 9223372036854775807) : Pair { S with D := S.D.put (keyS name) (.lit (.int .i64 t)), m := S.m + 1 } { R with names := R.names ++ [name], times := R.times ++ [t] } (N + 1) := by
  have hap : ∀ (l : List ByteArray) (x : ByteArray) (j : Nat) (s : ByteArray), (l ++ [x])[j]? = some s → (j < l.length ∧ l[j]? = some s) ∨ (j = l.length ∧ s = x) := fun l x j s hj => by
    rcases Nat.lt_or_ge j l.length with q | q
    · rw [List.getElem?_append_left q] at hj
      exact .inl ⟨q, hj⟩
    · rw [List.getElem?_append_right q] at hj
      have q2 : j - l.length = 0 := by
        have := (List.getElem?_eq_some_iff.1 hj).1
        simp at this; omega
      rw [q2] at hj
      cases hj
      exact .inr ⟨by omega, rfl⟩
  refine ⟨h.len, fun j c d hc hd => (h.cn j c d hc hd).next, by simp [h.nt], by simp; have := h.nn; omega, h.nc, Nat.succ_le_succ h.m, h.isMap.put _ _, fun name' => ?_, fun j x hx => ?_, fun i j s hi hj => ?_⟩
  · by_cases e : name' = name
    · subst e
      left
      refine ⟨R.names.length, t, ⟨?_, fun j hj s hs => ?_⟩, ?_, Maps.atKey_put_same h.isMap (show WideAt.IsKeyLit (keyS name') from trivial) _ _⟩
      · show (R.names ++ [name'])[R.names.length]? = _
        rw [List.getElem?_append_right (Nat.le_refl _), Nat.sub_self]; rfl
      · rcases hap _ _ _ _ hs with ⟨_, q⟩ | ⟨q, _⟩
        · exact hm j s q
        · omega
      · show (R.times ++ [t])[R.names.length]? = _
        rw [h.nt, List.getElem?_append_right (Nat.le_refl _), Nat.sub_self]; rfl
    · have hne : keyS name' ≠ keyS name := fun q => e (key_inj q)
      rcases h.mp name' with ⟨k', t', q1, q2, q3⟩ | ⟨q1, q3⟩
      · left
        have hk' := (List.getElem?_eq_some_iff.1 q1.1).1
        refine ⟨k', t', ⟨?_, fun j hj s hs => ?_⟩, ?_, by rw [← q3]; exact Maps.atKey_put_other hne _ _⟩
        · show (R.names ++ [name])[k']? = _
          rw [List.getElem?_append_left hk']; exact q1.1
        · rcases hap _ _ _ _ hs with ⟨_, q⟩ | ⟨q, _⟩
          · exact q1.2 j hj s q
          · omega
        · show (R.times ++ [t])[k']? = _
          rw [List.getElem?_append_left (by rw [← h.nt]; exact hk')]; exact q2
      · right
        refine ⟨fun j s hs => ?_, by rw [← q3]; exact Maps.atKey_put_other hne _ _⟩
        rcases hap _ _ _ _ hs with ⟨_, q⟩ | ⟨_, q⟩
        · exact q1 j s q
        · rw [q]; exact fun z => e z.symm
  · have hx2 : (R.times ++ [t])[j]? = some x := hx
    rcases Nat.lt_or_ge j R.times.length with q | q
    · rw [List.getElem?_append_left q] at hx2
      exact h.tm j x hx2
    · rw [List.getElem?_append_right q] at hx2
      have q2 : j - R.times.length = 0 := by
        have := (List.getElem?_eq_some_iff.1 hx2).1
        simp at this; omega
      rw [q2] at hx2
      cases hx2
      exact ⟨h0, h1⟩
  · rcases hap _ _ _ _ hi with ⟨_, qi⟩ | ⟨qi, ei⟩
    · rcases hap _ _ _ _ hj with ⟨_, qj⟩ | ⟨qj, ej⟩
      · exact h.uq i j s qi qj
      · exact absurd ej (hm i s qi)
    · rcases hap _ _ _ _ hj with ⟨_, qj⟩ | ⟨qj, ej⟩
      · exact absurd ei (hm j s qj)
      · omega

theorem Pair.why (h : Pair S R N) (i k : Int) : S.why i k = R.why i k := by
  unfold St.why RS.why
  rw [h.len]
  by_cases h1 : i < 0 ∨ (R.cs.length : Int) ≤ i ∨ k < 0 ∨ 1 < k
  · rw [if_pos h1, if_pos h1]
  · rw [if_neg h1, if_neg h1]
    have hi : i.toNat < R.cs.length := by omega
    obtain ⟨d, hd⟩ : ∃ d, R.cs[i.toNat]? = some d := ⟨_, List.getElem?_eq_getElem hi⟩
    obtain ⟨c, hc⟩ : ∃ c, S.cs[i.toNat]? = some c := ⟨_, List.getElem?_eq_getElem (by rw [h.len]; exact hi)⟩
    rw [hc, hd]
    simp only [(h.cn _ c d hc hd).cut]

end

end Go.Proofs.Ytibijonjjkknoaa
