/-
How a net of package net lies in memory, and that it stays so while other blocks are written.
-/
import Derived.Test.YtibijonjjkknoaaProg
import Derived.Test.YtibijonjjkknoaaMem
import Derived.Maps.Views
import Derived.Maps.OwnOps
set_option linter.unusedVariables false
set_option linter.unusedSimpArgs false
namespace Go.Proofs.Ytibijonjjkknoaa
open Go Go.RowKit

def bytes (l : List UInt8) : List Value := l.map fun c => Value.int .u8 (c.toNat : Int)

@[simp] theorem length_bytes (l : List UInt8) : (bytes l).length = l.length := by simp [bytes]
theorem bytes_append (a b : List UInt8) : bytes (a ++ b) = bytes a ++ bytes b := by simp [bytes]
theorem bytes_take (k : Nat) (l : List UInt8) : bytes (l.take k) = (bytes l).take k := by simp [bytes, List.map_take]
theorem bytes_drop (k : Nat) (l : List UInt8) : bytes (l.drop k) = (bytes l).drop k := by simp [bytes, List.map_drop]

theorem info5 : (Try.prog.info? 5).map (fun i => (i.zero, i.size, i.bytes)) = some (some (.int .u8 0), 1, 1) := by kernel_rfl

/-- What one side of a connection has. -/
structure Sd where
  under : List UInt8
  there : List UInt8
  closed : Bool
  ended : Bool

def Sd.zero : Sd := ⟨[], [], false, false⟩

structure Cn where
  name : ByteArray
  waiting : Bool
  cut : Bool
  s0 : Sd
  s1 : Sd

/-- The blocks that a net holds, each with its place: (i, 0): connection i; (i, 1) to (i, 4): its rows; (0, 10) to (0, 12): the net, the row of pointers, the map. -/
abbrev Lab := Nat → Option (Nat × Nat)

/-- A row of bytes that lies in a block of that label, or a nil slice. -/
structure RowAt (w : World) (L : Lab) (tag : Nat × Nat) (v : Value) (xs : List UInt8) : Prop where
  own : w.ownsRow 0 5 1 v xs.length (bytes xs)
  lab : ∀ g, v.ownBlock = some g → L g = some tag

theorem RowAt.nil (w : World) (L : Lab) (tag) : RowAt w L tag (.slice none 0 0) [] :=
  ⟨World.ownsRow_nil w 0 _ 1, by intro g h; simp [Value.ownBlock] at h⟩

theorem ownsRow_frame {w w' : World} {base e size n : Nat} {v : Value} {xs : List Value} (h : w.ownsRow base e size v n xs)
    (hk : ∀ g, v.ownBlock = some g → w'.heap[g]? = w.heap[g]?) : w'.ownsRow base e size v n xs := by
  refine ⟨h.1, ?_⟩
  rcases h.2 with hn | ⟨g, cap, cur, rfl, hb, hgg, rest⟩
  · exact .inl hn
  · exact .inr ⟨g, cap, cur, rfl, hb, (hk g (by simp [Value.ownBlock])).trans hgg, rest⟩

theorem RowAt.frame {w w' : World} {L L' : Lab} {tag} {v : Value} {xs : List UInt8} (h : RowAt w L tag v xs)
    (hk : ∀ g, v.ownBlock = some g → w'.heap[g]? = w.heap[g]? ∧ L' g = L g) : RowAt w' L' tag v xs :=
  ⟨ownsRow_frame h.own fun g hg => (hk g hg).1, fun g hg => (hk g hg).2.trans (h.lab g hg)⟩

theorem RowAt.lt {w : World} {L : Lab} {tag} {v : Value} {xs : List UInt8} (h : RowAt w L tag v xs) {g : Nat} (hg : v.ownBlock = some g) : g < w.heap.size :=
  (h.own.lt g hg).2

def Sd.cells (s : Sd) (u t : Value) : List Value := [u, t, .bool s.closed, .bool s.ended]
def Cn.cells (c : Cn) (u0 t0 u1 t1 : Value) : List Value := [.string c.name, .bool c.waiting, .bool c.cut, u0, t0, .bool c.s0.closed, .bool c.s0.ended, u1, t1, .bool c.s1.closed, .bool c.s1.ended]

structure ConnRows (w : World) (L : Lab) (i : Nat) (c : Cn) (u0 t0 u1 t1 : Value) : Prop where
  u0 : RowAt w L (i, 1) u0 c.s0.under
  t0 : RowAt w L (i, 2) t0 c.s0.there
  u1 : RowAt w L (i, 3) u1 c.s1.under
  t1 : RowAt w L (i, 4) t1 c.s1.there

structure ConnAt (w : World) (L : Lab) (i b : Nat) (c : Cn) (u0 t0 u1 t1 : Value) : Prop where
  blk : w.heap[b]? = some (.cells #[.string c.name, .bool c.waiting, .bool c.cut, u0, t0, .bool c.s0.closed, .bool c.s0.ended, u1, t1, .bool c.s1.closed, .bool c.s1.ended] 61 (0, 0))
  lab : L b = some (i, 0)
  rows : ConnRows w L i c u0 t0 u1 t1

def ConnIs (w : World) (L : Lab) (i b : Nat) (c : Cn) : Prop := ∃ u0 t0 u1 t1, ConnAt w L i b c u0 t0 u1 t1

theorem ConnIs.frame {w w' : World} {L L' : Lab} {i b : Nat} {c : Cn} (h : ConnIs w L i b c)
    (hk : ∀ g k, k ≤ 4 → L g = some (i, k) → g < w.heap.size → w'.heap[g]? = w.heap[g]? ∧ L' g = L g) : ConnIs w' L' i b c := by
  obtain ⟨u0, t0, u1, t1, hb, hl, ⟨r1, r2, r3, r4⟩⟩ := h
  have q : ∀ {tag v xs}, tag ≤ 4 → RowAt w L (i, tag) v xs → RowAt w' L' (i, tag) v xs := fun ht r =>
    r.frame fun g hg => hk g _ ht (r.lab g hg) (r.lt hg)
  have hbb := hk b 0 (by decide) hl (lt_of_heap hb)
  exact ⟨u0, t0, u1, t1, hbb.1.trans hb, hbb.2.trans hl, ⟨q (by decide) r1, q (by decide) r2, q (by decide) r3, q (by decide) r4⟩⟩

abbrev MapD := DataW Unit

/-- A net: its connections; the map of refusals, its bound. -/
structure St where
  cs : List Cn
  D : MapD
  m : Nat

def ptrs (bs : List Nat) : List Value := bs.map fun b => Value.pointer (some ⟨b, 0, none⟩)

structure NetAt (B : Nat) (w : World) (L : Lab) (n : Nat) (S : St) (cv : Value) (mb : Nat) (bs : List Nat) : Prop where
  blk : w.heap[n]? = some (.cells #[cv, .map (some mb)] 55 (0, 0))
  lab : L n = some (0, 10)
  row : w.ownsRow 0 56 1 cv bs.length (ptrs bs)
  rlab : ∀ g, cv.ownBlock = some g → L g = some (0, 11)
  map : w.ownsMap Try.prog 9 (plainElem Try.prog 3) mb S.m S.D
  isMap : Maps.IsMap S.D
  mlab : L mb = some (0, 12)
  len : bs.length = S.cs.length
  conns : ∀ i b c, bs[i]? = some b → S.cs[i]? = some c → ConnIs w L i b c
  labs : ∀ x t, L x = some t → B ≤ x ∧ x < w.heap.size

def NetIs (B : Nat) (w : World) (L : Lab) (n : Nat) (S : St) : Prop := ∃ cv mb bs, NetAt B w L n S cv mb bs

theorem ownsMap_frame {P : Program} {k : TypeId} {R} {w w' : World} {b n : Nat} {D : MapD} (h : w.ownsMap P k R b n D) (hk : w'.heap[b]? = w.heap[b]?) : w'.ownsMap P k R b n D := by
  obtain ⟨es, clock, hb, r⟩ := h
  exact ⟨es, clock, hk.trans hb, r⟩

/-- A net stays what it is while none of its blocks is written. -/
theorem NetIs.frame {B : Nat} {w w' : World} {L : Lab} {n : Nat} {S : St} (h : NetIs B w L n S) {F : Nat → Prop} (hm : Mod F w w') (hF : ∀ x t, L x = some t → ¬ F x) : NetIs B w' L n S := by
  obtain ⟨cv, mb, bs, h⟩ := h
  have q : ∀ x t, L x = some t → w'.heap[x]? = w.heap[x]? := fun x t hx => hm.block x (h.labs x t hx).2 (hF x t hx)
  exact ⟨cv, mb, bs, (q n _ h.lab).trans h.blk, h.lab, ownsRow_frame h.row fun g hg => q g _ (h.rlab g hg), h.rlab, ownsMap_frame h.map (q mb _ h.mlab), h.isMap, h.mlab, h.len,
    fun i b c hb hc => (h.conns i b c hb hc).frame fun g k _ hg _ => ⟨q g _ hg, rfl⟩, fun x t hx => ⟨(h.labs x t hx).1, Nat.lt_of_lt_of_le (h.labs x t hx).2 hm.size⟩⟩

/-- What a call on a net leaves: the net in its new state; new blocks apart, only the net's own have been written. -/
def LeftL (B : Nat) (w : World) (L : Lab) (n : Nat) (S' : St) (w' : World) (L' : Lab) : Prop :=
  NetIs B w' L' n S' ∧ (∀ x, x < w.heap.size → L' x = L x ∨ L' x = none) ∧ Mod (fun x => L x ≠ none) w w'

def Left (B : Nat) (w : World) (L : Lab) (n : Nat) (S' : St) (w' : World) : Prop := ∃ L', LeftL B w L n S' w' L'

/-- One connection is turned; its own blocks alone have been written. -/
theorem NetAt.setConn {B : Nat} {w w' : World} {L L' : Lab} {n : Nat} {S : St} {cv : Value} {mb : Nat} {bs : List Nat} (h : NetAt B w L n S cv mb bs) {i b : Nat} (hb : bs[i]? = some b) (c' : Cn)
    (hL : ∀ x, x < w.heap.size → L' x = L x ∨ (L' x = none ∧ ∃ k, k ≤ 4 ∧ L x = some (i, k))) (hB : B ≤ w.heap.size) (hlab : ∀ x t, L' x = some t → x < w'.heap.size)
    (hm : Mod (fun x => ∃ k, k ≤ 4 ∧ L x = some (i, k)) w w') (hc : ConnIs w' L' i b c') : LeftL B w L n { S with cs := S.cs.set i c' } w' L' := by
  have q : ∀ x t, L x = some t → (∀ k, k ≤ 4 → t ≠ (i, k)) → w'.heap[x]? = w.heap[x]? ∧ L' x = L x := fun x t hx ht =>
    ⟨hm.block x (h.labs x t hx).2 (by rintro ⟨k, hk, e⟩; rw [hx] at e; exact ht k hk (Option.some.inj e)),
      (hL x (h.labs x t hx).2).resolve_right (by rintro ⟨_, k, hk, e⟩; rw [hx] at e; exact ht k hk (Option.some.inj e))⟩
  have q10 := q n _ h.lab (by intro k hk e; simp only [Prod.mk.injEq] at e; omega)
  have q12 := q mb _ h.mlab (by intro k hk e; simp only [Prod.mk.injEq] at e; omega)
  have q11 : ∀ g, cv.ownBlock = some g → w'.heap[g]? = w.heap[g]? ∧ L' g = L g := fun g hg => q g _ (h.rlab g hg) (by intro k hk e; simp only [Prod.mk.injEq] at e; omega)
  refine ⟨⟨cv, mb, bs, q10.1.trans h.blk, q10.2.trans h.lab, ownsRow_frame h.row fun g hg => (q11 g hg).1, fun g hg => (q11 g hg).2.trans (h.rlab g hg), ownsMap_frame h.map q12.1, h.isMap, q12.2.trans h.mlab, by simpa using h.len, ?_, ?_⟩, fun x hx => (hL x hx).imp id (·.1),
    hm.mono fun x _ ⟨k, _, e⟩ => by simp [e]⟩
  · intro j b' cj hbj hcj
    by_cases hij : j = i
    · subst hij
      rw [hb] at hbj; obtain rfl := Option.some.inj hbj
      rw [List.getElem?_set, if_pos rfl] at hcj
      split at hcj
      · obtain rfl := Option.some.inj hcj; exact hc
      · cases hcj
    · rw [List.getElem?_set_ne (Ne.symm hij)] at hcj
      exact (h.conns j b' cj hbj hcj).frame fun g k _ hg _ => q g _ hg (by intro k' _ e; simp only [Prod.mk.injEq] at e; exact hij e.1)
  · intro x t hx
    refine ⟨?_, hlab x t hx⟩
    rcases Nat.lt_or_ge x w.heap.size with hx' | hx'
    · rcases hL x hx' with e | e
      · rw [e] at hx; exact (h.labs x t hx).1
      · rw [e.1] at hx; cases hx
    · omega

theorem Left.same {B : Nat} {w w' : World} {L : Lab} {n : Nat} {S : St} (h : NetIs B w L n S) (hw : Mod (fun _ => False) w w') : Left B w L n S w' :=
  ⟨L, h.frame hw (fun _ _ _ => id), fun _ _ => .inl rfl, hw.mono fun _ _ f => f.elim⟩

/-- A slice of bytes that is read. -/
structure RdB (w : World) (ao : Option Addr) (c : Nat) (ps : List UInt8) : Prop where
  isNil : ao = none → ps = [] ∧ c = 0
  cells : ∀ ad, ao = some ad → ∀ j u, (bytes ps)[j]? = some u → w.cell? (ad.add j) = some u
  le : ps.length ≤ c
  cap : c ≤ maxLen

theorem RowAt.kept {w w' : World} {L L' : Lab} {tag} {v : Value} {xs : List UInt8} (h : RowAt w L tag v xs) {F : Nat → Prop} (hL : ∀ x, x < w.heap.size → L' x = L x) (hm : Mod F w w')
    (hF : ∀ x, L x = some tag → ¬ F x) : RowAt w' L' tag v xs :=
  h.frame fun g hg => ⟨hm.block g (h.lt hg) (hF g (h.lab g hg)), hL g (h.lt hg)⟩

theorem bytes_one (l : List UInt8) : ∀ u ∈ bytes l, u.oneCell' = true := by
  intro u hu
  obtain ⟨_, _, rfl⟩ := List.mem_map.1 hu
  rfl

theorem RdB.drewN {w : World} {ao c ps} (h : RdB w ao c ps) (n : Nat) : RdB (w.drewN n) ao c ps := ⟨h.isNil, h.cells, h.le, h.cap⟩

/-- Append of bytes, as the walk wants it. -/
theorem append_bytes {w : World} {ops : Array Oper} {rest : List Oper} {o : Oper} {a : Act} {Q : Exit → Act → World → Prop} (hgd : o.guard = none) (s x : Operand)
    (ho : o.op = .call { callee := .builtin .append, args := #[s, x], argTypes := #[22, 22] })
    (v : Value) (xs : List UInt8) (hs : a.eval s = v) (hown : w.ownsRow 0 5 1 v xs.length (bytes xs))
    (ao : Option Addr) (c : Nat) (ps : List UInt8) (m : Nat) (hx : a.eval x = .slice ao m c) (hm : m = ps.length) (q : Nat) (hq : q = xs.length + ps.length) (hp : RdB w ao c ps) (hlen : xs.length + ps.length ≤ 140737488355328)
    (h : ∀ ao' c' w', w'.ownsRow 0 5 1 (.slice ao' q c') (xs ++ ps).length (bytes (xs ++ ps)) → w.grownBy w' v.ownBlock →
      (∀ g, (Value.slice ao' q c').ownBlock = some g → v.ownBlock = some g ∨ w.heap.size ≤ g) →
      wpList Try.prog ops Q rest (a.put o.dst (.slice ao' q c')) w') : wpList Try.prog ops Q (o :: rest) a w := by
  obtain ⟨i0, hi5, hz0, hz1, hz2⟩ := info_parts info5
  subst hm
  subst hq
  refine wpList_append_sl _ hgd s x 22 ho 5 i0 (.int .u8 0) 1 1 Try.underlying22 hi5 hz0 hz1 hz2 rfl (by decide) v xs.length (bytes xs) hs hown ao ps.length c (bytes ps) hx (by simp)
    (fun hn => by obtain ⟨h1, h2⟩ := hp.isNil hn; simp [h1, h2]) hp.cells (bytes_one ps) (by unfold maxLen; omega) (by omega) ?_
  intro v' w' h1 h2 h3
  have hf : ∃ ao' c', v' = .slice ao' (xs.length + ps.length) c' := by
    rcases h1.2 with ⟨hv, hn⟩ | ⟨g, cap, cur, hv, _⟩
    · rw [hv, hn]; exact ⟨none, 0, rfl⟩
    · exact ⟨_, _, hv⟩
  obtain ⟨ao', c', rfl⟩ := hf
  exact h ao' c' w' (by simpa [bytes_append] using h1) h2 h3

/-- The same at a step of a region that draws. -/
theorem step_bytes {w : World} {ops : Array Oper} {o : Oper} {a : Act} {K : Act → World → Prop} {Q : Exit → Act → World → Prop} {E : Prop} (hgd : o.guard = none) (s x : Operand)
    (ho : o.op = .call { callee := .builtin .append, args := #[s, x], argTypes := #[22, 22] })
    (v : Value) (xs : List UInt8) (hs : a.eval s = v) (hown : w.ownsRow 0 5 1 v xs.length (bytes xs))
    (ao : Option Addr) (c : Nat) (ps : List UInt8) (m : Nat) (hx : a.eval x = .slice ao m c) (hm : m = ps.length) (q : Nat) (hq : q = xs.length + ps.length) (hp : RdB w ao c ps) (hlen : xs.length + ps.length ≤ 140737488355328)
    (h : ∀ ao' c' w', w'.ownsRow 0 5 1 (.slice ao' q c') (xs ++ ps).length (bytes (xs ++ ps)) → w.grownBy w' v.ownBlock →
      (∀ g, (Value.slice ao' q c').ownBlock = some g → v.ownBlock = some g ∨ w.heap.size ≤ g) →
      K (a.put o.dst (.slice ao' q c')) w') : if Region.wanted o (yielded ops a.tmps) = true then Oper.wp Try.prog o a w K Q else E := by
  obtain ⟨i0, hi5, hz0, hz1, hz2⟩ := info_parts info5
  subst hm
  subst hq
  refine step_append_sl _ hgd s x 22 ho 5 i0 (.int .u8 0) 1 1 Try.underlying22 hi5 hz0 hz1 hz2 rfl (by decide) v xs.length (bytes xs) hs hown ao ps.length c (bytes ps) hx (by simp)
    (fun hn => by obtain ⟨h1, h2⟩ := hp.isNil hn; simp [h1, h2]) hp.cells (bytes_one ps) (by unfold maxLen; omega) (by omega) ?_
  intro v' w' h1 h2 h3
  have hf : ∃ ao' c', v' = .slice ao' (xs.length + ps.length) c' := by
    rcases h1.2 with ⟨hv, hn⟩ | ⟨g, cap, cur, hv, _⟩
    · rw [hv, hn]; exact ⟨none, 0, rfl⟩
    · exact ⟨_, _, hv⟩
  obtain ⟨ao', c', rfl⟩ := hf
  exact h ao' c' w' (by simpa [bytes_append] using h1) h2 h3

/-- The labels behind a call that has laid one new row. -/
def Lab.row (L : Lab) (z : Nat) (v : Value) (tag : Nat × Nat) : Lab := fun x => if x < z then L x else if v.ownBlock = some x then some tag else none

theorem Lab.row_old (L : Lab) (z : Nat) (v : Value) (tag) : ∀ x, x < z → L.row z v tag x = L x := fun x hx => by simp [Lab.row, hx]

theorem Lab.row_lt {L : Lab} {w w' : World} {v : Value} {tag} (hs : w.heap.size ≤ w'.heap.size) (hv : ∀ g, v.ownBlock = some g → g < w'.heap.size) : ∀ x t, L.row w.heap.size v tag x = some t → x < w'.heap.size := by
  intro x t hx
  unfold Lab.row at hx
  split at hx
  · omega
  · split at hx
    · rename_i e; exact hv x e
    · cases hx

/-- The new row's label. -/
theorem Lab.row_new {L : Lab} {z : Nat} {v v0 : Value} {tag} (hn : ∀ g, v.ownBlock = some g → v0.ownBlock = some g ∨ z ≤ g) (h0 : ∀ g, v0.ownBlock = some g → L g = some tag) (hz : ∀ g, v0.ownBlock = some g → g < z) :
    ∀ g, v.ownBlock = some g → L.row z v tag g = some tag := by
  intro g hg
  unfold Lab.row
  rcases hn g hg with h | h
  · rw [if_pos (hz g h), h0 g h]
  · rw [if_neg (by omega), if_pos hg]

end Go.Proofs.Ytibijonjjkknoaa
