/-
Plain lemmas on the memory: what a call may have changed ('Mod'), and blocks known whole. No program occurs here.
-/
import Derived.WalkKit
import Derived.Laws.AppendOwnNone
import Derived.Lib.Hide
import Derived.Deep.RegionLaw
import Derived.ScopeJumps
import Derived.WalkSpells
import Derived.WalkLawsBesides
import Derived.BigQuiet
import Derived.Deep.QuietTactic
import Derived.Deep.DeepFit
import Derived.Deep.DeepCutAuto
import Derived.Deep.LoopGhost
set_option linter.unusedVariables false
set_option linter.unusedSimpArgs false
namespace Go.Proofs.Ytibijonjjkknoaa
open Go Go.RowKit

/-- The world w' is w with new blocks, and with writes to blocks of F alone. -/
structure Mod (F : Nat → Prop) (w w' : World) : Prop where
  os : w'.os = w.os
  tape : w'.tape = w.tape
  output : w'.output = w.output
  size : w.heap.size ≤ w'.heap.size
  block : ∀ k, k < w.heap.size → ¬ F k → w'.heap[k]? = w.heap[k]?

namespace Mod
variable {F G : Nat → Prop} {a b c : World}

theorem refl (F : Nat → Prop) (w : World) : Mod F w w := ⟨rfl, rfl, rfl, Nat.le_refl _, fun _ _ _ => rfl⟩

theorem trans (h : Mod F a b) (k : Mod F b c) : Mod F a c :=
  ⟨k.os.trans h.os, k.tape.trans h.tape, k.output.trans h.output, Nat.le_trans h.size k.size,
    fun i hi hF => (k.block i (Nat.lt_of_lt_of_le hi h.size) hF).trans (h.block i hi hF)⟩

/-- The second step's writes go to F or to blocks that are new since a. -/
theorem trans' (h : Mod F a b) (k : Mod G b c) (hG : ∀ i, i < a.heap.size → G i → F i) : Mod F a c :=
  ⟨k.os.trans h.os, k.tape.trans h.tape, k.output.trans h.output, Nat.le_trans h.size k.size,
    fun i hi hF => (k.block i (Nat.lt_of_lt_of_le hi h.size) (fun g => hF (hG i hi g))).trans (h.block i hi hF)⟩

theorem mono (h : Mod F a b) (hF : ∀ i, i < a.heap.size → F i → G i) : Mod G a b :=
  ⟨h.os, h.tape, h.output, h.size, fun i hi hG => h.block i hi (fun f => hG (hF i hi f))⟩

theorem alloc (h : Mod F a b) (o : Obj) : Mod F a (b.alloc o) :=
  h.trans' (G := fun _ => False) ⟨rfl, rfl, rfl, by simp, fun k hk _ => Below.heap_alloc _ _ _ hk⟩ (fun _ _ f => f.elim)

theorem drew (h : Mod F a b) : Mod F a b.drew := ⟨h.os, h.tape, h.output, h.size, h.block⟩

theorem setCell (h : Mod F a b) (p : Addr) (u : Value) (hp : p.block < a.heap.size → F p.block) : Mod F a (b.setCell p u) :=
  h.trans' (G := fun k => k = p.block) ⟨rfl, rfl, rfl, by simp, fun k hk hne => Below.heap_setCell _ _ _ _ hne⟩
    (fun i hi e => by subst e; exact hp hi)

theorem grown {row : Option Nat} (h : Mod F a b) (hg : b.grownBy c row) (hr : ∀ k, row = some k → k < a.heap.size → F k) : Mod F a c :=
  h.trans' (G := fun k => some k = row) ⟨hg.os, hg.tape, hg.output, hg.size, fun k hk hne => hg.block k hk hne⟩
    (fun i hi e => hr i e.symm hi)

theorem ofBelow {B : Nat} (h : Below B a b) (hB : ∀ k, k < a.heap.size → B ≤ k → F k) : Mod F a b :=
  ⟨h.os, h.tape, h.output, h.size, fun k hk hF => h.block k (by
    rcases Nat.lt_or_ge k B with g | g
    · exact g
    · exact (hF (hB k hk g)).elim)⟩

theorem below {B : Nat} (h : Mod F a b) (hB : B ≤ a.heap.size) (hF : ∀ k, F k → B ≤ k) : Below B a b :=
  ⟨h.os, h.tape, h.output, h.size, fun k hk => h.block k (by omega) (fun f => by have := hF k f; omega)⟩

theorem heap (h : Mod F a b) {k : Nat} {o : Obj} (hk : a.heap[k]? = some o) (hF : ¬ F k) : b.heap[k]? = some o :=
  (h.block k (Array.getElem?_eq_some_iff.1 hk).1 hF).trans hk

theorem cell (h : Mod F a b) {p : Addr} {v : Value} (hp : a.cell? p = some v) (hF : ¬ F p.block) : b.cell? p = some v :=
  (World.cell?_of_block (h.block p.block (World.block_lt_of_cell? a p hp) hF)).trans hp

end Mod

/-- A draw or more turns no block. -/
theorem heap_drewN (w : World) (n : Nat) : (w.drewN n).heap = w.heap := rfl

theorem lt_of_heap {w : World} {b : Nat} {o : Obj} (h : w.heap[b]? = some o) : b < w.heap.size :=
  (Array.getElem?_eq_some_iff.1 h).1

/-! Blocks known whole. -/
section
variable {w : World} {b : Nat} {c : Array Value} {e : TypeId}

theorem cell_blk (h : w.heap[b]? = some (.cells c e (0, 0))) (j : Nat) : w.cell? ⟨b, j, none⟩ = c[j]? := by
  simp [World.cell?, h]

theorem frozen_blk (h : w.heap[b]? = some (.cells c e (0, 0))) (j : Nat) : w.frozen? ⟨b, j, none⟩ = false := by
  simp [World.frozen?, h]

theorem set_blk (h : w.heap[b]? = some (.cells c e (0, 0))) (j : Nat) (v : Value) :
    (w.setCell ⟨b, j, none⟩ v).heap[b]? = some (.cells (c.setIfInBounds j v) e (0, 0)) :=
  heap_setCell_same w b j c e v h

theorem set_other {k : Nat} (p : Addr) (v : Value) (h : k ≠ p.block) : (w.setCell p v).heap[k]? = w.heap[k]? :=
  Below.heap_setCell w p v k h

theorem alloc_new (o : Obj) : (w.alloc o).heap[w.heap.size]? = some o := heap_alloc_new w o

theorem alloc_old {k : Nat} (o : Obj) (h : k < w.heap.size) : (w.alloc o).heap[k]? = w.heap[k]? := Below.heap_alloc w o k h

end

theorem ownsRow_base {w : World} {base e size n : Nat} {v : Value} {xs : List Value} (h : w.ownsRow base e size v n xs) (base' : Nat) (hb : base' ≤ base) : w.ownsRow base' e size v n xs := by
  refine ⟨h.1, ?_⟩
  rcases h.2 with hn | ⟨g, cap, cur, hv, hg, r⟩
  · exact .inl hn
  · exact .inr ⟨g, cap, cur, hv, Nat.le_trans hb hg, r⟩

/-- Append onto an own row, of any slice; the row stays where it was, or lies in a new block. -/
theorem run_append_sl {P : Program} (w : World) (t ty e : TypeId) (i : TypeInfo) (z : Value) (size nb : Nat) (ht : P.underlying t = some (.slice e)) (hi : P.info? e = some i) (hz : i.zero = some z)
    (hsize : i.size = size) (hby : i.bytes = nb) (hzs : z.cells.size = size) (hsz : 0 < size)
    (v : Value) (n : Nat) (xs : List Value) (hown : w.ownsRow 0 e size v n xs)
    (ao : Option Addr) (m c : Nat) (news : List Value) (hl : news.length = m * size) (hnone : ao = none → m = 0 ∧ c = 0)
    (hnews : ∀ ad, ao = some ad → ∀ j u, news[j]? = some u → w.cell? (ad.add j) = some u) (h1 : ∀ u ∈ news, u.oneCell' = true)
    (h63 : n + m ≤ maxLen) (hbytes : (n + m) * nb ≤ 140737488355328) :
    ∃ v' w', (Builtin.append_ #[t, t] ty #[v, .slice ao m c]).run P w = .ok v' w' ∧ w'.ownsRow 0 e size v' (n + m) (xs ++ news) ∧ w.grownBy w' v.ownBlock ∧
      (∀ g, v'.ownBlock = some g → v.ownBlock = some g ∨ w.heap.size ≤ g) := by
  cases ao with
  | none =>
    obtain ⟨rfl, rfl⟩ := hnone rfl
    obtain rfl : news = [] := List.eq_nil_of_length_eq_zero (by simpa using hl)
    exact ⟨v, w, run_append_owned_none (P := P) w 0 t ty e i size ht hi v n xs hown, by simpa using hown, ⟨rfl, rfl, rfl, Nat.le_refl _, fun _ _ _ => rfl⟩, fun g hg => .inl hg⟩
  | some a =>
    have hn := hnews a rfl
    rcases hown.2 with ⟨hv, hn0⟩ | ⟨g, cap, cur, hv, hbg, hg, hnc, hcm, hcs, htake⟩
    · subst hv; subst hn0
      obtain ⟨v', w', hr, ho, hgr, _⟩ := run_append_own (P := P) w w.heap.size t ty e i z size nb ht hi hz hsize hby hzs hsz (.slice none 0 0) 0 xs ⟨hown.1, .inl ⟨rfl, rfl⟩⟩ a m c news hl hn h1 h63 hbytes (Nat.le_refl _)
      exact ⟨v', w', hr, ownsRow_base ho 0 (Nat.zero_le _), hgr, fun g hg => .inr (ho.lt g hg).1⟩
    · subst hv
      by_cases hroom : n + m ≤ cap
      · obtain ⟨w', hr, ho, hgr⟩ := run_append_fits (P := P) w 0 t ty e i size ht hi hsize g n cap xs hown a m c news hl hn h1 hroom
        exact ⟨_, w', hr, ho, by simpa [Value.ownBlock] using hgr, fun g' hg' => .inl hg'⟩
      · obtain ⟨v', w', hr, ho, hgr⟩ := run_append_arg_grows (P := P) w t ty e i z size nb ht hi hz hsize hby hzs hsz ⟨g, 0, none⟩ n cap xs hown.1 (hown.cells (g := g) rfl) a m c news hl hn (by omega) h63 hbytes
        exact ⟨v', w', hr, ownsRow_base ho 0 (Nat.zero_le _), ⟨hgr.os, hgr.tape, hgr.output, hgr.size, fun k hk _ => hgr.block k hk (by simp)⟩, fun g' hg' => .inr (ho.lt g' hg').1⟩

theorem wpList_append_sl {P : Program} (w : World) {ops : Array Oper} {rest : List Oper} {o : Oper} {a : Act} {Q : Exit → Act → World → Prop} (hgd : o.guard = none) (s x : Operand) (t : TypeId)
    (ho : o.op = .call { callee := .builtin .append, args := #[s, x], argTypes := #[t, t] })
    (e : TypeId) (i : TypeInfo) (z : Value) (size nb : Nat) (ht : P.underlying t = some (.slice e)) (hi : P.info? e = some i) (hz : i.zero = some z)
    (hsize : i.size = size) (hby : i.bytes = nb) (hzs : z.cells.size = size) (hsz : 0 < size)
    (v : Value) (n : Nat) (xs : List Value) (hs : a.eval s = v) (hown : w.ownsRow 0 e size v n xs)
    (ao : Option Addr) (m c : Nat) (news : List Value) (hx : a.eval x = .slice ao m c) (hl : news.length = m * size) (hnone : ao = none → m = 0 ∧ c = 0)
    (hnews : ∀ ad, ao = some ad → ∀ j u, news[j]? = some u → w.cell? (ad.add j) = some u) (h1 : ∀ u ∈ news, u.oneCell' = true)
    (h63 : n + m ≤ maxLen) (hbytes : (n + m) * nb ≤ 140737488355328)
    (h : ∀ v' w', w'.ownsRow 0 e size v' (n + m) (xs ++ news) → w.grownBy w' v.ownBlock → (∀ g, v'.ownBlock = some g → v.ownBlock = some g ∨ w.heap.size ≤ g) →
      wpList P ops Q rest (a.put o.dst v') w') : wpList P ops Q (o :: rest) a w := by
  refine wpList_plain hgd fun K hK => ?_
  obtain ⟨v', w', hr, h2, h3, h4⟩ := run_append_sl (P := P) w t o.type e i z size nb ht hi hz hsize hby hzs hsz v n xs hown ao m c news hl hnone hnews h1 h63 hbytes
  unfold Oper.wp execOp
  simp only [ho, resolve, invoke, builtin, Sem.run_bind, Sem.run_pure, Result.andThen_ok, List.map_toArray, List.map_cons, List.map_nil, hs, hx, hr]
  exact hK _ _ (h v' w' h2 h3 h4)

/-- The same, the new value written out. -/
theorem wpList_append_q {P : Program} {w : World} {ops : Array Oper} {rest : List Oper} {o : Oper} {a : Act} {Q : Exit → Act → World → Prop} (hgd : o.guard = none) (s x : Operand) (t : TypeId)
    (ho : o.op = .call { callee := .builtin .append, args := #[s, x], argTypes := #[t, t] })
    (e : TypeId) (z : Value) (size nb : Nat) (ht : P.underlying t = some (.slice e)) (hinf : (P.info? e).map (fun i => (i.zero, i.size, i.bytes)) = some (some z, size, nb)) (hzs : z.cells.size = size) (hsz : 0 < size)
    (v : Value) (n : Nat) (xs : List Value) (hs : a.eval s = v) (hown : w.ownsRow 0 e size v n xs)
    (ao : Option Addr) (m c : Nat) (news : List Value) (hx : a.eval x = .slice ao m c) (hl : news.length = m * size) (hnone : ao = none → m = 0 ∧ c = 0)
    (hnews : ∀ ad, ao = some ad → ∀ j u, news[j]? = some u → w.cell? (ad.add j) = some u) (h1 : ∀ u ∈ news, u.oneCell' = true)
    (h63 : n + m ≤ maxLen) (hbytes : (n + m) * nb ≤ 140737488355328) (q : Nat) (hq : q = n + m)
    (h : ∀ ao' c' w', w'.ownsRow 0 e size (.slice ao' q c') q (xs ++ news) → w.grownBy w' v.ownBlock → (∀ g, (Value.slice ao' q c').ownBlock = some g → v.ownBlock = some g ∨ w.heap.size ≤ g) →
      wpList P ops Q rest (a.put o.dst (.slice ao' q c')) w') : wpList P ops Q (o :: rest) a w := by
  obtain ⟨i, hi, hz, hsize, hby⟩ := info_parts hinf
  subst hq
  refine wpList_append_sl w hgd s x t ho e i z size nb ht hi hz hsize hby hzs hsz v n xs hs hown ao m c news hx hl hnone hnews h1 h63 hbytes ?_
  intro v' w' h1 h2 h3
  have hf : ∃ ao' c', v' = .slice ao' (n + m) c' := by
    rcases h1.2 with ⟨hv, hn⟩ | ⟨g, cap, cur, hv, _⟩
    · rw [hv, hn]; exact ⟨none, 0, rfl⟩
    · exact ⟨_, _, hv⟩
  obtain ⟨ao', c', rfl⟩ := hf
  exact h ao' c' w' h1 h2 h3

/-- The same at a step of a region that draws its order. -/
theorem step_append_sl {P : Program} (w : World) {ops : Array Oper} {o : Oper} {a : Act} {K : Act → World → Prop} {Q : Exit → Act → World → Prop} {E : Prop} (hgd : o.guard = none) (s x : Operand) (t : TypeId)
    (ho : o.op = .call { callee := .builtin .append, args := #[s, x], argTypes := #[t, t] })
    (e : TypeId) (i : TypeInfo) (z : Value) (size nb : Nat) (ht : P.underlying t = some (.slice e)) (hi : P.info? e = some i) (hz : i.zero = some z)
    (hsize : i.size = size) (hby : i.bytes = nb) (hzs : z.cells.size = size) (hsz : 0 < size)
    (v : Value) (n : Nat) (xs : List Value) (hs : a.eval s = v) (hown : w.ownsRow 0 e size v n xs)
    (ao : Option Addr) (m c : Nat) (news : List Value) (hx : a.eval x = .slice ao m c) (hl : news.length = m * size) (hnone : ao = none → m = 0 ∧ c = 0)
    (hnews : ∀ ad, ao = some ad → ∀ j u, news[j]? = some u → w.cell? (ad.add j) = some u) (h1 : ∀ u ∈ news, u.oneCell' = true)
    (h63 : n + m ≤ maxLen) (hbytes : (n + m) * nb ≤ 140737488355328)
    (h : ∀ v' w', w'.ownsRow 0 e size v' (n + m) (xs ++ news) → w.grownBy w' v.ownBlock → (∀ g, v'.ownBlock = some g → v.ownBlock = some g ∨ w.heap.size ≤ g) →
      K (a.put o.dst v') w') : if Region.wanted o (yielded ops a.tmps) = true then Oper.wp P o a w K Q else E := by
  have hw : Region.wanted o (yielded ops a.tmps) = true := by simp [Region.wanted, hgd]
  rw [if_pos hw]
  obtain ⟨v', w', hr, h2, h3, h4⟩ := run_append_sl (P := P) w t o.type e i z size nb ht hi hz hsize hby hzs hsz v n xs hown ao m c news hl hnone hnews h1 h63 hbytes
  unfold Oper.wp execOp
  simp only [ho, resolve, invoke, builtin, Sem.run_bind, Sem.run_pure, Result.andThen_ok, List.map_toArray, List.map_cons, List.map_nil, hs, hx, hr]
  exact h v' w' h2 h3 h4

/-- 's[m:]' of a slice, the address behind a name. -/
theorem wpList_slice_lo {P : Program} {w : World} {ops : Array Oper} {rest : List Oper} {o : Oper} {a : Act} {Q : Exit → Act → World → Prop} (hgd : o.guard = none) (x l : Operand) (t e : TypeId)
    (hop : o.op = Op.slice t x (some l) none none) (ht : P.underlying t = some (.slice e)) (i : TypeInfo) (hi : P.info? e = some i) (size : Nat) (hsz : i.size = size)
    (ao : Option Addr) (n cap : Nat) (hx : a.eval x = .slice ao n cap) (kl : IntKind) (m : Nat) (hl : a.eval l = .int kl (m : Int)) (hm : m ≤ n)
    (h : ∀ ao', ao' = (if cap = m then ao else ao.map (·.add (m * size))) → wpList P ops Q rest (a.put o.dst (.slice ao' (n - m) (cap - m))) w) : wpList P ops Q (o :: rest) a w := by
  have he : P.elem t = e := by simp [Program.elem, ht]
  refine wpList_plain hgd fun K hK => ?_
  unfold Oper.wp
  have h1 : (0 : Int) ≤ (m : Int) := by omega
  have h2 : (m : Int) ≤ (n : Int) := by omega
  have hr := run_slice_l (P := P) w t ao n cap (by rw [he]; exact ht) kl (m : Int) h1 h2
  have ha := run_sliceAt_slice (P := P) w t (.slice ao n cap) (some (.int kl (m : Int))) none none (by rw [he]; exact ht)
  have hs : (sizeOf (P.elem t)).run P w = .ok size w := by rw [he]; simp [sizeOf, typeInfo, hi, hsz]
  simp only [execOp, hop, hx, hl, Option.map_some, Option.map_none, ha, hr, hs, Sem.run_bind, Result.andThen_ok, Sem.run_pure, Sem.run_map]
  exact hK _ _ (h _ rfl)

/-- 's[:m]' of a slice. -/
theorem wpList_slice_hi {P : Program} {w : World} {ops : Array Oper} {rest : List Oper} {o : Oper} {a : Act} {Q : Exit → Act → World → Prop} (hgd : o.guard = none) (x l : Operand) (t e : TypeId)
    (hop : o.op = Op.slice t x none (some l) none) (ht : P.underlying t = some (.slice e)) (hi : ∃ i, P.info? e = some i)
    (ao : Option Addr) (n cap : Nat) (hx : a.eval x = .slice ao n cap) (kl : IntKind) (m : Nat) (mi : Int) (hl : a.eval l = .int kl mi) (hmi : mi = (m : Int)) (hm : m ≤ cap)
    (h : wpList P ops Q rest (a.put o.dst (.slice ao m cap)) w) : wpList P ops Q (o :: rest) a w := by
  subst hmi
  obtain ⟨i, hi⟩ := hi
  have he : P.elem t = e := by simp [Program.elem, ht]
  refine wpList_plain hgd fun K hK => ?_
  unfold Oper.wp
  have h1 : (0 : Int) ≤ (m : Int) := by omega
  have h2 : (m : Int) ≤ (cap : Int) := by omega
  have hr := run_slice_h (P := P) w t ao n cap (by rw [he]; exact ht) kl (m : Int) h1 h2
  have ha := run_sliceAt_slice (P := P) w t (.slice ao n cap) none (some (.int kl (m : Int))) none (by rw [he]; exact ht)
  have hs : (sizeOf (P.elem t)).run P w = .ok i.size w := by rw [he]; simp [sizeOf, typeInfo, hi]
  have hv : sliced ao 0 (m : Int).toNat cap i.size = .slice ao m cap := by
    cases ao <;> simp [sliced, Addr.add]
  simp only [execOp, hop, hx, hl, Option.map_some, Option.map_none, ha, hr, hs, Sem.run_bind, Result.andThen_ok, Sem.run_pure, Sem.run_map, hv]
  exact hK _ _ h

/-- 'min(x, y)' of two ints, the answer behind a name. -/
theorem wpList_min {P : Program} {w : World} {ops : Array Oper} {rest : List Oper} {o : Oper} {a : Act} {Q : Exit → Act → World → Prop} (hgd : o.guard = none) (x y : Operand) (ts : Array TypeId)
    (ho : o.op = .call { callee := .builtin .min, args := #[x, y], argTypes := ts }) (k k' : IntKind) (p q r : Int) (hx : a.eval x = .int k p) (hy : a.eval y = .int k' q) (hr : (if q < p then q else p) = r)
    (h : wpList P ops Q rest (a.put o.dst (.int k r)) w) : wpList P ops Q (o :: rest) a w := by
  refine wpList_plain hgd fun K hK => ?_
  have hrun : (Builtin.min_ ts o.type #[.int k p, .int k' q]).run P w = .ok (.int k r) w := by
    subst hr; simp [Builtin.min_, Builtin.min2]
  unfold Oper.wp execOp
  simp only [ho, resolve, invoke, builtin, Sem.run_bind, Sem.run_pure, Result.andThen_ok, List.map_toArray, List.map_cons, List.map_nil, hx, hy, hrun]
  exact hK _ _ h

theorem results_tmp4 {fn : Func} {t u v x : Tmp} (h : fn.results = #[.tmp t, .tmp u, .tmp v, .tmp x]) (tmps : Array Value) (P : Program) (w : World) :
    (results fn tmps).run P w = .ok (.tuple #[tmps.getD t undef, tmps.getD u undef, tmps.getD v undef, tmps.getD x undef]) w := by
  simp [results, h]

theorem jump_goto {l : Nat} {J : Act → World → Prop} {Q : Exit → Act → World → Prop} {K : Act → World → Prop} {a : Act} {w : World} (h : J a w) :
    Exit.then K (Exit.jump l J Q) (.goto l) a w := ⟨rfl, h⟩

/-- A scope whose jumps all go forward to one label: what stands behind the label is walked where the jump is met. -/
theorem wp_scope_fwd {P : Program} {a : Act} {w : World} {Q : Exit → Act → World → Prop} {c rest : Code} (l : Nat) (hf : findLabel c l = some rest)
    (h : ∀ J : Act → World → Prop, (∀ a' w', rest.wp P (Exit.noGoto Q) a' w' → J a' w') → c.wp P (Exit.jump l J Q) a w) : (Code.scope c).wp P Q a w := by
  refine wp_scope_jumps l (fun a' w' => rest.wp P (Exit.noGoto Q) a' w') (fun _ _ => 0) hf (h _ fun _ _ q => q) ?_
  intro a' w' hJ
  refine wp_mono hJ ?_
  intro e a2 w2 q
  cases e <;> first | exact q | exact q.elim

end Go.Proofs.Ytibijonjjkknoaa
