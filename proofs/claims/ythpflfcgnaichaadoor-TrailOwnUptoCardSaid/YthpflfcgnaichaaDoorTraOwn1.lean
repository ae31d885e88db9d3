/-
Items that own blocks apart from each other; lists of lists among them.
-/
import Derived.Test.YthpflfcgnaichaaDoorTraMade
import Derived.Test.YthpflfcgnaichaaDoorTraEntM
import Derived.Test.YthpflfcgnaichaaDoorTraOpen
import Derived.Test.YthpflfcgnaichaaDoorTraLg
set_option linter.unusedVariables false
set_option linter.unusedSimpArgs false
namespace Go.Proofs.YthpflfcgnaichaaDoor
open Go Go.RowKit

/-- Something that is said of memory, and the blocks on which alone it hangs. -/
structure Item where
  own : Nat → Prop
  P : World → Prop
  stable : ∀ w w2 : World, (∀ g, own g → w2.heap[g]? = w.heap[g]?) → P w → P w2

def Item.none : Item := ⟨fun _ => False, fun _ => True, fun _ _ _ h => h⟩

structure Bag (w : World) (It : Nat → Item) : Prop where
  holds : ∀ i, (It i).P w
  lt : ∀ i g, (It i).own g → g < w.heap.size
  apart : ∀ i j g, i ≠ j → (It i).own g → ¬ (It j).own g

def upd (It : Nat → Item) (k : Nat) (x : Item) : Nat → Item := fun i => if i = k then x else It i

theorem Bag.later {w w2 : World} {It : Nat → Item} (h : Bag w It) (hb : Below w.heap.size w w2) : Bag w2 It :=
  ⟨fun i => (It i).stable w w2 (fun g hg => hb.block g (h.lt i g hg)) (h.holds i), fun i g hg => Nat.lt_of_lt_of_le (h.lt i g hg) hb.size, h.apart⟩

/-- One item is put anew: its blocks are the elder item's, or new ones; nothing else changed. -/
theorem Bag.put {w w2 : World} {It : Nat → Item} (h : Bag w It) (k : Nat) (x : Item) (hm : ∀ g, g < w.heap.size → ¬ (It k).own g → w2.heap[g]? = w.heap[g]?) (hs : w.heap.size ≤ w2.heap.size)
    (hP : x.P w2) (hlt : ∀ g, x.own g → g < w2.heap.size) (hown : ∀ g, x.own g → (It k).own g ∨ w.heap.size ≤ g) : Bag w2 (upd It k x) := by
  refine ⟨fun i => ?_, fun i g hg => ?_, fun i j g hij hi hj => ?_⟩
  · unfold upd
    by_cases e : i = k
    · rw [if_pos e]; exact hP
    · rw [if_neg e]
      exact (It i).stable w w2 (fun g hg => hm g (h.lt i g hg) (h.apart i k g e hg)) (h.holds i)
  · unfold upd at hg
    by_cases e : i = k
    · rw [if_pos e] at hg; exact hlt g hg
    · rw [if_neg e] at hg; exact Nat.lt_of_lt_of_le (h.lt i g hg) hs
  · unfold upd at hi hj
    by_cases e : i = k
    · rw [if_pos e] at hi
      rw [if_neg (by omega)] at hj
      rcases hown g hi with q | q
      · exact h.apart k j g (by omega) q hj
      · exact absurd (h.lt j g hj) (by omega)
    · rw [if_neg e] at hi
      by_cases e2 : j = k
      · rw [if_pos e2] at hj
        rcases hown g hj with q | q
        · exact h.apart i k g e hi q
        · exact absurd (h.lt i g hi) (by omega)
      · rw [if_neg e2] at hj
        exact h.apart i j g hij hi hj

/-- A row that the call owns. -/
def rowItem (T : TypeId) (sz : Nat) (v : Value) (n : Nat) (vs : List Value) : Item :=
  ⟨fun g => v.ownBlock = some g, fun w => w.ownsRow 0 T sz v n vs, fun w w2 hk h => ownsRow_frame h hk⟩

/-- One object. -/
def objItem (b : Nat) (o : Obj) : Item :=
  ⟨fun g => g = b, fun w => w.heap[b]? = some o, fun w w2 hk h => (hk b rfl).trans h⟩

end Go.Proofs.YthpflfcgnaichaaDoor

set_option linter.unusedVariables false
set_option linter.unusedSimpArgs false
namespace Go.Proofs.YthpflfcgnaichaaDoor
open Go Go.RowKit

/-- A shorter list of the same row. -/
theorem ownsRow_short {w : World} {base e size g n m cap : Nat} {xs ys : List Value} (h : w.ownsRow base e size (.slice (some ⟨g, 0, none⟩) (n + m) cap) (n + m) (xs ++ ys)) (hx : xs.length = n * size) : w.ownsRow base e size (.slice (some ⟨g, 0, none⟩) n cap) n xs := by
  refine ⟨hx, ?_⟩
  rcases h.2 with ⟨hv, _⟩ | ⟨g', cap', cur, hv, hb, hg, hn, hc, hs, ht⟩
  · cases hv
  · simp only [Value.slice.injEq, Option.some.injEq, Addr.mk.injEq, and_true, true_and] at hv
    obtain ⟨rfl, rfl⟩ := hv
    refine .inr ⟨g, cap, cur, rfl, hb, hg, by omega, hc, hs, ?_⟩
    have e1 : cur.toList.take (n * size) = (cur.toList.take ((n + m) * size)).take (n * size) := by
      rw [List.take_take, Nat.min_eq_left (by rw [Nat.add_mul]; omega)]
    rw [e1, ht, ← hx, List.take_left]

/-- Append onto an own row: the new list, and the elder one as it was. -/
theorem run_append_two {P : Program} (w : World) (t ty e : TypeId) (i : TypeInfo) (z : Value) (size nb : Nat) (ht : P.underlying t = some (.slice e)) (hi : P.info? e = some i) (hz : i.zero = some z)
    (hsize : i.size = size) (hby : i.bytes = nb) (hzs : z.cells.size = size) (hsz : 0 < size)
    (v : Value) (n : Nat) (xs : List Value) (hown : w.ownsRow 0 e size v n xs)
    (a : Addr) (m c : Nat) (news : List Value) (hl : news.length = m * size)
    (hnews : ∀ j u, news[j]? = some u → w.cell? (a.add j) = some u) (h1 : ∀ u ∈ news, u.oneCell' = true)
    (h63 : n + m ≤ maxLen) (hbytes : (n + m) * nb ≤ 140737488355328) :
    ∃ v' w', (Builtin.append_ #[t, t] ty #[v, .slice (some a) m c]).run P w = .ok v' w' ∧ w'.ownsRow 0 e size v' (n + m) (xs ++ news) ∧ w'.ownsRow 0 e size v n xs ∧ w.grownBy w' v.ownBlock ∧
      (∀ g, v'.ownBlock = some g → v.ownBlock = some g ∨ w.heap.size ≤ g) := by
  rcases hown.2 with ⟨hv, hn0⟩ | ⟨g, cap, cur, hv, hbg, hg, hnc, hcm, hcs, htake⟩
  · subst hv; subst hn0
    obtain ⟨v', w', hr, ho, hgr, _⟩ := run_append_own (P := P) w w.heap.size t ty e i z size nb ht hi hz hsize hby hzs hsz (.slice none 0 0) 0 xs ⟨hown.1, .inl ⟨rfl, rfl⟩⟩ a m c news hl hnews h1 h63 hbytes (Nat.le_refl _)
    exact ⟨v', w', hr, ownsRow_base ho 0 (Nat.zero_le _), ⟨hown.1, .inl ⟨rfl, rfl⟩⟩, hgr, fun g hg => .inr (ho.lt g hg).1⟩
  · subst hv
    by_cases hroom : n + m ≤ cap
    · obtain ⟨w', hr, ho, hgr⟩ := run_append_fits (P := P) w 0 t ty e i size ht hi hsize g n cap xs hown a m c news hl hnews h1 hroom
      exact ⟨_, w', hr, ho, ownsRow_short ho hown.1, by simpa [Value.ownBlock] using hgr, fun g' hg' => .inl hg'⟩
    · obtain ⟨v', w', hr, ho, hgr⟩ := run_append_arg_grows (P := P) w t ty e i z size nb ht hi hz hsize hby hzs hsz ⟨g, 0, none⟩ n cap xs hown.1 (hown.cells (g := g) rfl) a m c news hl hnews (by omega) h63 hbytes
      exact ⟨v', w', hr, ownsRow_base ho 0 (Nat.zero_le _), ownsRow_frame hown (fun g' hg' => hgr.block g' (hown.lt g' hg').2 (by simp)), ⟨hgr.os, hgr.tape, hgr.output, hgr.size, fun k hk _ => hgr.block k hk (by simp)⟩, fun g' hg' => .inr (ho.lt g' hg').1⟩

theorem wpList_append_two {P : Program} {w : World} {ops : Array Oper} {rest : List Oper} {o : Oper} {a : Act} {Q : Exit → Act → World → Prop} (hgd : o.guard = none) (s x : Operand) (t : TypeId)
    (ho : o.op = .call { callee := .builtin .append, args := #[s, x], argTypes := #[t, t] })
    (e : TypeId) (z : Value) (size nb : Nat) (ht : P.underlying t = some (.slice e)) (hinf : (P.info? e).map (fun i => (i.zero, i.size, i.bytes)) = some (some z, size, nb)) (hzs : z.cells.size = size) (hsz : 0 < size)
    (v : Value) (n : Nat) (xs : List Value) (hs : a.eval s = v) (hown : w.ownsRow 0 e size v n xs)
    (g c : Nat) (news : List Value) (hx : a.eval x = .slice (some ⟨g, 0, none⟩) 1 c) (hl : news.length = size)
    (hnews : ∀ j u, news[j]? = some u → w.cell? ((⟨g, 0, none⟩ : Addr).add j) = some u) (h1 : ∀ u ∈ news, u.oneCell' = true)
    (h63 : n + 1 ≤ maxLen) (hbytes : (n + 1) * nb ≤ 140737488355328) (q : Nat) (hq : q = n + 1)
    (h : ∀ ao' c' w', w'.ownsRow 0 e size (.slice ao' q c') q (xs ++ news) → w'.ownsRow 0 e size v n xs → w.grownBy w' v.ownBlock → (∀ g, (Value.slice ao' q c').ownBlock = some g → v.ownBlock = some g ∨ w.heap.size ≤ g) →
      wpList P ops Q rest (a.put o.dst (.slice ao' q c')) w') : wpList P ops Q (o :: rest) a w := by
  obtain ⟨i, hi, hz, hsize, hby⟩ := info_parts hinf
  subst hq
  refine wpList_plain hgd fun K hK => ?_
  obtain ⟨v', w', hr, h2, h3, h4, h5⟩ := run_append_two (P := P) w t o.type e i z size nb ht hi hz hsize hby hzs hsz v n xs hown ⟨g, 0, none⟩ 1 c news (by rw [hl, Nat.one_mul]) hnews h1 h63 hbytes
  have hf : ∃ ao' c', v' = .slice ao' (n + 1) c' := by
    rcases h2.2 with ⟨hv, hn⟩ | ⟨g, cap, cur, hv, _⟩
    · rw [hv, hn]; exact ⟨none, 0, rfl⟩
    · exact ⟨_, _, hv⟩
  obtain ⟨ao', c', rfl⟩ := hf
  unfold Oper.wp execOp
  simp only [ho, resolve, invoke, builtin, Sem.run_bind, Sem.run_pure, Result.andThen_ok, List.map_toArray, List.map_cons, List.map_nil, hs, hx, hr]
  exact hK _ _ (h _ _ w' h2 h3 h4 h5)

/-- The cells of an element are there, and may be written. -/
theorem row_there {w : World} {base e size n : Nat} {v : Value} {xs : List Value} (h : w.ownsRow base e size v n xs) {g : Nat} (hv : v.ownBlock = some g) (k : Nat) (hk : k < n) : w.there g (k * size) size := by
  rcases h.2 with ⟨rfl, _⟩ | ⟨g', cap, cur, rfl, hb, hg, hn, hc, hs, ht⟩
  · cases hv
  · obtain rfl : g' = g := by simpa [Value.ownBlock] using hv
    intro j hj
    have hm : k * size + size ≤ cap * size := by
      rw [← Nat.succ_mul]
      exact Nat.mul_le_mul_right _ (by omega)
    rw [cell_blk hg, frozen_blk hg]
    exact ⟨by rw [Array.getElem?_eq_getElem (by omega)]; rfl, rfl⟩

/-- A whole element is written over. -/
theorem row_setCells {w : World} {base e size n : Nat} {v : Value} {xs : List Value} (h : w.ownsRow base e size v n xs) {g : Nat} (hv : v.ownBlock = some g) (k : Nat) (hk : k < n) (new : List Value) (hl : new.length = size) :
    (w.setCells g (k * size) new).ownsRow base e size v n (xs.take (k * size) ++ new ++ xs.drop (k * size + size)) := by
  rcases h.2 with ⟨rfl, _⟩ | ⟨g', cap, cur, rfl, hb, hg, hn, hc, hs, ht⟩
  · cases hv
  · obtain rfl : g' = g := by simpa [Value.ownBlock] using hv
    have hm : k * size + size ≤ n * size := by
      rw [← Nat.succ_mul]
      exact Nat.mul_le_mul_right _ (by omega)
    have hm2 : n * size ≤ cap * size := Nat.mul_le_mul_right _ hn
    have hcur : cur = (cur.toList.take (k * size) ++ (cur.toList.drop (k * size)).take size ++ cur.toList.drop (k * size + size)).toArray := by
      rw [List.append_assoc, ← List.drop_drop, List.take_append_drop, List.take_append_drop]
    have hcl : cur.toList.length = cap * size := by rw [Array.length_toList, hs]
    have hw : writeAt cur (k * size) new = (cur.toList.take (k * size) ++ new ++ cur.toList.drop (k * size + size)).toArray := by
      have h2 := writeAt_mid new ((cur.toList.drop (k * size)).take size) (cur.toList.take (k * size)) (cur.toList.drop (k * size + size)) (by rw [List.length_take, List.length_drop, hcl, hl]; omega)
      rw [← hcur, List.length_take, hcl, Nat.min_eq_left (by omega)] at h2
      exact h2
    have hxs := h.1
    refine ⟨by rw [List.length_append, List.length_append, List.length_take, List.length_drop, hl]; omega, .inr ⟨g', cap, _, rfl, hb, setCells_blk new (k * size) w cur hg, hn, hc, ?_, ?_⟩⟩
    · rw [hw, List.size_toArray, List.length_append, List.length_append, List.length_take, List.length_drop, hcl, hl]
      omega
    · rw [hw, ← ht, List.take_take, Nat.min_eq_left (by omega), List.drop_take, List.toList_toArray]
      rw [List.take_append, List.take_of_length_le (by rw [List.length_append, List.length_take, hl, hcl]; omega), List.length_append, List.length_take, hl, hcl, Nat.min_eq_left (by omega)]

theorem list_set {α : Type} {xs : List α} {k : Nat} (hk : k < xs.length) (e : α) : xs.set k e = xs.take k ++ [e] ++ xs.drop (k + 1) := by
  rw [List.set_eq_take_append_cons_drop, if_pos hk, List.append_assoc]
  rfl

/-- The write of one cell into a list of one's own, of elements of one cell. -/
theorem row_set {w : World} {base T n : Nat} {v : Value} {xs : List Value} (h : w.ownsRow base T 1 v n xs) {g : Nat} (hv : v.ownBlock = some g) {k : Nat} (hk : k < n) (u : Value) : (w.setCell ⟨g, k, none⟩ u).ownsRow base T 1 v n (xs.set k u) := by
  have h1 := row_setCells h hv k hk [u] rfl
  have hl := h.1
  rw [Nat.mul_one] at h1 hl
  rw [list_set (by omega)]
  exact h1

end Go.Proofs.YthpflfcgnaichaaDoor

set_option linter.unusedVariables false
set_option linter.unusedSimpArgs false
namespace Go.Proofs.YthpflfcgnaichaaDoor
open Go Go.RowKit

/-- Items of a call that began in w0. -/
structure Bg (w0 w : World) (It : Nat → Item) : Prop where
  bag : Bag w It
  below : Below w0.heap.size w0 w
  lo : ∀ i g, (It i).own g → w0.heap.size ≤ g

theorem Bg.later {w0 w w2 : World} {It : Nat → Item} (h : Bg w0 w It) (hb : Below w.heap.size w w2) : Bg w0 w2 It :=
  ⟨h.bag.later hb, h.below.trans (hb.mono h.below.size), h.lo⟩

theorem Bg.alloc {w0 w : World} {It : Nat → Item} (h : Bg w0 w It) (o : Obj) : Bg w0 (w.alloc o) It := h.later ((Below.refl _ w).alloc (Nat.le_refl _) o)

theorem Bg.drewN {w0 w : World} {It : Nat → Item} (h : Bg w0 w It) (n : Nat) : Bg w0 (w.drewN n) It := h.later ⟨rfl, rfl, rfl, Nat.le_refl _, fun _ _ => rfl⟩

theorem Bg.put {w0 w w2 : World} {It : Nat → Item} (h : Bg w0 w It) (k : Nat) (x : Item) (hm : Mod (It k).own w w2) (hP : x.P w2) (hlt : ∀ g, x.own g → g < w2.heap.size) (hown : ∀ g, x.own g → (It k).own g ∨ w.heap.size ≤ g) : Bg w0 w2 (upd It k x) := by
  refine ⟨h.bag.put k x (fun g hg hn => hm.block g hg hn) hm.size hP hlt hown, h.below.trans (hm.below h.below.size (h.lo k)), fun i g hg => ?_⟩
  unfold upd at hg
  by_cases e : i = k
  · rw [if_pos e] at hg
    rcases hown g hg with q | q
    · exact h.lo k g q
    · exact Nat.le_trans h.below.size q
  · rw [if_neg e] at hg
    exact h.lo i g hg

theorem upd_same (It : Nat → Item) (k : Nat) (x : Item) : upd It k x k = x := by unfold upd; rw [if_pos rfl]
theorem upd_ne (It : Nat → Item) {k i : Nat} (x : Item) (h : i ≠ k) : upd It k x i = It i := by unfold upd; rw [if_neg h]

/-- A log. -/
def LI (lb : Nat) (v : Value) (xs : List Ent) : Item :=
  ⟨fun g => g = lb ∨ v.ownBlock = some g, fun w => PLog w lb v xs, fun w w2 hk h => ⟨(hk lb (.inl rfl)).trans h.blk, ownsRow_frame h.row fun g hg => hk g (.inr hg), h.ne⟩⟩

/-- A list and the longer one that was made of it. -/
def TI (T : TypeId) (sz : Nat) (v v2 : Value) (n : Nat) (vs vs2 : List Value) : Item :=
  ⟨fun g => v.ownBlock = some g ∨ v2.ownBlock = some g, fun w => w.ownsRow 0 T sz v n vs ∧ w.ownsRow 0 T sz v2 (n + 1) vs2,
    fun w w2 hk h => ⟨ownsRow_frame h.1 fun g hg => hk g (.inl hg), ownsRow_frame h.2 fun g hg => hk g (.inr hg)⟩⟩

/-- Lists of cs in rows of their own, those ahead of (i, k) marked. -/
structure Lst (It : Nat → Item) (o : Nat) (T : TypeId) (sz : Nat) (mk : Nat → List Value) (vals : List Value) (i k : Nat) : Prop where
  all : ∀ j v, vals[j]? = some v → ∃ ao c cs, v = .slice ao (List.length cs) c ∧ It (o + j) = rowItem T sz v cs.length cs.flatten ∧ cs.length ≤ 60 ∧ ∀ t x, cs[t]? = some x → x.length = sz ∧ (j < i ∨ j = i ∧ t < k → x = mk j)

theorem Lst.ext {It : Nat → Item} {o : Nat} {T : TypeId} {sz : Nat} {mk : Nat → List Value} {vals : List Value} (h : Lst It o T sz mk vals 0 0) (ao : Option Addr) (c : Nat) (cs : List (List Value)) (hI : It (o + vals.length) = rowItem T sz (.slice ao cs.length c) cs.length cs.flatten) (hn : cs.length ≤ 60) (hl : ∀ (t : Nat) x, cs[t]? = some x → x.length = sz) :
    Lst It o T sz mk (vals ++ [.slice ao cs.length c]) 0 0 := by
  refine ⟨fun j v hj => ?_⟩
  by_cases e : j < vals.length
  · rw [List.getElem?_append_left e] at hj
    exact h.all j v hj
  · rw [List.getElem?_append_right (by omega)] at hj
    obtain ⟨hj2, rfl⟩ : j = vals.length ∧ v = .slice ao cs.length c := by
      have := (List.getElem?_eq_some_iff.1 hj).1
      rw [List.length_singleton] at this
      have e2 : j - vals.length = 0 := by omega
      rw [e2] at hj
      exact ⟨by omega, (Option.some.inj hj).symm⟩
    subst hj2
    exact ⟨ao, c, cs, rfl, hI, hn, fun t x hx => ⟨hl t x hx, fun q => by omega⟩⟩

/-- Another item is put. -/
theorem Lst.other {It : Nat → Item} {o : Nat} {T : TypeId} {sz : Nat} {mk : Nat → List Value} {vals : List Value} {i k : Nat} (h : Lst It o T sz mk vals i k) (p : Nat) (x : Item) (hp : ∀ j, j < vals.length → p ≠ o + j) : Lst (upd It p x) o T sz mk vals i k := by
  refine ⟨fun j v hj => ?_⟩
  obtain ⟨ao, c, cs, h1, h2, h3⟩ := h.all j v hj
  have := hp j (List.getElem?_eq_some_iff.1 hj).1
  exact ⟨ao, c, cs, h1, by rw [upd_ne _ _ (by omega)]; exact h2, h3⟩

theorem flatten_len {sz : Nat} : ∀ {cs : List (List Value)}, (∀ (t : Nat) x, cs[t]? = some x → x.length = sz) → cs.flatten.length = cs.length * sz
  | [], _ => by simp
  | x :: cs, h => by
    rw [List.flatten_cons, List.length_append, List.length_cons, flatten_len (fun t x hx => h (t + 1) x hx), h 0 x rfl]
    rw [Nat.succ_mul]; omega

theorem flatten_set {sz : Nat} {cs : List (List Value)} (h : ∀ (t : Nat) x, cs[t]? = some x → x.length = sz) {k : Nat} (hk : k < cs.length) (e : List Value) : (cs.set k e).flatten = cs.flatten.take (k * sz) ++ e ++ cs.flatten.drop (k * sz + sz) := by
  have h1 : cs = cs.take k ++ cs[k] :: cs.drop (k + 1) := by rw [← List.drop_eq_getElem_cons hk, List.take_append_drop]
  have l1 : (cs.take k).flatten.length = k * sz := by
    rw [flatten_len (sz := sz) (fun t x hx => ?_), List.length_take, Nat.min_eq_left (by omega)]
    rw [List.getElem?_take] at hx
    split at hx
    · exact h t x hx
    · cases hx
  have l2 : cs[k].length = sz := h k _ (List.getElem?_eq_getElem hk)
  have e3 : cs.flatten = (cs.take k).flatten ++ (cs[k] ++ (cs.drop (k + 1)).flatten) := by
    conv => lhs; rw [h1, List.flatten_append, List.flatten_cons]
  have e4 : cs.flatten.drop (k * sz + sz) = (cs.drop (k + 1)).flatten := by
    rw [e3, ← List.append_assoc]
    exact List.drop_left' (by rw [List.length_append, l1, l2])
  rw [List.set_eq_take_append_cons_drop, if_pos hk, List.flatten_append, List.flatten_cons, e4, e3, List.take_left' l1, List.append_assoc]

theorem row_at0 {w : World} {T : TypeId} {sz n : Nat} {v : Value} {xs : List Value} (h : w.ownsRow 0 T sz v n xs) (hn : 0 < n) : ∃ g c, v = .slice (some ⟨g, 0, none⟩) n c := by
  rcases h.2 with ⟨_, h0⟩ | ⟨g, cap, cur, hv, _⟩
  · omega
  · exact ⟨g, cap, hv⟩

/-- A cell of a row of elements of one cell. -/
theorem row_cell1 {w : World} {T : TypeId} {n : Nat} {g c : Nat} {xs : List Value} (h : w.ownsRow 0 T 1 (.slice (some ⟨g, 0, none⟩) n c) n xs) {j : Nat} {u : Value} (hu : xs[j]? = some u) : w.cell? ⟨g, j, none⟩ = some u := by
  have h1 := h.cells (g := g) rfl j u hu
  rwa [show ((⟨g, 0, none⟩ : Addr).add j) = ⟨g, j, none⟩ by unfold Addr.add; split <;> simp_all] at h1

section
variable {w0 w : World} {It : Nat → Item} {o : Nat} {T : TypeId} {sz : Nat} {mk : Nat → List Value} {vals : List Value} {i k : Nat}

/-- A list is opened: where it lies. -/
theorem Lst.row (h : Lst It o T sz mk vals i k) (hB : Bg w0 w It) {j : Nat} {v : Value} (hj : vals[j]? = some v) : ∃ ao n c, v = .slice ao n c ∧ n ≤ 60 ∧ (0 < n → ∃ g, ao = some ⟨g, 0, none⟩ ∧ w0.heap.size ≤ g ∧ g < w.heap.size ∧ ∀ t, t < n → w.there g (t * sz) sz) := by
  obtain ⟨ao, c, cs, rfl, h2, h3, h4⟩ := h.all j v hj
  have hP := hB.bag.holds (o + j)
  rw [h2] at hP
  refine ⟨ao, cs.length, c, rfl, h3, fun hn => ?_⟩
  obtain ⟨g, c', hv⟩ := row_at0 hP hn
  simp only [Value.slice.injEq, true_and] at hv
  obtain ⟨rfl, rfl⟩ := hv
  have hlo := hB.lo (o + j) g (by rw [h2]; rfl)
  have hlt := hB.bag.lt (o + j) g (by rw [h2]; rfl)
  exact ⟨g, rfl, hlo, hlt, fun t ht => row_there hP rfl t ht⟩

/-- A mark is written. -/
theorem Lst.mark (h : Lst It o T sz mk vals i k) (hB : Bg w0 w It) (hmk : (mk i).length = sz) {g n c : Nat} (hj : vals[i]? = some (.slice (some ⟨g, 0, none⟩) n c)) (hk : k < n) :
    ∃ x, Bg w0 (w.setCells g (k * sz) (mk i)) (upd It (o + i) x) ∧ Lst (upd It (o + i) x) o T sz mk vals i (k + 1) := by
  obtain ⟨ao, c', cs, hv, h2, h3, h4⟩ := h.all i _ hj
  simp only [Value.slice.injEq] at hv
  obtain ⟨rfl, rfl, rfl⟩ := hv
  have hP := hB.bag.holds (o + i)
  rw [h2] at hP
  have hP2 := row_setCells hP (g := g) rfl k hk (mk i) hmk
  rw [← flatten_set (fun t x hx => (h4 t x hx).1) hk] at hP2
  have hm : Mod (It (o + i)).own w (w.setCells g (k * sz) (mk i)) := mod_setCells (fun _ => by rw [h2]; rfl) (mk i) (k * sz) w (Mod.refl _ w)
  refine ⟨rowItem T sz (.slice (some ⟨g, 0, none⟩) cs.length c) cs.length (cs.set k (mk i)).flatten, hB.put _ _ hm hP2 (fun g' hg' => ?_) (fun g' hg' => .inl (by rw [h2]; exact hg')), ⟨fun j v hj2 => ?_⟩⟩
  · exact Nat.lt_of_lt_of_le (hB.bag.lt (o + i) g' (by rw [h2]; exact hg')) hm.size
  · by_cases e : j = i
    · subst e
      rw [hj] at hj2
      cases hj2
      refine ⟨_, c, cs.set k (mk j), by rw [List.length_set], by rw [upd_same, List.length_set], by rw [List.length_set]; exact h3, fun t x hx => ?_⟩
      rw [List.getElem?_set] at hx
      by_cases e2 : k = t
      · subst e2
        rw [if_pos rfl, if_pos hk] at hx
        cases hx
        exact ⟨hmk, fun _ => rfl⟩
      · rw [if_neg e2] at hx
        refine ⟨(h4 t x hx).1, fun q => (h4 t x hx).2 (by omega)⟩
    · obtain ⟨ao, c2, cs2, g1, g2, g3, g4⟩ := h.all j v hj2
      refine ⟨ao, c2, cs2, g1, by rw [upd_ne _ _ (by omega)]; exact g2, g3, fun t x hx => ⟨(g4 t x hx).1, fun q => (g4 t x hx).2 (by omega)⟩⟩

/-- A list is done. -/
theorem Lst.next (h : Lst It o T sz mk vals i k) {ao : Option Addr} {n c : Nat} (hj : vals[i]? = some (.slice ao n c)) (hk : n ≤ k) : Lst It o T sz mk vals (i + 1) 0 := by
  refine ⟨fun j v hj2 => ?_⟩
  obtain ⟨ao2, c2, cs2, g1, g2, g3, g4⟩ := h.all j v hj2
  refine ⟨ao2, c2, cs2, g1, g2, g3, fun t x hx => ⟨(g4 t x hx).1, fun q => (g4 t x hx).2 ?_⟩⟩
  by_cases e : j = i
  · subst e
    rw [hj] at hj2
    cases hj2
    simp only [Value.slice.injEq] at g1
    have := (List.getElem?_eq_some_iff.1 hx).1
    omega
  · omega

end

/-- Marked lists; behind the first of them lie longer ones, each made of its list. -/
structure Lng (It : Nat → Item) (o : Nat) (T : TypeId) (sz : Nat) (mk fin : Nat → List Value) (vals longs : List Value) : Prop where
  all : ∀ j v, vals[j]? = some v → ∃ ao c n, v = .slice ao n c ∧ n ≤ 60 ∧
    ((longs[j]? = none ∧ It (o + j) = rowItem T sz v n (List.replicate n (mk j)).flatten) ∨
     ∃ ao2 c2, longs[j]? = some (.slice ao2 (n + 1) c2) ∧ It (o + j) = TI T sz v (.slice ao2 (n + 1) c2) n (List.replicate n (mk j)).flatten ((List.replicate n (mk j)).flatten ++ fin j))

theorem all_eq_replicate {α : Type} {a : α} : ∀ {l : List α}, (∀ (t : Nat) x, l[t]? = some x → x = a) → l = List.replicate l.length a
  | [], _ => rfl
  | x :: l, h => by
    rw [List.length_cons, List.replicate_succ, h 0 x rfl]
    congr 1
    exact all_eq_replicate fun t x hx => h (t + 1) x hx

theorem Lst.long {It : Nat → Item} {o : Nat} {T : TypeId} {sz : Nat} {mk : Nat → List Value} {vals : List Value} {i : Nat} (h : Lst It o T sz mk vals i 0) (hi : vals.length ≤ i) (fin : Nat → List Value) : Lng It o T sz mk fin vals [] := by
  refine ⟨fun j v hj => ?_⟩
  obtain ⟨ao, c, cs, g1, g2, g3, g4⟩ := h.all j v hj
  have := (List.getElem?_eq_some_iff.1 hj).1
  have hr := all_eq_replicate (fun t x hx => (g4 t x hx).2 (.inl (by omega)))
  refine ⟨ao, c, cs.length, g1, g3, .inl ⟨rfl, ?_⟩⟩
  rw [← hr]
  exact g2

theorem Lng.other {It : Nat → Item} {o : Nat} {T : TypeId} {sz : Nat} {mk fin : Nat → List Value} {vals longs : List Value} (h : Lng It o T sz mk fin vals longs) (p : Nat) (x : Item) (hp : ∀ j, j < vals.length → p ≠ o + j) : Lng (upd It p x) o T sz mk fin vals longs := by
  refine ⟨fun j v hj => ?_⟩
  obtain ⟨ao, c, n, h1, h2, h3⟩ := h.all j v hj
  have := hp j (List.getElem?_eq_some_iff.1 hj).1
  refine ⟨ao, c, n, h1, h2, ?_⟩
  rw [upd_ne _ _ (by omega)]
  exact h3

section
variable {w0 w : World} {It : Nat → Item} {o : Nat} {T : TypeId} {sz : Nat} {mk fin : Nat → List Value} {vals longs : List Value}

/-- The next list, ahead of its append. -/
theorem Lng.row (h : Lng It o T sz mk fin vals longs) (hB : Bg w0 w It) {v : Value} (hj : vals[longs.length]? = some v) : ∃ ao n c, v = .slice ao n c ∧ n ≤ 60 ∧ It (o + longs.length) = rowItem T sz v n (List.replicate n (mk longs.length)).flatten ∧ w.ownsRow 0 T sz v n (List.replicate n (mk longs.length)).flatten := by
  obtain ⟨ao, c, n, h1, h2, ⟨_, h3⟩ | ⟨ao2, c2, h3, _⟩⟩ := h.all _ v hj
  · have hP := hB.bag.holds (o + longs.length)
    rw [h3] at hP
    exact ⟨ao, n, c, h1, h2, h3, hP⟩
  · rw [List.getElem?_eq_none (Nat.le_refl _)] at h3
    cases h3

/-- Behind the append. -/
theorem Lng.app (h : Lng It o T sz mk fin vals longs) (hB : Bg w0 w It) {ao ao2 : Option Addr} {n c c2 : Nat} {w2 : World} (hj : vals[longs.length]? = some (.slice ao n c))
    (h1 : w2.ownsRow 0 T sz (.slice ao2 (n + 1) c2) (n + 1) ((List.replicate n (mk longs.length)).flatten ++ fin longs.length)) (h2 : w2.ownsRow 0 T sz (.slice ao n c) n (List.replicate n (mk longs.length)).flatten)
    (hg : w.grownBy w2 (Value.slice ao n c).ownBlock) (hn : ∀ g, (Value.slice ao2 (n + 1) c2).ownBlock = some g → (Value.slice ao n c).ownBlock = some g ∨ w.heap.size ≤ g) :
    ∃ x, Bg w0 w2 (upd It (o + longs.length) x) ∧ Lng (upd It (o + longs.length) x) o T sz mk fin vals (longs ++ [.slice ao2 (n + 1) c2]) := by
  obtain ⟨ao', n', c', hv, hn', h3, hP⟩ := h.row hB hj
  simp only [Value.slice.injEq] at hv
  obtain ⟨rfl, rfl, rfl⟩ := hv
  refine ⟨TI T sz (.slice ao n c) (.slice ao2 (n + 1) c2) n (List.replicate n (mk longs.length)).flatten ((List.replicate n (mk longs.length)).flatten ++ fin longs.length), hB.put _ _ ?_ ⟨h2, h1⟩ (fun g q => ?_) (fun g q => ?_), ⟨fun j v hj2 => ?_⟩⟩
  · rw [h3]
    exact (Mod.refl _ w).grown hg (fun k hk _ => hk)
  · rcases q with q | q
    · exact (h2.lt g q).2
    · exact (h1.lt g q).2
  · rw [h3]
    rcases q with q | q
    · exact .inl q
    · exact hn g q
  · by_cases e : j = longs.length
    · subst e
      rw [hj] at hj2
      cases hj2
      refine ⟨ao, c, n, rfl, hn', .inr ⟨ao2, c2, ?_, upd_same _ _ _⟩⟩
      rw [List.getElem?_append_right (Nat.le_refl _), Nat.sub_self]
      rfl
    · obtain ⟨ao3, c3, n3, g1, g2, g3⟩ := h.all j v hj2
      refine ⟨ao3, c3, n3, g1, g2, ?_⟩
      rw [upd_ne _ _ (by omega)]
      rcases g3 with ⟨g3, g4⟩ | ⟨ao4, c4, g3, g4⟩
      · refine .inl ⟨?_, g4⟩
        have := List.getElem?_eq_none_iff.1 g3
        exact List.getElem?_eq_none (by rw [List.length_append, List.length_singleton]; omega)
      · refine .inr ⟨ao4, c4, ?_, g4⟩
        rw [List.getElem?_append_left (List.getElem?_eq_some_iff.1 g3).1]
        exact g3

theorem rep_flat {α : Type} {l : List α} (n t j : Nat) (ht : t < n) (hj : j < l.length) : (List.replicate n l).flatten[t * l.length + j]? = l[j]? := by
  induction n generalizing t with
  | zero => omega
  | succ n ih =>
    rw [List.replicate_succ, List.flatten_cons]
    cases t with
    | zero => rw [Nat.zero_mul, Nat.zero_add, List.getElem?_append_left hj]
    | succ t =>
      rw [Nat.succ_mul, List.getElem?_append_right (by omega)]
      rw [show t * l.length + l.length + j - l.length = t * l.length + j by omega]
      exact ih t (by omega)

/-- What the looks meet: the marks in both lists, and the last mark. -/
theorem Lng.looks (h : Lng It o T sz mk fin vals longs) (hB : Bg w0 w It) (hl : longs.length = vals.length) (hmk : ∀ j, (mk j).length = sz) (hfin : ∀ j, (fin j).length = sz) (hsz : 0 < sz) {j : Nat} {v : Value} (hj : vals[j]? = some v) :
    ∃ ao n c g2 c2, v = .slice ao n c ∧ n ≤ 60 ∧ longs[j]? = some (.slice (some ⟨g2, 0, none⟩) (n + 1) c2) ∧
      (0 < n → ∃ g, ao = some ⟨g, 0, none⟩ ∧ ∀ t, t < n → w.cell? ⟨g, t * sz, none⟩ = (mk j)[0]?) ∧
      (∀ t, t < n → w.cell? ⟨g2, t * sz, none⟩ = (mk j)[0]?) ∧ w.cell? ⟨g2, n * sz, none⟩ = (fin j)[0]? := by
  obtain ⟨ao, c, n, rfl, h2, ⟨h3, _⟩ | ⟨ao2, c2, h3, h4⟩⟩ := h.all j v hj
  · have h5 := (List.getElem?_eq_some_iff.1 hj).1
    have := List.getElem?_eq_none_iff.1 h3
    omega
  · have hP := hB.bag.holds (o + j)
    rw [h4] at hP
    obtain ⟨p1, p2⟩ := hP
    obtain ⟨g2, c', hv⟩ := row_at0 p2 (Nat.succ_pos n)
    simp only [Value.slice.injEq, true_and] at hv
    obtain ⟨rfl, rfl⟩ := hv
    have hadd : ∀ (g k : Nat), ((⟨g, 0, none⟩ : Addr).add k) = ⟨g, k, none⟩ := fun g k => by unfold Addr.add; split <;> simp_all
    have hlen : (List.replicate n (mk j)).flatten.length = n * sz := by
      rw [flatten_len (sz := sz) (fun t x hx => ?_), List.length_replicate]
      rw [List.getElem?_replicate] at hx
      split at hx
      · cases hx; exact hmk j
      · cases hx
    have hm : ∀ t, t < n → (List.replicate n (mk j)).flatten[t * sz]? = (mk j)[0]? := fun t ht => by
      have := rep_flat (l := mk j) n t 0 ht (by rw [hmk]; exact hsz)
      rwa [hmk, Nat.add_zero] at this
    have h0 : ∃ u, (mk j)[0]? = some u := ⟨_, List.getElem?_eq_getElem (by rw [hmk]; exact hsz)⟩
    have h1 : ∃ u, (fin j)[0]? = some u := ⟨_, List.getElem?_eq_getElem (by rw [hfin]; exact hsz)⟩
    obtain ⟨u0, hu0⟩ := h0
    obtain ⟨u1, hu1⟩ := h1
    refine ⟨ao, n, c, g2, c2, rfl, h2, h3, fun hn => ?_, fun t ht => ?_, ?_⟩
    · obtain ⟨g, c', hv⟩ := row_at0 p1 hn
      simp only [Value.slice.injEq, true_and] at hv
      obtain ⟨rfl, rfl⟩ := hv
      refine ⟨g, rfl, fun t ht => ?_⟩
      have := p1.cells (g := g) rfl (t * sz) u0 (by rw [hm t ht, hu0])
      rw [hadd] at this
      rw [this, hu0]
    · have hlt : t * sz < (List.replicate n (mk j)).flatten.length := by
        rw [hlen]
        exact Nat.mul_lt_mul_of_pos_right ht hsz
      have := p2.cells (g := g2) rfl (t * sz) u0 (by rw [List.getElem?_append_left hlt, hm t ht, hu0])
      rw [hadd] at this
      rw [this, hu0]
    · have := p2.cells (g := g2) rfl (n * sz) u1 (by rw [List.getElem?_append_right (by omega), hlen, Nat.sub_self, hu1])
      rw [hadd] at this
      rw [this, hu1]

end

end Go.Proofs.YthpflfcgnaichaaDoor
