/-
A log of the call's own: what each of its methods leaves.
-/
import Derived.Test.YthpflfcgnaichaaDoorTraText
set_option linter.unusedVariables false
set_option linter.unusedSimpArgs false
namespace Go.Proofs.YthpflfcgnaichaaDoor
open Go Go.RowKit

abbrev PLog (w : World) (lb : Nat) (v : Value) (xs : List Ent) : Prop := LogAt w 27 38 lb v xs

/-- A log that the call which began in w has made. -/
structure Lg (w wr : World) (lb : Nat) (v : Value) (xs : List Ent) : Prop where
  log : PLog wr lb v xs
  below : Below w.heap.size w wr
  lb : w.heap.size ≤ lb
  vb : ∀ g, v.ownBlock = some g → w.heap.size ≤ g

theorem log_later {w w2 : World} {S T : TypeId} {lb : Nat} {v : Value} {xs : List Ent} (h : LogAt w S T lb v xs) (hb : Below w.heap.size w w2) : LogAt w2 S T lb v xs :=
  ⟨(hb.block lb (lt_of_heap h.blk)).trans h.blk, ownsRow_frame h.row fun g hg => hb.block g (h.row.lt g hg).2, h.ne⟩

theorem Lg.later {w wr w2 : World} {lb : Nat} {v : Value} {xs : List Ent} (h : Lg w wr lb v xs) (hb : Below wr.heap.size wr w2) : Lg w w2 lb v xs :=
  ⟨log_later h.log hb, h.below.trans (hb.mono h.below.size), h.lb, h.vb⟩

theorem Lg.alloc {w wr : World} {lb : Nat} {v : Value} {xs : List Ent} (h : Lg w wr lb v xs) (o : Obj) : Lg w (wr.alloc o) lb v xs :=
  h.later ((Below.refl _ wr).alloc (Nat.le_refl _) o)

/-- Another block changes, or a row of others. -/
theorem Lg.mod {w wr w2 : World} {lb : Nat} {v : Value} {xs : List Ent} {F : Nat → Prop} (h : Lg w wr lb v xs) (hm : Mod F wr w2) (h1 : ¬ F lb) (h2 : ∀ g, v.ownBlock = some g → ¬ F g) (h3 : ∀ k, F k → w.heap.size ≤ k) : Lg w w2 lb v xs :=
  ⟨h.log.frame hm h1 h2, h.below.trans (hm.below h.below.size h3), h.lb, h.vb⟩

theorem log_new (w : World) : Lg w (w.alloc (.cells #[.slice none 0 0] 27)) w.heap.size (.slice none 0 0) [] :=
  ⟨⟨alloc_new _, World.ownsRow_nil _ _ _ _, nofun⟩, (Below.refl _ _).alloc (Nat.le_refl _) _, Nat.le_refl _, nofun⟩

/-- What Add leaves of it, when it takes the entry. -/
def LgAdd (w wr : World) (lb : Nat) (v : Value) (xs : List Ent) (e : Ent) (r : Ending) (w' : World) : Prop :=
  ∃ v', r = .returned (.tuple #[.int .i64 (xs.length : Int), .int .i64 0]) ∧ Lg w w' lb v' (xs ++ [e.num xs.length]) ∧ Mod (fun k => k = lb ∨ v.ownBlock = some k) wr w' ∧ (∀ g, v'.ownBlock = some g → v.ownBlock = some g ∨ wr.heap.size ≤ g)

theorem Lg.add {w wr : World} {lb : Nat} {v : Value} {xs : List Ent} (h : Lg w wr lb v xs) (e : Ent) (hlen : xs.length < 65536) (hmay : e.may = true) :
    Calls Tryd.prog 10 #[.pointer (some ⟨lb, 0, none⟩), e.v] wr fun r w' => LgAdd w wr lb v xs e r w' :=
  (padd_walk wr lb v xs e h.log hlen hmay).mono fun r w' ⟨v', hr, h1, h2, h3⟩ => by
    refine ⟨v', hr, ⟨h1, h.below.trans (h2.below h.below.size fun k hk => ?_), h.lb, fun g hg => ?_⟩, h2, h3⟩
    · rcases hk with rfl | hk
      · exact h.lb
      · exact h.vb k hk
    · rcases h3 g hg with q | q
      · exact h.vb g q
      · exact Nat.le_trans h.below.size q

theorem Lg.addBad {w wr : World} {lb : Nat} {v : Value} {xs : List Ent} (h : Lg w wr lb v xs) (e : Ent) (hmay : e.may = false) :
    Calls Tryd.prog 10 #[.pointer (some ⟨lb, 0, none⟩), e.v] wr fun r w' => r = .returned (.tuple #[.int .i64 0, .int .i64 2]) ∧ Lg w w' lb v xs ∧ Below wr.heap.size wr w' :=
  (paddBad_walk wr lb e hmay).mono fun r w' ⟨hr, hb⟩ => ⟨hr, h.later hb, hb⟩

theorem Lg.fin {w wr : World} {lb : Nat} {v : Value} {xs : List Ent} (h : Lg w wr lb v xs) (hlen : xs.length < 65537) (i : Nat) (e : Ent) (how : Int) (hi : xs[i]? = some e) (hf : e.fin = 0) (h1 : 1 ≤ how) (h2 : how ≤ 7) :
    Calls Tryd.prog 12 #[.pointer (some ⟨lb, 0, none⟩), .int .i64 (i : Int), .int .i64 how] wr fun r w' => r = .returned (.int .i64 0) ∧ Lg w w' lb v (xs.set i (e.ended how)) ∧ Mod (fun k => v.ownBlock = some k) wr w' :=
  (pend_walk wr lb v xs h.log hlen i e how hi hf h1 h2).mono fun r w' ⟨hr, hl, hm⟩ => ⟨hr, ⟨hl, h.below.trans (hm.below h.below.size fun k hk => h.vb k hk), h.lb, h.vb⟩, hm⟩

end Go.Proofs.YthpflfcgnaichaaDoor
