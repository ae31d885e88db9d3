/-
The reference's cut at blanks, and a row of strings of one's own.
-/
import Derived.Test.YthpflfcgnaichaaDoorTraWords
import Derived.Test.YthpflfcgnaichaaDoorTraOpen
import Derived.Test.YthpflfcgnaichaaDoorTraPR
set_option linter.unusedVariables false
set_option linter.unusedSimpArgs false
namespace Go.Proofs.YthpflfcgnaichaaDoor
open Go Go.RowKit

/-- Ahead of the byte k: ws are cut, the next word begins at f. -/
structure WInv (s : ByteArray) (ws : List ByteArray) (f k : Nat) : Prop where
  fk : f ≤ k
  kn : k ≤ s.size
  no : ∀ j : Nat, f ≤ j → j < k → s.data.toList[j]? ≠ some 32
  eq : wordsL s.data.toList = ws.map (·.data.toList) ++ wordsL (s.data.toList.drop f)

theorem winv_first (s : ByteArray) : WInv s [] 0 0 := ⟨Nat.le_refl _, Nat.zero_le _, fun _ _ h => absurd h (Nat.not_lt_zero _), rfl⟩

theorem winv_plain {s : ByteArray} {ws : List ByteArray} {f k : Nat} {c : UInt8} (h : WInv s ws f k) (hc : s.data.toList[k]? = some c) (hp : ¬ c.toNat = 32) : WInv s ws f (k + 1) := by
  have hk : k < s.data.toList.length := (List.getElem?_eq_some_iff.1 hc).1
  rw [size_list] at hk
  refine ⟨Nat.le_succ_of_le h.fk, hk, fun j h1 h2 => ?_, h.eq⟩
  by_cases e : j = k
  · subst e
    rw [hc]
    intro q
    obtain rfl := Option.some.inj q
    exact hp rfl
  · exact h.no j h1 (by omega)

theorem winv_front {s : ByteArray} {ws : List ByteArray} {f k : Nat} (h : WInv s ws f k) : ∀ i : Nat, (s.extract f k).data.toList[i]? ≠ some 32 := fun i hi => by
  rw [Lib.extract_data, List.getElem?_take] at hi
  by_cases hik : i < k - f
  · rw [if_pos hik, List.getElem?_drop] at hi
    exact h.no (f + i) (by omega) (by omega) hi
  · rw [if_neg hik] at hi
    cases hi

theorem winv_blank {s : ByteArray} {ws : List ByteArray} {f k : Nat} {c : UInt8} (h : WInv s ws f k) (hc : s.data.toList[k]? = some c) (hp : c.toNat = 32) : WInv s (ws ++ [s.extract f k]) (k + 1) (k + 1) := by
  have hk : k < s.data.toList.length := (List.getElem?_eq_some_iff.1 hc).1
  have hc32 : c = 32 := by apply UInt8.toNat_inj.1; rw [hp]; rfl
  subst hc32
  have e1 : s.data.toList.drop f = (s.extract f k).data.toList ++ 32 :: s.data.toList.drop (k + 1) := by
    rw [Lib.extract_data, ← drop_at hc]
    have h1 : s.data.toList.drop k = (s.data.toList.drop f).drop (k - f) := by rw [List.drop_drop]; congr 1; have := h.fk; omega
    rw [h1, List.take_append_drop]
  have hk' := hk
  rw [size_list] at hk'
  refine ⟨Nat.le_refl _, hk', fun j h1 h2 => by omega, ?_⟩
  rw [h.eq, e1, words_cut _ _ (winv_front h), List.map_append]
  simp

theorem winv_end {s : ByteArray} {ws : List ByteArray} {f : Nat} (h : WInv s ws f s.size) : wordsL s.data.toList = (ws ++ [s.extract f s.size]).map (·.data.toList) := by
  have e1 : s.data.toList.drop f = (s.extract f s.size).data.toList := (Lib.extract_to_end s f).symm
  rw [h.eq, e1, words_none _ (winv_front h), List.map_append]
  rfl

theorem winv_len {s : ByteArray} {ws : List ByteArray} {f k : Nat} (h : WInv s ws f k) : ws.length ≤ s.size := by
  have h1 := words_count s.data.toList
  rw [h.eq, List.length_append, List.length_map, size_list] at h1
  have h2 : 0 < (wordsL (s.data.toList.drop f)).length := List.length_pos_iff.2 (words_ne _)
  omega

def strVs (l : List ByteArray) : List Value := l.map Value.string

theorem strInfo : (Tryd.prog.info? 9).map (fun i => (i.zero, i.size, i.bytes)) = some (some (.string ⟨#[]⟩), 1, 16) := by kernel_rfl

/-- Append of one string in a plain region. -/
theorem strAppend {w : World} {ops : Array Oper} {rest : List Oper} {o : Oper} {a : Act} {Q : Exit → Act → World → Prop} (hgd : o.guard = none) (s x : Operand)
    (ho : o.op = .call { callee := .builtin .append, args := #[s, x], argTypes := #[59, 59] })
    (v : Value) (xs : List ByteArray) (hs : a.eval s = v) (hown : w.ownsRow 0 9 1 v xs.length (strVs xs)) (g : Nat) (z : ByteArray) (hx : a.eval x = .slice (some ⟨g, 0, none⟩) 1 1)
    (hnew : w.cell? ⟨g, 0, none⟩ = some (.string z)) (hlen : xs.length ≤ 100000000) (q : Nat) (hq : q = xs.length + 1)
    (h : ∀ ao' c' w', w'.ownsRow 0 9 1 (.slice ao' q c') q (strVs (xs ++ [z])) → w.grownBy w' v.ownBlock → (∀ g, (Value.slice ao' q c').ownBlock = some g → v.ownBlock = some g ∨ w.heap.size ≤ g) →
      wpList Tryd.prog ops Q rest (a.put o.dst (.slice ao' q c')) w') : wpList Tryd.prog ops Q (o :: rest) a w := by
  refine wpList_append_q hgd s x 59 ho 9 (.string ⟨#[]⟩) 1 16 Tryd.underlying59 strInfo rfl (by decide) v xs.length (strVs xs) hs hown (some ⟨g, 0, none⟩) 1 1 [.string z] hx rfl
    (fun hn => by cases hn) (fun ad had => ?_) (fun u hu => by simp at hu; subst hu; rfl) (by unfold maxLen; omega) (by omega) q hq ?_
  · obtain rfl := Option.some.inj had
    intro j u hj
    cases j with
    | zero =>
      simp only [List.getElem?_cons_zero, Option.some.injEq] at hj
      subst hj
      exact hnew
    | succ j => simp at hj
  · intro ao' c' w' h1 h2 h3
    refine h ao' c' w' ?_ h2 h3
    have e1 : strVs (xs ++ [z]) = strVs xs ++ [.string z] := by simp [strVs]
    rw [e1, hq]
    rw [hq] at h1
    exact h1

/-- The memory while words are gathered. -/
structure SW (w wr : World) (v : Value) (ws : List ByteArray) : Prop where
  below : Below w.heap.size w wr
  row : wr.ownsRow 0 9 1 v ws.length (strVs ws)
  new : ∀ g, v.ownBlock = some g → w.heap.size ≤ g

theorem SW.first (w : World) : SW w w (.slice none 0 0) [] := ⟨Below.refl _ _, World.ownsRow_nil _ _ _ _, nofun⟩

theorem SW.app {w wr w2 : World} {v v' : Value} {ws : List ByteArray} {z : ByteArray} {o : Obj} (h : SW w wr v ws) (hr : w2.ownsRow 0 9 1 v' (ws ++ [z]).length (strVs (ws ++ [z]))) (hg : (wr.alloc o).grownBy w2 v.ownBlock)
    (hn : ∀ g, v'.ownBlock = some g → v.ownBlock = some g ∨ (wr.alloc o).heap.size ≤ g) : SW w w2 v' (ws ++ [z]) := by
  have hm : Mod (fun k => w.heap.size ≤ k) w w2 := ((Mod.ofBelow (h.below.alloc h.below.size o) (fun k _ hk => hk)).grown hg (fun k hk _ => h.new k hk))
  refine ⟨hm.below (Nat.le_refl _) (fun k hk => hk), hr, fun g hg' => ?_⟩
  rcases hn g hg' with h1 | h1
  · exact h.new g h1
  · have := h.below.size
    simp at h1
    omega

end Go.Proofs.YthpflfcgnaichaaDoor
