/-
Logs of both sides in memory; the append of one entry.
-/
import Derived.Test.YthpflfcgnaichaaDoorTraMay
set_option linter.unusedVariables false
set_option linter.unusedSimpArgs false
namespace Go.Proofs.YthpflfcgnaichaaDoor
open Go Go.RowKit

/-- A list of entries of type T in a row of its own. -/
abbrev EntRow (w : World) (T : TypeId) (v : Value) (xs : List Ent) : Prop := w.ownsRow 0 T 15 v xs.length (ents xs)

/-- A log of type S, its entries of type T. -/
structure LogAt (w : World) (S T : TypeId) (lb : Nat) (v : Value) (xs : List Ent) : Prop where
  blk : w.heap[lb]? = some (.cells #[v] S (0, 0))
  row : EntRow w T v xs
  ne : v.ownBlock ≠ some lb

theorem ownsRow_frame {w w' : World} {base e size n : Nat} {v : Value} {xs : List Value} (h : w.ownsRow base e size v n xs)
    (hk : ∀ g, v.ownBlock = some g → w'.heap[g]? = w.heap[g]?) : w'.ownsRow base e size v n xs := by
  refine ⟨h.1, ?_⟩
  rcases h.2 with hn | ⟨g, cap, cur, rfl, hb, hgg, rest⟩
  · exact .inl hn
  · exact .inr ⟨g, cap, cur, rfl, hb, (hk g (by simp [Value.ownBlock])).trans hgg, rest⟩

theorem LogAt.frame {w w' : World} {S T : TypeId} {lb : Nat} {v : Value} {xs : List Ent} (h : LogAt w S T lb v xs) {F : Nat → Prop} (hm : Mod F w w') (h1 : ¬ F lb) (h2 : ∀ g, v.ownBlock = some g → ¬ F g) : LogAt w' S T lb v xs :=
  ⟨(hm.block lb (lt_of_heap h.blk) h1).trans h.blk, ownsRow_frame h.row fun g hg => hm.block g (h.row.lt g hg).2 (h2 g hg), h.ne⟩

theorem LogAt.form {w : World} {S T : TypeId} {lb : Nat} {v : Value} {xs : List Ent} (h : LogAt w S T lb v xs) : ∃ ao c, v = .slice ao xs.length c := by
  rcases h.row.2 with ⟨hv, hn⟩ | ⟨g, cap, cur, hv, _⟩
  · rw [hv, hn]; exact ⟨none, 0, rfl⟩
  · exact ⟨_, _, hv⟩

theorem news_new (w : World) (e : Ent) (T : TypeId) : ∀ j u, e.cells[j]? = some u → (w.alloc (.cells #[.int .i64 e.number, .int .i64 e.version, .int .i64 e.epoch, .string e.method, .string e.host, .string e.path, .int .u64 (e.a : Int), .int .u64 (e.b : Int), .int .i64 e.kind, .int .i64 e.status, .string e.route, .int .i64 e.rule, .string e.service, .string e.endp, .int .i64 e.fin] T)).cell? ((⟨w.heap.size, 0, none⟩ : Addr).add j) = some u := by
  intro j u h
  have : ((⟨w.heap.size, 0, none⟩ : Addr).add j) = ⟨w.heap.size, j, none⟩ := by
    simp [Addr.add]
    intro hj
    exact hj.symm
  rw [this, World.cell?_alloc_new]
  have e2 : (#[.int .i64 e.number, .int .i64 e.version, .int .i64 e.epoch, .string e.method, .string e.host, .string e.path, .int .u64 (e.a : Int), .int .u64 (e.b : Int), .int .i64 e.kind, .int .i64 e.status, .string e.route, .int .i64 e.rule, .string e.service, .string e.endp, .int .i64 e.fin] : Array Value) = e.cells.toArray := rfl
  rw [e2]
  simpa using h

def Obj15 (e : Ent) (T : TypeId) : Obj := .cells #[.int .i64 e.number, .int .i64 e.version, .int .i64 e.epoch, .string e.method, .string e.host, .string e.path, .int .u64 (e.a : Int), .int .u64 (e.b : Int), .int .i64 e.kind, .int .i64 e.status, .string e.route, .int .i64 e.rule, .string e.service, .string e.endp, .int .i64 e.fin] T

/-- The cells of a block that holds an entry. -/
def Cells15 (w : World) (bl : Nat) (e : Ent) : Prop :=
  w.cell? ⟨bl, 0, none⟩ = some (.int .i64 e.number) ∧ w.cell? ⟨bl, 1, none⟩ = some (.int .i64 e.version) ∧ w.cell? ⟨bl, 2, none⟩ = some (.int .i64 e.epoch) ∧ w.cell? ⟨bl, 3, none⟩ = some (.string e.method) ∧ w.cell? ⟨bl, 4, none⟩ = some (.string e.host) ∧
  w.cell? ⟨bl, 5, none⟩ = some (.string e.path) ∧ w.cell? ⟨bl, 6, none⟩ = some (.int .u64 (e.a : Int)) ∧ w.cell? ⟨bl, 7, none⟩ = some (.int .u64 (e.b : Int)) ∧ w.cell? ⟨bl, 8, none⟩ = some (.int .i64 e.kind) ∧ w.cell? ⟨bl, 9, none⟩ = some (.int .i64 e.status) ∧
  w.cell? ⟨bl, 10, none⟩ = some (.string e.route) ∧ w.cell? ⟨bl, 11, none⟩ = some (.int .i64 e.rule) ∧ w.cell? ⟨bl, 12, none⟩ = some (.string e.service) ∧ w.cell? ⟨bl, 13, none⟩ = some (.string e.endp) ∧ w.cell? ⟨bl, 14, none⟩ = some (.int .i64 e.fin)

theorem cells15 {w : World} {bl : Nat} {e : Ent} {T : TypeId} (h : w.heap[bl]? = some (Obj15 e T)) : Cells15 w bl e := by
  refine ⟨?_, ?_, ?_, ?_, ?_, ?_, ?_, ?_, ?_, ?_, ?_, ?_, ?_, ?_, ?_⟩ <;> (rw [cell_blk h]; rfl)

theorem frozen15 {w : World} {bl : Nat} {e : Ent} {T : TypeId} (h : w.heap[bl]? = some (Obj15 e T)) (j : Nat) : w.frozen? ⟨bl, j, none⟩ = false := frozen_blk h j

theorem pinfo : (Tryd.prog.info? 38).map (fun i => (i.zero, i.size, i.bytes)) = some (some Ent.zero.v, 15, 168) := by kernel_rfl

/-- Append of one entry at a step of a region that draws. -/
theorem pstep {w : World} {ops : Array Oper} {o : Oper} {a : Act} {K : Act → World → Prop} {Q : Exit → Act → World → Prop} {E : Prop} (hgd : o.guard = none) (s x : Operand)
    (ho : o.op = .call { callee := .builtin .append, args := #[s, x], argTypes := #[25, 25] })
    (v : Value) (xs : List Ent) (hs : a.eval s = v) (hown : EntRow w 38 v xs) (g : Nat) (e : Ent) (hx : a.eval x = .slice (some ⟨g, 0, none⟩) 1 1)
    (hnews : ∀ j u, e.cells[j]? = some u → w.cell? ((⟨g, 0, none⟩ : Addr).add j) = some u) (hlen : xs.length ≤ 100000000) (q : Nat) (hq : q = xs.length + 1)
    (h : ∀ ao' c' w', EntRow w' 38 (.slice ao' q c') (xs ++ [e]) → w.grownBy w' v.ownBlock → (∀ g, (Value.slice ao' q c').ownBlock = some g → v.ownBlock = some g ∨ w.heap.size ≤ g) →
      K (a.put o.dst (.slice ao' q c')) w') : if Region.wanted o (yielded ops a.tmps) = true then Oper.wp Tryd.prog o a w K Q else E := by
  obtain ⟨i0, hi5, hz0, hz1, hz2⟩ := info_parts pinfo
  subst hq
  refine step_append_sl _ hgd s x 25 ho 38 i0 Ent.zero.v 15 168 Tryd.underlying25 hi5 hz0 hz1 hz2 rfl (by decide) v xs.length (ents xs) hs hown (some ⟨g, 0, none⟩) 1 1 e.cells hx rfl
    (fun hn => by cases hn) (fun ad had => by obtain rfl := Option.some.inj had; exact hnews) (cells_one e) (by unfold maxLen; omega) (by omega) ?_
  intro v' w' h1 h2 h3
  have hf : ∃ ao' c', v' = .slice ao' (xs.length + 1) c' := by
    rcases h1.2 with ⟨hv, hn⟩ | ⟨g, cap, cur, hv, _⟩
    · rw [hv, hn]; exact ⟨none, 0, rfl⟩
    · exact ⟨_, _, hv⟩
  obtain ⟨ao', c', rfl⟩ := hf
  refine h ao' c' w' ?_ h2 h3
  have e1 : ents (xs ++ [e]) = ents xs ++ e.cells := by rw [ents_append]; simp [ents]
  show w'.ownsRow 0 _ 15 _ (xs ++ [e]).length (ents (xs ++ [e]))
  rw [e1, List.length_append]
  exact h1

/-- Append of one entry in a plain region. -/
theorem pappend {w : World} {ops : Array Oper} {rest : List Oper} {o : Oper} {a : Act} {Q : Exit → Act → World → Prop} (hgd : o.guard = none) (s x : Operand)
    (ho : o.op = .call { callee := .builtin .append, args := #[s, x], argTypes := #[25, 25] })
    (v : Value) (xs : List Ent) (hs : a.eval s = v) (hown : EntRow w 38 v xs) (g : Nat) (e : Ent) (hx : a.eval x = .slice (some ⟨g, 0, none⟩) 1 1)
    (hnews : ∀ j u, e.cells[j]? = some u → w.cell? ((⟨g, 0, none⟩ : Addr).add j) = some u) (hlen : xs.length ≤ 100000000) (q : Nat) (hq : q = xs.length + 1)
    (h : ∀ ao' c' w', EntRow w' 38 (.slice ao' q c') (xs ++ [e]) → w.grownBy w' v.ownBlock → (∀ g, (Value.slice ao' q c').ownBlock = some g → v.ownBlock = some g ∨ w.heap.size ≤ g) →
      wpList Tryd.prog ops Q rest (a.put o.dst (.slice ao' q c')) w') : wpList Tryd.prog ops Q (o :: rest) a w := by
  refine wpList_append_q hgd s x 25 ho 38 Ent.zero.v 15 168 Tryd.underlying25 pinfo rfl (by decide) v xs.length (ents xs) hs hown (some ⟨g, 0, none⟩) 1 1 e.cells hx rfl
    (fun hn => by cases hn) (fun ad had => by obtain rfl := Option.some.inj had; exact hnews) (cells_one e) (by unfold maxLen; omega) (by omega) q hq ?_
  intro ao' c' w' h1 h2 h3
  refine h ao' c' w' ?_ h2 h3
  have e1 : ents (xs ++ [e]) = ents xs ++ e.cells := by rw [ents_append]; simp [ents]
  show w'.ownsRow 0 _ 15 _ (xs ++ [e]).length (ents (xs ++ [e]))
  rw [e1, List.length_append, show xs.length + [e].length = q by rw [hq]; rfl]
  exact h1

theorem rinfo : (Tryd.prog.info? 32).map (fun i => (i.zero, i.size, i.bytes)) = some (some Ent.zero.v, 15, 168) := by kernel_rfl

/-- Append of one entry at a step of a region that draws. -/
theorem rstep {w : World} {ops : Array Oper} {o : Oper} {a : Act} {K : Act → World → Prop} {Q : Exit → Act → World → Prop} {E : Prop} (hgd : o.guard = none) (s x : Operand)
    (ho : o.op = .call { callee := .builtin .append, args := #[s, x], argTypes := #[48, 48] })
    (v : Value) (xs : List Ent) (hs : a.eval s = v) (hown : EntRow w 32 v xs) (g : Nat) (e : Ent) (hx : a.eval x = .slice (some ⟨g, 0, none⟩) 1 1)
    (hnews : ∀ j u, e.cells[j]? = some u → w.cell? ((⟨g, 0, none⟩ : Addr).add j) = some u) (hlen : xs.length ≤ 100000000) (q : Nat) (hq : q = xs.length + 1)
    (h : ∀ ao' c' w', EntRow w' 32 (.slice ao' q c') (xs ++ [e]) → w.grownBy w' v.ownBlock → (∀ g, (Value.slice ao' q c').ownBlock = some g → v.ownBlock = some g ∨ w.heap.size ≤ g) →
      K (a.put o.dst (.slice ao' q c')) w') : if Region.wanted o (yielded ops a.tmps) = true then Oper.wp Tryd.prog o a w K Q else E := by
  obtain ⟨i0, hi5, hz0, hz1, hz2⟩ := info_parts rinfo
  subst hq
  refine step_append_sl _ hgd s x 48 ho 32 i0 Ent.zero.v 15 168 Tryd.underlying48 hi5 hz0 hz1 hz2 rfl (by decide) v xs.length (ents xs) hs hown (some ⟨g, 0, none⟩) 1 1 e.cells hx rfl
    (fun hn => by cases hn) (fun ad had => by obtain rfl := Option.some.inj had; exact hnews) (cells_one e) (by unfold maxLen; omega) (by omega) ?_
  intro v' w' h1 h2 h3
  have hf : ∃ ao' c', v' = .slice ao' (xs.length + 1) c' := by
    rcases h1.2 with ⟨hv, hn⟩ | ⟨g, cap, cur, hv, _⟩
    · rw [hv, hn]; exact ⟨none, 0, rfl⟩
    · exact ⟨_, _, hv⟩
  obtain ⟨ao', c', rfl⟩ := hf
  refine h ao' c' w' ?_ h2 h3
  have e1 : ents (xs ++ [e]) = ents xs ++ e.cells := by rw [ents_append]; simp [ents]
  show w'.ownsRow 0 _ 15 _ (xs ++ [e]).length (ents (xs ++ [e]))
  rw [e1, List.length_append]
  exact h1

/-- Append of one entry in a plain region. -/
theorem rappend {w : World} {ops : Array Oper} {rest : List Oper} {o : Oper} {a : Act} {Q : Exit → Act → World → Prop} (hgd : o.guard = none) (s x : Operand)
    (ho : o.op = .call { callee := .builtin .append, args := #[s, x], argTypes := #[48, 48] })
    (v : Value) (xs : List Ent) (hs : a.eval s = v) (hown : EntRow w 32 v xs) (g : Nat) (e : Ent) (hx : a.eval x = .slice (some ⟨g, 0, none⟩) 1 1)
    (hnews : ∀ j u, e.cells[j]? = some u → w.cell? ((⟨g, 0, none⟩ : Addr).add j) = some u) (hlen : xs.length ≤ 100000000) (q : Nat) (hq : q = xs.length + 1)
    (h : ∀ ao' c' w', EntRow w' 32 (.slice ao' q c') (xs ++ [e]) → w.grownBy w' v.ownBlock → (∀ g, (Value.slice ao' q c').ownBlock = some g → v.ownBlock = some g ∨ w.heap.size ≤ g) →
      wpList Tryd.prog ops Q rest (a.put o.dst (.slice ao' q c')) w') : wpList Tryd.prog ops Q (o :: rest) a w := by
  refine wpList_append_q hgd s x 48 ho 32 Ent.zero.v 15 168 Tryd.underlying48 rinfo rfl (by decide) v xs.length (ents xs) hs hown (some ⟨g, 0, none⟩) 1 1 e.cells hx rfl
    (fun hn => by cases hn) (fun ad had => by obtain rfl := Option.some.inj had; exact hnews) (cells_one e) (by unfold maxLen; omega) (by omega) q hq ?_
  intro ao' c' w' h1 h2 h3
  refine h ao' c' w' ?_ h2 h3
  have e1 : ents (xs ++ [e]) = ents xs ++ e.cells := by rw [ents_append]; simp [ents]
  show w'.ownsRow 0 _ 15 _ (xs ++ [e]).length (ents (xs ++ [e]))
  rw [e1, List.length_append, show xs.length + [e].length = q by rw [hq]; rfl]
  exact h1

end Go.Proofs.YthpflfcgnaichaaDoor
