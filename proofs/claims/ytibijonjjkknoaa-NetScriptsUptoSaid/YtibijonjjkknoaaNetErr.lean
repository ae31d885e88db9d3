/-
The answers of package net where a call is refused: Write of too much.
-/
import Derived.Test.YtibijonjjkknoaaNetTo
import Derived.Test.YtibijonjjkknoaaMemG
set_option linter.unusedVariables false
set_option linter.unusedSimpArgs false
namespace Go.Proofs.Ytibijonjjkknoaa
open Go Go.RowKit

theorem sd_form {w : World} {L : Lab} {tag} {v : Value} {xs : List UInt8} (h : RowAt w L tag v xs) : ∃ ao c, v = .slice ao xs.length c := by
  rcases row_form h.own with ⟨q1, q2, _⟩ | ⟨g, cap, q1, _⟩
  · exact ⟨none, 0, by rw [q1, q2]⟩
  · exact ⟨_, _, q1⟩

set_option maxHeartbeats 400000 in
theorem write_long {B : Nat} {w0 w : World} {L : Lab} {n : Nat} {S : St} (h : Net1 B w0 w L n S) (hs : S.cs.length ≤ maxLen) (iz : Int) (i : Nat) (hi : (i : Int) = iz) (k : Int) (c : Cn) (hc : S.cs[i]? = some c) (hcut : c.cut = false) (hk : k = 0 ∨ k = 1)
    (hcl : (c.sd k).closed = false) (hu : (c.sd k).under.length ≤ 1048576) (ao : Option Addr) (cp len : Nat) (hln : len ≤ 9223372036854775807) (hl : 1048576 < (c.sd k).under.length + len) :
    Calls Try.prog 10 #[.pointer (some ⟨n, 0, none⟩), .int .i64 iz, .int .i64 k, .slice ao len cp] w fun e w' =>
      e = .returned (.int .i64 3) ∧ ∃ nq, w.drewN nq = w' := by
  subst hi
  obtain ⟨cv, mb, bs, h⟩ := h.net
  obtain ⟨g, cap, b, u0, t0, u1, t1, hcv, hi, hb, h1, h2, h3⟩ := of_cells h hc
  have hof := of_ok h hs i b k c hb hc hcut hk
  obtain ⟨ao0, c0, hu0⟩ := sd_form h3.rows.u0
  obtain ⟨ao1, c1, hu1⟩ := sd_form h3.rows.u1
  have e3 := cell_blk h3.blk 3
  have e5 := cell_blk h3.blk 5
  have e7 := cell_blk h3.blk 7
  have e9 := cell_blk h3.blk 9
  have Hof := Lib.hid hof
  rcases hk with rfl | rfl
  · simp [Cn.sd] at hcl hl hu
    simp [hcl] at e5
    simp [hu0] at e3
    clear hof h3 h e7 e9 h1 h2 hcl hcv hu0 hu1 hc hb
    go_enter Try.func10, Try.ntmps10
    go_wp2_with fail
    refine Hof.out.mono ?_
    rintro e w1 ⟨rfl, nq, rfl⟩
    simp only [if_true]
    go_wp2
    go_ret
    exact ⟨rfl, nq, rfl⟩
  · simp [Cn.sd] at hcl hl hu
    simp [hcl] at e9
    simp [hu1] at e7
    clear hof h3 h e3 e5 h1 h2 hcl hcv hu0 hu1 hc hb
    go_enter Try.func10, Try.ntmps10
    go_wp2_with fail
    refine Hof.out.mono ?_
    rintro e w1 ⟨rfl, nq, rfl⟩
    simp only [if_neg (show ¬ (1:Int) = 0 by decide)]
    go_wp2
    go_ret
    exact ⟨rfl, nq, rfl⟩

theorem info5e : ∃ i, Try.prog.info? 5 = some i := by
  obtain ⟨i, hi, _⟩ := info_parts info5
  exact ⟨i, hi⟩

theorem RdB.take {w : World} {ao : Option Addr} {c : Nat} {ps : List UInt8} (h : RdB w ao c ps) (m : Nat) : RdB w ao c (ps.take m) := by
  refine ⟨fun e => ⟨by rw [(h.isNil e).1]; simp, (h.isNil e).2⟩, fun ad had j u hu => ?_, (by have := h.le; simp; omega), h.cap⟩
  rw [bytes_take, List.getElem?_take] at hu
  split at hu
  · exact h.cells ad had j u hu
  · cases hu

theorem RdB.drop {w : World} {ao : Option Addr} {c : Nat} {ps : List UInt8} (h : RdB w ao c ps) (m : Nat) (hm : m ≤ ps.length) {ao' : Option Addr} (he : ao' = if c = m then ao else ao.map (·.add (m * 1))) : RdB w ao' (c - m) (ps.drop m) := by
  subst he
  have hle := h.le
  have hcap := h.cap
  refine ⟨fun e => ?_, fun ad had j u hu => ?_, (by simp; omega), by omega⟩
  · by_cases hc : c = m
    · exact ⟨List.drop_eq_nil_of_le (by omega), by omega⟩
    · rw [if_neg hc] at e
      simp only [Option.map_eq_none_iff] at e
      obtain ⟨e1, e2⟩ := h.isNil e
      subst e1
      simp at hm
      omega
  · rw [bytes_drop, List.getElem?_drop] at hu
    have hlt : m + j < ps.length := by
      have := (List.getElem?_eq_some_iff.1 hu).1
      simpa using this
    rw [if_neg (by omega)] at had
    cases hao : ao with
    | none => rw [hao] at had; cases had
    | some ad0 =>
      rw [hao] at had
      simp only [Option.map_some, Option.some.injEq] at had
      subst had
      have := h.cells ad0 hao (m + j) u hu
      have e : (ad0.add (m * 1)).add j = ad0.add (m + j) := by
        obtain ⟨g, o, sp⟩ := ad0
        unfold Addr.add
        by_cases h1 : m = 0
        · subst h1; simp
        · by_cases h2 : j = 0
          · subst h2; simp
          · simp [h1, h2, Nat.add_assoc]
      rw [e]; exact this

/-- A row of the caller's own that is about to be written: its length, and that it holds bytes. -/
def IsBytes (w : World) (g cap len : Nat) : Prop := ∃ vs : List Value, w.ownsRow 0 5 1 (.slice (some ⟨g, 0, none⟩) len cap) len vs ∧ ∀ u ∈ vs, ∃ x : Int, u = .int .u8 x

theorem IsBytes.cell {w : World} {g cap len : Nat} (h : IsBytes w g cap len) {k : Nat} (hk : k < len) : ∃ x : Int, w.cell? ⟨g, k, none⟩ = some (.int .u8 x) := by
  obtain ⟨vs, ho, hv⟩ := h
  have hl : vs.length = len := by simpa using ho.1
  have hk' : k < vs.length := by omega
  have h1 : vs[k]? = some vs[k] := List.getElem?_eq_getElem hk'
  obtain ⟨x, hx⟩ := hv vs[k] (List.getElem_mem hk')
  exact ⟨x, by rw [row_cell ho h1, hx]⟩

theorem IsBytes.frozen {w : World} {g cap len : Nat} (h : IsBytes w g cap len) (k : Nat) : w.frozen? ⟨g, k, none⟩ = false := by
  obtain ⟨vs, ho, hv⟩ := h
  exact ho.frozenAt k

theorem IsBytes.stored {w : World} {g cap len : Nat} (h : IsBytes w g cap len) (k : Nat) (x : Int) : IsBytes (w.setCell ⟨g, k, none⟩ (.int .u8 x)) g cap len := by
  obtain ⟨vs, ho, hv⟩ := h
  refine ⟨vs.set k (.int .u8 x), (ho.stored k _).1, fun u hu => ?_⟩
  rcases List.mem_or_eq_of_mem_set hu with q | q
  · exact hv u q
  · exact ⟨x, q⟩

theorem IsBytes.of {B : Nat} {w : World} {L : Lab} {g cap len : Nat} {ps : List UInt8} (h : MyRow B w L (.slice (some ⟨g, 0, none⟩) len cap) ps) (hl : ps.length = len) : IsBytes w g cap len := by
  subst hl
  refine ⟨bytes ps, h.own, fun u hu => ?_⟩
  obtain ⟨c, _, rfl⟩ := List.mem_map.1 hu
  exact ⟨_, rfl⟩

theorem Net1.lab_none {B : Nat} {w0 w : World} {L : Lab} {n : Nat} {S : St} (h : Net1 B w0 w L n S) {g : Nat} (hg : w.heap.size ≤ g) : L g = none := by
  obtain ⟨cv, mb, bs, hn⟩ := h.net
  cases hL : L g with
  | none => rfl
  | some t => have := (hn.labs g t hL).2; omega

theorem MyRow.isBytes {B : Nat} {w : World} {L : Lab} {ao : Option Addr} {len cap : Nat} {ps : List UInt8} (h : MyRow B w L (.slice ao len cap) ps) (hl : ps.length = len) (hpos : 0 < len) :
    ∃ g, ao = some ⟨g, 0, none⟩ ∧ IsBytes w g cap len ∧ L g = none ∧ B ≤ g := by
  subst hl
  rcases row_form h.own with ⟨_, q2, _⟩ | ⟨g, c, q1, q2, q3⟩
  · omega
  · simp only [Value.slice.injEq, true_and] at q1
    obtain ⟨rfl, rfl⟩ := q1
    exact ⟨g, rfl, IsBytes.of h rfl, (h.lab g rfl).1, (h.lab g rfl).2.1⟩

theorem same_to (w : World) (ao ao' : Option Addr) (c c' lx ly : Nat) (xs ys : List UInt8) (hx : RdB w ao c xs) (hy : RdB w ao' c' ys) (hlx : xs.length = lx) (hly : ys.length = ly) (b : Bool) (hb : decide (xs = ys) = b) :
    Calls Try.prog 13 #[.slice ao lx c, .slice ao' ly c'] w fun e w' => e = .returned (.bool b) ∧ ∃ nd, w.drewN nd = w' := by
  subst hlx; subst hly
  exact same_any w ao ao' c c' xs ys hx hy b hb

/-- A row of bytes, whatever they are. -/
def IsB (w : World) (v : Value) (len : Nat) : Prop := ∃ vs : List Value, w.ownsRow 0 5 1 v len vs ∧ ∀ u ∈ vs, ∃ x : Int, u = .int .u8 x

theorem IsB.of {B : Nat} {w : World} {L : Lab} {v : Value} {len : Nat} {ps : List UInt8} (h : MyRow B w L v ps) (hl : ps.length = len) : IsB w v len := by
  subst hl
  refine ⟨bytes ps, h.own, fun u hu => ?_⟩
  obtain ⟨c, _, rfl⟩ := List.mem_map.1 hu
  exact ⟨_, rfl⟩

theorem Net1.drewN {B : Nat} {w0 w : World} {L : Lab} {n : Nat} {S : St} (h : Net1 B w0 w L n S) (k : Nat) : Net1 B w0 (w.drewN k) L n S :=
  h.frame (F := fun _ => False) ((Mod.refl _ w).trans ⟨rfl, rfl, rfl, Nat.le_refl _, fun _ _ _ => rfl⟩) (fun _ _ _ => id) (fun _ f => f.elim)

theorem MyRow.drewN {B : Nat} {w : World} {L : Lab} {v : Value} {ps : List UInt8} (h : MyRow B w L v ps) (k : Nat) : MyRow B (w.drewN k) L v ps :=
  ⟨h.own, h.lab⟩

theorem two_le : (2 : Nat) ≤ maxLen := by decide

/-- The net, while a row of the caller's own is written. -/
theorem Net1.setCell {B : Nat} {w0 w : World} {L : Lab} {n : Nat} {S : St} (h : Net1 B w0 w L n S) {g : Nat} (hg : L g = none) (hB : B ≤ g) (k : Nat) (u : Value) : Net1 B w0 (w.setCell ⟨g, k, none⟩ u) L n S :=
  h.frame (F := fun x => x = g) ((Mod.refl _ w).setCell _ _ (fun _ => rfl)) (fun x t hx e => by subst e; rw [hg] at hx; cases hx) (fun x e => by subst e; exact hB)

end Go.Proofs.Ytibijonjjkknoaa
