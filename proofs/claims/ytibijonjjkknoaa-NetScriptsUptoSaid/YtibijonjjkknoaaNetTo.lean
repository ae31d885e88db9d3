/-
The functions of package net once more, each with its answers and the net's new state behind names.
-/
import Derived.Test.YtibijonjjkknoaaNetPassN
import Derived.Test.YtibijonjjkknoaaNetDial
import Derived.Test.YtibijonjjkknoaaNetSame
set_option linter.unusedVariables false
set_option linter.unusedSimpArgs false
namespace Go.Proofs.Ytibijonjjkknoaa
open Go Go.RowKit

/-- A net of which the law's beginning is known: nothing below B has been written. -/
structure Net1 (B : Nat) (w0 w : World) (L : Lab) (n : Nat) (S : St) : Prop where
  net : NetIs B w L n S
  below : Below B w0 w
  le : B ≤ w.heap.size

theorem Net1.ofLeft {B : Nat} {w0 w w' : World} {L : Lab} {n : Nat} {S S' : St} (h : Net1 B w0 w L n S) (hl : Left B w L n S' w') :
    ∃ L', Net1 B w0 w' L' n S' ∧ (∀ x, x < w.heap.size → L' x = L x ∨ L' x = none) ∧ Mod (fun x => L x ≠ none) w w' := by
  obtain ⟨L', hl⟩ := hl
  have hb := Left.belowL hl h.net h.le
  exact ⟨L', ⟨hl.1, h.below.trans hb, Nat.le_trans h.le hb.size⟩, hl.2.1, hl.2.2⟩

theorem Net1.frame {B : Nat} {w0 w w' : World} {L : Lab} {n : Nat} {S : St} (h : Net1 B w0 w L n S) {F : Nat → Prop} (hm : Mod F w w') (hF : ∀ x t, L x = some t → ¬ F x) (hB : ∀ x, F x → B ≤ x) : Net1 B w0 w' L n S :=
  ⟨h.net.frame hm hF, h.below.trans (hm.below h.le hB), Nat.le_trans h.le hm.size⟩

section
variable {B : Nat} {w0 w : World} {L : Lab} {n : Nat} {S : St}

theorem dial_to (h : Net1 B w0 w L n S) (hs : S.cs.length < 4096) (name : ByteArray) (hname : name.size ≤ maxLen) (hD : S.D = .map []) (r : Int) (hr : (S.cs.length : Int) = r) (S' : St) (hS : { S with cs := S.cs ++ [Cn.new name] } = S') :
    Calls Try.prog 9 #[.pointer (some ⟨n, 0, none⟩), .string name] w fun e w' =>
      ∃ L', e = .returned (.tuple #[.int .i64 r, .int .i64 0]) ∧ Net1 B w0 w' L' n S' := by
  refine (dial_ok h.net h.le hs name hname (fun c hc => ?_)).mono ?_
  · rw [hD] at hc
    have : (DataW.lit (Lit.int .i64 0) : MapD) = .lit (.int .i64 c) := hc
    simp only [DataW.lit.injEq, Lit.int.injEq] at this
    omega
  · rintro e w' ⟨rfl, hl⟩
    obtain ⟨L', h', _⟩ := h.ofLeft hl
    subst hr; subst hS
    exact ⟨L', rfl, h'⟩

theorem write_to (h : Net1 B w0 w L n S) (hs : S.cs.length ≤ maxLen) (iz : Int) (i : Nat) (hi : (i : Int) = iz) (k : Int) (c : Cn) (hc : S.cs[i]? = some c) (hcut : c.cut = false) (hk : k = 0 ∨ k = 1)
    (hcl : (c.sd k).closed = false) (ao : Option Addr) (cp : Nat) (ps : List UInt8) (hp : RdB w ao cp ps) (hl : (c.sd k).under.length + ps.length ≤ 1048576) (S' : St)
    (hS : { S with cs := S.cs.set i (c.setSd k { c.sd k with under := (c.sd k).under ++ ps }) } = S') :
    Calls Try.prog 10 #[.pointer (some ⟨n, 0, none⟩), .int .i64 iz, .int .i64 k, .slice ao ps.length cp] w fun e w' =>
      ∃ L', e = .returned (.int .i64 0) ∧ Net1 B w0 w' L' n S' ∧ (∀ x, x < w.heap.size → L' x = L x ∨ L' x = none) ∧ Mod (fun x => L x ≠ none) w w' := by
  subst hi; subst hS
  refine (write_ok h.net h.le hs i k c hc hcut hk hcl ao cp ps hp hl).mono ?_
  rintro e w' ⟨rfl, hl⟩
  obtain ⟨L', h'⟩ := h.ofLeft hl
  exact ⟨L', rfl, h'⟩

theorem pass_to (h : Net1 B w0 w L n S) (hs : S.cs.length ≤ maxLen) (iz : Int) (i : Nat) (hi : (i : Int) = iz) (k : Int) (c : Cn) (hc : S.cs[i]? = some c) (hcut : c.cut = false) (hk : k = 0 ∨ k = 1)
    (most : Int) (hm0 : 0 ≤ most) (hl : (c.sd (1 - k)).there.length + (c.sd k).under.length ≤ 140737488355328) (m : Nat) (hm : passLen c k most = m) (r : Int) (hr : (m : Int) = r) (S' : St)
    (hS : { S with cs := S.cs.set i (c.passed k m) } = S') :
    Calls Try.prog 11 #[.pointer (some ⟨n, 0, none⟩), .int .i64 iz, .int .i64 k, .int .i64 most] w fun e w' =>
      ∃ L', e = .returned (.tuple #[.int .i64 r, .int .i64 0]) ∧ Net1 B w0 w' L' n S' ∧ (∀ x, x < w.heap.size → L' x = L x ∨ L' x = none) ∧ Mod (fun x => L x ≠ none) w w' := by
  subst hi; subst hm; subst hr; subst hS
  refine (pass_ok h.net h.le hs i k c hc hcut hk most hm0 hl).mono ?_
  rintro e w' ⟨rfl, hl⟩
  obtain ⟨L', h'⟩ := h.ofLeft hl
  exact ⟨L', rfl, h'⟩

/-- A row of bytes of the caller's own: what Read answers. -/
structure MyRow (B : Nat) (w : World) (L : Lab) (v : Value) (ps : List UInt8) : Prop where
  own : w.ownsRow 0 5 1 v ps.length (bytes ps)
  lab : ∀ g, v.ownBlock = some g → L g = none ∧ B ≤ g ∧ g < w.heap.size

theorem read_to (h : Net1 B w0 w L n S) (hs : S.cs.length ≤ maxLen) (iz : Int) (i : Nat) (hi : (i : Int) = iz) (k : Int) (c : Cn) (hc : S.cs[i]? = some c) (hcut : c.cut = false) (hk : k = 0 ∨ k = 1)
    (ps : List UInt8) (hps : (c.sd k).there = ps) (len : Nat) (hlen : ps.length = len) (en : Bool) (hen : (c.sd k).ended = en) (S' : St) (hS : { S with cs := S.cs.set i (c.setSd k { c.sd k with there := [] }) } = S') :
    Calls Try.prog 12 #[.pointer (some ⟨n, 0, none⟩), .int .i64 iz, .int .i64 k] w fun e w' =>
      ∃ ao cap L', e = .returned (.tuple #[.slice ao len cap, .bool en, .int .i64 0]) ∧ Net1 B w0 w' L' n S' ∧ MyRow B w' L' (.slice ao len cap) ps ∧
        (∀ x, x < w.heap.size → L' x = L x ∨ L' x = none) ∧ Mod (fun x => L x ≠ none) w w' := by
  subst hi; subst hps; subst hlen; subst hen; subst hS
  refine (read_ok h.net h.le hs i k c hc hcut hk).mono ?_
  rintro e w' ⟨ao, cap, L', rfl, hl, hown, hlab⟩
  have hb := Left.belowL hl h.net h.le
  exact ⟨ao, cap, L', rfl, ⟨hl.1, h.below.trans hb, Nat.le_trans h.le hb.size⟩, ⟨hown, fun g hg => ⟨(hlab g hg).1, (hlab g hg).2.1, (hown.lt g hg).2⟩⟩, hl.2.1, hl.2.2⟩

/-- It stays what it is while the net is called. -/
theorem MyRow.kept {v : Value} {ps : List UInt8} {L L' : Lab} {w' : World} (h : MyRow B w L v ps) (hL : ∀ x, x < w.heap.size → L' x = L x ∨ L' x = none) (hm : Mod (fun x => L x ≠ none) w w') : MyRow B w' L' v ps :=
  ⟨ownsRow_frame h.own fun g hg => hm.block g (h.lab g hg).2.2 (fun e => e (h.lab g hg).1),
    fun g hg => ⟨(hL g (h.lab g hg).2.2).elim (fun e => e.trans (h.lab g hg).1) id, (h.lab g hg).2.1, Nat.lt_of_lt_of_le (h.lab g hg).2.2 hm.size⟩⟩

theorem MyRow.rd {w : World} {L : Lab} {ao : Option Addr} {len cap : Nat} {ps : List UInt8} (h : MyRow B w L (.slice ao len cap) ps) (hl : ps.length = len) : RdB w ao cap ps := by
  subst hl
  rcases row_form h.own with ⟨q1, q2, q3⟩ | ⟨g, c, q1, q2, q3⟩
  · simp only [Value.slice.injEq] at q1
    obtain ⟨rfl, _, rfl⟩ := q1
    have : ps = [] := List.eq_nil_of_length_eq_zero q2
    subst this
    exact ⟨(fun _ => ⟨rfl, rfl⟩), (fun ad h => by cases h), Nat.le_refl _, Nat.zero_le _⟩
  · simp only [Value.slice.injEq, true_and] at q1
    obtain ⟨rfl, rfl⟩ := q1
    refine ⟨(fun h => by cases h), ?_, q2, q3⟩
    intro ad had j u hu
    obtain rfl := Option.some.inj had
    rw [Addr.add_lit, Nat.zero_add]
    exact row_cell h.own hu
end

end Go.Proofs.Ytibijonjjkknoaa
