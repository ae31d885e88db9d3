/-
The functions of package net at any connection and side that there may be: what they answer, what they leave.
-/
import Derived.Test.YtibijonjjkknoaaNetCut
set_option linter.unusedVariables false
set_option linter.unusedSimpArgs false
namespace Go.Proofs.Ytibijonjjkknoaa
open Go Go.RowKit

/-- How many bytes a connection holds. -/
def Cn.vol (c : Cn) : Nat := c.s0.under.length + c.s0.there.length + c.s1.under.length + c.s1.there.length

def St.set (S : St) (j : Nat) (c : Cn) : St := { S with cs := S.cs.set j c }

/-- The frame of a call on a net. -/
def Fr (w : World) (L : Lab) (w' : World) (L' : Lab) : Prop := (∀ x, x < w.heap.size → L' x = L x ∨ L' x = none) ∧ Mod (fun x => L x ≠ none) w w'

theorem Fr.refl (w : World) (L : Lab) : Fr w L w L := ⟨fun _ _ => .inl rfl, Mod.refl _ _⟩
theorem Fr.drewN (w : World) (L : Lab) (n : Nat) : Fr w L (w.drewN n) L := ⟨fun _ _ => .inl rfl, (Mod.refl _ w).drewN n⟩

theorem why_of {S : St} {iz : Int} {j : Nat} (hi : (j : Int) = iz) {k : Int} {c : Cn} (hc : S.cs[j]? = some c) (hk : k = 0 ∨ k = 1) : S.why iz k = if c.cut then 40 else 0 := by
  have hj := (List.getElem?_eq_some_iff.1 hc).1
  unfold St.why
  rw [if_neg (by omega), show iz.toNat = j by omega, hc]

section
variable {B : Nat} {w0 w : World} {L : Lab} {n : Nat} {S : St}

theorem Net1.ofLeft' {w' : World} {S' : St} (h : Net1 B w0 w L n S) (hl : Left B w L n S' w') : ∃ L', Net1 B w0 w' L' n S' ∧ Fr w L w' L' := by
  obtain ⟨L', h1, h2, h3⟩ := h.ofLeft hl
  exact ⟨L', h1, h2, h3⟩

theorem write_tot (h : Net1 B w0 w L n S) (hs : S.cs.length ≤ maxLen) (iz : Int) (j : Nat) (hi : (j : Int) = iz) (k : Int) (c : Cn) (hc : S.cs[j]? = some c) (hk : k = 0 ∨ k = 1)
    (ao : Option Addr) (cp len : Nat) (ps : List UInt8) (hp : RdB w ao cp ps) (hlen : ps.length = len) (hv : c.vol + len ≤ 1048576) :
    Calls Try.prog 10 #[.pointer (some ⟨n, 0, none⟩), .int .i64 iz, .int .i64 k, .slice ao len cp] w fun e w' =>
      ∃ (y : Int) (L' : Lab) (S' : St), e = .returned (.int .i64 y) ∧ Net1 B w0 w' L' n S' ∧ Fr w L w' L' ∧
        ((y = 0 ∧ c.cut = false ∧ S' = S.set j (c.setSd k { c.sd k with under := (c.sd k).under ++ ps })) ∨ (y ≠ 0 ∧ S' = S)) := by
  subst hlen
  have hl : (c.sd k).under.length + ps.length ≤ 1048576 := by
    unfold Cn.vol at hv
    rcases hk with rfl | rfl <;> simp [Cn.sd] <;> omega
  cases hcut : c.cut with
  | true =>
    have hw : S.why iz k = 40 := by rw [why_of hi hc hk, hcut]; rfl
    refine (write_bad (ofBad_why h.net hs iz k (by rw [hw]; decide)) ao ps.length cp).mono ?_
    rintro e w' ⟨rfl, rfl⟩
    exact ⟨_, L, S, rfl, h, Fr.refl _ _, .inr ⟨by rw [hw]; decide, rfl⟩⟩
  | false =>
    cases hcl : (c.sd k).closed with
    | true =>
      refine (write_ended h hs iz j hi k c hc hcut hk hcl ao ps.length cp).mono ?_
      rintro e w' ⟨rfl, nq, rfl⟩
      exact ⟨_, L, S, rfl, h.drewN nq, Fr.drewN _ _ _, .inr ⟨by decide, rfl⟩⟩
    | false =>
      subst hi
      refine (write_ok h.net h.le hs j k c hc hcut hk hcl ao cp ps hp hl).mono ?_
      rintro e w' ⟨rfl, hL⟩
      obtain ⟨L', h1, h2⟩ := h.ofLeft' hL
      exact ⟨_, L', _, rfl, h1, h2, .inl ⟨rfl, rfl, rfl⟩⟩

theorem close_tot (h : Net1 B w0 w L n S) (hs : S.cs.length ≤ maxLen) (iz : Int) (j : Nat) (hi : (j : Int) = iz) (k : Int) (c : Cn) (hc : S.cs[j]? = some c) (hk : k = 0 ∨ k = 1) :
    Calls Try.prog 14 #[.pointer (some ⟨n, 0, none⟩), .int .i64 iz, .int .i64 k] w fun e w' =>
      ∃ (y : Int) (L' : Lab) (S' : St), e = .returned (.int .i64 y) ∧ Net1 B w0 w' L' n S' ∧ Fr w L w' L' ∧ (S' = S.set j (c.setSd k { c.sd k with closed := true }) ∨ S' = S) := by
  cases hcut : c.cut with
  | true =>
    have hw : S.why iz k = 40 := by rw [why_of hi hc hk, hcut]; rfl
    refine (close_bad (ofBad_why h.net hs iz k (by rw [hw]; decide))).mono ?_
    rintro e w' ⟨rfl, rfl⟩
    exact ⟨_, L, S, rfl, h, Fr.refl _ _, .inr rfl⟩
  | false =>
    cases hcl : (c.sd k).closed with
    | true =>
      refine (close_ended h hs iz j hi k c hc hcut hk hcl).mono ?_
      rintro e w' ⟨rfl, nq, rfl⟩
      exact ⟨_, L, S, rfl, h.drewN nq, Fr.drewN _ _ _, .inr rfl⟩
    | false =>
      subst hi
      refine (close_ok h.net h.le hs j k c hc hcut hk hcl).mono ?_
      rintro e w' ⟨rfl, hL⟩
      obtain ⟨L', h1, h2⟩ := h.ofLeft' hL
      exact ⟨_, L', _, rfl, h1, h2, .inl rfl⟩

theorem pass_tot (h : Net1 B w0 w L n S) (hs : S.cs.length ≤ maxLen) (iz : Int) (j : Nat) (hi : (j : Int) = iz) (k : Int) (c : Cn) (hc : S.cs[j]? = some c) (hk : k = 0 ∨ k = 1) (most : Int) (hv : c.vol ≤ 1048576) :
    Calls Try.prog 11 #[.pointer (some ⟨n, 0, none⟩), .int .i64 iz, .int .i64 k, .int .i64 most] w fun e w' =>
      ∃ (y : Int) (m : Nat) (L' : Lab) (S' : St), e = .returned (.tuple #[.int .i64 m, .int .i64 y]) ∧ Net1 B w0 w' L' n S' ∧ Fr w L w' L' ∧
        ((y = 0 ∧ (m : Int) ≤ most ∧ c.cut = false ∧ m = passLen c k most ∧ S' = S.set j (c.passed k m)) ∨ (y ≠ 0 ∧ S' = S ∧ (c.cut = true ∨ most < 0))) := by
  by_cases hm : most < 0
  · refine (pass_arg w n iz k most hm).mono ?_
    rintro e w' ⟨rfl, rfl⟩
    exact ⟨2, 0, L, S, rfl, h, Fr.refl _ _, .inr ⟨by decide, rfl, .inr hm⟩⟩
  · cases hcut : c.cut with
    | true =>
      have hw : S.why iz k = 40 := by rw [why_of hi hc hk, hcut]; rfl
      refine (pass_bad (ofBad_why h.net hs iz k (by rw [hw]; decide)) most (by omega)).mono ?_
      rintro e w' ⟨rfl, rfl⟩
      exact ⟨_, 0, L, S, rfl, h, Fr.refl _ _, .inr ⟨by rw [hw]; decide, rfl, .inl rfl⟩⟩
    | false =>
      subst hi
      have hl : (c.sd (1 - k)).there.length + (c.sd k).under.length ≤ 140737488355328 := by
        unfold Cn.vol at hv
        rcases hk with rfl | rfl <;> simp [Cn.sd] <;> omega
      refine (pass_ok h.net h.le hs j k c hc hcut hk most (by omega) hl).mono ?_
      rintro e w' ⟨rfl, hL⟩
      obtain ⟨L', h1, h2⟩ := h.ofLeft' hL
      refine ⟨0, _, L', _, rfl, h1, h2, .inl ⟨rfl, ?_, rfl, rfl, rfl⟩⟩
      unfold passLen; omega

theorem read_tot (h : Net1 B w0 w L n S) (hs : S.cs.length ≤ maxLen) (iz : Int) (j : Nat) (hi : (j : Int) = iz) (k : Int) (c : Cn) (hc : S.cs[j]? = some c) (hk : k = 0 ∨ k = 1) :
    Calls Try.prog 12 #[.pointer (some ⟨n, 0, none⟩), .int .i64 iz, .int .i64 k] w fun e w' =>
      ∃ (y : Int) (en : Bool) (ao : Option Addr) (len cap : Nat) (ps : List UInt8) (L' : Lab) (S' : St), e = .returned (.tuple #[.slice ao len cap, .bool en, .int .i64 y]) ∧ Net1 B w0 w' L' n S' ∧ Fr w L w' L' ∧
        MyRow B w' L' (.slice ao len cap) ps ∧ ps.length = len ∧ (∀ g, (Value.slice ao len cap).ownBlock = some g → L g ≠ none) ∧
        ((y = 0 ∧ c.cut = false ∧ ps = (c.sd k).there ∧ S' = S.set j (c.setSd k { c.sd k with there := [] })) ∨ (y = 40 ∧ c.cut = true ∧ ps = [] ∧ S' = S)) := by
  cases hcut : c.cut with
  | true =>
    have hw : S.why iz k = 40 := by rw [why_of hi hc hk, hcut]; rfl
    refine (read_bad (ofBad_why h.net hs iz k (by rw [hw]; decide))).mono ?_
    rintro e w' ⟨rfl, rfl⟩
    exact ⟨_, _, _, _, _, [], L, S, rfl, h, Fr.refl _ _, MyRow.nil _ _ _, rfl, (fun g hg => by cases hg), .inr ⟨hw, rfl, rfl, rfl⟩⟩
  | false =>
    subst hi
    refine (read_ok h.net h.le hs j k c hc hcut hk).mono ?_
    rintro e w' ⟨ao, cap, L', rfl, hl, hown, hlab⟩
    have hb := Left.belowL hl h.net h.le
    refine ⟨0, _, ao, _, cap, _, L', _, rfl, ⟨hl.1, h.below.trans hb, Nat.le_trans h.le hb.size⟩, ⟨hl.2.1, hl.2.2⟩, ⟨hown, fun g hg => ⟨(hlab g hg).1, (hlab g hg).2.1, (hown.lt g hg).2⟩⟩, rfl, (fun g hg => (hlab g hg).2.2), .inl ⟨rfl, rfl, rfl, rfl⟩⟩

theorem cut_tot (h : Net1 B w0 w L n S) (hs : S.cs.length ≤ maxLen) (iz : Int) (j : Nat) (hi : (j : Int) = iz) (c : Cn) (hc : S.cs[j]? = some c) :
    Calls Try.prog 15 #[.pointer (some ⟨n, 0, none⟩), .int .i64 iz] w fun e w' =>
      ∃ (y : Int) (L' : Lab) (S' : St), e = .returned (.int .i64 y) ∧ Net1 B w0 w' L' n S' ∧ Fr w L w' L' ∧ ((c.cut = false ∧ S' = S.set j c.cutOff) ∨ (c.cut = true ∧ S' = S)) := by
  cases hcut : c.cut with
  | true =>
    have hw : S.why iz 0 = 40 := by rw [why_of hi hc (.inl rfl), hcut]; rfl
    refine (cut_bad (k := 0) (ofBad_why h.net hs iz 0 (by rw [hw]; decide))).mono ?_
    rintro e w' ⟨rfl, rfl⟩
    exact ⟨_, L, S, rfl, h, Fr.refl _ _, .inr ⟨rfl, rfl⟩⟩
  | false =>
    subst hi
    refine (cut_ok h.net h.le hs j c hc hcut).mono ?_
    rintro e w' ⟨rfl, hL⟩
    obtain ⟨L', h1, h2⟩ := h.ofLeft' hL
    exact ⟨_, L', _, rfl, h1, h2, .inl ⟨rfl, rfl⟩⟩

end

end Go.Proofs.Ytibijonjjkknoaa
