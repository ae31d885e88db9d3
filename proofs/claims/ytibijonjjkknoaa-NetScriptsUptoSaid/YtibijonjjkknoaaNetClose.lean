/-
The function Close of package net; what Close, Write and Pass answer where they refuse.
-/
import Derived.Test.YtibijonjjkknoaaNetErr
set_option linter.unusedVariables false
set_option linter.unusedSimpArgs false
namespace Go.Proofs.Ytibijonjjkknoaa
open Go Go.RowKit

set_option maxHeartbeats 400000 in
theorem close_ok {B : Nat} {w : World} {L : Lab} {n : Nat} {S : St} (h : NetIs B w L n S) (hB : B ≤ w.heap.size) (hs : S.cs.length ≤ maxLen) (i : Nat) (k : Int) (c : Cn) (hc : S.cs[i]? = some c) (hcut : c.cut = false) (hk : k = 0 ∨ k = 1) (hcl : (c.sd k).closed = false) :
    Calls Try.prog 14 #[.pointer (some ⟨n, 0, none⟩), .int .i64 i, .int .i64 k] w fun e w' =>
      e = .returned (.int .i64 0) ∧ Left B w L n { S with cs := S.cs.set i (c.setSd k { c.sd k with closed := true }) } w' := by
  obtain ⟨cv, mb, bs, h⟩ := h
  obtain ⟨g, cap, b, u0, t0, u1, t1, hcv, hi, hb, h1, h2, h3⟩ := of_cells h hc
  have hof := of_ok h hs i b k c hb hc hcut hk
  have Hof := Lib.hid hof
  have H3 := Lib.hid h3
  have Hh := Lib.hid h
  have Hb := Lib.hid hb
  clear hof h1 h2 hcv hc hb h
  rcases hk with rfl | rfl
  · have ec := cell_blk h3.blk 5
    have fc := frozen_blk h3.blk 5
    simp [Cn.sd] at hcl
    simp [hcl] at ec
    clear h3 hcl
    go_enter Try.func14, Try.ntmps14
    go_wp2_with fail
    refine Hof.out.mono ?_
    rintro e w1 ⟨rfl, nq, rfl⟩
    simp only [if_true]
    go_wp2
    go_ret
    have h3 := H3.out
    have hr := h3.rows
    have hL : ∀ x, x < w.heap.size → L x = L x := fun _ _ => rfl
    have hm : Mod (fun x => L x = some (i, 0)) w ((w.drewN nq).setCell ⟨b, 5, none⟩ (.bool true)) := (((Mod.refl _ w).drewN nq).setCell _ _ (fun _ => h3.lab))
    refine ⟨rfl, L, Hh.out.setConn Hb.out _ (fun x _ => .inl rfl) hB ?_ (hm.mono fun x _ hx => ⟨0, by omega, hx⟩) ⟨u0, t0, u1, t1, ?_, h3.lab, hr.u0.kept hL hm (by intro x hx hF; rw [hx] at hF; simp at hF), hr.t0.kept hL hm (by intro x hx hF; rw [hx] at hF; simp at hF), hr.u1.kept hL hm (by intro x hx hF; rw [hx] at hF; simp at hF), hr.t1.kept hL hm (by intro x hx hF; rw [hx] at hF; simp at hF)⟩⟩
    · intro x t hx
      have := (Hh.out.labs x t hx).2
      simpa [World.drewN] using this
    · have := set_blk h3.blk 5 (.bool true)
      exact (show (w.setCell ⟨b, 5, none⟩ (.bool true)).heap[b]? = _ from by simpa [Cn.setSd, Cn.sd] using this)
  · have ec := cell_blk h3.blk 9
    have fc := frozen_blk h3.blk 9
    simp [Cn.sd] at hcl
    simp [hcl] at ec
    clear h3 hcl
    go_enter Try.func14, Try.ntmps14
    go_wp2_with fail
    refine Hof.out.mono ?_
    rintro e w1 ⟨rfl, nq, rfl⟩
    simp only [if_neg (show ¬ (1:Int) = 0 by decide)]
    go_wp2
    go_ret
    have h3 := H3.out
    have hr := h3.rows
    have hL : ∀ x, x < w.heap.size → L x = L x := fun _ _ => rfl
    have hm : Mod (fun x => L x = some (i, 0)) w ((w.drewN nq).setCell ⟨b, 9, none⟩ (.bool true)) := (((Mod.refl _ w).drewN nq).setCell _ _ (fun _ => h3.lab))
    refine ⟨rfl, L, Hh.out.setConn Hb.out _ (fun x _ => .inl rfl) hB ?_ (hm.mono fun x _ hx => ⟨0, by omega, hx⟩) ⟨u0, t0, u1, t1, ?_, h3.lab, hr.u0.kept hL hm (by intro x hx hF; rw [hx] at hF; simp at hF), hr.t0.kept hL hm (by intro x hx hF; rw [hx] at hF; simp at hF), hr.u1.kept hL hm (by intro x hx hF; rw [hx] at hF; simp at hF), hr.t1.kept hL hm (by intro x hx hF; rw [hx] at hF; simp at hF)⟩⟩
    · intro x t hx
      have := (Hh.out.labs x t hx).2
      simpa [World.drewN] using this
    · have := set_blk h3.blk 9 (.bool true)
      exact (show (w.setCell ⟨b, 9, none⟩ (.bool true)).heap[b]? = _ from by simpa [Cn.setSd, Cn.sd] using this)

set_option maxHeartbeats 400000 in
theorem close_ended {B : Nat} {w0 w : World} {L : Lab} {n : Nat} {S : St} (h : Net1 B w0 w L n S) (hs : S.cs.length ≤ maxLen) (iz : Int) (i : Nat) (hi : (i : Int) = iz) (k : Int) (c : Cn) (hc : S.cs[i]? = some c) (hcut : c.cut = false) (hk : k = 0 ∨ k = 1) (hcl : (c.sd k).closed = true) :
    Calls Try.prog 14 #[.pointer (some ⟨n, 0, none⟩), .int .i64 iz, .int .i64 k] w fun e w' => e = .returned (.int .i64 42) ∧ ∃ nq, w.drewN nq = w' := by
  subst hi
  obtain ⟨cv, mb, bs, h⟩ := h.net
  obtain ⟨g, cap, b, u0, t0, u1, t1, hcv, hi, hb, h1, h2, h3⟩ := of_cells h hc
  have Hof := Lib.hid (of_ok h hs i b k c hb hc hcut hk)
  have e5 := cell_blk h3.blk 5
  have e9 := cell_blk h3.blk 9
  clear h1 h2 hcv hc hb h h3
  rcases hk with rfl | rfl
  · simp [Cn.sd] at hcl
    simp [hcl] at e5
    clear hcl e9
    go_enter Try.func14, Try.ntmps14
    go_wp2_with fail
    refine Hof.out.mono ?_
    rintro e w1 ⟨rfl, nq, rfl⟩
    simp only [if_true]
    go_wp2
    go_ret
    exact ⟨rfl, nq, rfl⟩
  · simp [Cn.sd] at hcl
    simp [hcl] at e9
    clear hcl e5
    go_enter Try.func14, Try.ntmps14
    go_wp2_with fail
    refine Hof.out.mono ?_
    rintro e w1 ⟨rfl, nq, rfl⟩
    simp only [if_neg (show ¬ (1:Int) = 0 by decide)]
    go_wp2
    go_ret
    exact ⟨rfl, nq, rfl⟩

set_option maxHeartbeats 400000 in
theorem write_ended {B : Nat} {w0 w : World} {L : Lab} {n : Nat} {S : St} (h : Net1 B w0 w L n S) (hs : S.cs.length ≤ maxLen) (iz : Int) (i : Nat) (hi : (i : Int) = iz) (k : Int) (c : Cn) (hc : S.cs[i]? = some c) (hcut : c.cut = false) (hk : k = 0 ∨ k = 1) (hcl : (c.sd k).closed = true)
    (ao : Option Addr) (len cp : Nat) :
    Calls Try.prog 10 #[.pointer (some ⟨n, 0, none⟩), .int .i64 iz, .int .i64 k, .slice ao len cp] w fun e w' => e = .returned (.int .i64 42) ∧ ∃ nq, w.drewN nq = w' := by
  subst hi
  obtain ⟨cv, mb, bs, h⟩ := h.net
  obtain ⟨g, cap, b, u0, t0, u1, t1, hcv, hi, hb, h1, h2, h3⟩ := of_cells h hc
  have Hof := Lib.hid (of_ok h hs i b k c hb hc hcut hk)
  have e5 := cell_blk h3.blk 5
  have e9 := cell_blk h3.blk 9
  clear h1 h2 hcv hc hb h h3
  rcases hk with rfl | rfl
  · simp [Cn.sd] at hcl
    simp [hcl] at e5
    clear hcl e9
    go_enter Try.func10, Try.ntmps10
    go_wp2_with fail
    refine Hof.out.mono ?_
    rintro e w1 ⟨rfl, nq, rfl⟩
    simp only [if_true]
    go_wp2
    go_ret
    exact ⟨rfl, nq, rfl⟩
  · simp [Cn.sd] at hcl
    simp [hcl] at e9
    clear hcl e5
    go_enter Try.func10, Try.ntmps10
    go_wp2_with fail
    refine Hof.out.mono ?_
    rintro e w1 ⟨rfl, nq, rfl⟩
    simp only [if_neg (show ¬ (1:Int) = 0 by decide)]
    go_wp2
    go_ret
    exact ⟨rfl, nq, rfl⟩

theorem pass_arg (w : World) (n : Nat) (i k most : Int) (hm : most < 0) :
    Calls Try.prog 11 #[.pointer (some ⟨n, 0, none⟩), .int .i64 i, .int .i64 k, .int .i64 most] w fun e w' => e = .returned (.tuple #[.int .i64 0, .int .i64 2]) ∧ w = w' := by
  go_enter Try.func11, Try.ntmps11
  go_wp2
  go_ret2
  exact ⟨rfl, rfl⟩

section
variable {B : Nat} {w0 w : World} {L : Lab} {n : Nat} {S : St}

theorem close_to (h : Net1 B w0 w L n S) (hs : S.cs.length ≤ maxLen) (iz : Int) (i : Nat) (hi : (i : Int) = iz) (k : Int) (c : Cn) (hc : S.cs[i]? = some c) (hcut : c.cut = false) (hk : k = 0 ∨ k = 1) (hcl : (c.sd k).closed = false) (S' : St)
    (hS : { S with cs := S.cs.set i (c.setSd k { c.sd k with closed := true }) } = S') :
    Calls Try.prog 14 #[.pointer (some ⟨n, 0, none⟩), .int .i64 iz, .int .i64 k] w fun e w' =>
      ∃ L', e = .returned (.int .i64 0) ∧ Net1 B w0 w' L' n S' ∧ (∀ x, x < w.heap.size → L' x = L x ∨ L' x = none) ∧ Mod (fun x => L x ≠ none) w w' := by
  subst hi; subst hS
  refine (close_ok h.net h.le hs i k c hc hcut hk hcl).mono ?_
  rintro e w' ⟨rfl, hl⟩
  obtain ⟨L', h'⟩ := h.ofLeft hl
  exact ⟨L', rfl, h'⟩

/-- An own row of bytes grows by what is read. -/
theorem MyRow.grown {w' : World} {v v' : Value} {xs ys : List UInt8} (h : MyRow B w L v xs) (hB : B ≤ w.heap.size) (hnone : ∀ g, w.heap.size ≤ g → L g = none)
    (ho : w'.ownsRow 0 5 1 v' (xs ++ ys).length (bytes (xs ++ ys))) (hn : ∀ g, v'.ownBlock = some g → v.ownBlock = some g ∨ w.heap.size ≤ g) : MyRow B w' L v' (xs ++ ys) :=
  ⟨ho, fun g hg => (hn g hg).elim (fun q => ⟨(h.lab g q).1, (h.lab g q).2.1, (ho.lt g hg).2⟩) (fun q => ⟨hnone g q, by omega, (ho.lt g hg).2⟩)⟩

theorem MyRow.nil (B : Nat) (w : World) (L : Lab) : MyRow B w L (.slice none 0 0) [] := ⟨World.ownsRow_nil _ _ _ _, fun g h => by cases h⟩

/-- The net stays what it is while a row of the caller's own grows. -/
theorem Net1.grown {w' : World} {v : Value} {xs : List UInt8} (h : Net1 B w0 w L n S) (hv : MyRow B w L v xs) (hg : w.grownBy w' v.ownBlock) : Net1 B w0 w' L n S :=
  h.frame (F := fun x => v.ownBlock = some x) ((Mod.refl _ w).grown hg (fun k hk _ => hk)) (fun x t hx e => by rw [(hv.lab x e).1] at hx; cases hx) (fun x e => (hv.lab x e).2.1)

end

end Go.Proofs.Ytibijonjjkknoaa
