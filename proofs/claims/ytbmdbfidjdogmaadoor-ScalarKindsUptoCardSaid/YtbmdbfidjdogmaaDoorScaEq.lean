/-
The walks of both Sames, and of own.
-/
import Derived.Test.YtbmdbfidjdogmaaDoorScaPrint
import Derived.Test.YtbmdbfidjdogmaaDoorScaSame
set_option linter.unusedVariables false
set_option linter.unusedSimpArgs false
namespace Go.Proofs.YtbmdbfidjdogmaaDoor
open Go Go.RowKit

def nanF (x : Nat) : Bool := FloatKind.f64.format.order x x != some .eq
def eqF (x y : Nat) : Bool := FloatKind.f64.format.order x y == some .eq

/-- Are two values of one kind, and do they say the same? ('sg': does a real have the sign?) -/
def sameG (sg : Nat → Bool) (a b : Val) : Bool :=
  if a.kind = b.kind then
    if a.kind = 1 then true
    else if a.kind = 2 then a.bool == b.bool
    else if a.kind = 3 then a.int == b.int
    else if a.kind = 4 then (nanF a.real && nanF b.real) || (eqF a.real b.real && (sg a.real == sg b.real))
    else if a.kind = 5 then a.text.toList == b.text.toList
    else false
  else false

/-- Does a real have the sign? -/
def sgnF (x : Nat) : Bool := decide (9223372036854775808 ≤ x)

def sameP : Val → Val → Bool := sameG sgnF
def sameR : Val → Val → Bool := sameG belowF

theorem two_new (w : World) (o o' : Obj) : Below w.heap.size w ((w.alloc o).alloc o') := ((Below.refl _ w).alloc (Nat.le_refl _) _).alloc (by simp) _

theorem two_drew (w : World) (o o' : Obj) (n : Nat) : Below w.heap.size w (((w.alloc o).alloc o').drewN n) := (two_new w o o').trans ⟨rfl, rfl, rfl, Nat.le_refl _, fun _ _ => rfl⟩

set_option maxHeartbeats 8000000 in
theorem sameP_walk (w : World) (a b : Val) (ha : a.real < 18446744073709551616) (hb : b.real < 18446744073709551616) :
    Calls Tryd.prog 19 #[a.v, b.v] w fun e w' => e = .returned (.bool (sameG sgnF a b)) ∧ Below w.heap.size w w' := by
  obtain ⟨ak, ab, ai, ax, at'⟩ := a
  obtain ⟨bk, bb, bi, bx, bt⟩ := b
  unfold Val.v valV
  dsimp only at ha hb ⊢
  by_cases hk : ak = bk
  · subst hk
    by_cases k1 : ak = 1
    · subst k1
      have hr : sameG sgnF ⟨1, ab, ai, ax, at'⟩ ⟨1, bb, bi, bx, bt⟩ = true := by simp [sameG]
      rw [hr]
      clear hr
      go_enter Tryd.func19, Tryd.ntmps19
      go_wp2
      go_ret
      exact ⟨rfl, two_new _ _ _⟩
    by_cases k2 : ak = 2
    · subst k2
      have hr : sameG sgnF ⟨2, ab, ai, ax, at'⟩ ⟨2, bb, bi, bx, bt⟩ = (ab == bb) := by simp [sameG]
      rw [hr]
      clear hr k1
      go_enter Tryd.func19, Tryd.ntmps19
      go_wp2
      go_ret
      exact ⟨rfl, two_new _ _ _⟩
    by_cases k3 : ak = 3
    · subst k3
      have hr : sameG sgnF ⟨3, ab, ai, ax, at'⟩ ⟨3, bb, bi, bx, bt⟩ = (ai == bi) := by simp [sameG]
      rw [hr]
      clear hr k1 k2
      go_enter Tryd.func19, Tryd.ntmps19
      go_wp2
      go_ret
      exact ⟨rfl, two_new _ _ _⟩
    by_cases k5 : ak = 5
    · subst k5
      have hr : sameG sgnF ⟨5, ab, ai, ax, at'⟩ ⟨5, bb, bi, bx, bt⟩ = (at'.toList == bt.toList) := by simp [sameG]
      rw [hr]
      clear hr k1 k2 k3
      go_enter Tryd.func19, Tryd.ntmps19
      go_wp2
      go_ret
      exact ⟨rfl, two_new _ _ _⟩
    by_cases k4 : ak = 4
    · subst k4
      have hr : sameG sgnF ⟨4, ab, ai, ax, at'⟩ ⟨4, bb, bi, bx, bt⟩ = ((nanF ax && nanF bx) || (eqF ax bx && (sgnF ax == sgnF bx))) := by simp [sameG]
      rw [hr]
      clear hr k1 k2 k3 k5
      have Hx := Lib.hid (show ∀ w, Calls Tryd.prog 35 #[.float .f64 ax] w fun e w' => e = .returned (.bool (sgnF ax)) ∧ w' = w from fun w => signbit_walk w ax ha)
      have Hy := Lib.hid (show ∀ w, Calls Tryd.prog 35 #[.float .f64 bx] w fun e w' => e = .returned (.bool (sgnF bx)) ∧ w' = w from fun w => signbit_walk w bx hb)
      unfold nanF eqF
      generalize sgnF ax = sx at *
      generalize sgnF bx = sy at *
      clear ha hb
      cases h1 : (FloatKind.f64.format.order ax ax != some .eq) <;> cases h2 : (FloatKind.f64.format.order bx bx != some .eq) <;> cases h3 : (FloatKind.f64.format.order ax bx == some .eq)
      all_goals
        go_enter Tryd.func19, Tryd.ntmps19
        go_upto_region 11 with (fail)
        go_quiet (first | (with_reducible refine Calls.quiet_of_same (Hx.out _)) | (with_reducible refine Calls.quiet_of_same (Hy.out _)))
        go_wp2
        go_ret
        exact ⟨by first | rfl | simp, two_drew _ _ _ _⟩
    · have hr : sameG sgnF ⟨ak, ab, ai, ax, at'⟩ ⟨ak, bb, bi, bx, bt⟩ = false := by simp [sameG, k1, k2, k3, k4, k5]
      have q0 : (ak != ak) = false := by simp
      have q1 : (ak == 1) = false := beq_eq_false_iff_ne.2 k1
      have q2 : (ak == 2) = false := beq_eq_false_iff_ne.2 k2
      have q3 : (ak == 3) = false := beq_eq_false_iff_ne.2 k3
      have q4 : (ak == 4) = false := beq_eq_false_iff_ne.2 k4
      have q5 : (ak == 5) = false := beq_eq_false_iff_ne.2 k5
      rw [hr]
      clear hr k1 k2 k3 k4 k5
      go_enter Tryd.func19, Tryd.ntmps19
      go_wp2
      go_ret
      exact ⟨rfl, two_new _ _ _⟩
  · have hr : sameG sgnF ⟨ak, ab, ai, ax, at'⟩ ⟨bk, bb, bi, bx, bt⟩ = false := by simp [sameG, hk]
    have q0 : (ak != bk) = true := bne_iff_ne.2 hk
    rw [hr]
    clear hr hk
    go_enter Tryd.func19, Tryd.ntmps19
    go_wp2
    go_ret
    exact ⟨rfl, two_new _ _ _⟩

set_option maxHeartbeats 8000000 in
theorem sameR_walk (w : World) (a b : Val) (ha : a.real < 18446744073709551616) (hb : b.real < 18446744073709551616) :
    Calls Tryd.prog 20 #[a.v, b.v] w fun e w' => e = .returned (.bool (sameG belowF a b)) ∧ Below w.heap.size w w' := by
  obtain ⟨ak, ab, ai, ax, at'⟩ := a
  obtain ⟨bk, bb, bi, bx, bt⟩ := b
  unfold Val.v valV
  dsimp only at ha hb ⊢
  by_cases hk : ak = bk
  · subst hk
    by_cases k1 : ak = 1
    · subst k1
      have hr : sameG belowF ⟨1, ab, ai, ax, at'⟩ ⟨1, bb, bi, bx, bt⟩ = true := by simp [sameG]
      rw [hr]
      clear hr
      go_enter Tryd.func20, Tryd.ntmps20
      go_wp2
      go_ret
      exact ⟨rfl, two_new _ _ _⟩
    by_cases k2 : ak = 2
    · subst k2
      have hr : sameG belowF ⟨2, ab, ai, ax, at'⟩ ⟨2, bb, bi, bx, bt⟩ = (ab == bb) := by simp [sameG]
      rw [hr]
      clear hr k1
      go_enter Tryd.func20, Tryd.ntmps20
      go_wp2
      go_ret
      exact ⟨rfl, two_new _ _ _⟩
    by_cases k3 : ak = 3
    · subst k3
      have hr : sameG belowF ⟨3, ab, ai, ax, at'⟩ ⟨3, bb, bi, bx, bt⟩ = (ai == bi) := by simp [sameG]
      rw [hr]
      clear hr k1 k2
      go_enter Tryd.func20, Tryd.ntmps20
      go_wp2
      go_ret
      exact ⟨rfl, two_new _ _ _⟩
    by_cases k5 : ak = 5
    · subst k5
      have hr : sameG belowF ⟨5, ab, ai, ax, at'⟩ ⟨5, bb, bi, bx, bt⟩ = (at'.toList == bt.toList) := by simp [sameG]
      rw [hr]
      clear hr k1 k2 k3
      go_enter Tryd.func20, Tryd.ntmps20
      go_wp2
      go_ret
      exact ⟨rfl, two_new _ _ _⟩
    by_cases k4 : ak = 4
    · subst k4
      have hr : sameG belowF ⟨4, ab, ai, ax, at'⟩ ⟨4, bb, bi, bx, bt⟩ = ((nanF ax && nanF bx) || (eqF ax bx && (belowF ax == belowF bx))) := by simp [sameG]
      rw [hr]
      clear hr k1 k2 k3 k5
      have Hx := Lib.hid (show ∀ w, Calls Tryd.prog 36 #[.float .f64 ax] w fun e w' => e = .returned (.bool (belowF ax)) ∧ w' = w from fun w => below_walk w ax)
      have Hy := Lib.hid (show ∀ w, Calls Tryd.prog 36 #[.float .f64 bx] w fun e w' => e = .returned (.bool (belowF bx)) ∧ w' = w from fun w => below_walk w bx)
      unfold nanF eqF
      generalize belowF ax = sx at *
      generalize belowF bx = sy at *
      clear ha hb
      cases h1 : (FloatKind.f64.format.order ax ax != some .eq) <;> cases h2 : (FloatKind.f64.format.order bx bx != some .eq) <;> cases h3 : (FloatKind.f64.format.order ax bx == some .eq)
      all_goals
        go_enter Tryd.func20, Tryd.ntmps20
        go_upto_region 11 with (fail)
        go_quiet (first | (with_reducible refine Calls.quiet_of_same (Hx.out _)) | (with_reducible refine Calls.quiet_of_same (Hy.out _)))
        go_wp2
        go_ret
        exact ⟨by first | rfl | simp, two_drew _ _ _ _⟩
    · have hr : sameG belowF ⟨ak, ab, ai, ax, at'⟩ ⟨ak, bb, bi, bx, bt⟩ = false := by simp [sameG, k1, k2, k3, k4, k5]
      have q0 : (ak != ak) = false := by simp
      have q1 : (ak == 1) = false := beq_eq_false_iff_ne.2 k1
      have q2 : (ak == 2) = false := beq_eq_false_iff_ne.2 k2
      have q3 : (ak == 3) = false := beq_eq_false_iff_ne.2 k3
      have q4 : (ak == 4) = false := beq_eq_false_iff_ne.2 k4
      have q5 : (ak == 5) = false := beq_eq_false_iff_ne.2 k5
      rw [hr]
      clear hr k1 k2 k3 k4 k5
      go_enter Tryd.func20, Tryd.ntmps20
      go_wp2
      go_ret
      exact ⟨rfl, two_new _ _ _⟩
  · have hr : sameG belowF ⟨ak, ab, ai, ax, at'⟩ ⟨bk, bb, bi, bx, bt⟩ = false := by simp [sameG, hk]
    have q0 : (ak != bk) = true := bne_iff_ne.2 hk
    rw [hr]
    clear hr hk
    go_enter Tryd.func20, Tryd.ntmps20
    go_wp2
    go_ret
    exact ⟨rfl, two_new _ _ _⟩

end Go.Proofs.YtbmdbfidjdogmaaDoor
