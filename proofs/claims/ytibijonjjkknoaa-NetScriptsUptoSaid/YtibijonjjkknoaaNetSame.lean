/-
The functions same and num of package turnpikelaw04.
-/
import Derived.Test.YtibijonjjkknoaaNetRep
set_option linter.unusedVariables false
set_option linter.unusedSimpArgs false
namespace Go.Proofs.Ytibijonjjkknoaa
open Go Go.RowKit

theorem RdB.form {w : World} {ao : Option Addr} {c : Nat} {ps : List UInt8} (h : RdB w ao c ps) :
    ps = [] ∨ ∃ g off, ao = some ⟨g, off, none⟩ ∧ ∀ j, j < ps.length → w.cell? ⟨g, off + j, none⟩ = some (.int .u8 ((ps.getD j 0).toNat : Int)) := by
  cases hps : ps with
  | nil => exact .inl rfl
  | cons x xs =>
    right
    rcases hao : ao with _ | ⟨g, off, sp⟩
    · have := (h.isNil hao).1; rw [hps] at this; cases this
    · have hc := h.cells _ hao
      have h0 := hc 0 _ (by rw [hps]; rfl)
      have hsp : sp = none := by
        cases sp with
        | none => rfl
        | some k => simp [Addr.add, World.cell?] at h0; split at h0 <;> cases h0
      subst hsp
      refine ⟨g, off, rfl, fun j hj => ?_⟩
      have hj' : j < ps.length := by rw [hps]; exact hj
      have := hc j (.int .u8 ((ps.getD j 0).toNat : Int)) (by simp [bytes, List.getD, hj'])
      rw [Addr.add_lit] at this
      rw [hps] at this
      exact this

theorem take_eq_succ {xs ys : List UInt8} {k : Nat} (h : xs.take k = ys.take k) (hx : k < xs.length) (hy : k < ys.length) (he : xs.getD k 0 = ys.getD k 0) : xs.take (k + 1) = ys.take (k + 1) := by
  rw [List.take_succ_eq_append_getElem hx, List.take_succ_eq_append_getElem hy, h]
  simp [List.getD, hx, hy] at he
  rw [he]

set_option maxHeartbeats 1000000 in
theorem same_any (w : World) (ao ao' : Option Addr) (c c' : Nat) (xs ys : List UInt8) (hx : RdB w ao c xs) (hy : RdB w ao' c' ys) (b : Bool) (hb : decide (xs = ys) = b) :
    Calls Try.prog 13 #[.slice ao xs.length c, .slice ao' ys.length c'] w fun e w' => e = .returned (.bool b) ∧ ∃ nd, w.drewN nd = w' := by
  have lx : xs.length ≤ 9223372036854775807 := by have := hx.le; have := hx.cap; unfold maxLen at this; omega
  by_cases hl : xs.length = ys.length
  · have Hl := Lib.hid hl
    have hne : ((xs.length : Int) != (ys.length : Int)) = false := by simp [hl]
    have Hb := Lib.hid hb
    rcases hx.form with hxe | ⟨g, off, rfl, hcx⟩
    · have hye : ys = [] := List.eq_nil_of_length_eq_zero (by rw [← hl, hxe]; rfl)
      subst hxe; subst hye
      simp at hb; subst hb
      clear hl hne Hl Hb
      go_enter Try.func13, Try.ntmps13
      go_wp2
      go_loop [5] (fun i => i = .int .i64 0) (fun _ => 0)
      case atStart => rfl
      case round =>
        subst hrel
        go_wp2
        go_ret
        exact ⟨rfl, 0, rfl⟩
    · rcases hy.form with hye | ⟨g', off', rfl, hcy⟩
      · have hxe : xs = [] := List.eq_nil_of_length_eq_zero (by rw [hl, hye]; rfl)
        subst hxe; subst hye
        simp at hb; subst hb
        clear hl hne Hl Hb
        go_enter Try.func13, Try.ntmps13
        go_wp2
        go_loop [5] (fun i => i = .int .i64 0) (fun _ => 0)
        case atStart => rfl
        case round =>
          subst hrel
          go_wp2
          go_ret
          exact ⟨rfl, 0, rfl⟩
      · have Hcx := Lib.hid hcx
        have Hcy := Lib.hid hcy
        clear hl hb hx hy hcx hcy
        go_enter Try.func13, Try.ntmps13
        go_wp2
        go_loopw [5] (fun i wr => ∃ k nd : Nat, i = .int .i64 k ∧ k ≤ xs.length ∧ wr = w.drewN nd ∧ Hid (xs.take k = ys.take k)) (fun i _ => xs.length - (intOf i).toNat)
        case atStart => exact ⟨0, 0, rfl, Nat.zero_le _, rfl, rfl⟩
        case round =>
          obtain ⟨k, nd, rfl, hk, rfl, htk⟩ := hrel
          by_cases hlt : k < xs.length
          · have h1 : w.cell? ⟨g, off + k, none⟩ = some (.int .u8 ((xs.getD k 0).toNat : Int)) := Hcx.out k hlt
            have h2 : w.cell? ⟨g', off' + k, none⟩ = some (.int .u8 ((ys.getD k 0).toNat : Int)) := Hcy.out k (by rw [← Hl.out]; exact hlt)
            have hly : k < ys.length := by rw [← Hl.out]; exact hlt
            have hgx : ∃ x, x = xs.getD k 0 := ⟨_, rfl⟩
            obtain ⟨x, ex⟩ := hgx
            have hgy : ∃ y, y = ys.getD k 0 := ⟨_, rfl⟩
            obtain ⟨y, ey⟩ := hgy
            rw [← ex] at h1
            rw [← ey] at h2
            have Ex := Lib.hid ex
            have Ey := Lib.hid ey
            clear ex ey
            by_cases hxy : x = y
            · subst hxy
              go_wp2
              go_quiet (fail)
              go_wp2
              go_roundw
              case rel => exact ⟨k + 1, _, by go_num, by omega, rfl, take_eq_succ htk.out hlt hly (by rw [← Ex.out, ← Ey.out])⟩
              case measure => simp [intOf]; omega
            · have hxn : ((x.toNat : Int) != (y.toNat : Int)) = true := by
                simp; intro e; exact hxy (UInt8.toNat_inj.1 (by omega))
              go_wp2
              go_quiet (fail)
              go_wp2
              go_ret
              refine ⟨?_, nd + nq, (by simp [World.drewN, Nat.add_assoc])⟩
              have : b = false := by
                rw [← Hb.out]
                simp
                intro e
                subst e
                exact hxy (Ex.out.trans Ey.out.symm)
              rw [this]; rfl
          · have hge : xs.length ≤ k := by omega
            go_wp2
            go_ret
            refine ⟨?_, nd, rfl⟩
            have : b = true := by
              rw [← Hb.out]
              have := htk.out
              rw [List.take_of_length_le hge, List.take_of_length_le (by rw [← Hl.out]; exact hge)] at this
              simp [this]
            rw [this]; rfl
  · have hne : ((xs.length : Int) != (ys.length : Int)) = true := by simp; omega
    have hbf : b = false := by rw [← hb]; simp; intro e; exact hl (by rw [e])
    subst hbf
    clear hb hx hy
    go_enter Try.func13, Try.ntmps13
    go_wp2
    go_ret
    exact ⟨rfl, 0, rfl⟩

end Go.Proofs.Ytibijonjjkknoaa
