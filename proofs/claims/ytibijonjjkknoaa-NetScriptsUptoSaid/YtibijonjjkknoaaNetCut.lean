/-
The functions Cut, Under and Conns of package net, where there is a connection.
-/
import Derived.Test.YtibijonjjkknoaaNetBad
set_option linter.unusedVariables false
set_option linter.unusedSimpArgs false
namespace Go.Proofs.Ytibijonjjkknoaa
open Go Go.RowKit

def Cn.cutOff (c : Cn) : Cn := { c with cut := true, s0 := Sd.zero, s1 := Sd.zero }

set_option maxHeartbeats 1000000 in
theorem cut_ok {B : Nat} {w : World} {L : Lab} {n : Nat} {S : St} (h : NetIs B w L n S) (hB : B ≤ w.heap.size) (hs : S.cs.length ≤ maxLen) (i : Nat) (c : Cn) (hc : S.cs[i]? = some c) (hcut : c.cut = false) :
    Calls Try.prog 15 #[.pointer (some ⟨n, 0, none⟩), .int .i64 i] w fun e w' =>
      e = .returned (.int .i64 0) ∧ Left B w L n { S with cs := S.cs.set i c.cutOff } w' := by
  obtain ⟨cv, mb, bs, h⟩ := h
  obtain ⟨g, cap, b, u0, t0, u1, t1, hcv, hi, hb, h1, h2, h3⟩ := of_cells h hc
  have hof := of_ok h hs i b 0 c hb hc hcut (.inl rfl)
  have Hof := Lib.hid hof
  have H3 := Lib.hid h3
  have Hh := Lib.hid h
  have Hb := Lib.hid hb
  have e2 := cell_blk h3.blk 2
  have e3 := cell_blk h3.blk 3
  have e4 := cell_blk h3.blk 4
  have e5 := cell_blk h3.blk 5
  have e6 := cell_blk h3.blk 6
  have e7 := cell_blk h3.blk 7
  have e8 := cell_blk h3.blk 8
  have e9 := cell_blk h3.blk 9
  have e10 := cell_blk h3.blk 10
  have f2 := frozen_blk h3.blk 2
  have f3 := frozen_blk h3.blk 3
  have f4 := frozen_blk h3.blk 4
  have f5 := frozen_blk h3.blk 5
  have f6 := frozen_blk h3.blk 6
  have f7 := frozen_blk h3.blk 7
  have f8 := frozen_blk h3.blk 8
  have f9 := frozen_blk h3.blk 9
  have f10 := frozen_blk h3.blk 10
  simp at e2 e3 e4 e5 e6 e7 e8 e9 e10
  clear hof h1 h2 hcv hc hb h h3
  go_enter Try.func15, Try.ntmps15
  go_wp2_with fail
  refine Hof.out.mono ?_
  rintro e w1 ⟨rfl, nq, rfl⟩
  simp only [if_true]
  go_wp2
  go_ret
  refine ⟨rfl, ?_⟩
  have h3 := H3.out
  have hm0 : Mod (fun x => L x = some (i, 0)) w (w.drewN nq) := (Mod.refl _ w).drewN nq
  have key : ∀ W : World, Mod (fun x => L x = some (i, 0)) w W →
      W.heap[b]? = some (.cells #[.string c.name, .bool c.waiting, .bool true, .slice none 0 0, .slice none 0 0, .bool false, .bool false, .slice none 0 0, .slice none 0 0, .bool false, .bool false] 61 (0, 0)) →
      Left B w L n { S with cs := S.cs.set i c.cutOff } W := by
    intro W hm hblk
    refine ⟨L, Hh.out.setConn Hb.out _ (fun x _ => .inl rfl) hB (fun x t hx => Nat.lt_of_lt_of_le (Hh.out.labs x t hx).2 hm.size) (hm.mono fun x _ hx => ⟨0, by omega, hx⟩)
      ⟨.slice none 0 0, .slice none 0 0, .slice none 0 0, .slice none 0 0, hblk, h3.lab, RowAt.nil _ _ _, RowAt.nil _ _ _, RowAt.nil _ _ _, RowAt.nil _ _ _⟩⟩
  have s2 := set_blk (show (w.drewN nq).heap[b]? = _ from h3.blk) 2 (.bool true)
  have s3 := set_blk s2 3 (.slice none 0 0)
  have s4 := set_blk s3 4 (.slice none 0 0)
  have s5 := set_blk s4 5 (.bool false)
  have s6 := set_blk s5 6 (.bool false)
  have s7 := set_blk s6 7 (.slice none 0 0)
  have s8 := set_blk s7 8 (.slice none 0 0)
  have s9 := set_blk s8 9 (.bool false)
  have s10 := set_blk s9 10 (.bool false)
  refine key _ ?_ (by simpa using s10)
  exact ((((((((hm0.setCell _ _ (fun _ => h3.lab)).setCell _ _ (fun _ => h3.lab)).setCell _ _ (fun _ => h3.lab)).setCell _ _ (fun _ => h3.lab)).setCell _ _ (fun _ => h3.lab)).setCell _ _ (fun _ => h3.lab)).setCell _ _ (fun _ => h3.lab)).setCell _ _ (fun _ => h3.lab)).setCell _ _ (fun _ => h3.lab)

set_option maxHeartbeats 400000 in
theorem under_ok {B : Nat} {w : World} {L : Lab} {n : Nat} {S : St} (h : NetIs B w L n S) (hs : S.cs.length ≤ maxLen) (i : Nat) (k : Int) (c : Cn) (hc : S.cs[i]? = some c) (hcut : c.cut = false) (hk : k = 0 ∨ k = 1) :
    Calls Try.prog 16 #[.pointer (some ⟨n, 0, none⟩), .int .i64 i, .int .i64 k] w fun e w' => e = .returned (.int .i64 (c.sd k).under.length) ∧ ∃ nq, w.drewN nq = w' := by
  obtain ⟨cv, mb, bs, h⟩ := h
  obtain ⟨g, cap, b, u0, t0, u1, t1, hcv, hi, hb, h1, h2, h3⟩ := of_cells h hc
  have Hof := Lib.hid (of_ok h hs i b k c hb hc hcut hk)
  obtain ⟨ao0, c0, hu0⟩ := sd_form h3.rows.u0
  obtain ⟨ao1, c1, hu1⟩ := sd_form h3.rows.u1
  have e3 := cell_blk h3.blk 3
  have e7 := cell_blk h3.blk 7
  simp [hu0] at e3
  simp [hu1] at e7
  clear h1 h2 hcv hc hb h h3 hu0 hu1
  rcases hk with rfl | rfl
  · clear e7
    go_enter Try.func16, Try.ntmps16
    go_wp2_with fail
    refine Hof.out.mono ?_
    rintro e w1 ⟨rfl, nq, rfl⟩
    simp only [if_true]
    go_wp2
    go_ret
    exact ⟨rfl, nq, rfl⟩
  · clear e3
    go_enter Try.func16, Try.ntmps16
    go_wp2_with fail
    refine Hof.out.mono ?_
    rintro e w1 ⟨rfl, nq, rfl⟩
    simp only [if_neg (show ¬ (1:Int) = 0 by decide)]
    go_wp2
    go_ret
    exact ⟨rfl, nq, rfl⟩

theorem conns_nil (w : World) : Calls Try.prog 19 #[.pointer none] w fun e w' => e = .returned (.int .i64 0) ∧ w = w' := by
  go_enter Try.func19, Try.ntmps19
  go_wp2
  go_ret
  exact ⟨rfl, rfl⟩

theorem conns_ok {B : Nat} {w : World} {L : Lab} {n : Nat} {S : St} (h : NetIs B w L n S) :
    Calls Try.prog 19 #[.pointer (some ⟨n, 0, none⟩)] w fun e w' => e = .returned (.int .i64 S.cs.length) ∧ w = w' := by
  obtain ⟨cv, mb, bs, h⟩ := h
  have e0 := cell_blk h.blk 0
  have Hl := Lib.hid h.len
  obtain ⟨ao0, c0, hcv⟩ : ∃ ao c, cv = .slice ao bs.length c := by
    rcases row_form h.row with ⟨h1, h2, _⟩ | ⟨g, cap, h1, _⟩
    · exact ⟨none, 0, by rw [h1, h2]⟩
    · exact ⟨_, _, h1⟩
  simp [hcv] at e0
  clear h hcv
  go_enter Try.func19, Try.ntmps19
  go_wp2
  go_ret
  exact ⟨by rw [← Hl.out]; rfl, rfl⟩

end Go.Proofs.Ytibijonjjkknoaa
