/-
The reference's Write.
-/
import Derived.Test.YtibijonjjkknoaaNetRefM
set_option linter.unusedVariables false
set_option linter.unusedSimpArgs false
namespace Go.Proofs.Ytibijonjjkknoaa
open Go Go.RowKit

section
variable {w0 w : World} {It : Nat → Item} {r rb : Nat} {R : RS}

theorem RPost.drewN {w' : World} {R' : RS} {n : Nat} (h : RPost w0 (w.drewN n) It r rb R' w') : RPost w0 w It r rb R' w' := by
  obtain ⟨It', h1, h2, h3, h4⟩ := h
  exact ⟨It', h1, h2, h3, ((Mod.refl _ w).drewN n).trans h4⟩

theorem RPost.later {w' w2 : World} {R' : RS} (h : RPost w0 w It r rb R' w') (hb : Below w'.heap.size w' w2) : RPost w0 w It r rb R' w2 := by
  obtain ⟨It', h1, h2, h3, h4⟩ := h
  exact ⟨It', h1.later hb, h2, h3, h4.trans' (Mod.ofBelow (F := fun g => w'.heap.size ≤ g) hb fun k _ h => h) (fun g hg hq => absurd (Nat.lt_of_lt_of_le hg h4.size) (by omega))⟩

/-- A row that has been appended to. -/
theorem Bg.grow0 {w0 w : World} {It : Nat → Item} (h : Bg w0 w It) (k : Nat) {T : TypeId} {sz n q : Nat} {v v' : Value} {vs vs' : List Value} {w2 : World} (hI : It k = rowItem T sz v n vs) (hg : w.grownBy w2 v.ownBlock) (hr : w2.ownsRow 0 T sz v' q vs') (hn : ∀ g, v'.ownBlock = some g → v.ownBlock = some g ∨ w.heap.size ≤ g) : Bg w0 w2 (upd It k (rowItem T sz v' q vs')) := by
  refine h.put k _ ?_ hr (fun g hg => (hr.lt g hg).2) (fun g hg => ?_)
  · rw [hI]
    exact (Mod.refl _ w).grown hg (fun k hk _ => hk)
  · rw [hI]
    exact hn g hg

theorem setf_same {α : Type} (f : Nat → α) (k : Nat) (v : α) : setf f k v k = v := by unfold setf; rw [if_pos rfl]
theorem setf_ne {α : Type} (f : Nat → α) {k i : Nat} (v : α) (h : i ≠ k) : setf f k v i = f i := by unfold setf; rw [if_neg h]


/-- What side 0 wrote has grown. -/
theorem RefI.wrote0 {cv nv tv : Value} {bs : List Nat} {vs : Nat → Nat → Value} (hB : Bg w0 w It) (h : RefI It r rb R cv nv tv bs vs) {i b : Nat} {c : RC} (hb : bs[i]? = some b) (hc : R.cs[i]? = some c) {ps : List UInt8} {w2 : World} {v' : Value} {q : Nat} (hq : q = (c.W 0 ++ ps).length)
    (hr : w2.ownsRow 0 5 1 v' q (bytes (c.W 0 ++ ps))) (hg : w.grownBy w2 (vs i 0).ownBlock) (hn : ∀ g, v'.ownBlock = some g → (vs i 0).ownBlock = some g ∨ w.heap.size ≤ g) :
    w2.heap[b]? = some (c.obj (vs i 0) (vs i 1)) ∧ RPost w0 w It r rb { R with cs := R.cs.set i { c with W := setf c.W 0 (c.W 0 ++ ps) } } (w2.setCell ⟨b, 3, none⟩ v') := by
  obtain ⟨q4, q5, q6⟩ := h.cn i b c hb hc
  have hB2 := hB.grow0 (ix r (5 + 3 * i)) q5 hg hr hn
  have p4 := hB2.bag.holds (ix r (4 + 3 * i))
  rw [upd_ne _ _ (ix_ne (by omega)), q4] at p4
  have hblk : w2.heap[b]? = some (c.obj (vs i 0) (vs i 1)) := p4
  have hset := set_blk hblk 3 v'
  have hm : Mod (fun g => g = b) w2 (w2.setCell ⟨b, 3, none⟩ v') := (Mod.refl _ w2).setCell _ _ (fun _ => rfl)
  have hB3 := hB2.obj (ix r (4 + 3 * i)) (by rw [upd_ne _ _ (ix_ne (by omega))]; exact q4) hm (o' := RC.obj { c with W := setf c.W 0 (c.W 0 ++ ps) } v' (vs i 1)) (by rw [hset]; rfl)
  refine ⟨hblk, RPost.put2 hB3 (h.setConn hb { c with W := setf c.W 0 (c.W 0 ++ ps) } v' (vs i 1) (upd_same _ _ _) (by rw [upd_ne _ _ (ix_ne (by omega)), upd_same, hq]; rfl) (by rw [upd_ne _ _ (ix_ne (by omega)), upd_ne _ _ (ix_ne (by omega))]; exact q6) (fun j h1 h2 h3 => by rw [upd_ne _ _ (ix_ne h1), upd_ne _ _ (ix_ne (by omega))])) ?_⟩
  rw [q4, q5]
  exact (((Mod.refl _ w).grown hg (fun k hk _ => .inl hk)).setCell ⟨b, 3, none⟩ v' (fun _ => .inr rfl))

set_option maxHeartbeats 1000000 in
theorem rwrite_long0 (hB : Bg w0 w It) (h : RefIs It r rb R) {i : Nat} {c : RC} (hc : R.cs[i]? = some c) (hcut : c.cut = false) (hok : c.Ok) (hcl : c.C 0 = false) (ao : Option Addr) (len cp : Nat) (hlen : 1048576 < len + ((c.W 0).length - c.P 0)) (hu : (c.W 0).length - c.P 0 ≤ 1048576) :
    Calls Try.prog 27 #[.pointer (some ⟨rb, 0, none⟩), .int .i64 (i : Int), .int .i64 0, .slice ao len cp] w fun e w' => e = .returned (.int .i64 3) ∧ Below w.heap.size w w' := by
  obtain ⟨cv, nv, tv, bs, vs, h⟩ := h
  obtain ⟨b, g, cc, hb, q⟩ := h.look hB hc
  have Hw := Lib.hid (rwhy_ok hB ⟨cv, nv, tv, bs, vs, h⟩ (i : Int) 0)
  rw [show R.why (i : Int) 0 = 0 from rwhy_at (kk := 0) (by decide) hc hcut] at Hw
  have y0 := q.h0
  have y1 := q.hi
  have b1 : (i : Int) < (bs.length : Int) := by have := q.lt; omega
  have y2 : w.cell? ⟨b, 9, none⟩ = some (.bool false) := by rw [cell_blk q.blk, ← hcl]; rfl
  obtain ⟨ao2, cp2, hv⟩ := row_slice q.r0
  have y3 : w.cell? ⟨b, 3, none⟩ = some (.slice ao2 (c.W 0).length cp2) := by rw [cell_blk q.blk, ← hv]; rfl
  have y4 : w.cell? ⟨b, 5, none⟩ = some (.int .i64 (c.P 0 : Int)) := by rw [cell_blk q.blk]; rfl
  have b2 : wrap64 (1048576 - wrap64 (((c.W 0).length : Int) - (c.P 0 : Int))) < (len : Int) := by
    have := hok.p 0
    have := hok.w 0
    unfold wrap64
    omega
  clear h hB hc hb q hv hok hlen hu
  go_enter Try.func27, Try.ntmps27
  go_wp2_with fail
  refine Hw.out.mono ?_
  rintro e w1 ⟨rfl, hw⟩
  obtain rfl := hw.symm
  clear hw Hw
  go_wp2
  go_quiet (fail)
  go_wp2
  go_ret
  exact ⟨rfl, (Mod.refl (fun _ => False) w).drewN nq |>.below (Nat.le_refl _) (fun _ f => f.elim)⟩

set_option maxHeartbeats 2000000 in
theorem rwrite_ok0 (hB : Bg w0 w It) (h : RefIs It r rb R) {i : Nat} {c : RC} (hc : R.cs[i]? = some c) (hcut : c.cut = false) (hok : c.Ok) (hcl : c.C 0 = false) (ao : Option Addr) (cp : Nat) (ps : List UInt8) (hp : RdB w ao cp ps) (hl : (c.W 0).length - c.P 0 + ps.length ≤ 1048576) :
    Calls Try.prog 27 #[.pointer (some ⟨rb, 0, none⟩), .int .i64 (i : Int), .int .i64 0, .slice ao ps.length cp] w fun e w' => e = .returned (.int .i64 0) ∧ RPost w0 w It r rb { R with cs := R.cs.set i { c with W := setf c.W 0 (c.W 0 ++ ps) } } w' := by
  obtain ⟨cv, nv, tv, bs, vs, h⟩ := h
  obtain ⟨b, g, cc, hb, q⟩ := h.look hB hc
  have Hw := Lib.hid (rwhy_ok hB ⟨cv, nv, tv, bs, vs, h⟩ (i : Int) 0)
  rw [show R.why (i : Int) 0 = 0 from rwhy_at (kk := 0) (by decide) hc hcut] at Hw
  have y0 := q.h0
  have y1 := q.hi
  have b1 : (i : Int) < (bs.length : Int) := by have := q.lt; omega
  have y2 : w.cell? ⟨b, 9, none⟩ = some (.bool false) := by rw [cell_blk q.blk, ← hcl]; rfl
  obtain ⟨ao2, cp2, hv⟩ := row_slice q.r0
  have y3 : w.cell? ⟨b, 3, none⟩ = some (.slice ao2 (c.W 0).length cp2) := by rw [cell_blk q.blk, ← hv]; rfl
  have y4 : w.cell? ⟨b, 5, none⟩ = some (.int .i64 (c.P 0 : Int)) := by rw [cell_blk q.blk]; rfl
  have b2 : (ps.length : Int) ≤ wrap64 (1048576 - wrap64 (((c.W 0).length : Int) - (c.P 0 : Int))) := by
    have := hok.p 0
    have := hok.w 0
    unfold wrap64
    omega
  have Hown := Lib.hid (fun n => show (w.drewN n).ownsRow 0 5 1 (.slice ao2 (c.W 0).length cp2) (c.W 0).length (bytes (c.W 0)) from by rw [← hv]; exact ownsRow_frame q.r0 (fun _ _ => rfl))
  have Hp := Lib.hid hp
  have H47 := Lib.hid (show (c.W 0).length + ps.length ≤ 140737488355328 by have := hok.w 0; have := hok.p 0; omega)
  have Hst := Lib.hid (fun n v' w2 hr hg hn => RefI.wrote0 (hB.drewN n) h hb hc (ps := ps) (w2 := w2) (v' := v') rfl hr hg hn)
  rw [hv] at Hst
  clear h hB hc hb q hok hp hl
  go_enter Try.func27, Try.ntmps27
  go_wp2_with fail
  refine Hw.out.mono ?_
  rintro e w1 ⟨rfl, hw⟩
  obtain rfl := hw.symm
  clear hw Hw
  go_wp2
  go_quiet (fail)
  go_wp2
  go_region_law (refine step_bytes rfl _ _ rfl (.slice ao2 (c.W 0).length cp2) (c.W 0) rfl (Hown.out _) ao cp ps _ rfl rfl ((c.W 0).length + ps.length) rfl (Hp.out.drewN _) H47.out ?_; intro ao' c' w2 own2 gr2 new2; have hst := Hst.out _ _ w2 own2 gr2 new2; have t2 := cell_blk hst.1 3; have f2 := frozen_blk hst.1 3; simp at t2; have Hend := Lib.hid hst.2.drewN; clear own2 gr2 new2 hst)
  all_goals go_wp2
  all_goals go_ret
  all_goals exact ⟨rfl, Hend.out⟩


/-- What side 1 wrote has grown. -/
theorem RefI.wrote1 {cv nv tv : Value} {bs : List Nat} {vs : Nat → Nat → Value} (hB : Bg w0 w It) (h : RefI It r rb R cv nv tv bs vs) {i b : Nat} {c : RC} (hb : bs[i]? = some b) (hc : R.cs[i]? = some c) {ps : List UInt8} {w2 : World} {v' : Value} {q : Nat} (hq : q = (c.W 1 ++ ps).length)
    (hr : w2.ownsRow 0 5 1 v' q (bytes (c.W 1 ++ ps))) (hg : w.grownBy w2 (vs i 1).ownBlock) (hn : ∀ g, v'.ownBlock = some g → (vs i 1).ownBlock = some g ∨ w.heap.size ≤ g) :
    w2.heap[b]? = some (c.obj (vs i 0) (vs i 1)) ∧ RPost w0 w It r rb { R with cs := R.cs.set i { c with W := setf c.W 1 (c.W 1 ++ ps) } } (w2.setCell ⟨b, 4, none⟩ v') := by
  obtain ⟨q4, q5, q6⟩ := h.cn i b c hb hc
  have hB2 := hB.grow0 (ix r (6 + 3 * i)) q6 hg hr hn
  have p4 := hB2.bag.holds (ix r (4 + 3 * i))
  rw [upd_ne _ _ (ix_ne (by omega)), q4] at p4
  have hblk : w2.heap[b]? = some (c.obj (vs i 0) (vs i 1)) := p4
  have hset := set_blk hblk 4 v'
  have hm : Mod (fun g => g = b) w2 (w2.setCell ⟨b, 4, none⟩ v') := (Mod.refl _ w2).setCell _ _ (fun _ => rfl)
  have hB3 := hB2.obj (ix r (4 + 3 * i)) (by rw [upd_ne _ _ (ix_ne (by omega))]; exact q4) hm (o' := RC.obj { c with W := setf c.W 1 (c.W 1 ++ ps) } (vs i 0) v') (by rw [hset]; rfl)
  refine ⟨hblk, RPost.put2 hB3 (h.setConn hb { c with W := setf c.W 1 (c.W 1 ++ ps) } (vs i 0) v' (upd_same _ _ _) (by rw [upd_ne _ _ (ix_ne (by omega)), upd_ne _ _ (ix_ne (by omega))]; exact q5) (by rw [upd_ne _ _ (ix_ne (by omega)), upd_same, hq]; rfl) (fun j h1 h2 h3 => by rw [upd_ne _ _ (ix_ne h1), upd_ne _ _ (ix_ne (by omega))])) ?_⟩
  rw [q4, q6]
  exact (((Mod.refl _ w).grown hg (fun k hk _ => .inl hk)).setCell ⟨b, 4, none⟩ v' (fun _ => .inr rfl))

set_option maxHeartbeats 1000000 in
theorem rwrite_long1 (hB : Bg w0 w It) (h : RefIs It r rb R) {i : Nat} {c : RC} (hc : R.cs[i]? = some c) (hcut : c.cut = false) (hok : c.Ok) (hcl : c.C 1 = false) (ao : Option Addr) (len cp : Nat) (hlen : 1048576 < len + ((c.W 1).length - c.P 1)) (hu : (c.W 1).length - c.P 1 ≤ 1048576) :
    Calls Try.prog 27 #[.pointer (some ⟨rb, 0, none⟩), .int .i64 (i : Int), .int .i64 1, .slice ao len cp] w fun e w' => e = .returned (.int .i64 3) ∧ Below w.heap.size w w' := by
  obtain ⟨cv, nv, tv, bs, vs, h⟩ := h
  obtain ⟨b, g, cc, hb, q⟩ := h.look hB hc
  have Hw := Lib.hid (rwhy_ok hB ⟨cv, nv, tv, bs, vs, h⟩ (i : Int) 1)
  rw [show R.why (i : Int) 1 = 0 from rwhy_at (kk := 1) (by decide) hc hcut] at Hw
  have y0 := q.h0
  have y1 := q.hi
  have b1 : (i : Int) < (bs.length : Int) := by have := q.lt; omega
  have y2 : w.cell? ⟨b, 10, none⟩ = some (.bool false) := by rw [cell_blk q.blk, ← hcl]; rfl
  obtain ⟨ao2, cp2, hv⟩ := row_slice q.r1
  have y3 : w.cell? ⟨b, 4, none⟩ = some (.slice ao2 (c.W 1).length cp2) := by rw [cell_blk q.blk, ← hv]; rfl
  have y4 : w.cell? ⟨b, 6, none⟩ = some (.int .i64 (c.P 1 : Int)) := by rw [cell_blk q.blk]; rfl
  have b2 : wrap64 (1048576 - wrap64 (((c.W 1).length : Int) - (c.P 1 : Int))) < (len : Int) := by
    have := hok.p 1
    have := hok.w 1
    unfold wrap64
    omega
  clear h hB hc hb q hv hok hlen hu
  go_enter Try.func27, Try.ntmps27
  go_wp2_with fail
  refine Hw.out.mono ?_
  rintro e w1 ⟨rfl, hw⟩
  obtain rfl := hw.symm
  clear hw Hw
  go_wp2
  go_quiet (fail)
  go_wp2
  go_ret
  exact ⟨rfl, (Mod.refl (fun _ => False) w).drewN nq |>.below (Nat.le_refl _) (fun _ f => f.elim)⟩

set_option maxHeartbeats 2000000 in
theorem rwrite_ok1 (hB : Bg w0 w It) (h : RefIs It r rb R) {i : Nat} {c : RC} (hc : R.cs[i]? = some c) (hcut : c.cut = false) (hok : c.Ok) (hcl : c.C 1 = false) (ao : Option Addr) (cp : Nat) (ps : List UInt8) (hp : RdB w ao cp ps) (hl : (c.W 1).length - c.P 1 + ps.length ≤ 1048576) :
    Calls Try.prog 27 #[.pointer (some ⟨rb, 0, none⟩), .int .i64 (i : Int), .int .i64 1, .slice ao ps.length cp] w fun e w' => e = .returned (.int .i64 0) ∧ RPost w0 w It r rb { R with cs := R.cs.set i { c with W := setf c.W 1 (c.W 1 ++ ps) } } w' := by
  obtain ⟨cv, nv, tv, bs, vs, h⟩ := h
  obtain ⟨b, g, cc, hb, q⟩ := h.look hB hc
  have Hw := Lib.hid (rwhy_ok hB ⟨cv, nv, tv, bs, vs, h⟩ (i : Int) 1)
  rw [show R.why (i : Int) 1 = 0 from rwhy_at (kk := 1) (by decide) hc hcut] at Hw
  have y0 := q.h0
  have y1 := q.hi
  have b1 : (i : Int) < (bs.length : Int) := by have := q.lt; omega
  have y2 : w.cell? ⟨b, 10, none⟩ = some (.bool false) := by rw [cell_blk q.blk, ← hcl]; rfl
  obtain ⟨ao2, cp2, hv⟩ := row_slice q.r1
  have y3 : w.cell? ⟨b, 4, none⟩ = some (.slice ao2 (c.W 1).length cp2) := by rw [cell_blk q.blk, ← hv]; rfl
  have y4 : w.cell? ⟨b, 6, none⟩ = some (.int .i64 (c.P 1 : Int)) := by rw [cell_blk q.blk]; rfl
  have b2 : (ps.length : Int) ≤ wrap64 (1048576 - wrap64 (((c.W 1).length : Int) - (c.P 1 : Int))) := by
    have := hok.p 1
    have := hok.w 1
    unfold wrap64
    omega
  have Hown := Lib.hid (fun n => show (w.drewN n).ownsRow 0 5 1 (.slice ao2 (c.W 1).length cp2) (c.W 1).length (bytes (c.W 1)) from by rw [← hv]; exact ownsRow_frame q.r1 (fun _ _ => rfl))
  have Hp := Lib.hid hp
  have H47 := Lib.hid (show (c.W 1).length + ps.length ≤ 140737488355328 by have := hok.w 1; have := hok.p 1; omega)
  have Hst := Lib.hid (fun n v' w2 hr hg hn => RefI.wrote1 (hB.drewN n) h hb hc (ps := ps) (w2 := w2) (v' := v') rfl hr hg hn)
  rw [hv] at Hst
  clear h hB hc hb q hok hp hl
  go_enter Try.func27, Try.ntmps27
  go_wp2_with fail
  refine Hw.out.mono ?_
  rintro e w1 ⟨rfl, hw⟩
  obtain rfl := hw.symm
  clear hw Hw
  go_wp2
  go_quiet (fail)
  go_wp2
  go_region_law (refine step_bytes rfl _ _ rfl (.slice ao2 (c.W 1).length cp2) (c.W 1) rfl (Hown.out _) ao cp ps _ rfl rfl ((c.W 1).length + ps.length) rfl (Hp.out.drewN _) H47.out ?_; intro ao' c' w2 own2 gr2 new2; have hst := Hst.out _ _ w2 own2 gr2 new2; have t2 := cell_blk hst.1 4; have f2 := frozen_blk hst.1 4; simp at t2; have Hend := Lib.hid hst.2.drewN; clear own2 gr2 new2 hst)
  all_goals go_wp2
  all_goals go_ret
  all_goals exact ⟨rfl, Hend.out⟩

end

end Go.Proofs.Ytibijonjjkknoaa
