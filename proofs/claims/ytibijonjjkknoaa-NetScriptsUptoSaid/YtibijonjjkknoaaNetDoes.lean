/-
A call at both nets: the answers are the same.
-/
import Derived.Test.YtibijonjjkknoaaNetDuo2
import Derived.Deep.RegionHeld3
set_option linter.unusedVariables false
set_option linter.unusedSimpArgs false
namespace Go.Proofs.Ytibijonjjkknoaa
open Go Go.RowKit

/-- Nothing else turned but what a call needs for itself. -/
def OthS (r : Nat) (It It' : Nat → Item) : Prop := ∀ i, i ≠ r → i ≠ 5 → i ≠ 6 → (∀ j, i ≠ ix r j) → It' i = It i

def DoesP (w0 : World) (It : Nat → Item) (r : Nat) (np rp : Value) (N : Nat) (w' : World) : Prop := ∃ It', Duo w0 w' It' r np rp N ∧ OthS r It It'

def callV (kind : Int) (name : ByteArray) (conn side n : Int) (ao : Option Addr) (len cp : Nat) : Value := .agg #[.int .i64 kind, .string name, .int .i64 conn, .int .i64 side, .int .i64 n, .slice ao len cp]
abbrev callO (kind : Int) (name : ByteArray) (conn side n : Int) (ao : Option Addr) (len cp : Nat) : Obj := .cells #[.int .i64 kind, .string name, .int .i64 conn, .int .i64 side, .int .i64 n, .slice ao len cp] 40

theorem bd_drew {w : World} : Below w.heap.size w w.drew := ⟨rfl, rfl, rfl, Nat.le_refl _, fun _ _ => rfl⟩

theorem num_walk (w : World) (y : Int) : Calls Try.prog 21 #[.int .i64 y] w fun e w' => e = .returned (.int .i64 y) ∧ w' = w := by
  go_enter Try.func21, Try.ntmps21
  go_wp2
  go_ret
  exact ⟨rfl, rfl⟩

section
variable {w0 w : World} {It : Nat → Item} {r N : Nat} {np rp : Value}

theorem Duo.rlt' (h : Duo w0 w It r np rp N) : np = .pointer none ∨ r < 2 := by
  cases h with
  | bare _ => exact .inl rfl
  | both h => exact .inr h.rlt

/-- A scratch item is put. -/
theorem Duo.put (h : Duo w0 w It r np rp N) {w2 : World} {k : Nat} {x : Item} (hk : 2 ≤ k) (hk2 : k < 10) (hB : Bg w0 w2 (upd It k x)) : Duo w0 w2 (upd It k x) r np rp N := by
  cases h with
  | bare _ => exact .bare hB
  | both h =>
    have := h.rlt
    exact .both ⟨hB, by rw [upd_ne _ _ (by omega)]; exact h.net, h.ref.other fun j => upd_ne _ _ (by unfold ix; omega), h.pair, h.rlt⟩

/-- The call's own copy of what is called. -/
theorem Duo.box (h : Duo w0 w It r np rp N) (o : Obj) : Duo w0 (w.alloc o) (upd It 6 (objItem w.heap.size o)) r np rp N :=
  h.put (by omega) (by omega) (h.bg.objNew 6 ((Below.refl _ w).alloc (Nat.le_refl _) o) (Nat.le_refl _) (alloc_new o))

theorem othS_of {It' : Nat → Item} {x : Item} (h : Oth r (upd It 6 x) It') : OthS r It It' := fun i a b c d => (h i a d).trans (upd_ne _ _ c)

theorem box_two {b : Nat} {o : Obj} {fp fr : FuncId} {pa ra : Array Value} {shape : Value → Prop} {It0 : Nat → Item} (hr : r < 2) (hI : It0 = upd It 6 (objItem b o)) (hD : Duo w0 w It0 r np rp N) (t : Two fp fr pa ra w (It0 r).own shape (DuoP w0 It0 r np rp (N + 1))) :
    ∃ v, shape v ∧ ∃ M : World → Prop, Calls Try.prog fp pa w (fun e w1 => e = .returned v ∧ M w1 ∧ w1.heap[b]? = some o) ∧ ∀ w1, M w1 → Calls Try.prog fr ra w1 (fun e w' => e = .returned v ∧ DoesP w0 It r np rp (N + 1) w' ∧ w'.heap[b]? = some o) := by
  obtain ⟨v, hv, M, h1, h2⟩ := t
  have hb : w.heap[b]? = some o := by
    have := hD.bg.bag.holds 6
    rw [hI, upd_same] at this
    exact this
  refine ⟨v, hv, M, h1.mono fun e w1 ⟨he, hM, hm⟩ => ⟨he, hM, (hm.block b (lt_of_heap hb) (fun q => ?_)).trans hb⟩, fun w1 hM => (h2 w1 hM).mono fun e w' ⟨he, It', hD', hO⟩ => ⟨he, ⟨It', hD', by rw [hI] at hO; exact othS_of hO⟩, ?_⟩⟩
  · exact hD.bg.bag.apart r 6 b (by omega) q (by rw [hI, upd_same]; rfl)
  · have h6 := hO 6 (by omega) (fun j => by unfold ix; omega)
    have := hD'.bg.bag.holds 6
    rw [h6, hI, upd_same] at this
    exact this


set_option maxRecDepth 20000 in
set_option maxHeartbeats 4000000 in
theorem does_Refuse (h : Duo w0 w It r np rp N) (hr : r < 2) (hN : N < 67108864) (name : ByteArray) (hname : name.size ≤ maxLen) (conn side n : Int) (hn : n ≤ 9223372036854775807) (ao : Option Addr) (len cp : Nat) :
    Calls Try.prog 17 #[np, rp, callV 0 name conn side n ao len cp] w fun e w' => e = .returned (.bool true) ∧ DoesP w0 It r np rp (N + 1) w' := by
  have hD := (h.box (callO 0 name conn side n ao len cp)).later bd_drew
  obtain ⟨v, ⟨y, rfl⟩, M, ha, hb⟩ := box_two hr rfl hD (hD.refuse hN name hname n hn)
  have hblk : (w.alloc (callO 0 name conn side n ao len cp)).drew.heap[w.heap.size]? = some (callO 0 name conn side n ao len cp) := alloc_new _
  have z1 : (w.alloc (callO 0 name conn side n ao len cp)).drew.cell? ⟨w.heap.size, 1, none⟩ = some (.string name) := by rw [cell_blk hblk]; rfl
  have z4 : (w.alloc (callO 0 name conn side n ao len cp)).drew.cell? ⟨w.heap.size, 4, none⟩ = some (.int .i64 n) := by rw [cell_blk hblk]; rfl
  have HA := Lib.hid (ha.mono (R' := fun e w' => e = .returned (.int .i64 y) ∧ M w' ∧ w'.cell? ⟨w.heap.size, 1, none⟩ = some (.string name) ∧ w'.cell? ⟨w.heap.size, 4, none⟩ = some (.int .i64 n)) fun e w' ⟨he, hM, hbk⟩ => ⟨he, hM, ⟨(by rw [cell_blk hbk]; rfl), (by rw [cell_blk hbk]; rfl)⟩⟩)
  have HB := Lib.hid (fun w1 hM => (hb w1 hM).mono (R' := fun e w' => e = .returned (.int .i64 y) ∧ DoesP w0 It r np rp (N + 1) w' ∧ w'.cell? ⟨w.heap.size, 1, none⟩ = some (.string name) ∧ w'.cell? ⟨w.heap.size, 4, none⟩ = some (.int .i64 n)) fun e w' ⟨he, hP, hbk⟩ => ⟨he, hP, ⟨(by rw [cell_blk hbk]; rfl), (by rw [cell_blk hbk]; rfl)⟩⟩)
  have Hnum := Lib.hid (fun w1 => num_walk w1 y)
  clear h hD ha hb hblk hname hn hN
  unfold callV
  go_enter Try.func17, Try.ntmps17
  go_wp2_with fail
  go_region_held3 (fun w' => w'.cell? ⟨w.heap.size, 1, none⟩ = some (.string name) ∧ w'.cell? ⟨w.heap.size, 4, none⟩ = some (.int .i64 n)) (first | exact ⟨z1, z4⟩ | exact hs1 | exact hs2 | assumption)
    (first
      | (go_at_call 22; (with_reducible refine HA.out.mono ?_); rintro e w' ⟨rfl, h1, hs1⟩; have HB2 := Lib.hid (HB.out _ h1))
      | (go_at_call 21; (with_reducible refine (Hnum.out _).mono ?_); rintro e w' ⟨rfl, hw⟩; obtain rfl := hw.symm)
      | (go_at_call 23; (with_reducible refine HB2.out.mono ?_); rintro e w' ⟨rfl, h2, hs2⟩))
  all_goals go_wp2
  all_goals go_ret
  all_goals exact ⟨rfl, h2⟩


set_option maxRecDepth 20000 in
set_option maxHeartbeats 4000000 in
theorem does_Close (h : Duo w0 w It r np rp N) (hr : r < 2) (hN : N < 67108864) (name : ByteArray) (hname : name.size ≤ maxLen) (conn side n : Int) (hn : n ≤ 9223372036854775807) (ao : Option Addr) (len cp : Nat) :
    Calls Try.prog 17 #[np, rp, callV 4 name conn side n ao len cp] w fun e w' => e = .returned (.bool true) ∧ DoesP w0 It r np rp (N + 1) w' := by
  have hD := (h.box (callO 4 name conn side n ao len cp)).later bd_drew
  obtain ⟨v, ⟨y, rfl⟩, M, ha, hb⟩ := box_two hr rfl hD (hD.close hN conn side)
  have hblk : (w.alloc (callO 4 name conn side n ao len cp)).drew.heap[w.heap.size]? = some (callO 4 name conn side n ao len cp) := alloc_new _
  have z2 : (w.alloc (callO 4 name conn side n ao len cp)).drew.cell? ⟨w.heap.size, 2, none⟩ = some (.int .i64 conn) := by rw [cell_blk hblk]; rfl
  have z3 : (w.alloc (callO 4 name conn side n ao len cp)).drew.cell? ⟨w.heap.size, 3, none⟩ = some (.int .i64 side) := by rw [cell_blk hblk]; rfl
  have HA := Lib.hid (ha.mono (R' := fun e w' => e = .returned (.int .i64 y) ∧ M w' ∧ w'.cell? ⟨w.heap.size, 2, none⟩ = some (.int .i64 conn) ∧ w'.cell? ⟨w.heap.size, 3, none⟩ = some (.int .i64 side)) fun e w' ⟨he, hM, hbk⟩ => ⟨he, hM, ⟨(by rw [cell_blk hbk]; rfl), (by rw [cell_blk hbk]; rfl)⟩⟩)
  have HB := Lib.hid (fun w1 hM => (hb w1 hM).mono (R' := fun e w' => e = .returned (.int .i64 y) ∧ DoesP w0 It r np rp (N + 1) w' ∧ w'.cell? ⟨w.heap.size, 2, none⟩ = some (.int .i64 conn) ∧ w'.cell? ⟨w.heap.size, 3, none⟩ = some (.int .i64 side)) fun e w' ⟨he, hP, hbk⟩ => ⟨he, hP, ⟨(by rw [cell_blk hbk]; rfl), (by rw [cell_blk hbk]; rfl)⟩⟩)
  have Hnum := Lib.hid (fun w1 => num_walk w1 y)
  clear h hD ha hb hblk hname hn hN
  unfold callV
  go_enter Try.func17, Try.ntmps17
  go_wp2_with fail
  go_region_held3 (fun w' => w'.cell? ⟨w.heap.size, 2, none⟩ = some (.int .i64 conn) ∧ w'.cell? ⟨w.heap.size, 3, none⟩ = some (.int .i64 side)) (first | exact ⟨z2, z3⟩ | exact hs1 | exact hs2 | assumption)
    (first
      | (go_at_call 14; (with_reducible refine HA.out.mono ?_); rintro e w' ⟨rfl, h1, hs1⟩; have HB2 := Lib.hid (HB.out _ h1))
      | (go_at_call 21; (with_reducible refine (Hnum.out _).mono ?_); rintro e w' ⟨rfl, hw⟩; obtain rfl := hw.symm)
      | (go_at_call 28; (with_reducible refine HB2.out.mono ?_); rintro e w' ⟨rfl, h2, hs2⟩))
  all_goals go_wp2
  all_goals go_ret
  all_goals exact ⟨rfl, h2⟩


set_option maxRecDepth 20000 in
set_option maxHeartbeats 4000000 in
theorem does_Cut (h : Duo w0 w It r np rp N) (hr : r < 2) (hN : N < 67108864) (name : ByteArray) (hname : name.size ≤ maxLen) (conn side n : Int) (hn : n ≤ 9223372036854775807) (ao : Option Addr) (len cp : Nat) :
    Calls Try.prog 17 #[np, rp, callV 7 name conn side n ao len cp] w fun e w' => e = .returned (.bool true) ∧ DoesP w0 It r np rp (N + 1) w' := by
  have hD := (h.box (callO 7 name conn side n ao len cp)).later bd_drew
  obtain ⟨v, ⟨y, rfl⟩, M, ha, hb⟩ := box_two hr rfl hD (hD.cut hN conn)
  have hblk : (w.alloc (callO 7 name conn side n ao len cp)).drew.heap[w.heap.size]? = some (callO 7 name conn side n ao len cp) := alloc_new _
  have z2 : (w.alloc (callO 7 name conn side n ao len cp)).drew.cell? ⟨w.heap.size, 2, none⟩ = some (.int .i64 conn) := by rw [cell_blk hblk]; rfl
  have HA := Lib.hid (ha.mono (R' := fun e w' => e = .returned (.int .i64 y) ∧ M w' ∧ w'.cell? ⟨w.heap.size, 2, none⟩ = some (.int .i64 conn)) fun e w' ⟨he, hM, hbk⟩ => ⟨he, hM, (by rw [cell_blk hbk]; rfl)⟩)
  have HB := Lib.hid (fun w1 hM => (hb w1 hM).mono (R' := fun e w' => e = .returned (.int .i64 y) ∧ DoesP w0 It r np rp (N + 1) w' ∧ w'.cell? ⟨w.heap.size, 2, none⟩ = some (.int .i64 conn)) fun e w' ⟨he, hP, hbk⟩ => ⟨he, hP, (by rw [cell_blk hbk]; rfl)⟩)
  have Hnum := Lib.hid (fun w1 => num_walk w1 y)
  clear h hD ha hb hblk hname hn hN
  unfold callV
  go_enter Try.func17, Try.ntmps17
  go_wp2_with fail
  go_region_held3 (fun w' => w'.cell? ⟨w.heap.size, 2, none⟩ = some (.int .i64 conn)) (first | exact z2 | exact hs1 | exact hs2 | assumption)
    (first
      | (go_at_call 15; (with_reducible refine HA.out.mono ?_); rintro e w' ⟨rfl, h1, hs1⟩; have HB2 := Lib.hid (HB.out _ h1))
      | (go_at_call 21; (with_reducible refine (Hnum.out _).mono ?_); rintro e w' ⟨rfl, hw⟩; obtain rfl := hw.symm)
      | (go_at_call 31; (with_reducible refine HB2.out.mono ?_); rintro e w' ⟨rfl, h2, hs2⟩))
  all_goals go_wp2
  all_goals go_ret
  all_goals exact ⟨rfl, h2⟩


set_option maxRecDepth 20000 in
set_option maxHeartbeats 4000000 in
theorem does_Dial (h : Duo w0 w It r np rp N) (hr : r < 2) (hN : N < 67108864) (name : ByteArray) (hname : name.size ≤ maxLen) (conn side n : Int) (ao : Option Addr) (len cp : Nat) :
    Calls Try.prog 17 #[np, rp, callV 1 name conn side n ao len cp] w fun e w' => e = .returned (.bool true) ∧ DoesP w0 It r np rp (N + 1) w' := by
  have hD := h.box (callO 1 name conn side n ao len cp)
  obtain ⟨v, ⟨a, y, rfl⟩, M, ha, hb⟩ := box_two hr rfl hD (hD.dial hN name hname)
  have hblk : (w.alloc (callO 1 name conn side n ao len cp)).heap[w.heap.size]? = some (callO 1 name conn side n ao len cp) := alloc_new _
  have z0 : (w.alloc (callO 1 name conn side n ao len cp)).cell? ⟨w.heap.size, 0, none⟩ = some (.int .i64 1) := by rw [cell_blk hblk]; rfl
  have z1 : (w.alloc (callO 1 name conn side n ao len cp)).cell? ⟨w.heap.size, 1, none⟩ = some (.string name) := by rw [cell_blk hblk]; rfl
  have HA := Lib.hid ha
  have HB := Lib.hid hb
  have Hnum := Lib.hid (fun w1 => num_walk w1 y)
  clear h hD ha hb hblk hname hN
  unfold callV
  go_enter Try.func17, Try.ntmps17
  go_wp2_with fail
  refine HA.out.mono ?_
  rintro e w1 ⟨rfl, hM, hbk⟩
  have HB1 := Lib.hid (HB.out w1 hM)
  have u1 : w1.cell? ⟨w.heap.size, 1, none⟩ = some (.string name) := by rw [cell_blk hbk]; rfl
  clear hM HA HB hbk
  go_wp2_with fail
  refine HB1.out.mono ?_
  rintro e w2 ⟨rfl, hP, hbk2⟩
  have HP := Lib.hid hP
  clear hP hbk2 HB1
  go_wp2_with fail
  refine (Hnum.out _).mono ?_
  rintro e w3 ⟨rfl, hw⟩
  obtain rfl := hw.symm
  clear hw Hnum
  go_wp2
  go_ret
  exact ⟨rfl, HP.out⟩


set_option maxRecDepth 20000 in
set_option maxHeartbeats 4000000 in
theorem does_Accept (h : Duo w0 w It r np rp N) (hr : r < 2) (hN : N < 67108864) (name : ByteArray) (hname : name.size ≤ maxLen) (conn side n : Int) (ao : Option Addr) (len cp : Nat) :
    Calls Try.prog 17 #[np, rp, callV 2 name conn side n ao len cp] w fun e w' => e = .returned (.bool true) ∧ DoesP w0 It r np rp (N + 1) w' := by
  have hD := h.box (callO 2 name conn side n ao len cp)
  obtain ⟨v, ⟨a, y, rfl⟩, M, ha, hb⟩ := box_two hr rfl hD (hD.accept hN name)
  have hblk : (w.alloc (callO 2 name conn side n ao len cp)).heap[w.heap.size]? = some (callO 2 name conn side n ao len cp) := alloc_new _
  have z0 : (w.alloc (callO 2 name conn side n ao len cp)).cell? ⟨w.heap.size, 0, none⟩ = some (.int .i64 2) := by rw [cell_blk hblk]; rfl
  have z1 : (w.alloc (callO 2 name conn side n ao len cp)).cell? ⟨w.heap.size, 1, none⟩ = some (.string name) := by rw [cell_blk hblk]; rfl
  have HA := Lib.hid ha
  have HB := Lib.hid hb
  clear h hD ha hb hblk hname hN
  unfold callV
  go_enter Try.func17, Try.ntmps17
  go_wp2_with fail
  refine HA.out.mono ?_
  rintro e w1 ⟨rfl, hM, hbk⟩
  have HB1 := Lib.hid (HB.out w1 hM)
  have u1 : w1.cell? ⟨w.heap.size, 1, none⟩ = some (.string name) := by rw [cell_blk hbk]; rfl
  clear hM HA HB hbk
  go_wp2_with fail
  refine HB1.out.mono ?_
  rintro e w2 ⟨rfl, hP, hbk2⟩
  have HP := Lib.hid hP
  clear hP hbk2 HB1
  go_wp2_with fail
  go_wp2
  go_ret
  exact ⟨rfl, HP.out⟩


set_option maxRecDepth 20000 in
set_option maxHeartbeats 4000000 in
theorem does_Pass (h : Duo w0 w It r np rp N) (hr : r < 2) (hN : N < 67108864) (name : ByteArray) (hname : name.size ≤ maxLen) (conn side n : Int) (ao : Option Addr) (len cp : Nat) :
    Calls Try.prog 17 #[np, rp, callV 5 name conn side n ao len cp] w fun e w' => e = .returned (.bool true) ∧ DoesP w0 It r np rp (N + 1) w' := by
  have hD := h.box (callO 5 name conn side n ao len cp)
  obtain ⟨v, ⟨a, y, rfl⟩, M, ha, hb⟩ := box_two hr rfl hD (hD.pass hN conn side n)
  have hblk : (w.alloc (callO 5 name conn side n ao len cp)).heap[w.heap.size]? = some (callO 5 name conn side n ao len cp) := alloc_new _
  have z0 : (w.alloc (callO 5 name conn side n ao len cp)).cell? ⟨w.heap.size, 0, none⟩ = some (.int .i64 5) := by rw [cell_blk hblk]; rfl
  have z2 : (w.alloc (callO 5 name conn side n ao len cp)).cell? ⟨w.heap.size, 2, none⟩ = some (.int .i64 conn) := by rw [cell_blk hblk]; rfl
  have z3 : (w.alloc (callO 5 name conn side n ao len cp)).cell? ⟨w.heap.size, 3, none⟩ = some (.int .i64 side) := by rw [cell_blk hblk]; rfl
  have z4 : (w.alloc (callO 5 name conn side n ao len cp)).cell? ⟨w.heap.size, 4, none⟩ = some (.int .i64 n) := by rw [cell_blk hblk]; rfl
  have HA := Lib.hid ha
  have HB := Lib.hid hb
  have Hnum := Lib.hid (fun w1 => num_walk w1 y)
  clear h hD ha hb hblk hname hN
  unfold callV
  go_enter Try.func17, Try.ntmps17
  go_wp2_with fail
  refine HA.out.mono ?_
  rintro e w1 ⟨rfl, hM, hbk⟩
  have HB1 := Lib.hid (HB.out w1 hM)
  have u2 : w1.cell? ⟨w.heap.size, 2, none⟩ = some (.int .i64 conn) := by rw [cell_blk hbk]; rfl
  have u3 : w1.cell? ⟨w.heap.size, 3, none⟩ = some (.int .i64 side) := by rw [cell_blk hbk]; rfl
  have u4 : w1.cell? ⟨w.heap.size, 4, none⟩ = some (.int .i64 n) := by rw [cell_blk hbk]; rfl
  clear hM HA HB hbk
  go_wp2_with fail
  refine HB1.out.mono ?_
  rintro e w2 ⟨rfl, hP, hbk2⟩
  have HP := Lib.hid hP
  clear hP hbk2 HB1
  go_wp2_with fail
  refine (Hnum.out _).mono ?_
  rintro e w3 ⟨rfl, hw⟩
  obtain rfl := hw.symm
  clear hw Hnum
  go_wp2
  go_ret
  exact ⟨rfl, HP.out⟩


set_option maxRecDepth 20000 in
set_option maxHeartbeats 4000000 in
theorem does_other (h : Duo w0 w It r np rp N) (kind : Int) (h0 : kind ≠ 0) (h1 : kind ≠ 1) (h2 : kind ≠ 2) (h3 : kind ≠ 3) (h4 : kind ≠ 4) (h5 : kind ≠ 5) (h6 : kind ≠ 6) (h7 : kind ≠ 7) (name : ByteArray) (conn side n : Int) (ao : Option Addr) (len cp : Nat) :
    Calls Try.prog 17 #[np, rp, callV kind name conn side n ao len cp] w fun e w' => e = .returned (.bool true) ∧ Below w.heap.size w w' := by
  have b0 : (kind == 0) = false := beq_eq_false_iff_ne.2 h0
  have b1 : (kind == 1) = false := beq_eq_false_iff_ne.2 h1
  have b2 : (kind == 2) = false := beq_eq_false_iff_ne.2 h2
  have b3 : (kind == 3) = false := beq_eq_false_iff_ne.2 h3
  have b4 : (kind == 4) = false := beq_eq_false_iff_ne.2 h4
  have b5 : (kind == 5) = false := beq_eq_false_iff_ne.2 h5
  have b6 : (kind == 6) = false := beq_eq_false_iff_ne.2 h6
  have b7 : (kind == 7) = false := beq_eq_false_iff_ne.2 h7
  clear h h0 h1 h2 h3 h4 h5 h6 h7
  unfold callV
  go_enter Try.func17, Try.ntmps17
  go_wp2
  go_ret
  exact ⟨rfl, (Below.refl _ w).alloc (Nat.le_refl _) _⟩

end

end Go.Proofs.Ytibijonjjkknoaa
