/-
decide's Rule, Allowed, Share, Unit: functions of what the tables hold.
-/
import Derived.Test.YthpflfcgnaichaaDoorTraDec
import Derived.Test.YthpflfcgnaichaaDoorFloC
set_option linter.unusedVariables false
set_option linter.unusedSimpArgs false
namespace Go.Proofs.YthpflfcgnaichaaDoor
open Go Go.RowKit

theorem three_new (w : World) (o : Obj) (m n : ByteArray) : ∃ w1, w1 = ((w.alloc o).alloc (.cells #[.string m] 9)).alloc (.cells #[.string n] 9) ∧ Below w.heap.size w w1 ∧ w1.heap[w.heap.size]? = some o ∧
    w1.cell? ⟨w.heap.size + 1, 0, none⟩ = some (.string m) ∧ w1.cell? ⟨w.heap.size + 2, 0, none⟩ = some (.string n) := by
  have e1 : (w.alloc o).heap.size = w.heap.size + 1 := by simp
  have e2 : ((w.alloc o).alloc (.cells #[.string m] 9)).heap.size = w.heap.size + 2 := by simp
  refine ⟨_, rfl, (((Below.refl _ w).alloc (Nat.le_refl _) _).alloc (by omega) _).alloc (by omega) _, ?_, ?_, ?_⟩
  · rw [alloc_old _ (by omega), alloc_old _ (by omega)]
    exact alloc_new _
  · rw [World.cell?_alloc_lt _ _ _ (by show w.heap.size + 1 < _; omega), ← e1, World.cell?_alloc_new]
    rfl
  · rw [← e2, World.cell?_alloc_new]
    rfl

set_option maxHeartbeats 1000000 in
theorem rule_c (w : World) (h : HostD) (m n : ByteArray) (hok : h.Ok w) :
    Calls Tryd.prog 48 #[.agg #[.string h.host, .string h.route, h.ev, h.pv], .string m, .string n] w fun r w' => r = .returned (.int .i64 (idxI (fun e => takesB e.path e.method m n) h.entries)) ∧ Below w.heap.size w w' := by
  obtain ⟨w1, hw1, hb1, _, c1, c2⟩ := three_new w (.cells #[.string h.host, .string h.route, h.ev, h.pv] 111) m n
  have hlt : w.heap.size + 2 < w1.heap.size := World.block_lt_of_cell? w1 _ c2
  have Hi := Lib.hid (idx_entry w1 h.ev h.entries (w.heap.size + 1) (w.heap.size + 2) (fun e => takesB e.path e.method m n) (hok.entries.later hb1) (fun x hx w2 hb => clo_rule w2 x _ _ m n (hok.each x hx).1 ((hb.cell (by show w.heap.size + 1 < _; omega)).trans c1) ((hb.cell hlt).trans c2)))
  have Hb := Lib.hid (fun w2 (hb : Below w1.heap.size w1 w2) => hb1.trans (hb.mono hb1.size))
  have hmf : ∀ (fn : Fn) (first cap : Array Value) (w : World), (Instr.makeFunc fn first cap).run Tryd.prog w = .ok (.func fn first cap) w := fun _ _ _ _ => rfl
  clear hok hb1 c1 c2 hlt
  generalize idxI (fun e => takesB e.path e.method m n) h.entries = i at *
  go_enter Tryd.func48, Tryd.ntmps48
  go_wp2_with fail
  subst hw1
  refine Hi.out.mono ?_
  rintro r w2 ⟨rfl, hb⟩
  have HB := Lib.hid (Hb.out w2 hb)
  clear hb Hb Hi
  go_wp2
  go_ret
  exact ⟨rfl, HB.out⟩

def allowI (h : HostD) (m n : ByteArray) : Int := idxI (fun e => takesB e.path e.method m n) h.permits
def allowB (h : HostD) (m n : ByteArray) : Bool := if allowI h m n < 0 then true else (h.permits.getD (allowI h m n).toNat ⟨⟨#[]⟩, ⟨#[]⟩, false⟩).allow

set_option maxHeartbeats 2000000 in
theorem allowed_c (w : World) (h : HostD) (m n : ByteArray) (hok : h.Ok w) :
    Calls Tryd.prog 49 #[.agg #[.string h.host, .string h.route, h.ev, h.pv], .string m, .string n] w fun r w' => r = .returned (.tuple #[.bool (allowB h m n), .int .i64 (allowI h m n)]) ∧ Below w.heap.size w w' := by
  obtain ⟨w1, hw1, hb1, hz, c1, c2⟩ := three_new w (.cells #[.string h.host, .string h.route, h.ev, h.pv] 111) m n
  have hlt : w.heap.size + 2 < w1.heap.size := World.block_lt_of_cell? w1 _ c2
  have Hi := Lib.hid (show Calls _ _ _ _ fun r w' => r = .returned (.int .i64 (allowI h m n)) ∧ Below w1.heap.size w1 w' from idx_permit w1 h.pv h.permits (w.heap.size + 1) (w.heap.size + 2) (fun e => takesB e.path e.method m n) (hok.permits.later hb1) (fun x hx w2 hb => clo_allow w2 x _ _ m n (hok.small x hx) ((hb.cell (by show w.heap.size + 1 < _; omega)).trans c1) ((hb.cell hlt).trans c2)))
  have Hb := Lib.hid (fun w2 (hb : Below w1.heap.size w1 w2) => hb1.trans (hb.mono hb1.size))
  have hmf : ∀ (fn : Fn) (first cap : Array Value) (w : World), (Instr.makeFunc fn first cap).run Tryd.prog w = .ok (.func fn first cap) w := fun _ _ _ _ => rfl
  have hpv : ∀ w2, Below w1.heap.size w1 w2 → w2.cell? ⟨w.heap.size, 3, none⟩ = some h.pv := fun w2 hb => by
    rw [hb.cell (by show w.heap.size < _; omega), cell_blk hz 3]
    rfl
  have Hpv := Lib.hid hpv
  have Hrow := Lib.hid (fun w2 hb => SlR.later hok.permits (hb1.trans (Below.mono (B := w1.heap.size) hb hb1.size) : Below w.heap.size w w2))
  have Hv := Lib.hid (show allowB h m n = if allowI h m n < 0 then true else (h.permits.getD (allowI h m n).toNat ⟨⟨#[]⟩, ⟨#[]⟩, false⟩).allow from rfl)
  have hcs := idx_cases (fun e => takesB e.path e.method m n) h.permits
  have hcs' : allowI h m n = -1 ∨ ∃ (k : Nat) (x : PermD), allowI h m n = (k : Int) ∧ h.permits[k]? = some x := hcs
  generalize allowB h m n = v at *
  generalize allowI h m n = i at *
  clear hcs hok hb1 c1 c2 hlt hz hpv
  rcases hcs' with rfl | ⟨k, x, rfl, hx⟩
  · have hv : v = true := by rw [Hv.out]; rfl
    subst hv
    clear Hrow Hpv Hv
    go_enter Tryd.func49, Tryd.ntmps49
    go_wp2_with fail
    subst hw1
    refine Hi.out.mono ?_
    rintro r w2 ⟨rfl, hb⟩
    have HB := Lib.hid (Hb.out w2 hb)
    clear hb Hb Hi
    go_wp2
    go_ret2
    exact ⟨rfl, HB.out⟩
  · have hv : v = x.allow := by
      rw [Hv.out, if_neg (by omega), Int.toNat_natCast, List.getD_eq_getElem?_getD, hx]
      rfl
    subst hv
    have Hx := Lib.hid hx
    have Hk := Lib.hid (List.getElem?_eq_some_iff.1 hx).1
    clear Hv hx
    go_enter Tryd.func49, Tryd.ntmps49
    go_wp2_with fail
    subst hw1
    refine Hi.out.mono ?_
    rintro r w2 ⟨rfl, hb⟩
    have HB := Lib.hid (Hb.out w2 hb)
    have hp := Hpv.out w2 hb
    obtain ⟨ao, cap, hpe, hl, hat⟩ := Hrow.out w2 hb
    obtain ⟨b, o, rfl, hlt, hcell⟩ := hat (by have := Hk.out; omega)
    have x0 : w2.cell? ⟨b, o + k * 3 + 2, none⟩ = some (.bool x.allow) := hcell k x Hx.out 2 _ rfl
    obtain ⟨len, hlen⟩ : ∃ len, len = h.permits.length := ⟨_, rfl⟩
    rw [hpe, ← hlen] at hp
    have b1 : (k : Int) < (len : Int) := by have := Hk.out; omega
    have b0 : (0 : Int) ≤ (k : Int) := by omega
    clear hb Hb Hi Hrow Hpv hpe hl hat hcell hlt hlen
    go_wp2
    go_ret2
    exact ⟨rfl, HB.out⟩

theorem unit_bits (n : Nat) (h : n < 9007199254740992) : ∃ r, floatBits .quo .f64 (floatOfInt .f64 (n : Int)) 4845873199050653696 = some r := by
  obtain ⟨mag, up, hr, _⟩ := read_pos _ (ofU_FV h).1
  have e1 : Ieee.double.read 4845873199050653696 = .number false 4503599627370496 1 := by decide +kernel
  show ∃ r, Ieee.double.div (floatOfInt .f64 (n : Int)) 4845873199050653696 = some r
  unfold Ieee.Format.div
  rw [hr, e1]
  exact ⟨_, by simp only [Ieee.Datum.quotient, if_neg (show ¬ (4503599627370496 : Nat) = 0 by decide), Option.map_some]; rfl⟩

set_option maxHeartbeats 1000000 in
theorem unit_c (a : Nat) (ha : a < 18446744073709551616) : ∃ u : Nat, ∀ w, Calls Tryd.prog 37 #[.int .u64 (a : Int)] w fun r w' => r = .returned (.float .f64 u) ∧ w' = w := by
  obtain ⟨u, hu⟩ := unit_bits (a / 2048) (by omega)
  have e1 : (a : Int) / 2048 = ((a / 2048 : Nat) : Int) := by omega
  have hq : ∀ w, (binOp .quo 88 (.float .f64 (floatOfInt .f64 ((a : Int) / 2048))) (.float .f64 4845873199050653696)).run Tryd.prog w = .ok (.float .f64 u) w := fun w => by
    rw [e1]
    exact run_float_arith w .quo 88 .f64 _ _ u hu
  refine ⟨u, fun w => ?_⟩
  clear hu e1 ha
  go_enter Tryd.func37, Tryd.ntmps37
  go_wp2
  go_ret
  exact ⟨rfl, rfl⟩

def fgt (a b : Nat) : Bool := FloatKind.f64.format.order a b == some .gt
def shareV (ss : List ShareD) (u : Nat) : ByteArray := match ss.find? (fun s => fgt s.upto u) with
  | some s => s.service
  | none => match ss.getLast? with
    | some s => s.service
    | none => ⟨#[]⟩

theorem share_hit {ss : List ShareD} {u k : Nat} {s : ShareD} (hs : ss[k]? = some s) (hp : fgt s.upto u = true) (hno : ∀ (j : Nat) (y : ShareD), j < k → ss[j]? = some y → fgt y.upto u = false) : shareV ss u = s.service := by
  have h1 : ss.find? (fun s => fgt s.upto u) = some s := by
    rw [List.find?_eq_some_iff_getElem]
    have hk := (List.getElem?_eq_some_iff.1 hs).1
    refine ⟨hp, k, hk, by rw [List.getElem?_eq_getElem hk] at hs; exact Option.some.inj hs, fun j hj => ?_⟩
    rw [hno j _ hj (List.getElem?_eq_getElem (by omega))]
    decide
  unfold shareV
  rw [h1]

theorem share_miss {ss : List ShareD} {u n : Nat} {s : ShareD} (hn : n = ss.length) (hs : ss[n - 1]? = some s) (hno : ∀ (j : Nat) (y : ShareD), j < n → ss[j]? = some y → fgt y.upto u = false) : shareV ss u = s.service := by
  have h1 : ss.find? (fun s => fgt s.upto u) = none := by
    rw [List.find?_eq_none]
    intro y hy
    obtain ⟨j, hj, e⟩ := List.getElem_of_mem hy
    rw [hno j y (by omega) (by rw [List.getElem?_eq_getElem hj, e])]
    decide
  have h2 : ss.getLast? = some s := by
    rw [List.getLast?_eq_getElem?, ← hn, hs]
  unfold shareV
  rw [h1, h2]

set_option maxRecDepth 20000 in
set_option maxHeartbeats 2000000 in
theorem share_c (w : World) (e : EntD) (u : Nat) (hv : SlR w e.sv 2 e.shares ShareD.cells) :
    Calls Tryd.prog 50 #[.agg #[.string e.path, .string e.method, e.sv], .float .f64 u] w fun r w' => r = .returned (.string (shareV e.shares u)) ∧ Below w.heap.size w w' := by
  obtain ⟨ao, cap, hsv, hl, hat⟩ := hv
  rw [hsv]
  obtain ⟨ss, hss⟩ : ∃ ss, ss = e.shares := ⟨_, rfl⟩
  rw [← hss] at hat hl ⊢
  obtain ⟨n, hn⟩ : ∃ n, n = ss.length := ⟨_, rfl⟩
  rw [← hn] at hat hl ⊢
  have hb0 : Below w.heap.size w (w.alloc (.cells #[.string e.path, .string e.method, .slice ao n cap] 119)) := (Below.refl _ w).alloc (Nat.le_refl _) _
  by_cases h0 : n = 0
  · have e0 : ss = [] := List.eq_nil_of_length_eq_zero (by omega)
    have hsv0 : shareV ss u = ⟨#[]⟩ := by rw [e0]; rfl
    rw [hsv0]
    have t1 : ((n : Int) == 0) = true := by rw [beq_iff_eq]; omega
    have Hb := Lib.hid hb0
    clear hat hl hn hsv hss h0 e0 hsv0 hb0
    go_enter Tryd.func50, Tryd.ntmps50
    go_wp2
    go_ret
    exact ⟨rfl, Hb.out⟩
  have t1 : ((n : Int) == 0) = false := by rw [beq_eq_false_iff_ne]; omega
  obtain ⟨b, o, rfl, hlt, hcell0⟩ := hat (by omega)
  obtain ⟨w1, hw1⟩ : ∃ w1, w1 = w.alloc (.cells #[.string e.path, .string e.method, .slice (some ⟨b, o, none⟩) n cap] 119) := ⟨_, rfl⟩
  rw [← hw1] at hb0
  have hz : w1.heap[w.heap.size]? = some (.cells #[.string e.path, .string e.method, .slice (some ⟨b, o, none⟩) n cap] 119) := by rw [hw1]; exact alloc_new _
  have Hz := Lib.hid hz
  have Hb0 := Lib.hid hb0
  have Hc := Lib.hid (And.intro hlt hcell0)
  have Hn := Lib.hid hn
  have Hl := Lib.hid hl
  have Hn0 := Lib.hid h0
  have hst : ∀ (W : World) (a : Addr) (b : Nat), (store a (.float .f64 b)).run Tryd.prog W = stored Tryd.prog W a (.float .f64 b) .plain := fun W a b => run_store _ W a _ _ rfl
  clear hat hl hn hsv hss h0 hb0 hz hlt hcell0
  go_enter Tryd.func50, Tryd.ntmps50
  go_wp2
  subst hw1
  go_loopw [14] (fun v wr => ∃ k : Nat, v = .int .i64 (k : Int) ∧ Hid (k ≤ n ∧ Below (w.alloc (.cells #[.string e.path, .string e.method, .slice (some ⟨b, o, none⟩) n cap] 119)).heap.size (w.alloc (.cells #[.string e.path, .string e.method, .slice (some ⟨b, o, none⟩) n cap] 119)) wr ∧ ∀ (j : Nat) (y : ShareD), j < k → ss[j]? = some y → fgt y.upto u = false)) (fun v _ => n - (intOf v).toNat)
  case atStart => exact ⟨0, rfl, Lib.hid ⟨Nat.zero_le _, Below.refl _ _, fun j c h => absurd h (Nat.not_lt_zero _)⟩⟩
  case round =>
    obtain ⟨k, rfl, H⟩ := hrel
    have hn : n = ss.length := Hn.out
    have hbw := Hb0.out.trans (H.out.2.1.mono Hb0.out.size)
    by_cases hkn : k < n
    · obtain ⟨x, hx⟩ : ∃ x, ss[k]? = some x := ⟨ss[k]'(by omega), List.getElem?_eq_getElem _⟩
      have c0 : wr.cell? ⟨b, o + k * 2, none⟩ = some (.string x.service) := (hbw.cell Hc.out.1).trans (Hc.out.2 k x hx 0 _ rfl)
      have c1 : wr.cell? ⟨b, o + k * 2 + 1, none⟩ = some (.float .f64 x.upto) := (hbw.cell Hc.out.1).trans (Hc.out.2 k x hx 1 _ rfl)
      have b1 : (k : Int) < (n : Int) := by omega
      have wk : wrap64 ((k : Int) + 1) = (k : Int) + 1 := by have := Hl.out; unfold wrap64; omega
      have Hms := Lib.hid (meas_step hkn wk)
      have Hgo := Lib.hid (go_step wk)
      have hdef : fgt x.upto u = (FloatKind.f64.format.order x.upto u == some .gt) := rfl
      cases hp : fgt x.upto u with
      | true =>
        have t2 : (FloatKind.f64.format.order x.upto u == some .gt) = true := by rw [← hdef]; exact hp
        have He := Lib.hid (share_hit hx hp H.out.2.2)
        have HB := Lib.hid (hbw.alloc hbw.size (.cells #[.string x.service, .float .f64 x.upto] 146))
        clear hn H hkn hx wk hp hdef hbw
        go_wp2
        go_ret
        exact ⟨(congrArg (fun z => Ending.returned (.string z)) He.out).symm, HB.out⟩
      | false =>
        have t2 : (FloatKind.f64.format.order x.upto u == some .gt) = false := by rw [← hdef]; exact hp
        have He := Lib.hid (show k + 1 ≤ n ∧ Below (w.alloc (.cells #[.string e.path, .string e.method, .slice (some ⟨b, o, none⟩) n cap] 119)).heap.size (w.alloc (.cells #[.string e.path, .string e.method, .slice (some ⟨b, o, none⟩) n cap] 119)) (wr.alloc (.cells #[.string x.service, .float .f64 x.upto] 146)) ∧ ∀ (j : Nat) (y : ShareD), j < k + 1 → ss[j]? = some y → fgt y.upto u = false from ⟨hkn, H.out.2.1.alloc H.out.2.1.size _, fun j y hj hy => by
          by_cases e : j = k
          · subst e
            rw [hx] at hy
            obtain rfl := Option.some.inj hy
            exact hp
          · exact H.out.2.2 j y (by omega) hy⟩)
        clear hn H hkn hx wk hp hdef hbw
        go_wp2
        go_roundw
        case rel => exact ⟨k + 1, Hgo.out, He⟩
        case measure => exact Hms.out
    · have b1 : (n : Int) ≤ (k : Int) := by omega
      obtain ⟨x, hx⟩ : ∃ x, ss[n - 1]? = some x := ⟨ss[n - 1]'(by have := Hn0.out; omega), List.getElem?_eq_getElem _⟩
      have He := Lib.hid (share_miss hn hx (fun j y hj hy => H.out.2.2 j y (by omega) hy))
      have z2 : wr.cell? ⟨w.heap.size, 2, none⟩ = some (.slice (some ⟨b, o, none⟩) n cap) := by
        rw [H.out.2.1.cell (by show w.heap.size < _; simp), cell_blk Hz.out 2]
        rfl
      obtain ⟨m, hm⟩ : ∃ m, m = n - 1 := ⟨_, rfl⟩
      rw [← hm] at hx
      have c0 : wr.cell? ⟨b, o + m * 2, none⟩ = some (.string x.service) := (hbw.cell Hc.out.1).trans (Hc.out.2 m x hx 0 _ rfl)
      have b2 : (1 : Int) ≤ (n : Int) := by have := Hn0.out; omega
      have wm : wrap64 ((n : Int) - 1) = (m : Int) := by have := Hl.out; have := Hn0.out; unfold wrap64; omega
      have wm2 : (n : Int) - 1 = (m : Int) := by have := Hn0.out; omega
      have b3 : (m : Int) < (n : Int) := by omega
      have HB := Lib.hid hbw
      have Wm2 := Lib.hid wm2
      clear hn H hkn hx hm hbw wm2
      go_wp2
      go_ret
      exact ⟨(congrArg (fun z => Ending.returned (.string z)) He.out).symm, HB.out⟩

end Go.Proofs.YthpflfcgnaichaaDoor
