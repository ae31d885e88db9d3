/-
Tables in memory, and slices.IndexFunc at four types.
-/
import Derived.Test.YthpflfcgnaichaaDoorTraHost
set_option linter.unusedVariables false
set_option linter.unusedSimpArgs false
namespace Go.Proofs.YthpflfcgnaichaaDoor
open Go Go.RowKit

/-- A slice that came in, its elements of sz cells each. -/
def SlR {α : Type} (w : World) (v : Value) (sz : Nat) (xs : List α) (cells : α → List Value) : Prop :=
  ∃ ao cap, v = .slice ao xs.length cap ∧ xs.length ≤ 1048576 ∧ (0 < xs.length → ∃ b o, ao = some ⟨b, o, none⟩ ∧ b < w.heap.size ∧ ∀ i x, xs[i]? = some x → ∀ j u, (cells x)[j]? = some u → w.cell? ⟨b, o + i * sz + j, none⟩ = some u)

theorem SlR.later {α : Type} {w w2 : World} {v : Value} {sz : Nat} {xs : List α} {cells : α → List Value} (h : SlR w v sz xs cells) (hb : Below w.heap.size w w2) : SlR w2 v sz xs cells := by
  obtain ⟨ao, cap, hv, hl, h⟩ := h
  refine ⟨ao, cap, hv, hl, fun h0 => ?_⟩
  obtain ⟨b, o, ha, hlt, hc⟩ := h h0
  exact ⟨b, o, ha, Nat.lt_of_lt_of_le hlt hb.size, fun i x hi j u hu => (hb.cell hlt).trans (hc i x hi j u hu)⟩

theorem SlR.below {α : Type} {w w2 : World} {v : Value} {sz : Nat} {xs : List α} {cells : α → List Value} {B : Nat} (h : SlR w v sz xs cells) (hb : Below B w w2) (hB : w.heap.size ≤ B) : SlR w2 v sz xs cells := h.later (hb.mono hB)

structure ShareD where
  service : ByteArray
  upto : Nat
def ShareD.cells (s : ShareD) : List Value := [.string s.service, .float .f64 s.upto]

structure EntD where
  path : ByteArray
  method : ByteArray
  sv : Value
  shares : List ShareD
def EntD.cells (e : EntD) : List Value := [.string e.path, .string e.method, e.sv]
def EntD.ok (w : World) (e : EntD) : Prop := e.path.size ≤ 40000000 ∧ SlR w e.sv 2 e.shares ShareD.cells

structure PermD where
  path : ByteArray
  method : ByteArray
  allow : Bool
def PermD.cells (p : PermD) : List Value := [.string p.path, .string p.method, .bool p.allow]

structure HostD where
  host : ByteArray
  route : ByteArray
  ev : Value
  entries : List EntD
  pv : Value
  permits : List PermD
def HostD.cells (h : HostD) : List Value := [.string h.host, .string h.route, h.ev, h.pv]
structure HostD.Ok (w : World) (h : HostD) : Prop where
  entries : SlR w h.ev 3 h.entries EntD.cells
  each : ∀ e ∈ h.entries, e.ok w
  permits : SlR w h.pv 3 h.permits PermD.cells
  small : ∀ p ∈ h.permits, p.path.size ≤ 40000000

structure HealD where
  service : ByteArray
  ev : Value
  endpoints : List ByteArray
def HealD.cells (h : HealD) : List Value := [.string h.service, h.ev]
def HealD.ok (w : World) (h : HealD) : Prop := SlR w h.ev 1 h.endpoints (fun s => [.string s])

/-- The first place at which p holds, or -1. -/
def idxI {α : Type} (p : α → Bool) (xs : List α) : Int := match xs.findIdx? p with
  | some i => (i : Int)
  | none => -1

theorem idx_hit {α : Type} {p : α → Bool} {xs : List α} {k : Nat} {x : α} (hx : xs[k]? = some x) (hp : p x = true) (hno : ∀ (j : Nat) (y : α), j < k → xs[j]? = some y → p y = false) : idxI p xs = (k : Int) := by
  have h1 : xs.findIdx? p = some k := by
    rw [List.findIdx?_eq_some_iff_getElem]
    have hk := (List.getElem?_eq_some_iff.1 hx).1
    refine ⟨hk, by rw [List.getElem?_eq_getElem hk] at hx; rw [Option.some.inj hx]; exact hp, fun j hj => ?_⟩
    rw [hno j _ hj (List.getElem?_eq_getElem (by omega))]
    decide
  unfold idxI
  rw [h1]

theorem idx_miss {α : Type} {p : α → Bool} {xs : List α} (hno : ∀ (j : Nat) (y : α), j < xs.length → xs[j]? = some y → p y = false) : idxI p xs = -1 := by
  have h1 : xs.findIdx? p = none := by
    rw [List.findIdx?_eq_none_iff]
    intro y hy
    obtain ⟨j, hj, e⟩ := List.getElem_of_mem hy
    exact hno j y hj (by rw [List.getElem?_eq_getElem hj, e])
  unfold idxI
  rw [h1]

theorem idx_cases {α : Type} (p : α → Bool) (xs : List α) : idxI p xs = -1 ∨ ∃ (k : Nat) (x : α), idxI p xs = (k : Int) ∧ xs[k]? = some x := by
  unfold idxI
  cases h : xs.findIdx? p with
  | none => exact .inl rfl
  | some i =>
    obtain ⟨hi, _⟩ := List.findIdx?_eq_some_iff_getElem.1 h
    exact .inr ⟨i, xs[i], rfl, List.getElem?_eq_getElem hi⟩

set_option maxRecDepth 20000 in
set_option maxHeartbeats 2000000 in
theorem idx_host (w : World) (v : Value) (xs : List HostD) (q0 : Nat) (p : HostD → Bool) (hv : SlR w v 4 xs HostD.cells)
    (hf : ∀ x ∈ xs, ∀ w1, Below w.heap.size w w1 → Calls Tryd.prog 70 #[.agg #[.string x.host, .string x.route, x.ev, x.pv], .pointer (some ⟨q0, 0, none⟩)] w1 fun r w2 => r = .returned (.bool (p x)) ∧ Below w1.heap.size w1 w2) :
    Calls Tryd.prog 69 #[v, .func (.func 70) #[] #[.pointer (some ⟨q0, 0, none⟩)]] w fun r w' => r = .returned (.int .i64 (idxI p xs)) ∧ Below w.heap.size w w' := by
  obtain ⟨ao, cap, rfl, hl, hat⟩ := hv
  obtain ⟨n, hn⟩ : ∃ n, n = xs.length := ⟨_, rfl⟩
  have Hn := Lib.hid hn
  have Hat := Lib.hid hat
  have Hl := Lib.hid (show n ≤ 1048576 by omega)
  have Hf := Lib.hid hf
  rw [← hn]
  clear hn hat hl hf
  go_enter Tryd.func69, Tryd.ntmps69
  go_wp2
  go_loopw [8] (fun v wr => ∃ k : Nat, v = .int .i64 (k : Int) ∧ Hid (k ≤ n ∧ Below w.heap.size w wr ∧ ∀ (j : Nat) (y : HostD), j < k → xs[j]? = some y → p y = false)) (fun v _ => n - (intOf v).toNat)
  case atStart => exact ⟨0, rfl, Lib.hid ⟨Nat.zero_le _, Below.refl _ _, fun j c h => absurd h (Nat.not_lt_zero _)⟩⟩
  case round =>
    obtain ⟨k, rfl, H⟩ := hrel
    have hn : n = xs.length := Hn.out
    by_cases hkn : k < n
    · obtain ⟨x, hx⟩ : ∃ x, xs[k]? = some x := ⟨xs[k]'(by omega), List.getElem?_eq_getElem _⟩
      obtain ⟨b, o, rfl, hlt, hcell0⟩ := Hat.out (by omega)
      have hcell : ∀ i x, xs[i]? = some x → ∀ j u, (HostD.cells x)[j]? = some u → wr.cell? ⟨b, o + i * 4 + j, none⟩ = some u := fun i x hi j u hu => (H.out.2.1.cell hlt).trans (hcell0 i x hi j u hu)
      have c0 : wr.cell? ⟨b, o + k * 4, none⟩ = some (.string x.host) := hcell k x hx 0 _ rfl
      have c1 : wr.cell? ⟨b, o + k * 4 + 1, none⟩ = some (.string x.route) := hcell k x hx 1 _ rfl
      have c2 : wr.cell? ⟨b, o + k * 4 + 2, none⟩ = some (x.ev) := hcell k x hx 2 _ rfl
      have c3 : wr.cell? ⟨b, o + k * 4 + 3, none⟩ = some (x.pv) := hcell k x hx 3 _ rfl
      have b1 : (k : Int) < (n : Int) := by omega
      have wk : wrap64 ((k : Int) + 1) = (k : Int) + 1 := by have := Hl.out; unfold wrap64; omega
      have Hms := Lib.hid (meas_step hkn wk)
      have Hgo := Lib.hid (go_step wk)
      have Hc := Lib.hid (Hf.out x (List.mem_of_getElem? hx) wr H.out.2.1)
      have Hhit := Lib.hid (fun (hp : p x = true) => idx_hit hx hp H.out.2.2)
      have Hgo2 := Lib.hid (fun (hp : p x = false) w2 (hb : Below wr.heap.size wr w2) => show k + 1 ≤ n ∧ Below w.heap.size w w2 ∧ ∀ (j : Nat) (y : HostD), j < k + 1 → xs[j]? = some y → p y = false from ⟨hkn, H.out.2.1.trans (hb.mono H.out.2.1.size), fun j y hj hy => by
        by_cases e : j = k
        · subst e
          rw [hx] at hy
          obtain rfl := Option.some.inj hy
          exact hp
        · exact H.out.2.2 j y (by omega) hy⟩)
      have Hb := Lib.hid H.out.2.1
      clear hcell0 hlt hcell hn H hkn hx wk
      go_wp2_with fail
      refine Hc.out.mono ?_
      rintro r w2 ⟨rfl, hb⟩
      cases hp : p x with
      | true =>
        have He := Lib.hid (Hhit.out hp)
        have HB := Lib.hid (Hb.out.trans (hb.mono Hb.out.size))
        clear hb Hc Hgo2 Hhit hp
        go_wp2
        go_ret
        exact ⟨(congrArg (fun z => Ending.returned (.int .i64 z)) He.out).symm, HB.out⟩
      | false =>
        have He := Lib.hid (Hgo2.out hp w2 hb)
        clear hb Hc Hgo2 Hhit hp
        go_wp2
        go_roundw
        case rel => exact ⟨k + 1, Hgo.out, He⟩
        case measure => exact Hms.out
    · have b1 : (n : Int) ≤ (k : Int) := by omega
      have He := Lib.hid (idx_miss (p := p) (xs := xs) (fun j y hj hy => H.out.2.2 j y (by omega) hy))
      have Hb := Lib.hid H.out.2.1
      clear hn hkn H
      go_wp2
      go_ret
      exact ⟨(congrArg (fun z => Ending.returned (.int .i64 z)) He.out).symm, Hb.out⟩

set_option maxRecDepth 20000 in
set_option maxHeartbeats 2000000 in
theorem idx_entry (w : World) (v : Value) (xs : List EntD) (q0 q1 : Nat) (p : EntD → Bool) (hv : SlR w v 3 xs EntD.cells)
    (hf : ∀ x ∈ xs, ∀ w1, Below w.heap.size w w1 → Calls Tryd.prog 73 #[.agg #[.string x.path, .string x.method, x.sv], .pointer (some ⟨q0, 0, none⟩), .pointer (some ⟨q1, 0, none⟩)] w1 fun r w2 => r = .returned (.bool (p x)) ∧ Below w1.heap.size w1 w2) :
    Calls Tryd.prog 72 #[v, .func (.func 73) #[] #[.pointer (some ⟨q0, 0, none⟩), .pointer (some ⟨q1, 0, none⟩)]] w fun r w' => r = .returned (.int .i64 (idxI p xs)) ∧ Below w.heap.size w w' := by
  obtain ⟨ao, cap, rfl, hl, hat⟩ := hv
  obtain ⟨n, hn⟩ : ∃ n, n = xs.length := ⟨_, rfl⟩
  have Hn := Lib.hid hn
  have Hat := Lib.hid hat
  have Hl := Lib.hid (show n ≤ 1048576 by omega)
  have Hf := Lib.hid hf
  rw [← hn]
  clear hn hat hl hf
  go_enter Tryd.func72, Tryd.ntmps72
  go_wp2
  go_loopw [8] (fun v wr => ∃ k : Nat, v = .int .i64 (k : Int) ∧ Hid (k ≤ n ∧ Below w.heap.size w wr ∧ ∀ (j : Nat) (y : EntD), j < k → xs[j]? = some y → p y = false)) (fun v _ => n - (intOf v).toNat)
  case atStart => exact ⟨0, rfl, Lib.hid ⟨Nat.zero_le _, Below.refl _ _, fun j c h => absurd h (Nat.not_lt_zero _)⟩⟩
  case round =>
    obtain ⟨k, rfl, H⟩ := hrel
    have hn : n = xs.length := Hn.out
    by_cases hkn : k < n
    · obtain ⟨x, hx⟩ : ∃ x, xs[k]? = some x := ⟨xs[k]'(by omega), List.getElem?_eq_getElem _⟩
      obtain ⟨b, o, rfl, hlt, hcell0⟩ := Hat.out (by omega)
      have hcell : ∀ i x, xs[i]? = some x → ∀ j u, (EntD.cells x)[j]? = some u → wr.cell? ⟨b, o + i * 3 + j, none⟩ = some u := fun i x hi j u hu => (H.out.2.1.cell hlt).trans (hcell0 i x hi j u hu)
      have c0 : wr.cell? ⟨b, o + k * 3, none⟩ = some (.string x.path) := hcell k x hx 0 _ rfl
      have c1 : wr.cell? ⟨b, o + k * 3 + 1, none⟩ = some (.string x.method) := hcell k x hx 1 _ rfl
      have c2 : wr.cell? ⟨b, o + k * 3 + 2, none⟩ = some (x.sv) := hcell k x hx 2 _ rfl
      have b1 : (k : Int) < (n : Int) := by omega
      have wk : wrap64 ((k : Int) + 1) = (k : Int) + 1 := by have := Hl.out; unfold wrap64; omega
      have Hms := Lib.hid (meas_step hkn wk)
      have Hgo := Lib.hid (go_step wk)
      have Hc := Lib.hid (Hf.out x (List.mem_of_getElem? hx) wr H.out.2.1)
      have Hhit := Lib.hid (fun (hp : p x = true) => idx_hit hx hp H.out.2.2)
      have Hgo2 := Lib.hid (fun (hp : p x = false) w2 (hb : Below wr.heap.size wr w2) => show k + 1 ≤ n ∧ Below w.heap.size w w2 ∧ ∀ (j : Nat) (y : EntD), j < k + 1 → xs[j]? = some y → p y = false from ⟨hkn, H.out.2.1.trans (hb.mono H.out.2.1.size), fun j y hj hy => by
        by_cases e : j = k
        · subst e
          rw [hx] at hy
          obtain rfl := Option.some.inj hy
          exact hp
        · exact H.out.2.2 j y (by omega) hy⟩)
      have Hb := Lib.hid H.out.2.1
      clear hcell0 hlt hcell hn H hkn hx wk
      go_wp2_with fail
      refine Hc.out.mono ?_
      rintro r w2 ⟨rfl, hb⟩
      cases hp : p x with
      | true =>
        have He := Lib.hid (Hhit.out hp)
        have HB := Lib.hid (Hb.out.trans (hb.mono Hb.out.size))
        clear hb Hc Hgo2 Hhit hp
        go_wp2
        go_ret
        exact ⟨(congrArg (fun z => Ending.returned (.int .i64 z)) He.out).symm, HB.out⟩
      | false =>
        have He := Lib.hid (Hgo2.out hp w2 hb)
        clear hb Hc Hgo2 Hhit hp
        go_wp2
        go_roundw
        case rel => exact ⟨k + 1, Hgo.out, He⟩
        case measure => exact Hms.out
    · have b1 : (n : Int) ≤ (k : Int) := by omega
      have He := Lib.hid (idx_miss (p := p) (xs := xs) (fun j y hj hy => H.out.2.2 j y (by omega) hy))
      have Hb := Lib.hid H.out.2.1
      clear hn hkn H
      go_wp2
      go_ret
      exact ⟨(congrArg (fun z => Ending.returned (.int .i64 z)) He.out).symm, Hb.out⟩

set_option maxRecDepth 20000 in
set_option maxHeartbeats 2000000 in
theorem idx_permit (w : World) (v : Value) (xs : List PermD) (q0 q1 : Nat) (p : PermD → Bool) (hv : SlR w v 3 xs PermD.cells)
    (hf : ∀ x ∈ xs, ∀ w1, Below w.heap.size w w1 → Calls Tryd.prog 76 #[.agg #[.string x.path, .string x.method, .bool x.allow], .pointer (some ⟨q0, 0, none⟩), .pointer (some ⟨q1, 0, none⟩)] w1 fun r w2 => r = .returned (.bool (p x)) ∧ Below w1.heap.size w1 w2) :
    Calls Tryd.prog 75 #[v, .func (.func 76) #[] #[.pointer (some ⟨q0, 0, none⟩), .pointer (some ⟨q1, 0, none⟩)]] w fun r w' => r = .returned (.int .i64 (idxI p xs)) ∧ Below w.heap.size w w' := by
  obtain ⟨ao, cap, rfl, hl, hat⟩ := hv
  obtain ⟨n, hn⟩ : ∃ n, n = xs.length := ⟨_, rfl⟩
  have Hn := Lib.hid hn
  have Hat := Lib.hid hat
  have Hl := Lib.hid (show n ≤ 1048576 by omega)
  have Hf := Lib.hid hf
  rw [← hn]
  clear hn hat hl hf
  go_enter Tryd.func75, Tryd.ntmps75
  go_wp2
  go_loopw [8] (fun v wr => ∃ k : Nat, v = .int .i64 (k : Int) ∧ Hid (k ≤ n ∧ Below w.heap.size w wr ∧ ∀ (j : Nat) (y : PermD), j < k → xs[j]? = some y → p y = false)) (fun v _ => n - (intOf v).toNat)
  case atStart => exact ⟨0, rfl, Lib.hid ⟨Nat.zero_le _, Below.refl _ _, fun j c h => absurd h (Nat.not_lt_zero _)⟩⟩
  case round =>
    obtain ⟨k, rfl, H⟩ := hrel
    have hn : n = xs.length := Hn.out
    by_cases hkn : k < n
    · obtain ⟨x, hx⟩ : ∃ x, xs[k]? = some x := ⟨xs[k]'(by omega), List.getElem?_eq_getElem _⟩
      obtain ⟨b, o, rfl, hlt, hcell0⟩ := Hat.out (by omega)
      have hcell : ∀ i x, xs[i]? = some x → ∀ j u, (PermD.cells x)[j]? = some u → wr.cell? ⟨b, o + i * 3 + j, none⟩ = some u := fun i x hi j u hu => (H.out.2.1.cell hlt).trans (hcell0 i x hi j u hu)
      have c0 : wr.cell? ⟨b, o + k * 3, none⟩ = some (.string x.path) := hcell k x hx 0 _ rfl
      have c1 : wr.cell? ⟨b, o + k * 3 + 1, none⟩ = some (.string x.method) := hcell k x hx 1 _ rfl
      have c2 : wr.cell? ⟨b, o + k * 3 + 2, none⟩ = some (.bool x.allow) := hcell k x hx 2 _ rfl
      have b1 : (k : Int) < (n : Int) := by omega
      have wk : wrap64 ((k : Int) + 1) = (k : Int) + 1 := by have := Hl.out; unfold wrap64; omega
      have Hms := Lib.hid (meas_step hkn wk)
      have Hgo := Lib.hid (go_step wk)
      have Hc := Lib.hid (Hf.out x (List.mem_of_getElem? hx) wr H.out.2.1)
      have Hhit := Lib.hid (fun (hp : p x = true) => idx_hit hx hp H.out.2.2)
      have Hgo2 := Lib.hid (fun (hp : p x = false) w2 (hb : Below wr.heap.size wr w2) => show k + 1 ≤ n ∧ Below w.heap.size w w2 ∧ ∀ (j : Nat) (y : PermD), j < k + 1 → xs[j]? = some y → p y = false from ⟨hkn, H.out.2.1.trans (hb.mono H.out.2.1.size), fun j y hj hy => by
        by_cases e : j = k
        · subst e
          rw [hx] at hy
          obtain rfl := Option.some.inj hy
          exact hp
        · exact H.out.2.2 j y (by omega) hy⟩)
      have Hb := Lib.hid H.out.2.1
      clear hcell0 hlt hcell hn H hkn hx wk
      go_wp2_with fail
      refine Hc.out.mono ?_
      rintro r w2 ⟨rfl, hb⟩
      cases hp : p x with
      | true =>
        have He := Lib.hid (Hhit.out hp)
        have HB := Lib.hid (Hb.out.trans (hb.mono Hb.out.size))
        clear hb Hc Hgo2 Hhit hp
        go_wp2
        go_ret
        exact ⟨(congrArg (fun z => Ending.returned (.int .i64 z)) He.out).symm, HB.out⟩
      | false =>
        have He := Lib.hid (Hgo2.out hp w2 hb)
        clear hb Hc Hgo2 Hhit hp
        go_wp2
        go_roundw
        case rel => exact ⟨k + 1, Hgo.out, He⟩
        case measure => exact Hms.out
    · have b1 : (n : Int) ≤ (k : Int) := by omega
      have He := Lib.hid (idx_miss (p := p) (xs := xs) (fun j y hj hy => H.out.2.2 j y (by omega) hy))
      have Hb := Lib.hid H.out.2.1
      clear hn hkn H
      go_wp2
      go_ret
      exact ⟨(congrArg (fun z => Ending.returned (.int .i64 z)) He.out).symm, Hb.out⟩

set_option maxRecDepth 20000 in
set_option maxHeartbeats 2000000 in
theorem idx_heal (w : World) (v : Value) (xs : List HealD) (q0 : Nat) (p : HealD → Bool) (hv : SlR w v 2 xs HealD.cells)
    (hf : ∀ x ∈ xs, ∀ w1, Below w.heap.size w w1 → Calls Tryd.prog 52 #[.agg #[.string x.service, x.ev], .pointer (some ⟨q0, 0, none⟩)] w1 fun r w2 => r = .returned (.bool (p x)) ∧ Below w1.heap.size w1 w2) :
    Calls Tryd.prog 51 #[v, .func (.func 52) #[] #[.pointer (some ⟨q0, 0, none⟩)]] w fun r w' => r = .returned (.int .i64 (idxI p xs)) ∧ Below w.heap.size w w' := by
  obtain ⟨ao, cap, rfl, hl, hat⟩ := hv
  obtain ⟨n, hn⟩ : ∃ n, n = xs.length := ⟨_, rfl⟩
  have Hn := Lib.hid hn
  have Hat := Lib.hid hat
  have Hl := Lib.hid (show n ≤ 1048576 by omega)
  have Hf := Lib.hid hf
  rw [← hn]
  clear hn hat hl hf
  go_enter Tryd.func51, Tryd.ntmps51
  go_wp2
  go_loopw [8] (fun v wr => ∃ k : Nat, v = .int .i64 (k : Int) ∧ Hid (k ≤ n ∧ Below w.heap.size w wr ∧ ∀ (j : Nat) (y : HealD), j < k → xs[j]? = some y → p y = false)) (fun v _ => n - (intOf v).toNat)
  case atStart => exact ⟨0, rfl, Lib.hid ⟨Nat.zero_le _, Below.refl _ _, fun j c h => absurd h (Nat.not_lt_zero _)⟩⟩
  case round =>
    obtain ⟨k, rfl, H⟩ := hrel
    have hn : n = xs.length := Hn.out
    by_cases hkn : k < n
    · obtain ⟨x, hx⟩ : ∃ x, xs[k]? = some x := ⟨xs[k]'(by omega), List.getElem?_eq_getElem _⟩
      obtain ⟨b, o, rfl, hlt, hcell0⟩ := Hat.out (by omega)
      have hcell : ∀ i x, xs[i]? = some x → ∀ j u, (HealD.cells x)[j]? = some u → wr.cell? ⟨b, o + i * 2 + j, none⟩ = some u := fun i x hi j u hu => (H.out.2.1.cell hlt).trans (hcell0 i x hi j u hu)
      have c0 : wr.cell? ⟨b, o + k * 2, none⟩ = some (.string x.service) := hcell k x hx 0 _ rfl
      have c1 : wr.cell? ⟨b, o + k * 2 + 1, none⟩ = some (x.ev) := hcell k x hx 1 _ rfl
      have b1 : (k : Int) < (n : Int) := by omega
      have wk : wrap64 ((k : Int) + 1) = (k : Int) + 1 := by have := Hl.out; unfold wrap64; omega
      have Hms := Lib.hid (meas_step hkn wk)
      have Hgo := Lib.hid (go_step wk)
      have Hc := Lib.hid (Hf.out x (List.mem_of_getElem? hx) wr H.out.2.1)
      have Hhit := Lib.hid (fun (hp : p x = true) => idx_hit hx hp H.out.2.2)
      have Hgo2 := Lib.hid (fun (hp : p x = false) w2 (hb : Below wr.heap.size wr w2) => show k + 1 ≤ n ∧ Below w.heap.size w w2 ∧ ∀ (j : Nat) (y : HealD), j < k + 1 → xs[j]? = some y → p y = false from ⟨hkn, H.out.2.1.trans (hb.mono H.out.2.1.size), fun j y hj hy => by
        by_cases e : j = k
        · subst e
          rw [hx] at hy
          obtain rfl := Option.some.inj hy
          exact hp
        · exact H.out.2.2 j y (by omega) hy⟩)
      have Hb := Lib.hid H.out.2.1
      clear hcell0 hlt hcell hn H hkn hx wk
      go_wp2_with fail
      refine Hc.out.mono ?_
      rintro r w2 ⟨rfl, hb⟩
      cases hp : p x with
      | true =>
        have He := Lib.hid (Hhit.out hp)
        have HB := Lib.hid (Hb.out.trans (hb.mono Hb.out.size))
        clear hb Hc Hgo2 Hhit hp
        go_wp2
        go_ret
        exact ⟨(congrArg (fun z => Ending.returned (.int .i64 z)) He.out).symm, HB.out⟩
      | false =>
        have He := Lib.hid (Hgo2.out hp w2 hb)
        clear hb Hc Hgo2 Hhit hp
        go_wp2
        go_roundw
        case rel => exact ⟨k + 1, Hgo.out, He⟩
        case measure => exact Hms.out
    · have b1 : (n : Int) ≤ (k : Int) := by omega
      have He := Lib.hid (idx_miss (p := p) (xs := xs) (fun j y hj hy => H.out.2.2 j y (by omega) hy))
      have Hb := Lib.hid H.out.2.1
      clear hn hkn H
      go_wp2
      go_ret
      exact ⟨(congrArg (fun z => Ending.returned (.int .i64 z)) He.out).symm, Hb.out⟩

end Go.Proofs.YthpflfcgnaichaaDoor
