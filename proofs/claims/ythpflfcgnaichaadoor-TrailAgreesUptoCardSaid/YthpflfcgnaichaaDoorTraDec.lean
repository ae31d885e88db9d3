/-
decide's Find, Rule, Allowed: functions of what the tables hold.
-/
import Derived.Test.YthpflfcgnaichaaDoorTraIdx
set_option linter.unusedVariables false
set_option linter.unusedSimpArgs false
namespace Go.Proofs.YthpflfcgnaichaaDoor
open Go Go.RowKit

set_option maxHeartbeats 1000000 in
theorem clo_find (w : World) (x : HostD) (q : Nat) (n : ByteArray) (hq : w.cell? ⟨q, 0, none⟩ = some (.string n)) :
    Calls Tryd.prog 70 #[.agg #[.string x.host, .string x.route, x.ev, x.pv], .pointer (some ⟨q, 0, none⟩)] w fun r w' => r = .returned (.bool (hostM x.host n)) ∧ Below w.heap.size w w' := by
  have hlt : q < w.heap.size := World.block_lt_of_cell? w _ hq
  have Hh := Lib.hid (hostm_c (w.alloc (.cells #[.string x.host, .string x.route, x.ev, x.pv] 111)) x.host n)
  have c0 : (w.alloc (.cells #[.string x.host, .string x.route, x.ev, x.pv] 111)).cell? ⟨q, 0, none⟩ = some (.string n) := by rw [World.cell?_alloc_lt _ _ _ hlt]; exact hq
  have Hb := Lib.hid (fun w2 (hb : Below (w.alloc (.cells #[.string x.host, .string x.route, x.ev, x.pv] 111)).heap.size (w.alloc (.cells #[.string x.host, .string x.route, x.ev, x.pv] 111)) w2) => ((Below.refl _ w).alloc (Nat.le_refl _) _).trans (hb.mono (by simp)))
  generalize hostM x.host n = v at *
  clear hq hlt
  go_enter Tryd.func70, Tryd.ntmps70
  go_wp2_with fail
  refine Hh.out.mono ?_
  rintro r w2 ⟨rfl, hb⟩
  have HB := Lib.hid (Hb.out w2 hb)
  clear hb Hb Hh
  go_wp2
  go_ret
  exact ⟨rfl, HB.out⟩

set_option maxHeartbeats 1000000 in
theorem clo_rule (w : World) (x : EntD) (q r0 : Nat) (m n : ByteArray) (hs : x.path.size ≤ 40000000) (hq : w.cell? ⟨q, 0, none⟩ = some (.string m)) (hr : w.cell? ⟨r0, 0, none⟩ = some (.string n)) :
    Calls Tryd.prog 73 #[.agg #[.string x.path, .string x.method, x.sv], .pointer (some ⟨q, 0, none⟩), .pointer (some ⟨r0, 0, none⟩)] w fun r w' => r = .returned (.bool (takesB x.path x.method m n)) ∧ Below w.heap.size w w' := by
  have hlt : q < w.heap.size := World.block_lt_of_cell? w _ hq
  have hlt2 : r0 < w.heap.size := World.block_lt_of_cell? w _ hr
  have Hh := Lib.hid (takes_c (w.alloc (.cells #[.string x.path, .string x.method, x.sv] 119)) x.path x.method m n hs)
  have c0 : (w.alloc (.cells #[.string x.path, .string x.method, x.sv] 119)).cell? ⟨q, 0, none⟩ = some (.string m) := by rw [World.cell?_alloc_lt _ _ _ hlt]; exact hq
  have c1 : (w.alloc (.cells #[.string x.path, .string x.method, x.sv] 119)).cell? ⟨r0, 0, none⟩ = some (.string n) := by rw [World.cell?_alloc_lt _ _ _ hlt2]; exact hr
  have HB := Lib.hid (show Below w.heap.size w (w.alloc (.cells #[.string x.path, .string x.method, x.sv] 119)) from (Below.refl _ w).alloc (Nat.le_refl _) _)
  generalize takesB x.path x.method m n = v at *
  clear hq hlt hr hlt2 hs
  go_enter Tryd.func73, Tryd.ntmps73
  go_wp2_with fail
  refine Hh.out.mono ?_
  rintro r w2 ⟨rfl, hw⟩
  obtain rfl := hw.symm
  clear hw Hh
  go_wp2
  go_ret
  exact ⟨rfl, HB.out⟩

set_option maxHeartbeats 1000000 in
theorem clo_allow (w : World) (x : PermD) (q r0 : Nat) (m n : ByteArray) (hs : x.path.size ≤ 40000000) (hq : w.cell? ⟨q, 0, none⟩ = some (.string m)) (hr : w.cell? ⟨r0, 0, none⟩ = some (.string n)) :
    Calls Tryd.prog 76 #[.agg #[.string x.path, .string x.method, .bool x.allow], .pointer (some ⟨q, 0, none⟩), .pointer (some ⟨r0, 0, none⟩)] w fun r w' => r = .returned (.bool (takesB x.path x.method m n)) ∧ Below w.heap.size w w' := by
  have hlt : q < w.heap.size := World.block_lt_of_cell? w _ hq
  have hlt2 : r0 < w.heap.size := World.block_lt_of_cell? w _ hr
  have Hh := Lib.hid (takes_c (w.alloc (.cells #[.string x.path, .string x.method, .bool x.allow] 143)) x.path x.method m n hs)
  have c0 : (w.alloc (.cells #[.string x.path, .string x.method, .bool x.allow] 143)).cell? ⟨q, 0, none⟩ = some (.string m) := by rw [World.cell?_alloc_lt _ _ _ hlt]; exact hq
  have c1 : (w.alloc (.cells #[.string x.path, .string x.method, .bool x.allow] 143)).cell? ⟨r0, 0, none⟩ = some (.string n) := by rw [World.cell?_alloc_lt _ _ _ hlt2]; exact hr
  have HB := Lib.hid (show Below w.heap.size w (w.alloc (.cells #[.string x.path, .string x.method, .bool x.allow] 143)) from (Below.refl _ w).alloc (Nat.le_refl _) _)
  generalize takesB x.path x.method m n = v at *
  clear hq hlt hr hlt2 hs
  go_enter Tryd.func76, Tryd.ntmps76
  go_wp2_with fail
  refine Hh.out.mono ?_
  rintro r w2 ⟨rfl, hw⟩
  obtain rfl := hw.symm
  clear hw Hh
  go_wp2
  go_ret
  exact ⟨rfl, HB.out⟩

set_option maxHeartbeats 1000000 in
theorem find_c (w : World) (ver hv sv : Value) (hosts : List HostD) (n : ByteArray) (hh : SlR w hv 4 hosts HostD.cells) :
    Calls Tryd.prog 47 #[.agg #[ver, hv, sv], .string n] w fun r w' => r = .returned (.int .i64 (idxI (fun x => hostM x.host n) hosts)) ∧ Below w.heap.size w w' := by
  obtain ⟨w1, hw1⟩ : ∃ w1, w1 = (w.alloc (.cells #[ver, hv, sv] 61)).alloc (.cells #[.string n] 9) := ⟨_, rfl⟩
  have hb1 : Below w.heap.size w w1 := by rw [hw1]; exact ((Below.refl _ w).alloc (Nat.le_refl _) _).alloc (by simp) _
  have c1 : w1.cell? ⟨w.heap.size + 1, 0, none⟩ = some (.string n) := by
    have e1 : (w.alloc (.cells #[ver, hv, sv] 61)).heap.size = w.heap.size + 1 := by simp
    rw [hw1, ← e1, World.cell?_alloc_new]
    rfl
  have hlt : w.heap.size + 1 < w1.heap.size := World.block_lt_of_cell? w1 _ c1
  have Hi := Lib.hid (idx_host w1 hv hosts (w.heap.size + 1) (fun x => hostM x.host n) (hh.later hb1) (fun x _ w2 hb => clo_find w2 x _ n ((hb.cell hlt).trans c1)))
  have Hb := Lib.hid (fun w2 (hb : Below w1.heap.size w1 w2) => hb1.trans (hb.mono hb1.size))
  have hmf : ∀ (fn : Fn) (first cap : Array Value) (w : World), (Instr.makeFunc fn first cap).run Tryd.prog w = .ok (.func fn first cap) w := fun _ _ _ _ => rfl
  clear hh hb1 c1 hlt
  generalize idxI (fun x => hostM x.host n) hosts = i at *
  go_enter Tryd.func47, Tryd.ntmps47
  go_wp2_with fail
  subst hw1
  refine Hi.out.mono ?_
  rintro r w2 ⟨rfl, hb⟩
  have HB := Lib.hid (Hb.out w2 hb)
  clear hb Hb Hi
  go_wp2
  go_ret
  exact ⟨rfl, HB.out⟩

end Go.Proofs.YthpflfcgnaichaaDoor
