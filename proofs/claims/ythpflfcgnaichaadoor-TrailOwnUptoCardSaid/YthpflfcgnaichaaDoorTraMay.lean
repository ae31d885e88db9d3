/-
The walks of may, of both sides, and of own.
-/
import Derived.Test.YthpflfcgnaichaaDoorTraRep
set_option linter.unusedVariables false
set_option linter.unusedSimpArgs false
namespace Go.Proofs.YthpflfcgnaichaaDoor
open Go Go.RowKit

theorem two_new (w : World) (o o' : Obj) : Below w.heap.size w ((w.alloc o).alloc o') := ((Below.refl _ w).alloc (Nat.le_refl _) _).alloc (by simp) _

set_option maxHeartbeats 4000000 in
set_option maxRecDepth 20000 in
theorem may_walk (w : World) (e : Ent) : Calls Tryd.prog 32 #[e.v] w fun r w' => r = .returned (.bool e.may) ∧ Below w.heap.size w w' := by
  obtain ⟨number, ver, epo, method, host, path, a, b, kind, status, route, rule, service, endp, fin⟩ := e
  unfold Ent.v Ent.may
  dsimp only
  by_cases h0 : 0 ≤ ver
  rotate_left
  · rw [decide_eq_false h0]
    go_enter Tryd.func32, Tryd.ntmps32
    go_wp2
    go_ret
    exact ⟨rfl, two_new _ _ _⟩
  by_cases h1 : 0 ≤ epo
  rotate_left
  · rw [decide_eq_true h0, decide_eq_false h1]
    go_enter Tryd.func32, Tryd.ntmps32
    go_wp2
    go_ret
    exact ⟨rfl, two_new _ _ _⟩
  by_cases h2 : 1 ≤ kind
  rotate_left
  · rw [decide_eq_true h0, decide_eq_true h1, decide_eq_false h2]
    go_enter Tryd.func32, Tryd.ntmps32
    go_wp2
    go_ret
    exact ⟨rfl, two_new _ _ _⟩
  by_cases h3 : kind ≤ 5
  rotate_left
  · rw [decide_eq_true h0, decide_eq_true h1, decide_eq_true h2, decide_eq_false h3]
    go_enter Tryd.func32, Tryd.ntmps32
    go_wp2
    go_ret
    exact ⟨rfl, two_new _ _ _⟩
  by_cases h4 : 0 ≤ status
  rotate_left
  · rw [decide_eq_true h0, decide_eq_true h1, decide_eq_true h2, decide_eq_true h3, decide_eq_false h4]
    go_enter Tryd.func32, Tryd.ntmps32
    go_wp2
    go_ret
    exact ⟨rfl, two_new _ _ _⟩
  by_cases h5 : status ≤ 599
  rotate_left
  · rw [decide_eq_true h0, decide_eq_true h1, decide_eq_true h2, decide_eq_true h3, decide_eq_true h4, decide_eq_false h5]
    go_enter Tryd.func32, Tryd.ntmps32
    go_wp2
    go_ret
    exact ⟨rfl, two_new _ _ _⟩
  by_cases h6 : -1 ≤ rule
  rotate_left
  · rw [decide_eq_true h0, decide_eq_true h1, decide_eq_true h2, decide_eq_true h3, decide_eq_true h4, decide_eq_true h5, decide_eq_false h6]
    go_enter Tryd.func32, Tryd.ntmps32
    go_wp2
    go_ret
    exact ⟨rfl, two_new _ _ _⟩
  by_cases h7 : 0 ≤ fin
  rotate_left
  · rw [decide_eq_true h0, decide_eq_true h1, decide_eq_true h2, decide_eq_true h3, decide_eq_true h4, decide_eq_true h5, decide_eq_true h6, decide_eq_false h7]
    go_enter Tryd.func32, Tryd.ntmps32
    go_wp2
    go_ret
    exact ⟨rfl, two_new _ _ _⟩
  by_cases h8 : fin ≤ 7
  rotate_left
  · rw [decide_eq_true h0, decide_eq_true h1, decide_eq_true h2, decide_eq_true h3, decide_eq_true h4, decide_eq_true h5, decide_eq_true h6, decide_eq_true h7, decide_eq_false h8]
    go_enter Tryd.func32, Tryd.ntmps32
    go_wp2
    go_ret
    exact ⟨rfl, two_new _ _ _⟩
  rw [decide_eq_true h0, decide_eq_true h1, decide_eq_true h2, decide_eq_true h3, decide_eq_true h4, decide_eq_true h5, decide_eq_true h6, decide_eq_true h7, decide_eq_true h8]
  go_enter Tryd.func32, Tryd.ntmps32
  go_wp2
  go_ret
  exact ⟨rfl, two_new _ _ _⟩

set_option maxHeartbeats 4000000 in
set_option maxRecDepth 20000 in
theorem refMay_walk (w : World) (e : Ent) : Calls Tryd.prog 34 #[e.v] w fun r w' => r = .returned (.bool e.may) ∧ Below w.heap.size w w' := by
  obtain ⟨number, ver, epo, method, host, path, a, b, kind, status, route, rule, service, endp, fin⟩ := e
  unfold Ent.v Ent.may
  dsimp only
  by_cases h0 : 0 ≤ ver
  rotate_left
  · rw [decide_eq_false h0]
    go_enter Tryd.func34, Tryd.ntmps34
    go_wp2
    go_ret
    exact ⟨rfl, two_new _ _ _⟩
  by_cases h1 : 0 ≤ epo
  rotate_left
  · rw [decide_eq_true h0, decide_eq_false h1]
    go_enter Tryd.func34, Tryd.ntmps34
    go_wp2
    go_ret
    exact ⟨rfl, two_new _ _ _⟩
  by_cases h2 : 1 ≤ kind
  rotate_left
  · rw [decide_eq_true h0, decide_eq_true h1, decide_eq_false h2]
    go_enter Tryd.func34, Tryd.ntmps34
    go_wp2
    go_ret
    exact ⟨rfl, two_new _ _ _⟩
  by_cases h3 : kind ≤ 5
  rotate_left
  · rw [decide_eq_true h0, decide_eq_true h1, decide_eq_true h2, decide_eq_false h3]
    go_enter Tryd.func34, Tryd.ntmps34
    go_wp2
    go_ret
    exact ⟨rfl, two_new _ _ _⟩
  by_cases h4 : 0 ≤ status
  rotate_left
  · rw [decide_eq_true h0, decide_eq_true h1, decide_eq_true h2, decide_eq_true h3, decide_eq_false h4]
    go_enter Tryd.func34, Tryd.ntmps34
    go_wp2
    go_ret
    exact ⟨rfl, two_new _ _ _⟩
  by_cases h5 : status ≤ 599
  rotate_left
  · rw [decide_eq_true h0, decide_eq_true h1, decide_eq_true h2, decide_eq_true h3, decide_eq_true h4, decide_eq_false h5]
    go_enter Tryd.func34, Tryd.ntmps34
    go_wp2
    go_ret
    exact ⟨rfl, two_new _ _ _⟩
  by_cases h6 : -1 ≤ rule
  rotate_left
  · rw [decide_eq_true h0, decide_eq_true h1, decide_eq_true h2, decide_eq_true h3, decide_eq_true h4, decide_eq_true h5, decide_eq_false h6]
    go_enter Tryd.func34, Tryd.ntmps34
    go_wp2
    go_ret
    exact ⟨rfl, two_new _ _ _⟩
  by_cases h7 : 0 ≤ fin
  rotate_left
  · rw [decide_eq_true h0, decide_eq_true h1, decide_eq_true h2, decide_eq_true h3, decide_eq_true h4, decide_eq_true h5, decide_eq_true h6, decide_eq_false h7]
    go_enter Tryd.func34, Tryd.ntmps34
    go_wp2
    go_ret
    exact ⟨rfl, two_new _ _ _⟩
  by_cases h8 : fin ≤ 7
  rotate_left
  · rw [decide_eq_true h0, decide_eq_true h1, decide_eq_true h2, decide_eq_true h3, decide_eq_true h4, decide_eq_true h5, decide_eq_true h6, decide_eq_true h7, decide_eq_false h8]
    go_enter Tryd.func34, Tryd.ntmps34
    go_wp2
    go_ret
    exact ⟨rfl, two_new _ _ _⟩
  rw [decide_eq_true h0, decide_eq_true h1, decide_eq_true h2, decide_eq_true h3, decide_eq_true h4, decide_eq_true h5, decide_eq_true h6, decide_eq_true h7, decide_eq_true h8]
  go_enter Tryd.func34, Tryd.ntmps34
  go_wp2
  go_ret
  exact ⟨rfl, two_new _ _ _⟩

set_option maxHeartbeats 1000000 in
set_option maxRecDepth 20000 in
theorem own_walk (w : World) (e : Ent) : Calls Tryd.prog 11 #[e.v] w fun r w' => r = .returned e.v ∧ Below w.heap.size w w' := by
  obtain ⟨number, ver, epo, method, host, path, a, b, kind, status, route, rule, service, endp, fin⟩ := e
  unfold Ent.v
  dsimp only
  go_enter Tryd.func11, Tryd.ntmps11
  go_wp2
  refine bodyPost_ret (v := .agg #[.int .i64 number, .int .i64 ver, .int .i64 epo, .string method, .string host, .string path, .int .u64 (a : Int), .int .u64 (b : Int), .int .i64 kind, .int .i64 status, .string route, .int .i64 rule, .string service, .string endp, .int .i64 fin]) (by simp [results, Tryd.results11, go_sem]) rfl ⟨rfl, ?_⟩
  exact two_new _ _ _

end Go.Proofs.YthpflfcgnaichaaDoor
