/-
turnpikelaw27.TrailAgrees walked.
-/
import Derived.Test.YthpflfcgnaichaaDoorTraAgrV
set_option linter.unusedVariables false
set_option linter.unusedSimpArgs false
namespace Go.Proofs.YthpflfcgnaichaaDoor
open Go Go.RowKit

set_option maxRecDepth 20000 in
set_option maxHeartbeats 8000000 in
theorem agreesLaw_walk (w : World) (x : Ent) (ver : Int) (hv sv hl : Value) (dv : DecV) (epx : ByteArray) (H0 : AgW w x ver hv sv hl dv epx) (htab : Tab w) :
    Calls Tryd.prog 5 #[.agg #[.int .i64 x.number, .int .i64 x.version, .int .i64 x.epoch, .string x.method, .string x.host, .string x.path, .int .u64 (x.a : Int), .int .u64 (x.b : Int), .int .i64 x.kind, .int .i64 x.status, .string x.route, .int .i64 x.rule, .string x.service, .string x.endp, .int .i64 x.fin], .agg #[.int .i64 ver, hv, sv], hl] w fun r w' => r = .returned (.bool true) ∧ Below w.heap.size w w' := by
  have H := Lib.hid H0
  have Hown := Lib.hid (show ∀ w1, Calls Tryd.prog 11 #[.agg #[.int .i64 x.number, .int .i64 x.version, .int .i64 x.epoch, .string x.method, .string x.host, .string x.path, .int .u64 (x.a : Int), .int .u64 (x.b : Int), .int .i64 x.kind, .int .i64 x.status, .string x.route, .int .i64 x.rule, .string x.service, .string x.endp, .int .i64 x.fin]] w1 fun r w' => r = .returned (.agg #[.int .i64 x.number, .int .i64 x.version, .int .i64 x.epoch, .string x.method, .string x.host, .string x.path, .int .u64 (x.a : Int), .int .u64 (x.b : Int), .int .i64 x.kind, .int .i64 x.status, .string x.route, .int .i64 x.rule, .string x.service, .string x.endp, .int .i64 x.fin]) ∧ Below w1.heap.size w1 w' from fun w1 => own_walk w1 x)
  obtain ⟨w1, hw1⟩ : ∃ w1, w1 = (w.alloc (.cells #[.int .i64 x.number, .int .i64 x.version, .int .i64 x.epoch, .string x.method, .string x.host, .string x.path, .int .u64 (x.a : Int), .int .u64 (x.b : Int), .int .i64 x.kind, .int .i64 x.status, .string x.route, .int .i64 x.rule, .string x.service, .string x.endp, .int .i64 x.fin] 32)).alloc (.cells #[.int .i64 ver, hv, sv] 61) := ⟨_, rfl⟩
  have hb1 : Below w.heap.size w w1 := by rw [hw1]; exact two_new _ _ _
  have Ha := Lib.hid (awake_walk w1 (tab_later htab hb1))
  have e1 : (w.alloc (.cells #[.int .i64 x.number, .int .i64 x.version, .int .i64 x.epoch, .string x.method, .string x.host, .string x.path, .int .u64 (x.a : Int), .int .u64 (x.b : Int), .int .i64 x.kind, .int .i64 x.status, .string x.route, .int .i64 x.rule, .string x.service, .string x.endp, .int .i64 x.fin] 32)).heap.size = w.heap.size + 1 := by simp
  have he : w1.heap[w.heap.size]? = some (.cells #[.int .i64 x.number, .int .i64 x.version, .int .i64 x.epoch, .string x.method, .string x.host, .string x.path, .int .u64 (x.a : Int), .int .u64 (x.b : Int), .int .i64 x.kind, .int .i64 x.status, .string x.route, .int .i64 x.rule, .string x.service, .string x.endp, .int .i64 x.fin] 32) := by
    rw [hw1, alloc_old _ (by omega)]
    exact alloc_new _
  have ht : w1.heap[w.heap.size + 1]? = some (.cells #[.int .i64 ver, hv, sv] 61) := by
    rw [hw1, ← e1]
    exact alloc_new _
  have He := Lib.hid he
  have Ht := Lib.hid ht
  have Hb1 := Lib.hid hb1
  have hsz1 : w1.heap.size = w.heap.size + 2 := by rw [hw1]; simp
  have Hsz1 := Lib.hid hsz1
  clear he ht hb1 H0 htab e1 hsz1
  go_enter Tryd.func5, Tryd.ntmps5
  go_wp2_with fail
  rw [← hw1]
  clear hw1
  refine Ha.out.mono ?_
  rintro r w2 ⟨rfl, hb2⟩
  have He2 := Lib.hid ((hb2.block _ (lt_of_heap He.out)).trans He.out)
  have Ht2 := Lib.hid ((hb2.block _ (lt_of_heap Ht.out)).trans Ht.out)
  have Hb2 := Lib.hid (Hb1.out.trans (hb2.mono Hb1.out.size))
  have Hsz2 := Lib.hid (show w.heap.size + 2 ≤ w2.heap.size by have := hb2.size; have := Hsz1.out; omega)
  clear hb2 Ha He Ht Hb1 Hsz1
  have a0 : w2.cell? ⟨w.heap.size, 0, none⟩ = some (.int .i64 x.number) := cell_blk He2.out 0
  have a1 : w2.cell? ⟨w.heap.size, 1, none⟩ = some (.int .i64 x.version) := cell_blk He2.out 1
  have a2 : w2.cell? ⟨w.heap.size, 2, none⟩ = some (.int .i64 x.epoch) := cell_blk He2.out 2
  have a3 : w2.cell? ⟨w.heap.size, 3, none⟩ = some (.string x.method) := cell_blk He2.out 3
  have a4 : w2.cell? ⟨w.heap.size, 4, none⟩ = some (.string x.host) := cell_blk He2.out 4
  have a5 : w2.cell? ⟨w.heap.size, 5, none⟩ = some (.string x.path) := cell_blk He2.out 5
  have a6 : w2.cell? ⟨w.heap.size, 6, none⟩ = some (.int .u64 (x.a : Int)) := cell_blk He2.out 6
  have a7 : w2.cell? ⟨w.heap.size, 7, none⟩ = some (.int .u64 (x.b : Int)) := cell_blk He2.out 7
  have a8 : w2.cell? ⟨w.heap.size, 8, none⟩ = some (.int .i64 x.kind) := cell_blk He2.out 8
  have a9 : w2.cell? ⟨w.heap.size, 9, none⟩ = some (.int .i64 x.status) := cell_blk He2.out 9
  have a10 : w2.cell? ⟨w.heap.size, 10, none⟩ = some (.string x.route) := cell_blk He2.out 10
  have a11 : w2.cell? ⟨w.heap.size, 11, none⟩ = some (.int .i64 x.rule) := cell_blk He2.out 11
  have a12 : w2.cell? ⟨w.heap.size, 12, none⟩ = some (.string x.service) := cell_blk He2.out 12
  have a13 : w2.cell? ⟨w.heap.size, 13, none⟩ = some (.string x.endp) := cell_blk He2.out 13
  have a14 : w2.cell? ⟨w.heap.size, 14, none⟩ = some (.int .i64 x.fin) := cell_blk He2.out 14
  have b0 : w2.cell? ⟨w.heap.size + 1, 0, none⟩ = some (.int .i64 ver) := cell_blk Ht2.out 0
  have b1 : w2.cell? ⟨w.heap.size + 1, 1, none⟩ = some (hv) := cell_blk Ht2.out 1
  have b2 : w2.cell? ⟨w.heap.size + 1, 2, none⟩ = some (sv) := cell_blk Ht2.out 2
  go_wp2_with fail
  refine (Hown.out _).mono ?_
  rintro r w3 ⟨rfl, hb3⟩
  clear Hown a0 a1 a2 a3 a4 a5 a6 a7 a8 a9 a10 a11 a12 a13 a14 b0 b1 b2
  have Ht3 := Lib.hid ((hb3.block _ (lt_of_heap Ht2.out)).trans Ht2.out)
  have Hb3 := Lib.hid (Hb2.out.trans (hb3.mono Hb2.out.size))
  have Hsz3 := Lib.hid (show w.heap.size + 2 ≤ w3.heap.size by have := hb3.size; have := Hsz2.out; omega)
  clear hb3 He2 Ht2 Hb2 Hsz2
  have lt1 : w.heap.size + 1 < w3.heap.size := by have := Hsz3.out; omega
  have ne1 : ¬ w3.heap.size = w.heap.size + 1 := by omega
  have ne2 : ¬ w.heap.size + 1 = w3.heap.size := by omega
  have Hlt1 := Lib.hid lt1
  have b0 : w3.cell? ⟨w.heap.size + 1, 0, none⟩ = some (.int .i64 ver) := cell_blk Ht3.out 0
  have b1 : w3.cell? ⟨w.heap.size + 1, 1, none⟩ = some (hv) := cell_blk Ht3.out 1
  have b2 : w3.cell? ⟨w.heap.size + 1, 2, none⟩ = some (sv) := cell_blk Ht3.out 2
  go_wp2_with fail
  have hbx := (Below.refl w3.heap.size w3).alloc (Nat.le_refl _) (.cells #[.int .i64 x.number, .int .i64 ver, .int .i64 x.epoch, .string x.method, .string x.host, .string x.path, .int .u64 (x.a : Int), .int .u64 (x.b : Int), .int .i64 x.kind, .int .i64 x.status, .string x.route, .int .i64 x.rule, .string x.service, .string x.endp, .int .i64 x.fin] 38)
  refine (H.out.wd _ (Hb3.out.trans (hbx.mono Hb3.out.size))).mono ?_
  clear hbx
  rintro r w4 ⟨rfl, hb4⟩
  clear b0 b1 b2 lt1
  have hx4 : w4.heap[w3.heap.size]? = some (.cells #[.int .i64 x.number, .int .i64 ver, .int .i64 x.epoch, .string x.method, .string x.host, .string x.path, .int .u64 (x.a : Int), .int .u64 (x.b : Int), .int .i64 x.kind, .int .i64 x.status, .string x.route, .int .i64 x.rule, .string x.service, .string x.endp, .int .i64 x.fin] 38) := (hb4.block _ (by simp)).trans (alloc_new _)
  have Ht4 := Lib.hid (show w4.heap[w.heap.size + 1]? = some (.cells #[.int .i64 ver, hv, sv] 61) from (hb4.block _ (by have := Hlt1.out; simp; omega)).trans ((alloc_old _ Hlt1.out).trans Ht3.out))
  have hbw4 : Below w.heap.size w w4 := (Hb3.out.alloc Hb3.out.size _).trans (hb4.mono (by have := Hb3.out.size; simp; omega))
  have Hs4 := Lib.hid (show w3.heap.size < w4.heap.size from lt_of_heap hx4)
  clear hb4
  obtain ⟨n7, hn7⟩ : ∃ n7, n7 = w3.heap.size := ⟨_, rfl⟩
  rw [← hn7] at hx4 ne1 ne2 ⊢
  have Hn7 := Lib.hid hn7
  clear hn7
  have hx5 : ((((((w4.setCell ⟨n7, 8, none⟩ (.int .i64 dv.k)).setCell ⟨n7, 9, none⟩ (.int .i64 dv.st)).setCell ⟨n7, 10, none⟩ (.string dv.rt)).setCell ⟨n7, 11, none⟩ (.int .i64 dv.ru)).setCell ⟨n7, 12, none⟩ (.string dv.svc)).setCell ⟨n7, 13, none⟩ (.string dv.ep)).heap[n7]? = some (.cells #[.int .i64 x.number, .int .i64 ver, .int .i64 x.epoch, .string x.method, .string x.host, .string x.path, .int .u64 (x.a : Int), .int .u64 (x.b : Int), .int .i64 dv.k, .int .i64 dv.st, .string dv.rt, .int .i64 dv.ru, .string dv.svc, .string dv.ep, .int .i64 x.fin] 38) := six_set hx4
  have hm5 : Mod (fun q => q = n7) w4 ((((((w4.setCell ⟨n7, 8, none⟩ (.int .i64 dv.k)).setCell ⟨n7, 9, none⟩ (.int .i64 dv.st)).setCell ⟨n7, 10, none⟩ (.string dv.rt)).setCell ⟨n7, 11, none⟩ (.int .i64 dv.ru)).setCell ⟨n7, 12, none⟩ (.string dv.svc)).setCell ⟨n7, 13, none⟩ (.string dv.ep)) := six_mod
  obtain ⟨w5, hw5, Hx5, Hb5, Ht5⟩ : ∃ w5, w5 = ((((((w4.setCell ⟨n7, 8, none⟩ (.int .i64 dv.k)).setCell ⟨n7, 9, none⟩ (.int .i64 dv.st)).setCell ⟨n7, 10, none⟩ (.string dv.rt)).setCell ⟨n7, 11, none⟩ (.int .i64 dv.ru)).setCell ⟨n7, 12, none⟩ (.string dv.svc)).setCell ⟨n7, 13, none⟩ (.string dv.ep)) ∧ Hid (w5.heap[n7]? = some (.cells #[.int .i64 x.number, .int .i64 ver, .int .i64 x.epoch, .string x.method, .string x.host, .string x.path, .int .u64 (x.a : Int), .int .u64 (x.b : Int), .int .i64 dv.k, .int .i64 dv.st, .string dv.rt, .int .i64 dv.ru, .string dv.svc, .string dv.ep, .int .i64 x.fin] 38)) ∧ Hid (Below w.heap.size w w5) ∧ Hid (w5.heap[w.heap.size + 1]? = some (.cells #[.int .i64 ver, hv, sv] 61)) :=
    ⟨_, rfl, Lib.hid hx5, Lib.hid (hbw4.trans (hm5.below hbw4.size (fun q hq => by have := Hn7.out; have := Hlt1.out; omega))), Lib.hid (hm5.heap Ht4.out ne2)⟩
  have a0 : w4.cell? ⟨n7, 0, none⟩ = some (.int .i64 x.number) := cell_blk hx4 0
  have a1 : w4.cell? ⟨n7, 1, none⟩ = some (.int .i64 ver) := cell_blk hx4 1
  have a2 : w4.cell? ⟨n7, 2, none⟩ = some (.int .i64 x.epoch) := cell_blk hx4 2
  have a3 : w4.cell? ⟨n7, 3, none⟩ = some (.string x.method) := cell_blk hx4 3
  have a4 : w4.cell? ⟨n7, 4, none⟩ = some (.string x.host) := cell_blk hx4 4
  have a5 : w4.cell? ⟨n7, 5, none⟩ = some (.string x.path) := cell_blk hx4 5
  have a6 : w4.cell? ⟨n7, 6, none⟩ = some (.int .u64 (x.a : Int)) := cell_blk hx4 6
  have a7 : w4.cell? ⟨n7, 7, none⟩ = some (.int .u64 (x.b : Int)) := cell_blk hx4 7
  have a8 : w4.cell? ⟨n7, 8, none⟩ = some (.int .i64 x.kind) := cell_blk hx4 8
  have a9 : w4.cell? ⟨n7, 9, none⟩ = some (.int .i64 x.status) := cell_blk hx4 9
  have a10 : w4.cell? ⟨n7, 10, none⟩ = some (.string x.route) := cell_blk hx4 10
  have a11 : w4.cell? ⟨n7, 11, none⟩ = some (.int .i64 x.rule) := cell_blk hx4 11
  have a12 : w4.cell? ⟨n7, 12, none⟩ = some (.string x.service) := cell_blk hx4 12
  have a13 : w4.cell? ⟨n7, 13, none⟩ = some (.string x.endp) := cell_blk hx4 13
  have a14 : w4.cell? ⟨n7, 14, none⟩ = some (.int .i64 x.fin) := cell_blk hx4 14
  have f8 := frozen_blk hx4 8
  have f9 := frozen_blk hx4 9
  have f10 := frozen_blk hx4 10
  have f11 := frozen_blk hx4 11
  have f12 := frozen_blk hx4 12
  have f13 := frozen_blk hx4 13
  have b0 : w4.cell? ⟨w.heap.size + 1, 0, none⟩ = some (.int .i64 ver) := cell_blk Ht4.out 0
  have b1 : w4.cell? ⟨w.heap.size + 1, 1, none⟩ = some (hv) := cell_blk Ht4.out 1
  have b2 : w4.cell? ⟨w.heap.size + 1, 2, none⟩ = some (sv) := cell_blk Ht4.out 2
  clear hx4 hx5 hm5 hbw4
  go_upto_region 6 with (fail)
  rw [← hw5]
  clear hw5 a0 a1 a2 a3 a4 a5 a6 a7 a8 a9 a10 a11 a12 a13 a14 f8 f9 f10 f11 f12 f13 b0 b1 b2
  have a0 : w5.cell? ⟨n7, 0, none⟩ = some (.int .i64 x.number) := cell_blk Hx5.out 0
  have a1 : w5.cell? ⟨n7, 1, none⟩ = some (.int .i64 ver) := cell_blk Hx5.out 1
  have a2 : w5.cell? ⟨n7, 2, none⟩ = some (.int .i64 x.epoch) := cell_blk Hx5.out 2
  have a3 : w5.cell? ⟨n7, 3, none⟩ = some (.string x.method) := cell_blk Hx5.out 3
  have a4 : w5.cell? ⟨n7, 4, none⟩ = some (.string x.host) := cell_blk Hx5.out 4
  have a5 : w5.cell? ⟨n7, 5, none⟩ = some (.string x.path) := cell_blk Hx5.out 5
  have a6 : w5.cell? ⟨n7, 6, none⟩ = some (.int .u64 (x.a : Int)) := cell_blk Hx5.out 6
  have a7 : w5.cell? ⟨n7, 7, none⟩ = some (.int .u64 (x.b : Int)) := cell_blk Hx5.out 7
  have a8 : w5.cell? ⟨n7, 8, none⟩ = some (.int .i64 dv.k) := cell_blk Hx5.out 8
  have a9 : w5.cell? ⟨n7, 9, none⟩ = some (.int .i64 dv.st) := cell_blk Hx5.out 9
  have a10 : w5.cell? ⟨n7, 10, none⟩ = some (.string dv.rt) := cell_blk Hx5.out 10
  have a11 : w5.cell? ⟨n7, 11, none⟩ = some (.int .i64 dv.ru) := cell_blk Hx5.out 11
  have a12 : w5.cell? ⟨n7, 12, none⟩ = some (.string dv.svc) := cell_blk Hx5.out 12
  have a13 : w5.cell? ⟨n7, 13, none⟩ = some (.string dv.ep) := cell_blk Hx5.out 13
  have a14 : w5.cell? ⟨n7, 14, none⟩ = some (.int .i64 x.fin) := cell_blk Hx5.out 14
  have b0 : w5.cell? ⟨w.heap.size + 1, 0, none⟩ = some (.int .i64 ver) := cell_blk Ht5.out 0
  have b1 : w5.cell? ⟨w.heap.size + 1, 1, none⟩ = some (hv) := cell_blk Ht5.out 1
  have b2 : w5.cell? ⟨w.heap.size + 1, 2, none⟩ = some (sv) := cell_blk Ht5.out 2
  go_wp2_with fail
  refine (H.out.ax _ Hb5.out).mono ?_
  rintro r w6 ⟨rfl, hb6⟩
  clear a0 a1 a2 a3 a4 a5 a6 a7 a8 a9 a10 a11 a12 a13 a14 b0 b1 b2
  have hx6 : w6.heap[n7]? = some (.cells #[.int .i64 x.number, .int .i64 ver, .int .i64 x.epoch, .string x.method, .string x.host, .string x.path, .int .u64 (x.a : Int), .int .u64 (x.b : Int), .int .i64 dv.k, .int .i64 dv.st, .string dv.rt, .int .i64 dv.ru, .string dv.svc, .string dv.ep, .int .i64 x.fin] 38) := (hb6.block _ (lt_of_heap Hx5.out)).trans Hx5.out
  have ht6 : w6.heap[w.heap.size + 1]? = some (.cells #[.int .i64 ver, hv, sv] 61) := (hb6.block _ (lt_of_heap Ht5.out)).trans Ht5.out
  have Hb6 := Lib.hid (Hb5.out.trans (hb6.mono Hb5.out.size))
  have lt7 : n7 < w6.heap.size := lt_of_heap hx6
  have lt4 : w.heap.size + 1 < w6.heap.size := lt_of_heap ht6
  have a0 : w6.cell? ⟨n7, 0, none⟩ = some (.int .i64 x.number) := cell_blk hx6 0
  have a1 : w6.cell? ⟨n7, 1, none⟩ = some (.int .i64 ver) := cell_blk hx6 1
  have a2 : w6.cell? ⟨n7, 2, none⟩ = some (.int .i64 x.epoch) := cell_blk hx6 2
  have a3 : w6.cell? ⟨n7, 3, none⟩ = some (.string x.method) := cell_blk hx6 3
  have a4 : w6.cell? ⟨n7, 4, none⟩ = some (.string x.host) := cell_blk hx6 4
  have a5 : w6.cell? ⟨n7, 5, none⟩ = some (.string x.path) := cell_blk hx6 5
  have a6 : w6.cell? ⟨n7, 6, none⟩ = some (.int .u64 (x.a : Int)) := cell_blk hx6 6
  have a7 : w6.cell? ⟨n7, 7, none⟩ = some (.int .u64 (x.b : Int)) := cell_blk hx6 7
  have a8 : w6.cell? ⟨n7, 8, none⟩ = some (.int .i64 dv.k) := cell_blk hx6 8
  have a9 : w6.cell? ⟨n7, 9, none⟩ = some (.int .i64 dv.st) := cell_blk hx6 9
  have a10 : w6.cell? ⟨n7, 10, none⟩ = some (.string dv.rt) := cell_blk hx6 10
  have a11 : w6.cell? ⟨n7, 11, none⟩ = some (.int .i64 dv.ru) := cell_blk hx6 11
  have a12 : w6.cell? ⟨n7, 12, none⟩ = some (.string dv.svc) := cell_blk hx6 12
  have a13 : w6.cell? ⟨n7, 13, none⟩ = some (.string dv.ep) := cell_blk hx6 13
  have a14 : w6.cell? ⟨n7, 14, none⟩ = some (.int .i64 x.fin) := cell_blk hx6 14
  have b0 : w6.cell? ⟨w.heap.size + 1, 0, none⟩ = some (.int .i64 ver) := cell_blk ht6 0
  have b1 : w6.cell? ⟨w.heap.size + 1, 1, none⟩ = some (hv) := cell_blk ht6 1
  have b2 : w6.cell? ⟨w.heap.size + 1, 2, none⟩ = some (sv) := cell_blk ht6 2
  have f0 := frozen_blk ht6 0
  have l1 : ¬ n7 = w6.heap.size := by omega
  have l2 : ¬ w.heap.size + 1 = w6.heap.size := by omega
  have lw0 : w.heap.size < w6.heap.size := by omega
  have lw1 : w.heap.size < w6.heap.size + 1 := by omega
  have lw2 : w.heap.size < w6.heap.size + 2 := by omega
  have nw0 : ¬ w.heap.size = w6.heap.size := by omega
  have nw1 : ¬ w.heap.size = w6.heap.size + 1 := by omega
  have nw2 : ¬ w6.heap.size = w.heap.size := by omega
  have nw3 : ¬ w6.heap.size + 1 = w.heap.size := by omega
  have had := H.out.ad
  obtain ⟨ws, hws⟩ : ∃ ws, ws = w6.setCell ⟨w.heap.size + 1, 0, none⟩ (.int .i64 (wrap64 (ver + 1))) := ⟨_, rfl⟩
  have e0 : ws.heap.size = w6.heap.size := by rw [hws]; simp
  have mS : Mod (fun q => q = w.heap.size + 1) w6 ws := by rw [hws]; exact Mod.setCell (Mod.refl _ _) _ _ (fun _ => rfl)
  have bS : Below w.heap.size w ws := Hb6.out.trans (mS.below Hb6.out.size (fun q hq => by omega))
  have xS := mS.heap hx6 ne1
  have tS : ws.heap[w.heap.size + 1]? = some (.cells #[.int .i64 (wrap64 (ver + 1)), hv, sv] 61) := by
    rw [hws, set_blk ht6 0]
    rfl
  obtain ⟨w8, hw8, hF⟩ : ∃ w8, w8 = ((ws.alloc (.cells #[.int .i64 (wrap64 (x.number + 1)), .int .i64 ver, .int .i64 (wrap64 (x.epoch + 1)), .string x.method, .string x.host, .string x.path, .int .u64 (x.a : Int), .int .u64 (x.b : Int), .int .i64 dv.k, .int .i64 dv.st, .string dv.rt, .int .i64 dv.ru, .string dv.svc, .string dv.ep, .int .i64 (wrap64 (7 - x.fin))] 38)).alloc (.cells #[.int .i64 x.number, .int .i64 ver, .int .i64 x.epoch, .string x.method, .string x.host, .string x.path, .int .u64 (x.a : Int), .int .u64 (x.b : Int), .int .i64 dv.k, .int .i64 dv.st, .string dv.rt, .int .i64 dv.ru, .string dv.svc, .string epx, .int .i64 x.fin] 38)).alloc (.cells #[.int .i64 x.number, .int .i64 ver, .int .i64 x.epoch, .string x.method, .string x.host, .string x.path, .int .u64 (x.a : Int), .int .u64 (x.b : Int), .int .i64 dv.k, .int .i64 (wrap64 (dv.st + 1)), .string dv.rt, .int .i64 dv.ru, .string dv.svc, .string dv.ep, .int .i64 x.fin] 38) ∧ Hid (FS w w8 x ver hv sv dv epx n7 w6.heap.size (w6.heap.size + 1) (w6.heap.size + 1 + 1) (w.heap.size + 1)) := by
    refine ⟨_, rfl, Lib.hid ?_⟩
    have e1 : (ws.alloc (.cells #[.int .i64 (wrap64 (x.number + 1)), .int .i64 ver, .int .i64 (wrap64 (x.epoch + 1)), .string x.method, .string x.host, .string x.path, .int .u64 (x.a : Int), .int .u64 (x.b : Int), .int .i64 dv.k, .int .i64 dv.st, .string dv.rt, .int .i64 dv.ru, .string dv.svc, .string dv.ep, .int .i64 (wrap64 (7 - x.fin))] 38)).heap.size = w6.heap.size + 1 := by simp [e0]
    have e2 : ((ws.alloc (.cells #[.int .i64 (wrap64 (x.number + 1)), .int .i64 ver, .int .i64 (wrap64 (x.epoch + 1)), .string x.method, .string x.host, .string x.path, .int .u64 (x.a : Int), .int .u64 (x.b : Int), .int .i64 dv.k, .int .i64 dv.st, .string dv.rt, .int .i64 dv.ru, .string dv.svc, .string dv.ep, .int .i64 (wrap64 (7 - x.fin))] 38)).alloc (.cells #[.int .i64 x.number, .int .i64 ver, .int .i64 x.epoch, .string x.method, .string x.host, .string x.path, .int .u64 (x.a : Int), .int .u64 (x.b : Int), .int .i64 dv.k, .int .i64 dv.st, .string dv.rt, .int .i64 dv.ru, .string dv.svc, .string epx, .int .i64 x.fin] 38)).heap.size = w6.heap.size + 1 + 1 := by simp [e0]
    refine fs_first ?_ ?_ ?_ ?_ ?_ ?_
    · rw [alloc_old _ (by omega), alloc_old _ (by omega), alloc_old _ (by omega)]
      exact xS
    · rw [alloc_old _ (by omega), alloc_old _ (by omega), ← e0]
      exact alloc_new _
    · rw [alloc_old _ (by omega), ← e1]
      exact alloc_new _
    · rw [← e2]
      exact alloc_new _
    · rw [alloc_old _ (by omega), alloc_old _ (by omega), alloc_old _ (by omega)]
      exact tS
    · exact ((bS.alloc bS.size _).alloc (by have := bS.size; omega) _).alloc (by have := bS.size; omega) _
  rw [hws] at hw8
  clear hws e0 mS bS xS tS
  clear hb6 Hx5 Hb5 Ht5 Hs4 Ht4 Ht3 Hb3 Hsz3
  go_upto_region 17 with (fail)
  rw [← hw8]
  clear hw8 hx6 ht6 a0 a1 a2 a3 a4 a5 a6 a7 a8 a9 a10 a11 a12 a13 a14 b0 b1 b2 f0 l1 l2 lw0 lw1 lw2 nw0 nw1 nw2 nw3 had ne1 ne2 lt7 lt4
  obtain ⟨n8, hn8⟩ : ∃ n8, n8 = w6.heap.size := ⟨_, rfl⟩
  obtain ⟨n9, hn9⟩ : ∃ n9, n9 = w6.heap.size + 1 := ⟨_, rfl⟩
  obtain ⟨n10, hn10⟩ : ∃ n10, n10 = w6.heap.size + 1 + 1 := ⟨_, rfl⟩
  obtain ⟨nt, hnt⟩ : ∃ nt, nt = w.heap.size + 1 := ⟨_, rfl⟩
  rw [← hn10, ← hn9, ← hn8, ← hnt] at hF
  rw [← hn10, ← hn9, ← hn8, ← hnt]
  clear hn10 hn9 hn8 hnt
  rename_i K1 hK1
  refine ag17_w (w := w) (hl := hl) (n7 := n7) (n8 := n8) (n9 := n9) (n10 := n10) (nt := nt) H ⟨rfl, rfl, rfl, rfl, rfl, rfl, rfl, rfl⟩ hF ?_
  intro a' w' h1 h2 h3
  refine hK1 _ _ ?_
  refine wp_ret ?_
  refine bodyPost_ret (results_one rfl h2) h1 ?_
  exact ⟨rfl, h3⟩

end Go.Proofs.YthpflfcgnaichaaDoor

