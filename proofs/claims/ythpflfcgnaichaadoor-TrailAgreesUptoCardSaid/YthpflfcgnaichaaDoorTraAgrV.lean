/-
turnpikelaw27.TrailAgrees: from its callees' contracts.
-/
import Derived.Test.YthpflfcgnaichaaDoorTraAgr
import Derived.Test.YthpflfcgnaichaaDoorTraAwake
import Derived.Test.YthpflfcgnaichaaDoorTraMay
import Derived.Laws.Concat
import Derived.Test.YthpflfcgnaichaaDoorCode
set_option linter.unusedVariables false
set_option linter.unusedSimpArgs false
namespace Go.Proofs.YthpflfcgnaichaaDoor
open Go Go.RowKit

theorem epV_small {all : List ByteArray} {n : Int} {B : Nat} (h : ∀ s ∈ all, s.size ≤ B) : (epV all n).size ≤ B := by
  unfold epV
  rw [List.getD_eq_getElem?_getD]
  cases hq : all[(max n 0).toNat % all.length]? with
  | none => exact Nat.zero_le _
  | some s => exact h s (List.mem_of_getElem? hq)

theorem allV_small {ss : List ShareD} {hs : List HealD} {svc : ByteArray} {B : Nat} (h : ∀ y ∈ hs, ∀ s ∈ y.endpoints, s.size ≤ B) : ∀ s ∈ allV ss hs svc, s.size ≤ B := by
  intro s hm
  unfold allV at hm
  split at hm
  · cases hm
  · split at hm
    · cases hm
    · cases hq : hs[(idxI (fun x : HealD => x.service.toList == svc.toList) hs).toNat]? with
      | none => rw [hq] at hm; cases hm
      | some y => rw [hq] at hm; exact h y (List.mem_of_getElem? hq) s hm

theorem words_small {hosts : List HostD} {hs : List HealD} {m hn p : ByteArray} {a b B : Nat} (h : ∀ y ∈ hs, ∀ s ∈ y.endpoints, s.size ≤ B) : (wordsV hosts hs m hn p a b).ep.size ≤ B := by
  unfold wordsV decideV
  split
  · exact Nat.zero_le _
  · split
    · exact Nat.zero_le _
    · split
      · exact Nat.zero_le _
      · split
        · exact Nat.zero_le _
        · split
          · exact Nat.zero_le _
          · unfold endV
            dsimp only
            split
            · exact Nat.zero_le _
            · exact epV_small (allV_small h)

theorem ne_more (s : ByteArray) : (s.toList == (⟨(s.toList ++ [120]).toArray⟩ : ByteArray).toList) = false := by
  rw [beq_eq_false_iff_ne]
  intro h
  have := congrArg List.length h
  simp [ByteArray.toList_eq] at this

structure AgW (w : World) (x : Ent) (ver : Int) (hv sv hl : Value) (dv : DecV) (epx : ByteArray) : Prop where
  wd : ∀ w2, Below w.heap.size w w2 → Calls Tryd.prog 22 #[.agg #[.int .i64 ver, hv, sv], hl, .string x.method, .string x.host, .string x.path, .int .u64 (x.a : Int), .int .u64 (x.b : Int)] w2 fun r w' => r = .returned (.agg #[.int .i64 dv.k, .int .i64 dv.st, .string dv.rt, .int .i64 dv.ru, .string dv.svc, .string dv.ep]) ∧ Below w2.heap.size w2 w'
  bf : ∀ w2, Calls Tryd.prog 24 #[.agg #[.int .i64 (wrap64 (ver + 1)), hv, sv]] w2 fun r w' => r = .returned (.agg #[.int .i64 ver, hv, sv]) ∧ Below w2.heap.size w2 w'
  ax : ∀ w2, Below w.heap.size w w2 → Calls Tryd.prog 23 #[.agg #[.int .i64 x.number, .int .i64 ver, .int .i64 x.epoch, .string x.method, .string x.host, .string x.path, .int .u64 (x.a : Int), .int .u64 (x.b : Int), .int .i64 dv.k, .int .i64 dv.st, .string dv.rt, .int .i64 dv.ru, .string dv.svc, .string dv.ep, .int .i64 x.fin], .agg #[.int .i64 ver, hv, sv], hl] w2 fun r w' => r = .returned (.bool true) ∧ Below w2.heap.size w2 w'
  an : ∀ w2, Below w.heap.size w w2 → Calls Tryd.prog 23 #[.agg #[.int .i64 x.number, .int .i64 ver, .int .i64 x.epoch, .string x.method, .string x.host, .string x.path, .int .u64 (x.a : Int), .int .u64 (x.b : Int), .int .i64 dv.k, .int .i64 dv.st, .string dv.rt, .int .i64 dv.ru, .string dv.svc, .string dv.ep, .int .i64 x.fin], .agg #[.int .i64 (wrap64 (ver + 1)), hv, sv], hl] w2 fun r w' => r = .returned (.bool false) ∧ Below w2.heap.size w2 w'
  az : ∀ w2, Below w.heap.size w w2 → Calls Tryd.prog 23 #[.agg #[.int .i64 x.number, .int .i64 ver, .int .i64 x.epoch, .string x.method, .string x.host, .string x.path, .int .u64 (x.a : Int), .int .u64 (x.b : Int), .int .i64 dv.k, .int .i64 dv.st, .string dv.rt, .int .i64 dv.ru, .string dv.svc, .string epx, .int .i64 x.fin], .agg #[.int .i64 ver, hv, sv], hl] w2 fun r w' => r = .returned (.bool false) ∧ Below w2.heap.size w2 w'
  aw : ∀ w2, Below w.heap.size w w2 → Calls Tryd.prog 23 #[.agg #[.int .i64 x.number, .int .i64 ver, .int .i64 x.epoch, .string x.method, .string x.host, .string x.path, .int .u64 (x.a : Int), .int .u64 (x.b : Int), .int .i64 dv.k, .int .i64 (wrap64 (dv.st + 1)), .string dv.rt, .int .i64 dv.ru, .string dv.svc, .string dv.ep, .int .i64 x.fin], .agg #[.int .i64 ver, hv, sv], hl] w2 fun r w' => r = .returned (.bool false) ∧ Below w2.heap.size w2 w'
  ay : ∀ w2, Below w.heap.size w w2 → Calls Tryd.prog 23 #[.agg #[.int .i64 (wrap64 (x.number + 1)), .int .i64 ver, .int .i64 (wrap64 (x.epoch + 1)), .string x.method, .string x.host, .string x.path, .int .u64 (x.a : Int), .int .u64 (x.b : Int), .int .i64 dv.k, .int .i64 dv.st, .string dv.rt, .int .i64 dv.ru, .string dv.svc, .string dv.ep, .int .i64 (wrap64 (7 - x.fin))], .agg #[.int .i64 ver, hv, sv], hl] w2 fun r w' => r = .returned (.bool true) ∧ Below w2.heap.size w2 w'
  ad : ∀ w2, (Op.stringOp .add dv.ep ⟨#[120]⟩).run Tryd.prog w2 = .ok (.string epx) w2

theorem ag_w (w : World) (x : Ent) (ver : Int) (hv sv hl : Value) (hosts : List HostD) (hs : List HealD) (h : TabIn w hv hl hosts hs) (ha : x.a < 18446744073709551616) (hb : x.b < 18446744073709551616) (hver : I64 ver) (hep : ∀ y ∈ hs, ∀ s ∈ y.endpoints, s.size ≤ 1048576)
    (hs1 : ∀ (W : World) (a : Addr), (store a hv).run Tryd.prog W = stored Tryd.prog W a hv .plain) (hs2 : ∀ (W : World) (a : Addr), (store a sv).run Tryd.prog W = stored Tryd.prog W a sv .plain) : ∃ dv epx, AgW w x ver hv sv hl dv epx := by
  obtain ⟨dv, hdv⟩ : ∃ dv, dv = wordsV hosts hs x.method x.host x.path x.a x.b := ⟨_, rfl⟩
  have hsm : dv.ep.size ≤ 1048576 := by rw [hdv]; exact words_small hep
  have wb : wrap64 (wrap64 (ver + 1) - 1) = ver := by have h1 := hver.1; have h2 := hver.2; unfold wrap64; omega
  have vn : ¬ wrap64 (ver + 1) = ver := by unfold wrap64; omega
  have sn : (dv.st == wrap64 (dv.st + 1)) = false := by rw [beq_eq_false_iff_ne]; unfold wrap64; omega
  refine ⟨dv, ⟨(dv.ep.toList ++ [120]).toArray⟩, fun w2 hb2 => ?_, fun w2 => ?_, fun w2 hb2 => ?_, fun w2 hb2 => ?_, fun w2 hb2 => ?_, fun w2 hb2 => ?_, fun w2 hb2 => ?_, fun w2 => ?_⟩
  · have := words_c w2 (.int .i64 ver) hv sv hl hosts hs x.method x.host x.path x.a x.b (h.later hb2) ha hb
    rw [← hdv] at this
    exact this
  · have := before_c w2 (wrap64 (ver + 1)) hv sv hs1 hs2
    rw [wb] at this
    exact this
  · have hq := agrees_c w2 ⟨x.number, ver, x.epoch, x.method, x.host, x.path, x.a, x.b, dv.k, dv.st, dv.rt, dv.ru, dv.svc, dv.ep, x.fin⟩ ver hv sv hl hosts hs (h.later hb2) ha hb
    have e : agreesV ⟨x.number, ver, x.epoch, x.method, x.host, x.path, x.a, x.b, dv.k, dv.st, dv.rt, dv.ru, dv.svc, dv.ep, x.fin⟩ ver hosts hs = true := by
      unfold agreesV
      rw [if_pos rfl]
      dsimp only
      rw [← hdv]
      exact dv.same_refl
    rw [e] at hq
    exact hq
  · have hq := agrees_c w2 ⟨x.number, ver, x.epoch, x.method, x.host, x.path, x.a, x.b, dv.k, dv.st, dv.rt, dv.ru, dv.svc, dv.ep, x.fin⟩ (wrap64 (ver + 1)) hv sv hl hosts hs (h.later hb2) ha hb
    have e : agreesV ⟨x.number, ver, x.epoch, x.method, x.host, x.path, x.a, x.b, dv.k, dv.st, dv.rt, dv.ru, dv.svc, dv.ep, x.fin⟩ (wrap64 (ver + 1)) hosts hs = false := by
      unfold agreesV
      rw [if_neg (show ¬ wrap64 (ver + 1) = ver from vn)]
    rw [e] at hq
    exact hq
  · have hq := agrees_c w2 ⟨x.number, ver, x.epoch, x.method, x.host, x.path, x.a, x.b, dv.k, dv.st, dv.rt, dv.ru, dv.svc, ⟨(dv.ep.toList ++ [120]).toArray⟩, x.fin⟩ ver hv sv hl hosts hs (h.later hb2) ha hb
    have e : agreesV ⟨x.number, ver, x.epoch, x.method, x.host, x.path, x.a, x.b, dv.k, dv.st, dv.rt, dv.ru, dv.svc, ⟨(dv.ep.toList ++ [120]).toArray⟩, x.fin⟩ ver hosts hs = false := by
      unfold agreesV
      rw [if_pos rfl]
      dsimp only
      rw [← hdv]
      unfold DecV.same Ent.decv
      dsimp only
      rw [ne_more]
      simp
    rw [e] at hq
    exact hq
  · have hq := agrees_c w2 ⟨x.number, ver, x.epoch, x.method, x.host, x.path, x.a, x.b, dv.k, (wrap64 (dv.st + 1)), dv.rt, dv.ru, dv.svc, dv.ep, x.fin⟩ ver hv sv hl hosts hs (h.later hb2) ha hb
    have e : agreesV ⟨x.number, ver, x.epoch, x.method, x.host, x.path, x.a, x.b, dv.k, (wrap64 (dv.st + 1)), dv.rt, dv.ru, dv.svc, dv.ep, x.fin⟩ ver hosts hs = false := by
      unfold agreesV
      rw [if_pos rfl]
      dsimp only
      rw [← hdv]
      unfold DecV.same Ent.decv
      dsimp only
      rw [sn]
      simp
    rw [e] at hq
    exact hq
  · have hq := agrees_c w2 ⟨(wrap64 (x.number + 1)), ver, (wrap64 (x.epoch + 1)), x.method, x.host, x.path, x.a, x.b, dv.k, dv.st, dv.rt, dv.ru, dv.svc, dv.ep, (wrap64 (7 - x.fin))⟩ ver hv sv hl hosts hs (h.later hb2) ha hb
    have e : agreesV ⟨(wrap64 (x.number + 1)), ver, (wrap64 (x.epoch + 1)), x.method, x.host, x.path, x.a, x.b, dv.k, dv.st, dv.rt, dv.ru, dv.svc, dv.ep, (wrap64 (7 - x.fin))⟩ ver hosts hs = true := by
      unfold agreesV
      rw [if_pos rfl]
      dsimp only
      rw [← hdv]
      exact dv.same_refl
    rw [e] at hq
    exact hq
  · rw [run_string_add_sum w2 _ _ (by have : (⟨#[120]⟩ : ByteArray).size = 1 := rfl; rw [this]; exact Nat.le_trans (Nat.add_le_add_right hsm 1) (by decide))]
    congr 2
    apply ByteArray.ext
    simp [ByteArray.toList_eq]
    apply Array.ext'
    simp

theorem six_set {w : World} {n : Nat} {v0 v1 v2 v3 v4 v5 v6 v7 v8 v9 v10 v11 v12 v13 v14 u8 u9 u10 u11 u12 u13 : Value} {T : TypeId} (h : w.heap[n]? = some (.cells #[v0, v1, v2, v3, v4, v5, v6, v7, v8, v9, v10, v11, v12, v13, v14] T)) :
    ((((((w.setCell ⟨n, 8, none⟩ u8).setCell ⟨n, 9, none⟩ u9).setCell ⟨n, 10, none⟩ u10).setCell ⟨n, 11, none⟩ u11).setCell ⟨n, 12, none⟩ u12).setCell ⟨n, 13, none⟩ u13).heap[n]? = some (.cells #[v0, v1, v2, v3, v4, v5, v6, v7, u8, u9, u10, u11, u12, u13, v14] T) := by
  have h8 : (w.setCell ⟨n, 8, none⟩ u8).heap[n]? = some (.cells #[v0, v1, v2, v3, v4, v5, v6, v7, u8, v9, v10, v11, v12, v13, v14] T) := by
    rw [set_blk h 8 u8]
    rfl
  have h9 : ((w.setCell ⟨n, 8, none⟩ u8).setCell ⟨n, 9, none⟩ u9).heap[n]? = some (.cells #[v0, v1, v2, v3, v4, v5, v6, v7, u8, u9, v10, v11, v12, v13, v14] T) := by
    rw [set_blk h8 9 u9]
    rfl
  have h10 : (((w.setCell ⟨n, 8, none⟩ u8).setCell ⟨n, 9, none⟩ u9).setCell ⟨n, 10, none⟩ u10).heap[n]? = some (.cells #[v0, v1, v2, v3, v4, v5, v6, v7, u8, u9, u10, v11, v12, v13, v14] T) := by
    rw [set_blk h9 10 u10]
    rfl
  have h11 : ((((w.setCell ⟨n, 8, none⟩ u8).setCell ⟨n, 9, none⟩ u9).setCell ⟨n, 10, none⟩ u10).setCell ⟨n, 11, none⟩ u11).heap[n]? = some (.cells #[v0, v1, v2, v3, v4, v5, v6, v7, u8, u9, u10, u11, v12, v13, v14] T) := by
    rw [set_blk h10 11 u11]
    rfl
  have h12 : (((((w.setCell ⟨n, 8, none⟩ u8).setCell ⟨n, 9, none⟩ u9).setCell ⟨n, 10, none⟩ u10).setCell ⟨n, 11, none⟩ u11).setCell ⟨n, 12, none⟩ u12).heap[n]? = some (.cells #[v0, v1, v2, v3, v4, v5, v6, v7, u8, u9, u10, u11, u12, v13, v14] T) := by
    rw [set_blk h11 12 u12]
    rfl
  have h13 : ((((((w.setCell ⟨n, 8, none⟩ u8).setCell ⟨n, 9, none⟩ u9).setCell ⟨n, 10, none⟩ u10).setCell ⟨n, 11, none⟩ u11).setCell ⟨n, 12, none⟩ u12).setCell ⟨n, 13, none⟩ u13).heap[n]? = some (.cells #[v0, v1, v2, v3, v4, v5, v6, v7, u8, u9, u10, u11, u12, u13, v14] T) := by
    rw [set_blk h12 13 u13]
    rfl
  exact h13

def FS (w w' : World) (x : Ent) (ver : Int) (hv sv : Value) (dv : DecV) (epx : ByteArray) (n7 n8 n9 n10 nt : Nat) : Prop := (w'.cell? ⟨n7, 0, none⟩ = some (.int .i64 x.number) ∧ w'.cell? ⟨n7, 1, none⟩ = some (.int .i64 ver) ∧ w'.cell? ⟨n7, 2, none⟩ = some (.int .i64 x.epoch) ∧ w'.cell? ⟨n7, 3, none⟩ = some (.string x.method) ∧ w'.cell? ⟨n7, 4, none⟩ = some (.string x.host) ∧ w'.cell? ⟨n7, 5, none⟩ = some (.string x.path) ∧ w'.cell? ⟨n7, 6, none⟩ = some (.int .u64 (x.a : Int)) ∧ w'.cell? ⟨n7, 7, none⟩ = some (.int .u64 (x.b : Int)) ∧ w'.cell? ⟨n7, 8, none⟩ = some (.int .i64 dv.k) ∧ w'.cell? ⟨n7, 9, none⟩ = some (.int .i64 dv.st) ∧ w'.cell? ⟨n7, 10, none⟩ = some (.string dv.rt) ∧ w'.cell? ⟨n7, 11, none⟩ = some (.int .i64 dv.ru) ∧ w'.cell? ⟨n7, 12, none⟩ = some (.string dv.svc) ∧ w'.cell? ⟨n7, 13, none⟩ = some (.string dv.ep) ∧ w'.cell? ⟨n7, 14, none⟩ = some (.int .i64 x.fin)) ∧ (w'.cell? ⟨n8, 0, none⟩ = some (.int .i64 (wrap64 (x.number + 1))) ∧ w'.cell? ⟨n8, 1, none⟩ = some (.int .i64 ver) ∧ w'.cell? ⟨n8, 2, none⟩ = some (.int .i64 (wrap64 (x.epoch + 1))) ∧ w'.cell? ⟨n8, 3, none⟩ = some (.string x.method) ∧ w'.cell? ⟨n8, 4, none⟩ = some (.string x.host) ∧ w'.cell? ⟨n8, 5, none⟩ = some (.string x.path) ∧ w'.cell? ⟨n8, 6, none⟩ = some (.int .u64 (x.a : Int)) ∧ w'.cell? ⟨n8, 7, none⟩ = some (.int .u64 (x.b : Int)) ∧ w'.cell? ⟨n8, 8, none⟩ = some (.int .i64 dv.k) ∧ w'.cell? ⟨n8, 9, none⟩ = some (.int .i64 dv.st) ∧ w'.cell? ⟨n8, 10, none⟩ = some (.string dv.rt) ∧ w'.cell? ⟨n8, 11, none⟩ = some (.int .i64 dv.ru) ∧ w'.cell? ⟨n8, 12, none⟩ = some (.string dv.svc) ∧ w'.cell? ⟨n8, 13, none⟩ = some (.string dv.ep) ∧ w'.cell? ⟨n8, 14, none⟩ = some (.int .i64 (wrap64 (7 - x.fin)))) ∧ (w'.cell? ⟨n9, 0, none⟩ = some (.int .i64 x.number) ∧ w'.cell? ⟨n9, 1, none⟩ = some (.int .i64 ver) ∧ w'.cell? ⟨n9, 2, none⟩ = some (.int .i64 x.epoch) ∧ w'.cell? ⟨n9, 3, none⟩ = some (.string x.method) ∧ w'.cell? ⟨n9, 4, none⟩ = some (.string x.host) ∧ w'.cell? ⟨n9, 5, none⟩ = some (.string x.path) ∧ w'.cell? ⟨n9, 6, none⟩ = some (.int .u64 (x.a : Int)) ∧ w'.cell? ⟨n9, 7, none⟩ = some (.int .u64 (x.b : Int)) ∧ w'.cell? ⟨n9, 8, none⟩ = some (.int .i64 dv.k) ∧ w'.cell? ⟨n9, 9, none⟩ = some (.int .i64 dv.st) ∧ w'.cell? ⟨n9, 10, none⟩ = some (.string dv.rt) ∧ w'.cell? ⟨n9, 11, none⟩ = some (.int .i64 dv.ru) ∧ w'.cell? ⟨n9, 12, none⟩ = some (.string dv.svc) ∧ w'.cell? ⟨n9, 13, none⟩ = some (.string epx) ∧ w'.cell? ⟨n9, 14, none⟩ = some (.int .i64 x.fin)) ∧ (w'.cell? ⟨n10, 0, none⟩ = some (.int .i64 x.number) ∧ w'.cell? ⟨n10, 1, none⟩ = some (.int .i64 ver) ∧ w'.cell? ⟨n10, 2, none⟩ = some (.int .i64 x.epoch) ∧ w'.cell? ⟨n10, 3, none⟩ = some (.string x.method) ∧ w'.cell? ⟨n10, 4, none⟩ = some (.string x.host) ∧ w'.cell? ⟨n10, 5, none⟩ = some (.string x.path) ∧ w'.cell? ⟨n10, 6, none⟩ = some (.int .u64 (x.a : Int)) ∧ w'.cell? ⟨n10, 7, none⟩ = some (.int .u64 (x.b : Int)) ∧ w'.cell? ⟨n10, 8, none⟩ = some (.int .i64 dv.k) ∧ w'.cell? ⟨n10, 9, none⟩ = some (.int .i64 (wrap64 (dv.st + 1))) ∧ w'.cell? ⟨n10, 10, none⟩ = some (.string dv.rt) ∧ w'.cell? ⟨n10, 11, none⟩ = some (.int .i64 dv.ru) ∧ w'.cell? ⟨n10, 12, none⟩ = some (.string dv.svc) ∧ w'.cell? ⟨n10, 13, none⟩ = some (.string dv.ep) ∧ w'.cell? ⟨n10, 14, none⟩ = some (.int .i64 x.fin)) ∧ (w'.cell? ⟨nt, 0, none⟩ = some (.int .i64 (wrap64 (ver + 1))) ∧ w'.cell? ⟨nt, 1, none⟩ = some (hv) ∧ w'.cell? ⟨nt, 2, none⟩ = some (sv)) ∧ Below w.heap.size w w'

theorem fs_step {w w1 w2 : World} {x : Ent} {ver : Int} {hv sv : Value} {dv : DecV} {epx : ByteArray} {n7 n8 n9 n10 nt : Nat} (h : FS w w1 x ver hv sv dv epx n7 n8 n9 n10 nt) (hb : Below w1.heap.size w1 w2) : FS w w2 x ver hv sv dv epx n7 n8 n9 n10 nt := by
  obtain ⟨⟨h0_0, h0_1, h0_2, h0_3, h0_4, h0_5, h0_6, h0_7, h0_8, h0_9, h0_10, h0_11, h0_12, h0_13, h0_14⟩, ⟨h1_0, h1_1, h1_2, h1_3, h1_4, h1_5, h1_6, h1_7, h1_8, h1_9, h1_10, h1_11, h1_12, h1_13, h1_14⟩, ⟨h2_0, h2_1, h2_2, h2_3, h2_4, h2_5, h2_6, h2_7, h2_8, h2_9, h2_10, h2_11, h2_12, h2_13, h2_14⟩, ⟨h3_0, h3_1, h3_2, h3_3, h3_4, h3_5, h3_6, h3_7, h3_8, h3_9, h3_10, h3_11, h3_12, h3_13, h3_14⟩, ⟨h4_0, h4_1, h4_2⟩, hz⟩ := h
  have g : ∀ q j v, w1.cell? ⟨q, j, none⟩ = some v → w2.cell? ⟨q, j, none⟩ = some v := fun q j v hq => (hb.cell (World.block_lt_of_cell? w1 _ hq)).trans hq
  exact ⟨⟨g _ _ _ h0_0, g _ _ _ h0_1, g _ _ _ h0_2, g _ _ _ h0_3, g _ _ _ h0_4, g _ _ _ h0_5, g _ _ _ h0_6, g _ _ _ h0_7, g _ _ _ h0_8, g _ _ _ h0_9, g _ _ _ h0_10, g _ _ _ h0_11, g _ _ _ h0_12, g _ _ _ h0_13, g _ _ _ h0_14⟩, ⟨g _ _ _ h1_0, g _ _ _ h1_1, g _ _ _ h1_2, g _ _ _ h1_3, g _ _ _ h1_4, g _ _ _ h1_5, g _ _ _ h1_6, g _ _ _ h1_7, g _ _ _ h1_8, g _ _ _ h1_9, g _ _ _ h1_10, g _ _ _ h1_11, g _ _ _ h1_12, g _ _ _ h1_13, g _ _ _ h1_14⟩, ⟨g _ _ _ h2_0, g _ _ _ h2_1, g _ _ _ h2_2, g _ _ _ h2_3, g _ _ _ h2_4, g _ _ _ h2_5, g _ _ _ h2_6, g _ _ _ h2_7, g _ _ _ h2_8, g _ _ _ h2_9, g _ _ _ h2_10, g _ _ _ h2_11, g _ _ _ h2_12, g _ _ _ h2_13, g _ _ _ h2_14⟩, ⟨g _ _ _ h3_0, g _ _ _ h3_1, g _ _ _ h3_2, g _ _ _ h3_3, g _ _ _ h3_4, g _ _ _ h3_5, g _ _ _ h3_6, g _ _ _ h3_7, g _ _ _ h3_8, g _ _ _ h3_9, g _ _ _ h3_10, g _ _ _ h3_11, g _ _ _ h3_12, g _ _ _ h3_13, g _ _ _ h3_14⟩, ⟨g _ _ _ h4_0, g _ _ _ h4_1, g _ _ _ h4_2⟩, hz.trans (hb.mono hz.size)⟩

theorem fs_drew {w w1 : World} {x : Ent} {ver : Int} {hv sv : Value} {dv : DecV} {epx : ByteArray} {n7 n8 n9 n10 nt : Nat} (h : FS w w1 x ver hv sv dv epx n7 n8 n9 n10 nt) : FS w w1.drew x ver hv sv dv epx n7 n8 n9 n10 nt := ⟨h.1, h.2.1, h.2.2.1, h.2.2.2.1, h.2.2.2.2.1, h.2.2.2.2.2.drew⟩

theorem fs_first {w w1 : World} {x : Ent} {ver : Int} {hv sv : Value} {dv : DecV} {epx : ByteArray} {n7 n8 n9 n10 nt : Nat} (h0 : w1.heap[n7]? = some (.cells #[.int .i64 x.number, .int .i64 ver, .int .i64 x.epoch, .string x.method, .string x.host, .string x.path, .int .u64 (x.a : Int), .int .u64 (x.b : Int), .int .i64 dv.k, .int .i64 dv.st, .string dv.rt, .int .i64 dv.ru, .string dv.svc, .string dv.ep, .int .i64 x.fin] 38)) (h1 : w1.heap[n8]? = some (.cells #[.int .i64 (wrap64 (x.number + 1)), .int .i64 ver, .int .i64 (wrap64 (x.epoch + 1)), .string x.method, .string x.host, .string x.path, .int .u64 (x.a : Int), .int .u64 (x.b : Int), .int .i64 dv.k, .int .i64 dv.st, .string dv.rt, .int .i64 dv.ru, .string dv.svc, .string dv.ep, .int .i64 (wrap64 (7 - x.fin))] 38)) (h2 : w1.heap[n9]? = some (.cells #[.int .i64 x.number, .int .i64 ver, .int .i64 x.epoch, .string x.method, .string x.host, .string x.path, .int .u64 (x.a : Int), .int .u64 (x.b : Int), .int .i64 dv.k, .int .i64 dv.st, .string dv.rt, .int .i64 dv.ru, .string dv.svc, .string epx, .int .i64 x.fin] 38)) (h3 : w1.heap[n10]? = some (.cells #[.int .i64 x.number, .int .i64 ver, .int .i64 x.epoch, .string x.method, .string x.host, .string x.path, .int .u64 (x.a : Int), .int .u64 (x.b : Int), .int .i64 dv.k, .int .i64 (wrap64 (dv.st + 1)), .string dv.rt, .int .i64 dv.ru, .string dv.svc, .string dv.ep, .int .i64 x.fin] 38)) (h4 : w1.heap[nt]? = some (.cells #[.int .i64 (wrap64 (ver + 1)), hv, sv] 61)) (hz : Below w.heap.size w w1) : FS w w1 x ver hv sv dv epx n7 n8 n9 n10 nt :=
  ⟨⟨cell_blk h0 0, cell_blk h0 1, cell_blk h0 2, cell_blk h0 3, cell_blk h0 4, cell_blk h0 5, cell_blk h0 6, cell_blk h0 7, cell_blk h0 8, cell_blk h0 9, cell_blk h0 10, cell_blk h0 11, cell_blk h0 12, cell_blk h0 13, cell_blk h0 14⟩, ⟨cell_blk h1 0, cell_blk h1 1, cell_blk h1 2, cell_blk h1 3, cell_blk h1 4, cell_blk h1 5, cell_blk h1 6, cell_blk h1 7, cell_blk h1 8, cell_blk h1 9, cell_blk h1 10, cell_blk h1 11, cell_blk h1 12, cell_blk h1 13, cell_blk h1 14⟩, ⟨cell_blk h2 0, cell_blk h2 1, cell_blk h2 2, cell_blk h2 3, cell_blk h2 4, cell_blk h2 5, cell_blk h2 6, cell_blk h2 7, cell_blk h2 8, cell_blk h2 9, cell_blk h2 10, cell_blk h2 11, cell_blk h2 12, cell_blk h2 13, cell_blk h2 14⟩, ⟨cell_blk h3 0, cell_blk h3 1, cell_blk h3 2, cell_blk h3 3, cell_blk h3 4, cell_blk h3 5, cell_blk h3 6, cell_blk h3 7, cell_blk h3 8, cell_blk h3 9, cell_blk h3 10, cell_blk h3 11, cell_blk h3 12, cell_blk h3 13, cell_blk h3 14⟩, ⟨cell_blk h4 0, cell_blk h4 1, cell_blk h4 2⟩, hz⟩

theorem six_mod {w : World} {n : Nat} {u8 u9 u10 u11 u12 u13 : Value} : Mod (fun q => q = n) w ((((((w.setCell ⟨n, 8, none⟩ u8).setCell ⟨n, 9, none⟩ u9).setCell ⟨n, 10, none⟩ u10).setCell ⟨n, 11, none⟩ u11).setCell ⟨n, 12, none⟩ u12).setCell ⟨n, 13, none⟩ u13) := by
  have h8 : Mod (fun q => q = n) w (w.setCell ⟨n, 8, none⟩ u8) := Mod.setCell (Mod.refl _ w) _ _ (fun _ => rfl)
  have h9 : Mod (fun q => q = n) w ((w.setCell ⟨n, 8, none⟩ u8).setCell ⟨n, 9, none⟩ u9) := Mod.setCell h8 _ _ (fun _ => rfl)
  have h10 : Mod (fun q => q = n) w (((w.setCell ⟨n, 8, none⟩ u8).setCell ⟨n, 9, none⟩ u9).setCell ⟨n, 10, none⟩ u10) := Mod.setCell h9 _ _ (fun _ => rfl)
  have h11 : Mod (fun q => q = n) w ((((w.setCell ⟨n, 8, none⟩ u8).setCell ⟨n, 9, none⟩ u9).setCell ⟨n, 10, none⟩ u10).setCell ⟨n, 11, none⟩ u11) := Mod.setCell h10 _ _ (fun _ => rfl)
  have h12 : Mod (fun q => q = n) w (((((w.setCell ⟨n, 8, none⟩ u8).setCell ⟨n, 9, none⟩ u9).setCell ⟨n, 10, none⟩ u10).setCell ⟨n, 11, none⟩ u11).setCell ⟨n, 12, none⟩ u12) := Mod.setCell h11 _ _ (fun _ => rfl)
  have h13 : Mod (fun q => q = n) w ((((((w.setCell ⟨n, 8, none⟩ u8).setCell ⟨n, 9, none⟩ u9).setCell ⟨n, 10, none⟩ u10).setCell ⟨n, 11, none⟩ u11).setCell ⟨n, 12, none⟩ u12).setCell ⟨n, 13, none⟩ u13) := Mod.setCell h12 _ _ (fun _ => rfl)
  exact h13

noncomputable def ag17 : Code := (ncl (ncr (ncr (ncr (ncr (ncr (ncr (ncr (ncr (ncr (ncr (ncr (ncr (ncr (ncr (ncr (ncx Tryd.f5.body)))))))))))))))))

set_option maxRecDepth 20000 in
theorem ag_act (a : Act) (hs : a.tmps.size = 96) (hd : a.defers = []) : ∃ v : Nat → Value, (∀ (i : Nat) (x : Value), a.tmps[i]? = some x → v i = x) ∧ a = ⟨#[v 0, v 1, v 2, v 3, v 4, v 5, v 6, v 7, v 8, v 9, v 10, v 11, v 12, v 13, v 14, v 15, v 16, v 17, v 18, v 19, v 20, v 21, v 22, v 23, v 24, v 25, v 26, v 27, v 28, v 29, v 30, v 31, v 32, v 33, v 34, v 35, v 36, v 37, v 38, v 39, v 40, v 41, v 42, v 43, v 44, v 45, v 46, v 47, v 48, v 49, v 50, v 51, v 52, v 53, v 54, v 55, v 56, v 57, v 58, v 59, v 60, v 61, v 62, v 63, v 64, v 65, v 66, v 67, v 68, v 69, v 70, v 71, v 72, v 73, v 74, v 75, v 76, v 77, v 78, v 79, v 80, v 81, v 82, v 83, v 84, v 85, v 86, v 87, v 88, v 89, v 90, v 91, v 92, v 93, v 94, v 95], []⟩ := by
  obtain ⟨t, d⟩ := a
  obtain ⟨l⟩ := t
  obtain rfl : d = [] := hd
  have hl : l.length = 96 := hs
  refine ⟨fun i => l.getD i undef, fun i x hx => ?_, ?_⟩
  · have hx' : l[i]? = some x := by simpa using hx
    simp [List.getD, hx']
  · have e : l = (List.range 96).map (fun i => l.getD i undef) := by
      apply List.ext_getElem
      · simp [hl]
      · intro i h1 h2
        simp [List.getD, h1]
    generalize (fun i => l.getD i undef) = v at e ⊢
    subst e
    rfl

structure AgF (a : Act) (hl : Value) (n7 : Nat) (n8 : Nat) (n9 : Nat) (n10 : Nat) (nt : Nat) : Prop where
  size : a.tmps.size = 96
  dfr : a.defers = []
  s2 : a.tmps[2]? = some (hl)
  s4 : a.tmps[4]? = some (.pointer (some ⟨nt, 0, none⟩))
  s7 : a.tmps[7]? = some (.pointer (some ⟨n7, 0, none⟩))
  s8 : a.tmps[8]? = some (.pointer (some ⟨n8, 0, none⟩))
  s9 : a.tmps[9]? = some (.pointer (some ⟨n9, 0, none⟩))
  s10 : a.tmps[10]? = some (.pointer (some ⟨n10, 0, none⟩))

set_option maxRecDepth 20000 in
theorem AgF.shape {a : Act} {hl : Value} {n7 : Nat} {n8 : Nat} {n9 : Nat} {n10 : Nat} {nt : Nat} (h : AgF a hl n7 n8 n9 n10 nt) : ∃ v : Nat → Value, a = ⟨#[v 0, v 1, hl, v 3, .pointer (some ⟨nt, 0, none⟩), v 5, v 6, .pointer (some ⟨n7, 0, none⟩), .pointer (some ⟨n8, 0, none⟩), .pointer (some ⟨n9, 0, none⟩), .pointer (some ⟨n10, 0, none⟩), v 11, v 12, v 13, v 14, v 15, v 16, v 17, v 18, v 19, v 20, v 21, v 22, v 23, v 24, v 25, v 26, v 27, v 28, v 29, v 30, v 31, v 32, v 33, v 34, v 35, v 36, v 37, v 38, v 39, v 40, v 41, v 42, v 43, v 44, v 45, v 46, v 47, v 48, v 49, v 50, v 51, v 52, v 53, v 54, v 55, v 56, v 57, v 58, v 59, v 60, v 61, v 62, v 63, v 64, v 65, v 66, v 67, v 68, v 69, v 70, v 71, v 72, v 73, v 74, v 75, v 76, v 77, v 78, v 79, v 80, v 81, v 82, v 83, v 84, v 85, v 86, v 87, v 88, v 89, v 90, v 91, v 92, v 93, v 94, v 95], []⟩ := by
  obtain ⟨v, hv, hd⟩ := ag_act a h.size h.dfr
  have e2 := hv 2 _ h.s2
  have e4 := hv 4 _ h.s4
  have e7 := hv 7 _ h.s7
  have e8 := hv 8 _ h.s8
  have e9 := hv 9 _ h.s9
  have e10 := hv 10 _ h.s10
  refine ⟨v, ?_⟩
  rw [hd]
  simp only [e2, e4, e7, e8, e9, e10]

theorem results_one {P : Program} {fn : Func} {w : World} {tmps : Array Value} {b : Bool} (h : fn.results = #[.tmp 6]) (h2 : tmps[6]? = some (.bool b)) : (results fn tmps).run P w = .ok (.bool b) w := by
  rw [Array.getElem?_eq_some_iff] at h2
  obtain ⟨l2, e2⟩ := h2
  simp [results, h, Array.getD, l2, e2]

set_option maxRecDepth 20000 in
set_option maxHeartbeats 8000000 in
theorem ag17_w {K : Act → World → Prop} {Q : Exit → Act → World → Prop} {a : Act} {w w8 : World} {hl : Value} {x : Ent} {ver : Int} {hv sv : Value} {dv : DecV} {epx : ByteArray} {n7 n8 n9 n10 nt : Nat} (H : Hid (AgW w x ver hv sv hl dv epx)) (hf : AgF a hl n7 n8 n9 n10 nt) (hF : Hid (FS w w8 x ver hv sv dv epx n7 n8 n9 n10 nt))
    (fin : ∀ a' w', a'.defers = [] → a'.tmps[6]? = some (.bool true) → Below w.heap.size w w' → K a' w') : ag17.wp Tryd.prog (Exit.then K Q) a w8 := by
  obtain ⟨vv, rfl⟩ := hf.shape
  have Hfin := Lib.hid fin
  refine wp_calm ?_
  clear hf fin
  dsimp only [ag17, ncl, ncr, ncb, nco, nct, nce, ncx, Tryd.f5]
  have A0 := hF.out
  go_region_held3 (fun w' => (w'.cell? ⟨n7, 0, none⟩ = some (.int .i64 x.number) ∧ w'.cell? ⟨n7, 1, none⟩ = some (.int .i64 ver) ∧ w'.cell? ⟨n7, 2, none⟩ = some (.int .i64 x.epoch) ∧ w'.cell? ⟨n7, 3, none⟩ = some (.string x.method) ∧ w'.cell? ⟨n7, 4, none⟩ = some (.string x.host) ∧ w'.cell? ⟨n7, 5, none⟩ = some (.string x.path) ∧ w'.cell? ⟨n7, 6, none⟩ = some (.int .u64 (x.a : Int)) ∧ w'.cell? ⟨n7, 7, none⟩ = some (.int .u64 (x.b : Int)) ∧ w'.cell? ⟨n7, 8, none⟩ = some (.int .i64 dv.k) ∧ w'.cell? ⟨n7, 9, none⟩ = some (.int .i64 dv.st) ∧ w'.cell? ⟨n7, 10, none⟩ = some (.string dv.rt) ∧ w'.cell? ⟨n7, 11, none⟩ = some (.int .i64 dv.ru) ∧ w'.cell? ⟨n7, 12, none⟩ = some (.string dv.svc) ∧ w'.cell? ⟨n7, 13, none⟩ = some (.string dv.ep) ∧ w'.cell? ⟨n7, 14, none⟩ = some (.int .i64 x.fin)) ∧ (w'.cell? ⟨n8, 0, none⟩ = some (.int .i64 (wrap64 (x.number + 1))) ∧ w'.cell? ⟨n8, 1, none⟩ = some (.int .i64 ver) ∧ w'.cell? ⟨n8, 2, none⟩ = some (.int .i64 (wrap64 (x.epoch + 1))) ∧ w'.cell? ⟨n8, 3, none⟩ = some (.string x.method) ∧ w'.cell? ⟨n8, 4, none⟩ = some (.string x.host) ∧ w'.cell? ⟨n8, 5, none⟩ = some (.string x.path) ∧ w'.cell? ⟨n8, 6, none⟩ = some (.int .u64 (x.a : Int)) ∧ w'.cell? ⟨n8, 7, none⟩ = some (.int .u64 (x.b : Int)) ∧ w'.cell? ⟨n8, 8, none⟩ = some (.int .i64 dv.k) ∧ w'.cell? ⟨n8, 9, none⟩ = some (.int .i64 dv.st) ∧ w'.cell? ⟨n8, 10, none⟩ = some (.string dv.rt) ∧ w'.cell? ⟨n8, 11, none⟩ = some (.int .i64 dv.ru) ∧ w'.cell? ⟨n8, 12, none⟩ = some (.string dv.svc) ∧ w'.cell? ⟨n8, 13, none⟩ = some (.string dv.ep) ∧ w'.cell? ⟨n8, 14, none⟩ = some (.int .i64 (wrap64 (7 - x.fin)))) ∧ (w'.cell? ⟨n9, 0, none⟩ = some (.int .i64 x.number) ∧ w'.cell? ⟨n9, 1, none⟩ = some (.int .i64 ver) ∧ w'.cell? ⟨n9, 2, none⟩ = some (.int .i64 x.epoch) ∧ w'.cell? ⟨n9, 3, none⟩ = some (.string x.method) ∧ w'.cell? ⟨n9, 4, none⟩ = some (.string x.host) ∧ w'.cell? ⟨n9, 5, none⟩ = some (.string x.path) ∧ w'.cell? ⟨n9, 6, none⟩ = some (.int .u64 (x.a : Int)) ∧ w'.cell? ⟨n9, 7, none⟩ = some (.int .u64 (x.b : Int)) ∧ w'.cell? ⟨n9, 8, none⟩ = some (.int .i64 dv.k) ∧ w'.cell? ⟨n9, 9, none⟩ = some (.int .i64 dv.st) ∧ w'.cell? ⟨n9, 10, none⟩ = some (.string dv.rt) ∧ w'.cell? ⟨n9, 11, none⟩ = some (.int .i64 dv.ru) ∧ w'.cell? ⟨n9, 12, none⟩ = some (.string dv.svc) ∧ w'.cell? ⟨n9, 13, none⟩ = some (.string epx) ∧ w'.cell? ⟨n9, 14, none⟩ = some (.int .i64 x.fin)) ∧ (w'.cell? ⟨n10, 0, none⟩ = some (.int .i64 x.number) ∧ w'.cell? ⟨n10, 1, none⟩ = some (.int .i64 ver) ∧ w'.cell? ⟨n10, 2, none⟩ = some (.int .i64 x.epoch) ∧ w'.cell? ⟨n10, 3, none⟩ = some (.string x.method) ∧ w'.cell? ⟨n10, 4, none⟩ = some (.string x.host) ∧ w'.cell? ⟨n10, 5, none⟩ = some (.string x.path) ∧ w'.cell? ⟨n10, 6, none⟩ = some (.int .u64 (x.a : Int)) ∧ w'.cell? ⟨n10, 7, none⟩ = some (.int .u64 (x.b : Int)) ∧ w'.cell? ⟨n10, 8, none⟩ = some (.int .i64 dv.k) ∧ w'.cell? ⟨n10, 9, none⟩ = some (.int .i64 (wrap64 (dv.st + 1))) ∧ w'.cell? ⟨n10, 10, none⟩ = some (.string dv.rt) ∧ w'.cell? ⟨n10, 11, none⟩ = some (.int .i64 dv.ru) ∧ w'.cell? ⟨n10, 12, none⟩ = some (.string dv.svc) ∧ w'.cell? ⟨n10, 13, none⟩ = some (.string dv.ep) ∧ w'.cell? ⟨n10, 14, none⟩ = some (.int .i64 x.fin)) ∧ (w'.cell? ⟨nt, 0, none⟩ = some (.int .i64 (wrap64 (ver + 1))) ∧ w'.cell? ⟨nt, 1, none⟩ = some (hv) ∧ w'.cell? ⟨nt, 2, none⟩ = some (sv)) ∧ Below w.heap.size w w')
    (first | exact fs_step A0 (Below.refl _ w8) | (refine fs_drew ?_; assumption) | (refine fs_step ?_ hb2; assumption) | assumption)
    (first
      | (go_at_call 24; refine (H.out.bf _).mono ?_; rintro e w' ⟨rfl, hb2⟩)
      | (go_at_call 23; (first | (with_reducible refine (H.out.an _ ?_).mono ?_) | (with_reducible refine (H.out.az _ ?_).mono ?_) | (with_reducible refine (H.out.aw _ ?_).mono ?_) | (with_reducible refine (H.out.ay _ ?_).mono ?_)); (first | exact (show _ ∧ _ ∧ _ ∧ _ ∧ _ ∧ Below w.heap.size w _ by assumption).2.2.2.2.2); rintro e w' ⟨rfl, hb2⟩))
  all_goals
    have hfin : Below w.heap.size w _ := (show _ ∧ _ ∧ _ ∧ _ ∧ _ ∧ Below w.heap.size w _ from by assumption).2.2.2.2.2
    have HB := Lib.hid hfin
    clear hfin
    refine Hfin.out _ _ rfl rfl HB.out




end Go.Proofs.YthpflfcgnaichaaDoor
