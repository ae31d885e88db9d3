/-
The reference's Refuse and Dial.
-/
import Derived.Test.YtibijonjjkknoaaNetRefT
set_option linter.unusedVariables false
set_option linter.unusedSimpArgs false
namespace Go.Proofs.Ytibijonjjkknoaa
open Go Go.RowKit

/-- The first place of a name. -/
def RS.hit (R : RS) (name : ByteArray) (k : Nat) : Prop := R.names[k]? = some name ∧ ∀ j, j < k → ∀ s, R.names[j]? = some s → s ≠ name
def RS.miss (R : RS) (name : ByteArray) : Prop := ∀ (j : Nat) s, R.names[j]? = some s → s ≠ name

theorem least {p : Nat → Prop} (h : ∃ k, p k) : ∃ k, p k ∧ ∀ j, j < k → ¬ p j := by
  obtain ⟨n, hn⟩ := h
  induction n using Nat.strongRecOn with
  | _ n ih =>
    by_cases hq : ∃ j, j < n ∧ p j
    · obtain ⟨j, hj, hp⟩ := hq
      exact ih j hj hp
    · exact ⟨n, hn, fun j hj hp => hq ⟨j, hj, hp⟩⟩

theorem hit_or_miss (R : RS) (name : ByteArray) : (∃ k, R.hit name k) ∨ R.miss name := by
  by_cases h : ∃ k : Nat, R.names[k]? = some name
  · left
    obtain ⟨k, hk, hm⟩ := least h
    exact ⟨k, hk, fun j hj s hs e => by subst e; exact hm j hj hs⟩
  · right
    intro j s hs e
    subst e
    exact h ⟨j, hs⟩

theorem row_frozen {w : World} {T n g c : Nat} {xs : List Value} (h : w.ownsRow 0 T 1 (.slice (some ⟨g, 0, none⟩) n c) n xs) (k : Nat) : w.frozen? ⟨g, k, none⟩ = false := by
  rcases h.2 with ⟨hv, _⟩ | ⟨g', cap, cur, hv, _, hg, _⟩
  · cases hv
  · simp only [Value.slice.injEq, Option.some.injEq, Addr.mk.injEq, and_true, true_and] at hv
    obtain ⟨rfl, rfl⟩ := hv
    exact frozen_blk hg k

theorem str_ne {s t : ByteArray} (h : s ≠ t) : (s.toList == t.toList) = false := by
  rw [beq_eq_false_iff_ne]
  intro e
  rw [ByteArray.toList_eq, ByteArray.toList_eq] at e
  exact h (ByteArray.ext (Array.toList_inj.1 e))

theorem wrap_k {k : Nat} (h : k ≤ 1099511627776) : wrap64 ((k : Int) + 1) = (k : Int) + 1 := by unfold wrap64; omega

theorem sinfo9 : (Try.prog.info? 9).map (fun i => (i.zero, i.size, i.bytes)) = some (some (.string ⟨#[]⟩), 1, 16) := by kernel_rfl
theorem sinfo3 : (Try.prog.info? 3).map (fun i => (i.zero, i.size, i.bytes)) = some (some (.int .i64 0), 1, 8) := by kernel_rfl
theorem sinfoC : (Try.prog.info? 81).map (fun i => (i.zero, i.size, i.bytes)) = some (some (.pointer none), 1, 8) := by kernel_rfl

theorem one_new (w : World) (v : Value) (T : TypeId) : ∀ j u, [v][j]? = some u → (w.alloc (.cells #[v] T)).cell? ((⟨w.heap.size, 0, none⟩ : Addr).add j) = some u := by
  intro j u h
  rw [show ((⟨w.heap.size, 0, none⟩ : Addr).add j) = ⟨w.heap.size, j, none⟩ by unfold Addr.add; split <;> simp_all, World.cell?_alloc_new]
  simpa using h

section
variable {w0 w : World} {It : Nat → Item} {r rb : Nat} {R : RS}

theorem rrefuse_nil (w : World) (name : ByteArray) (t : Int) : Calls Try.prog 23 #[.pointer none, .string name, .int .i64 t] w fun e w' => e = .returned (.int .i64 1) ∧ w' = w := by
  go_enter Try.func23, Try.ntmps23
  go_wp2
  go_ret
  exact ⟨rfl, rfl⟩

theorem rrefuse_arg (w : World) (rb : Nat) (name : ByteArray) (t : Int) (ht : t < 0) : Calls Try.prog 23 #[.pointer (some ⟨rb, 0, none⟩), .string name, .int .i64 t] w fun e w' => e = .returned (.int .i64 2) ∧ w' = w := by
  go_enter Try.func23, Try.ntmps23
  go_wp2
  go_ret
  exact ⟨rfl, rfl⟩

set_option maxHeartbeats 2000000 in
theorem rrefuse_hit (hB : Bg w0 w It) (h : RefIs It r rb R) (name : ByteArray) (t : Int) (ht : 0 ≤ t) {k0 : Nat} (hh : R.hit name k0) (hnt : R.names.length = R.times.length) (hsm : R.names.length ≤ 1099511627776) :
    Calls Try.prog 23 #[.pointer (some ⟨rb, 0, none⟩), .string name, .int .i64 t] w fun e w' => e = .returned (.int .i64 0) ∧ RPost w0 w It r rb { R with times := R.times.set k0 t } w' := by
  obtain ⟨cv, nv, tv, bs, vs, h⟩ := h
  have hk0 := (List.getElem?_eq_some_iff.1 hh.1).1
  obtain ⟨gn, cn, hnv⟩ := row_at0 (h.nrow hB) (by omega)
  obtain ⟨gt, ct, htv⟩ := row_at0 (h.trow hB) (by omega)
  have y1 : w.cell? ⟨rb, 1, none⟩ = some (.slice (some ⟨gn, 0, none⟩) R.names.length cn) := by rw [cell_blk (h.blk hB), hnv]; rfl
  have y2 : w.cell? ⟨rb, 2, none⟩ = some (.slice (some ⟨gt, 0, none⟩) R.times.length ct) := by rw [cell_blk (h.blk hB), htv]; rfl
  have Hn := Lib.hid (fun k s (hs : R.names[k]? = some s) => row_cell1 (by rw [← hnv]; exact h.nrow hB) (show (strVs R.names)[k]? = some (.string s) by unfold strVs; rw [List.getElem?_map, hs]; rfl))
  have Ht := Lib.hid (fun k x (hs : R.times[k]? = some x) => row_cell1 (by rw [← htv]; exact h.trow hB) (show (intVs R.times)[k]? = some (.int .i64 x) by unfold intVs; rw [List.getElem?_map, hs]; rfl))
  have Hf := Lib.hid (fun k => row_frozen (by rw [← htv]; exact h.trow hB) k)
  have Hfin := Lib.hid (h.retime hB htv (k := k0) (by omega) t)
  have Hh := Lib.hid hh
  have Hk := Lib.hid (And.intro hk0 (And.intro hnt hsm))
  rw [← hnt] at y2
  obtain ⟨n, hn⟩ : ∃ n, n = R.names.length := ⟨_, rfl⟩
  rw [← hn] at y1 y2
  have Hn0 := Lib.hid hn
  clear h hB hh hk0 hnt hsm hnv htv hn
  go_enter Try.func23, Try.ntmps23
  go_wp2
  go_loop [7] (fun i => ∃ k : Nat, i = .int .i64 (k : Int) ∧ Hid (k ≤ k0)) (fun i => k0 - (intOf i).toNat)
  case atStart => exact ⟨0, rfl, Lib.hid (Nat.zero_le _)⟩
  case round =>
    obtain ⟨k, rfl, H⟩ := hrel
    have b1 : (k : Int) < (n : Int) := by have h1 := H.out; have h2 := Hk.out.1; have h3 := Hn0.out; omega
    by_cases hk : k = k0
    · subst hk
      have y3 := Hn.out k name Hh.out.1
      have b2 : (name.toList == name.toList) = true := beq_self_eq_true _
      obtain ⟨x, hx⟩ : ∃ x, R.times[k]? = some x := ⟨_, List.getElem?_eq_getElem (by have h1 := Hk.out; omega)⟩
      have y4 := Ht.out k x hx
      have f4 := Hf.out k
      clear hx
      go_wp2
      go_ret
      exact ⟨rfl, Hfin.out⟩
    · obtain ⟨s, hs⟩ : ∃ s, R.names[k]? = some s := ⟨_, List.getElem?_eq_getElem (by have h1 := Hk.out; have h2 := H.out; omega)⟩
      have y3 := Hn.out k s hs
      have b2 := str_ne (Hh.out.2 k (by have := H.out; omega) s hs)
      have wk := wrap_k (show k ≤ 1099511627776 by have h1 := Hk.out; have h2 := H.out; omega)
      have Hgo := Lib.hid (show Value.int .i64 (wrap64 ((k : Int) + 1)) = .int .i64 ((k + 1 : Nat) : Int) by rw [wk]; rfl)
      have Hle := Lib.hid (show k + 1 ≤ k0 by have h2 := H.out; omega)
      have Hm := Lib.hid (show k0 - (intOf (.int .i64 (wrap64 ((k : Int) + 1)))).toNat < k0 - (intOf (.int .i64 (k : Int))).toNat by rw [wk]; show k0 - ((k : Int) + 1).toNat < k0 - (k : Int).toNat; have h2 := H.out; omega)
      clear hs hk wk
      go_wp2
      go_round
      case rel => exact ⟨k + 1, Hgo.out, Hle⟩
      case measure => exact Hm.out

set_option maxHeartbeats 4000000 in
theorem rrefuse_new (hB : Bg w0 w It) (h : RefIs It r rb R) (name : ByteArray) (t : Int) (ht : 0 ≤ t) (hh : R.miss name) (hnt : R.names.length = R.times.length) (hsm : R.names.length ≤ 1099511627776) :
    Calls Try.prog 23 #[.pointer (some ⟨rb, 0, none⟩), .string name, .int .i64 t] w fun e w' => e = .returned (.int .i64 0) ∧ RPost w0 w It r rb { R with names := R.names ++ [name], times := R.times ++ [t] } w' := by
  obtain ⟨cv, nv, tv, bs, vs, h⟩ := h
  obtain ⟨an, cn, hnv⟩ := row_slice (h.nrow hB)
  obtain ⟨at2, ct, htv⟩ := row_slice (h.trow hB)
  have y1 : w.cell? ⟨rb, 1, none⟩ = some (.slice an R.names.length cn) := by rw [cell_blk (h.blk hB), hnv]; rfl
  have Hn := Lib.hid (fun k s (hs : R.names[k]? = some s) => show ∃ g, an = some ⟨g, 0, none⟩ ∧ w.cell? ⟨g, k, none⟩ = some (.string s) from by
    obtain ⟨g, c, e⟩ := row_at0 (h.nrow hB) (Nat.lt_of_le_of_lt (Nat.zero_le _) (List.getElem?_eq_some_iff.1 hs).1)
    rw [hnv] at e
    simp only [Value.slice.injEq, true_and] at e
    obtain ⟨rfl, rfl⟩ := e
    exact ⟨g, rfl, row_cell1 (by rw [← hnv]; exact h.nrow hB) (show (strVs R.names)[k]? = some (.string s) by unfold strVs; rw [List.getElem?_map, hs]; rfl)⟩)
  have Hst := Lib.hid (fun w2 nv' q hr hg hn => h.appName hB (o := .cells #[.string name] 9) (w2 := w2) (nv' := nv') (q := q) name hr hg hn)
  have Hst2 := Lib.hid (fun It2 w3 (nv' : Value) (hB2 : Bg w0 w3 It2) (h2 : RefI It2 r rb { R with names := R.names ++ [name] } cv nv' tv bs vs) w4 tv' q hr hg hn => h2.appTime hB2 (o := .cells #[.int .i64 t] 3) (w2 := w4) (tv' := tv') (q := q) t hr hg hn)
  have Hown := Lib.hid (show (w.alloc (.cells #[.string name] 9)).ownsRow 0 9 1 (.slice an R.names.length cn) R.names.length (strVs R.names) from by rw [← hnv]; exact World.ownsRow.alloc (h.nrow hB) _)
  rw [hnv, htv] at Hst
  rw [htv] at Hst2
  have Hh := Lib.hid hh
  have Hk := Lib.hid (And.intro hnt hsm)
  obtain ⟨n, hn⟩ : ∃ n, n = R.names.length := ⟨_, rfl⟩
  have hn2 : R.times.length = n := by omega
  rw [← hn] at y1 Hown Hst
  rw [hn2] at Hst Hst2
  have Hn0 := Lib.hid hn
  have Hn2 := Lib.hid hn2
  have H63 := Lib.hid (show n + 1 ≤ maxLen by unfold maxLen; omega)
  have H16 := Lib.hid (show (n + 1) * 16 ≤ 140737488355328 by omega)
  have H8 := Lib.hid (show (n + 1) * 8 ≤ 140737488355328 by omega)
  clear h hB hh hnt hsm hnv htv hn hn2
  go_enter Try.func23, Try.ntmps23
  go_wp2
  go_loop [7] (fun i => ∃ k : Nat, i = .int .i64 (k : Int) ∧ Hid (k ≤ n)) (fun i => n - (intOf i).toNat)
  case atStart => exact ⟨0, rfl, Lib.hid (Nat.zero_le _)⟩
  case round =>
    obtain ⟨k, rfl, H⟩ := hrel
    by_cases hk : k < n
    · have b1 : (k : Int) < (n : Int) := by omega
      obtain ⟨s, hs⟩ : ∃ s, R.names[k]? = some s := ⟨_, List.getElem?_eq_getElem (by have h1 := Hn0.out; omega)⟩
      obtain ⟨g, rfl, y3⟩ := Hn.out k s hs
      have b2 := str_ne (Hh.out k s hs)
      have wk := wrap_k (show k ≤ 1099511627776 by have h1 := Hk.out; have h2 := Hn0.out; omega)
      have Hgo := Lib.hid (show Value.int .i64 (wrap64 ((k : Int) + 1)) = .int .i64 ((k + 1 : Nat) : Int) by rw [wk]; rfl)
      have Hle := Lib.hid (show k + 1 ≤ n by omega)
      have Hm := Lib.hid (show n - (intOf (.int .i64 (wrap64 ((k : Int) + 1)))).toNat < n - (intOf (.int .i64 (k : Int))).toNat by rw [wk]; show n - ((k : Int) + 1).toNat < n - (k : Int).toNat; omega)
      clear hs hk wk Hst Hst2 Hown H63 H16 H8
      go_wp2
      go_round
      case rel => exact ⟨k + 1, Hgo.out, Hle⟩
      case measure => exact Hm.out
    · have b1 : (n : Int) ≤ (k : Int) := by omega
      clear Hn Hh H hk
      go_wp2_with (at_builtin; first
        | (refine wpList_append_q rfl _ _ 46 rfl 9 (.string ⟨#[]⟩) 1 16 Try.underlying46 sinfo9 rfl (by decide) (.slice an n cn) n (strVs R.names) rfl Hown.out (some ⟨w.heap.size, 0, none⟩) 1 1 [.string name] rfl rfl (fun hn => by cases hn) (fun ad had => by obtain rfl := Option.some.inj had; exact one_new w _ _) (fun u hu => by obtain rfl := List.mem_singleton.1 hu; rfl) H63.out H16.out (n + 1) rfl ?_; intro ao2 c2 w2 own2 gr2 new2; obtain ⟨hblk, It2, hB2, h2, ho2, hm2, hn2⟩ := Hst.out w2 _ _ own2 gr2 new2; have t1 := cell_blk hblk 1; have t2 := cell_blk hblk 2; have f1 := frozen_blk hblk 1; have Hown3 := Lib.hid (show ((w2.setCell ⟨rb, 1, none⟩ (.slice ao2 (n + 1) c2)).alloc (.cells #[.int .i64 t] 3)).ownsRow 0 3 1 (.slice at2 n ct) n (intVs R.times) from World.ownsRow.alloc (by have := h2.trow hB2; rw [← Hn2.out]; rw [← Hn2.out] at this; exact this) _); have Hmid := Lib.hid (And.intro (Hst2.out It2 _ _ hB2 h2) (And.intro ho2 (And.intro hm2 hn2))); simp at t1 t2; clear own2 gr2 new2 hblk hB2 h2 ho2 hm2 hn2 Hst Hst2 Hown)
        | (refine wpList_append_q rfl _ _ 34 rfl 3 (.int .i64 0) 1 8 Try.underlying34 sinfo3 rfl (by decide) (.slice at2 n ct) n (intVs R.times) rfl Hown3.out (some ⟨w2.heap.size, 0, none⟩) 1 1 [.int .i64 t] rfl rfl (fun hn => by cases hn) (fun ad had => by obtain rfl := Option.some.inj had; have hh := one_new (w2.setCell ⟨rb, 1, none⟩ (.slice ao2 (n + 1) c2)) (.int .i64 t) 3; rw [World.size_setCell] at hh; exact hh) (fun u hu => by obtain rfl := List.mem_singleton.1 hu; rfl) H63.out H8.out (n + 1) rfl ?_; intro ao3 c3 w4 own3 gr3 new3; obtain ⟨hblk, hend⟩ := Hmid.out.1 w4 _ _ own3 gr3 new3; have u2 := cell_blk hblk 2; have g2 := frozen_blk hblk 2; have Hend := Lib.hid (hend.step Hmid.out.2.1 Hmid.out.2.2.1 Hmid.out.2.2.2); simp at u2; clear own3 gr3 new3 hblk hend))
      go_ret
      exact ⟨rfl, Hend.out⟩

end

end Go.Proofs.Ytibijonjjkknoaa
