/-
The reference's Dial and Accept.
-/
import Derived.Test.YtibijonjjkknoaaNetRefN
import Derived.Test.YtibijonjjkknoaaNetRefP
set_option linter.unusedVariables false
set_option linter.unusedSimpArgs false
namespace Go.Proofs.Ytibijonjjkknoaa
open Go Go.RowKit

section
variable {w0 w : World} {It : Nat → Item} {r rb : Nat} {R : RS}

theorem rdial_nil (w : World) (name : ByteArray) : Calls Try.prog 24 #[.pointer none, .string name] w fun e w' => e = .returned (.tuple #[.int .i64 (-1), .int .i64 1]) ∧ w' = w := by
  go_enter Try.func24, Try.ntmps24
  go_wp2
  go_ret2
  exact ⟨rfl, rfl⟩

theorem rdial_full (hB : Bg w0 w It) (h : RefIs It r rb R) (hfull : 4096 ≤ R.cs.length) (name : ByteArray) : Calls Try.prog 24 #[.pointer (some ⟨rb, 0, none⟩), .string name] w fun e w' => e = .returned (.tuple #[.int .i64 (-1), .int .i64 3]) ∧ w' = w := by
  obtain ⟨cv, nv, tv, bs, vs, h⟩ := h
  obtain ⟨ac, cc, hcv⟩ := row_slice (h.row hB)
  have y0 : w.cell? ⟨rb, 0, none⟩ = some (.slice ac bs.length cc) := by rw [cell_blk (h.blk hB), hcv]; rfl
  have b0 : (4096 : Int) ≤ (bs.length : Int) := by have := h.len; omega
  clear h hB hcv hfull
  go_enter Try.func24, Try.ntmps24
  go_wp2
  go_ret2
  exact ⟨rfl, rfl⟩

/-- What both lists hold, at one place. -/
theorem RefI.pair {cv nv tv : Value} {bs : List Nat} {vs : Nat → Nat → Value} (hB : Bg w0 w It) (h : RefI It r rb R cv nv tv bs vs) {an at2 : Option Addr} {n cn ct : Nat} (hn : n = R.names.length) (hnt : R.names.length = R.times.length) (hnv : nv = .slice an n cn) (htv : tv = .slice at2 n ct) {k : Nat} (hk : k < n) :
    ∃ s t gn gt, R.names[k]? = some s ∧ R.times[k]? = some t ∧ an = some ⟨gn, 0, none⟩ ∧ at2 = some ⟨gt, 0, none⟩ ∧ w.cell? ⟨gn, k, none⟩ = some (.string s) ∧ w.cell? ⟨gt, k, none⟩ = some (.int .i64 t) ∧ w.frozen? ⟨gt, k, none⟩ = false := by
  obtain ⟨s, hs⟩ : ∃ s, R.names[k]? = some s := ⟨_, List.getElem?_eq_getElem (by omega)⟩
  obtain ⟨t, ht⟩ : ∃ t, R.times[k]? = some t := ⟨_, List.getElem?_eq_getElem (by omega)⟩
  have r1 := h.nrow hB
  have r2 := h.trow hB
  rw [hnv, ← hn] at r1
  rw [htv, ← hnt, ← hn] at r2
  obtain ⟨gn, c1, e1⟩ := row_at0 r1 (by omega)
  obtain ⟨gt, c2, e2⟩ := row_at0 r2 (by omega)
  simp only [Value.slice.injEq, true_and] at e1 e2
  obtain ⟨rfl, rfl⟩ := e1
  obtain ⟨rfl, rfl⟩ := e2
  exact ⟨s, t, gn, gt, hs, ht, rfl, rfl, row_cell1 r1 (by unfold strVs; rw [List.getElem?_map, hs]; rfl), row_cell1 r2 (by unfold intVs; rw [List.getElem?_map, ht]; rfl), row_frozen r2 k⟩

set_option maxRecDepth 20000 in
set_option maxHeartbeats 4000000 in
theorem rdial_refused (hB : Bg w0 w It) (h : RefIs It r rb R) (hs : R.cs.length < 4096) (name : ByteArray) {k0 : Nat} {t0 : Int} (hh : R.hit name k0) (ht : R.times[k0]? = some t0) (hpos : 0 < t0) (hbig : t0 ≤ 9223372036854775807) (hnt : R.names.length = R.times.length) (hsm : R.names.length ≤ 1099511627776) :
    Calls Try.prog 24 #[.pointer (some ⟨rb, 0, none⟩), .string name] w fun e w' => e = .returned (.tuple #[.int .i64 (-1), .int .i64 41]) ∧ RPost w0 w It r rb { R with times := R.times.set k0 (t0 - 1) } w' := by
  obtain ⟨cv, nv, tv, bs, vs, h⟩ := h
  obtain ⟨ac, cc, hcv⟩ := row_slice (h.row hB)
  obtain ⟨an, cn, hnv⟩ := row_slice (h.nrow hB)
  obtain ⟨at2, ct, htv⟩ := row_slice (h.trow hB)
  have hk0 := (List.getElem?_eq_some_iff.1 hh.1).1
  have y0 : w.cell? ⟨rb, 0, none⟩ = some (.slice ac bs.length cc) := by rw [cell_blk (h.blk hB), hcv]; rfl
  have b0 : (bs.length : Int) < (4096 : Int) := by have := h.len; omega
  obtain ⟨n, hn⟩ : ∃ n, n = R.names.length := ⟨_, rfl⟩
  rw [← hnt] at htv
  rw [← hn] at hnv htv
  have y1 : w.cell? ⟨rb, 1, none⟩ = some (.slice an n cn) := by rw [cell_blk (h.blk hB), hnv]; rfl
  have y2 : w.cell? ⟨rb, 2, none⟩ = some (.slice at2 n ct) := by rw [cell_blk (h.blk hB), htv]; rfl
  have Hn := Lib.hid (fun k (hk : k < n) => h.pair hB hn hnt hnv htv hk)
  have Hfin := Lib.hid (fun gt (e : at2 = some ⟨gt, 0, none⟩) => h.retime hB (k := k0) (g := gt) (n := n) (c := ct) (by rw [htv, e]) (by omega) (t0 - 1))
  have Hh := Lib.hid hh
  have Ht := Lib.hid ht
  have Hk := Lib.hid (show n ≤ 1099511627776 ∧ k0 < n by omega)
  have w1 : wrap64 (t0 - 1) = t0 - 1 := by unfold wrap64; omega
  have Hw := Lib.hid w1
  clear h hB hcv hnv htv hn hnt hsm hs hh ht hk0 hbig w1
  go_enter Try.func24, Try.ntmps24
  go_wp2
  go_loop [6] (fun i => ∃ k : Nat, i = .int .i64 (k : Int) ∧ Hid (k ≤ k0)) (fun i => k0 - (intOf i).toNat)
  case atStart => exact ⟨0, rfl, Lib.hid (Nat.zero_le _)⟩
  case round =>
    obtain ⟨k, rfl, H⟩ := hrel
    have b1 : (k : Int) < (n : Int) := by have h1 := H.out; have h2 := Hk.out; omega
    obtain ⟨s, t, gn, gt, hs, ht, rfl, rfl, y3, y4, f4⟩ := Hn.out k (by omega)
    by_cases hk : k = k0
    · subst hk
      obtain rfl : name = s := Option.some.inj (Hh.out.1.symm.trans hs)
      obtain rfl : t0 = t := Option.some.inj (Ht.out.symm.trans ht)
      have b2 : (name.toList == name.toList) = true := beq_self_eq_true _
      have Hend := Lib.hid (Hfin.out gt rfl)
      rw [← Hw.out] at Hend
      clear hs ht Hfin Hn
      go_wp2
      go_ret2
      exact ⟨rfl, by have := Hend.out; rw [Hw.out] at this ⊢; exact this⟩
    · have b2 := str_ne (Hh.out.2 k (by have := H.out; omega) s hs)
      have wk := wrap_k (show k ≤ 1099511627776 by have h1 := Hk.out; omega)
      have Hgo := Lib.hid (show Value.int .i64 (wrap64 ((k : Int) + 1)) = .int .i64 ((k + 1 : Nat) : Int) by rw [wk]; rfl)
      have Hle := Lib.hid (show k + 1 ≤ k0 by have h2 := H.out; omega)
      have Hm := Lib.hid (show k0 - (intOf (.int .i64 (wrap64 ((k : Int) + 1)))).toNat < k0 - (intOf (.int .i64 (k : Int))).toNat by rw [wk]; show k0 - ((k : Int) + 1).toNat < k0 - (k : Int).toNat; have h2 := H.out; omega)
      clear hs ht hk wk Hfin Hn
      go_wp2
      go_round
      case rel => exact ⟨k + 1, Hgo.out, Hle⟩
      case measure => exact Hm.out

set_option maxRecDepth 20000 in
set_option maxHeartbeats 4000000 in
theorem rdial_new (hB : Bg w0 w It) (h : RefIs It r rb R) (hs : R.cs.length < 4096) (name : ByteArray) (hno : ∀ (j : Nat) s t, R.names[j]? = some s → R.times[j]? = some t → s = name → t ≤ 0) (hnt : R.names.length = R.times.length) (hsm : R.names.length ≤ 1099511627776) :
    Calls Try.prog 24 #[.pointer (some ⟨rb, 0, none⟩), .string name] w fun e w' => e = .returned (.tuple #[.int .i64 (R.cs.length : Int), .int .i64 0]) ∧ RPost w0 w It r rb { R with cs := R.cs ++ [RC.new name] } w' := by
  obtain ⟨cv, nv, tv, bs, vs, h⟩ := h
  obtain ⟨ac, cc, hcv⟩ := row_slice (h.row hB)
  obtain ⟨an, cn, hnv⟩ := row_slice (h.nrow hB)
  obtain ⟨at2, ct, htv⟩ := row_slice (h.trow hB)
  have y0 : w.cell? ⟨rb, 0, none⟩ = some (.slice ac bs.length cc) := by rw [cell_blk (h.blk hB), hcv]; rfl
  have f0 := frozen_blk (h.blk hB) 0
  have b0 : (bs.length : Int) < (4096 : Int) := by have := h.len; omega
  obtain ⟨n, hn⟩ : ∃ n, n = R.names.length := ⟨_, rfl⟩
  rw [← hnt] at htv
  rw [← hn] at hnv htv
  have y1 : w.cell? ⟨rb, 1, none⟩ = some (.slice an n cn) := by rw [cell_blk (h.blk hB), hnv]; rfl
  have y2 : w.cell? ⟨rb, 2, none⟩ = some (.slice at2 n ct) := by rw [cell_blk (h.blk hB), htv]; rfl
  have Hn := Lib.hid (fun k (hk : k < n) => h.pair hB hn hnt hnv htv hk)
  have Hno := Lib.hid hno
  have Hk := Lib.hid (show n ≤ 1099511627776 by omega)
  have Hst := Lib.hid (fun w2 cv' q o hr hg hnw => h.dialed hB name (w2 := w2) (cv' := cv') (q := q) rfl (o := o) hr hg hnw)
  rw [hcv] at Hst
  obtain ⟨nb, hnb⟩ : ∃ nb, nb = bs.length := ⟨_, rfl⟩
  have Hl := Lib.hid (show nb = R.cs.length by rw [hnb]; exact h.len)
  have Hown := Lib.hid (show ((w.alloc ((RC.new name).obj (.slice none 0 0) (.slice none 0 0))).alloc (.cells #[.pointer (some ⟨w.heap.size, 0, none⟩)] 81)).ownsRow 0 81 1 (.slice ac nb cc) nb (ptrs bs) from by rw [hnb, ← hcv]; exact World.ownsRow.alloc (World.ownsRow.alloc (h.row hB) _) _)
  rw [← hnb] at y0 b0 Hst
  have H63 := Lib.hid (show nb + 1 ≤ maxLen by unfold maxLen; omega)
  have H8 := Lib.hid (show (nb + 1) * 8 ≤ 140737488355328 by omega)
  have Hret := Lib.hid (show wrap64 (((nb + 1 : Nat) : Int) - 1) = (R.cs.length : Int) by have := Hl.out; unfold wrap64; omega)
  have Hret2 := Lib.hid (show wrap64 (((nb : Nat) : Int) + 1 - 1) = (R.cs.length : Int) by have := Hl.out; unfold wrap64; omega)
  have Hret3 := Lib.hid (show (nb : Int) = (R.cs.length : Int) by have := Hl.out; omega)
  have Hnews := Lib.hid (show ∀ j u, [Value.pointer (some ⟨w.heap.size, 0, none⟩)][j]? = some u → ((w.alloc ((RC.new name).obj (.slice none 0 0) (.slice none 0 0))).alloc (.cells #[.pointer (some ⟨w.heap.size, 0, none⟩)] 81)).cell? ((⟨w.heap.size + 1, 0, none⟩ : Addr).add j) = some u from by
    have hh := one_new (w.alloc ((RC.new name).obj (.slice none 0 0) (.slice none 0 0))) (.pointer (some ⟨w.heap.size, 0, none⟩)) 81
    rw [World.size_alloc] at hh
    exact hh)
  clear h hB hcv hnv htv hn hnt hsm hs hno hnb
  go_enter Try.func24, Try.ntmps24
  go_wp2
  go_loop [6] (fun i => ∃ k : Nat, i = .int .i64 (k : Int) ∧ Hid (k ≤ n)) (fun i => n - (intOf i).toNat)
  case atStart => exact ⟨0, rfl, Lib.hid (Nat.zero_le _)⟩
  case round =>
    obtain ⟨k, rfl, H⟩ := hrel
    by_cases hk : k < n
    · have b1 : (k : Int) < (n : Int) := by omega
      obtain ⟨s, t, gn, gt, hs, ht, rfl, rfl, y3, y4, f4⟩ := Hn.out k hk
      have wk := wrap_k (show k ≤ 1099511627776 by have h1 := Hk.out; omega)
      have Hgo := Lib.hid (show Value.int .i64 (wrap64 ((k : Int) + 1)) = .int .i64 ((k + 1 : Nat) : Int) by rw [wk]; rfl)
      have Hle := Lib.hid (show k + 1 ≤ n by have h2 := H.out; omega)
      have Hm := Lib.hid (show n - (intOf (.int .i64 (wrap64 ((k : Int) + 1)))).toNat < n - (intOf (.int .i64 (k : Int))).toNat by rw [wk]; show n - ((k : Int) + 1).toNat < n - (k : Int).toNat; have h2 := H.out; omega)
      by_cases hsn : s = name
      · subst hsn
        have b2 : (s.toList == s.toList) = true := beq_self_eq_true _
        have b3 : t ≤ 0 := Hno.out k s t hs ht rfl
        clear hs ht hk wk Hn Hst Hown H63 H8 Hret Hret2 Hret3 Hnews
        go_wp2
        go_round
        case rel => exact ⟨k + 1, Hgo.out, Hle⟩
        case measure => exact Hm.out
      · have b2 := str_ne hsn
        clear hs ht hk wk Hn Hst Hown H63 H8 Hret Hret2 Hret3 Hnews
        go_wp2
        go_round
        case rel => exact ⟨k + 1, Hgo.out, Hle⟩
        case measure => exact Hm.out
    · have b1 : (n : Int) ≤ (k : Int) := by omega
      clear Hn Hno H hk
      go_wp2_with (at_builtin; refine wpList_append_q rfl _ _ 45 rfl 81 (.pointer none) 1 8 Try.underlying45 sinfoC rfl (by decide) (.slice ac nb cc) nb (ptrs bs) rfl Hown.out (some ⟨w.heap.size + 1, 0, none⟩) 1 1 [.pointer (some ⟨w.heap.size, 0, none⟩)] rfl rfl (fun hn => by cases hn) (fun ad had => by obtain rfl := Option.some.inj had; exact Hnews.out) (fun u hu => by obtain rfl := List.mem_singleton.1 hu; rfl) H63.out H8.out (nb + 1) rfl ?_; intro ao2 c2 w2 own2 gr2 new2; obtain ⟨hblk, hend⟩ := Hst.out w2 _ _ _ own2 gr2 new2; have t0 := cell_blk hblk 0; have g0 := frozen_blk hblk 0; simp at t0; have Hend := Lib.hid hend; clear own2 gr2 new2 hblk hend)
      go_ret2
      exact ⟨by first | exact congrArg (fun z => Ending.returned (.tuple #[.int .i64 z, .int .i64 0])) Hret.out | exact congrArg (fun z => Ending.returned (.tuple #[.int .i64 z, .int .i64 0])) Hret2.out | exact congrArg (fun z => Ending.returned (.tuple #[.int .i64 z, .int .i64 0])) Hret3.out, Hend.out⟩


/-- Is it waiting, under that name? -/
def RC.waits (c : RC) (name : ByteArray) : Prop := c.waiting = true ∧ c.cut = false ∧ c.name = name

theorem RefI.at {cv nv tv : Value} {bs : List Nat} {vs : Nat → Nat → Value} (hB : Bg w0 w It) (h : RefI It r rb R cv nv tv bs vs) {ac : Option Addr} {n cc : Nat} (hn : n = bs.length) (hcv : cv = .slice ac n cc) {k : Nat} (hk : k < n) :
    ∃ c b g, R.cs[k]? = some c ∧ bs[k]? = some b ∧ ac = some ⟨g, 0, none⟩ ∧ w.cell? ⟨g, k, none⟩ = some (.pointer (some ⟨b, 0, none⟩)) ∧ w.heap[b]? = some (c.obj (vs k 0) (vs k 1)) := by
  obtain ⟨c, hc⟩ : ∃ c, R.cs[k]? = some c := ⟨_, List.getElem?_eq_getElem (by have := h.len; omega)⟩
  obtain ⟨b, g, cc2, hb, q⟩ := h.look hB hc
  have y0 : w.cell? ⟨rb, 0, none⟩ = some cv := by rw [cell_blk (h.blk hB)]; rfl
  have e := y0.symm.trans q.h0
  rw [hcv] at e
  simp only [Option.some.injEq, Value.slice.injEq] at e
  exact ⟨c, b, g, hc, hb, e.1, q.hi, q.blk⟩

theorem raccept_nil (w : World) (name : ByteArray) : Calls Try.prog 26 #[.pointer none, .string name] w fun e w' => e = .returned (.tuple #[.int .i64 0, .bool false]) ∧ w' = w := by
  go_enter Try.func26, Try.ntmps26
  go_wp2
  go_ret2
  exact ⟨rfl, rfl⟩

set_option maxRecDepth 20000 in
set_option maxHeartbeats 4000000 in
theorem raccept_none (hB : Bg w0 w It) (h : RefIs It r rb R) (name : ByteArray) (hno : ∀ (j : Nat) c, R.cs[j]? = some c → ¬ c.waits name) (hsm : R.cs.length ≤ 1099511627776) :
    Calls Try.prog 26 #[.pointer (some ⟨rb, 0, none⟩), .string name] w fun e w' => e = .returned (.tuple #[.int .i64 0, .bool false]) ∧ w' = w := by
  obtain ⟨cv, nv, tv, bs, vs, h⟩ := h
  obtain ⟨ac, cc, hcv⟩ := row_slice (h.row hB)
  obtain ⟨n, hn⟩ : ∃ n, n = bs.length := ⟨_, rfl⟩
  rw [← hn] at hcv
  have y0 : w.cell? ⟨rb, 0, none⟩ = some (.slice ac n cc) := by rw [cell_blk (h.blk hB), hcv]; rfl
  have Hn := Lib.hid (fun k (hk : k < n) => h.at hB hn hcv hk)
  have Hno := Lib.hid hno
  have Hk := Lib.hid (show n ≤ 1099511627776 by have := h.len; omega)
  clear h hB hcv hn hno hsm
  go_enter Try.func26, Try.ntmps26
  go_wp2
  go_loop [6] (fun i => ∃ k : Nat, i = .int .i64 (k : Int) ∧ Hid (k ≤ n)) (fun i => n - (intOf i).toNat)
  case atStart => exact ⟨0, rfl, Lib.hid (Nat.zero_le _)⟩
  case round =>
    obtain ⟨k, rfl, H⟩ := hrel
    by_cases hk : k < n
    · have b1 : (k : Int) < (n : Int) := by omega
      obtain ⟨c, b, g, hc, hb, rfl, y1, y2⟩ := Hn.out k hk
      have hw := Hno.out k c hc
      have t0 : w.cell? ⟨b, 0, none⟩ = some (.string c.name) := by rw [cell_blk y2]; rfl
      have t1 : w.cell? ⟨b, 1, none⟩ = some (.bool c.waiting) := by rw [cell_blk y2]; rfl
      have t2 : w.cell? ⟨b, 2, none⟩ = some (.bool c.cut) := by rw [cell_blk y2]; rfl
      have wk := wrap_k (show k ≤ 1099511627776 by have h1 := Hk.out; omega)
      have Hgo := Lib.hid (show Value.int .i64 (wrap64 ((k : Int) + 1)) = .int .i64 ((k + 1 : Nat) : Int) by rw [wk]; rfl)
      have Hle := Lib.hid (show k + 1 ≤ n by have h2 := H.out; omega)
      have Hm := Lib.hid (show n - (intOf (.int .i64 (wrap64 ((k : Int) + 1)))).toNat < n - (intOf (.int .i64 (k : Int))).toNat by rw [wk]; show n - ((k : Int) + 1).toNat < n - (k : Int).toNat; have h2 := H.out; omega)
      clear hk wk Hn Hno y2 hb hc
      cases h1 : c.waiting with
      | false =>
        rw [h1] at t1
        go_wp2
        go_round
        case rel => exact ⟨k + 1, Hgo.out, Hle⟩
        case measure => exact Hm.out
      | true =>
        rw [h1] at t1
        cases h2 : c.cut with
        | true =>
          rw [h2] at t2
          go_wp2
          go_round
          case rel => exact ⟨k + 1, Hgo.out, Hle⟩
          case measure => exact Hm.out
        | false =>
          rw [h2] at t2
          have b2 := str_ne (show c.name ≠ name from fun e => hw ⟨h1, h2, e⟩)
          go_wp2
          go_round
          case rel => exact ⟨k + 1, Hgo.out, Hle⟩
          case measure => exact Hm.out
    · have b1 : (n : Int) ≤ (k : Int) := by omega
      clear Hn Hno H hk
      go_wp2
      go_ret2
      exact ⟨rfl, rfl⟩

set_option maxRecDepth 20000 in
set_option maxHeartbeats 4000000 in
theorem raccept_hit (hB : Bg w0 w It) (h : RefIs It r rb R) (name : ByteArray) {k0 : Nat} {c0 : RC} (hc0 : R.cs[k0]? = some c0) (hw0 : c0.waits name) (hno : ∀ j, j < k0 → ∀ c, R.cs[j]? = some c → ¬ c.waits name) (hsm : R.cs.length ≤ 1099511627776) :
    Calls Try.prog 26 #[.pointer (some ⟨rb, 0, none⟩), .string name] w fun e w' => e = .returned (.tuple #[.int .i64 (k0 : Int), .bool true]) ∧ RPost w0 w It r rb { R with cs := R.cs.set k0 { c0 with waiting := false } } w' := by
  obtain ⟨cv, nv, tv, bs, vs, h⟩ := h
  obtain ⟨ac, cc, hcv⟩ := row_slice (h.row hB)
  obtain ⟨n, hn⟩ : ∃ n, n = bs.length := ⟨_, rfl⟩
  rw [← hn] at hcv
  have hk0 := (List.getElem?_eq_some_iff.1 hc0).1
  have y0 : w.cell? ⟨rb, 0, none⟩ = some (.slice ac n cc) := by rw [cell_blk (h.blk hB), hcv]; rfl
  have Hn := Lib.hid (fun k (hk : k < n) => h.at hB hn hcv hk)
  have Hno := Lib.hid hno
  have Hk := Lib.hid (show n ≤ 1099511627776 ∧ k0 < n by have := h.len; omega)
  have Hc0 := Lib.hid hc0
  have Hw0 := Lib.hid hw0
  have Hfin := Lib.hid (fun b (hb : bs[k0]? = some b) (hblk : w.heap[b]? = some (c0.obj (vs k0 0) (vs k0 1))) => RefI.turn hB h hb hc0 { c0 with waiting := false } rfl ((Mod.refl (fun g => g = b) w).setCell ⟨b, 1, none⟩ (.bool false) (fun _ => rfl)) (by rw [set_blk hblk 1 (.bool false)]; rfl))
  clear h hB hcv hn hno hsm hc0 hw0 hk0
  go_enter Try.func26, Try.ntmps26
  go_wp2
  go_loop [6] (fun i => ∃ k : Nat, i = .int .i64 (k : Int) ∧ Hid (k ≤ k0)) (fun i => k0 - (intOf i).toNat)
  case atStart => exact ⟨0, rfl, Lib.hid (Nat.zero_le _)⟩
  case round =>
    obtain ⟨k, rfl, H⟩ := hrel
    have b1 : (k : Int) < (n : Int) := by have h1 := H.out; have h2 := Hk.out; omega
    obtain ⟨c, b, g, hc, hb, rfl, y1, y2⟩ := Hn.out k (by omega)
    have t0 : w.cell? ⟨b, 0, none⟩ = some (.string c.name) := by rw [cell_blk y2]; rfl
    have t1 : w.cell? ⟨b, 1, none⟩ = some (.bool c.waiting) := by rw [cell_blk y2]; rfl
    have t2 : w.cell? ⟨b, 2, none⟩ = some (.bool c.cut) := by rw [cell_blk y2]; rfl
    by_cases hk : k = k0
    · subst hk
      obtain rfl : c0 = c := Option.some.inj (Hc0.out.symm.trans hc)
      obtain ⟨h1, h2, h3⟩ := Hw0.out
      rw [h1] at t1
      rw [h2] at t2
      rw [h3] at t0
      have b2 : (name.toList == name.toList) = true := beq_self_eq_true _
      have f1 := frozen_blk y2 1
      have Hend := Lib.hid (Hfin.out b hb y2)
      clear hc hb y2 Hfin Hn Hno h1 h2 h3
      go_wp2
      go_ret2
      exact ⟨rfl, Hend.out⟩
    · have hw := Hno.out k (by have := H.out; omega) c hc
      have wk := wrap_k (show k ≤ 1099511627776 by have h1 := Hk.out; omega)
      have Hgo := Lib.hid (show Value.int .i64 (wrap64 ((k : Int) + 1)) = .int .i64 ((k + 1 : Nat) : Int) by rw [wk]; rfl)
      have Hle := Lib.hid (show k + 1 ≤ k0 by have h2 := H.out; omega)
      have Hm := Lib.hid (show k0 - (intOf (.int .i64 (wrap64 ((k : Int) + 1)))).toNat < k0 - (intOf (.int .i64 (k : Int))).toNat by rw [wk]; show k0 - ((k : Int) + 1).toNat < k0 - (k : Int).toNat; have h2 := H.out; omega)
      clear hk wk Hn Hno y2 hb hc Hfin
      cases h1 : c.waiting with
      | false =>
        rw [h1] at t1
        go_wp2
        go_round
        case rel => exact ⟨k + 1, Hgo.out, Hle⟩
        case measure => exact Hm.out
      | true =>
        rw [h1] at t1
        cases h2 : c.cut with
        | true =>
          rw [h2] at t2
          go_wp2
          go_round
          case rel => exact ⟨k + 1, Hgo.out, Hle⟩
          case measure => exact Hm.out
        | false =>
          rw [h2] at t2
          have b2 := str_ne (show c.name ≠ name from fun e => hw ⟨h1, h2, e⟩)
          go_wp2
          go_round
          case rel => exact ⟨k + 1, Hgo.out, Hle⟩
          case measure => exact Hm.out

end

end Go.Proofs.Ytibijonjjkknoaa
