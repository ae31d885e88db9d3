/-
TrailLines' walk.
-/
import Derived.Test.YthpflfcgnaichaaDoorTraRefParse
import Derived.Test.YthpflfcgnaichaaDoorTraEnts3
set_option linter.unusedVariables false
set_option linter.unusedSimpArgs false
namespace Go.Proofs.YthpflfcgnaichaaDoor
open Go Go.RowKit

set_option maxHeartbeats 4000000 in
set_option maxRecDepth 20000 in
theorem rline_no (w : World) (x : Ent) (hno : ¬ (x.may = true ∧ 0 ≤ x.number)) :
    Calls Tryd.prog 26 #[.agg #[.int .i64 x.number, .int .i64 x.version, .int .i64 x.epoch, .string x.method, .string x.host, .string x.path, .int .u64 (x.a : Int), .int .u64 (x.b : Int), .int .i64 x.kind, .int .i64 x.status, .string x.route, .int .i64 x.rule, .string x.service, .string x.endp, .int .i64 x.fin]] w fun r w' => r = .returned (.tuple #[.string ⟨#[]⟩, .int .i64 2]) ∧ Below w.heap.size w w' := by
  have Hm := Lib.hid (fun w1 => refMay_walk w1 x)
  unfold Ent.v at Hm
  cases hmay : x.may with
  | false =>
    rw [hmay] at Hm
    clear hno hmay
    go_enter Tryd.func26, Tryd.ntmps26
    go_wp2_with fail
    refine (Hm.out _).mono ?_
    rintro r w1 ⟨rfl, hb⟩
    have Hb := Lib.hid (show Below w.heap.size w w1 from ((Below.refl _ w).alloc (Nat.le_refl _) _).trans (hb.mono (by simp)))
    clear hb Hm
    go_wp2
    go_ret2
    exact ⟨rfl, Hb.out⟩
  | true =>
    have hn : x.number < 0 := by
      rw [hmay] at hno
      have : ¬ 0 ≤ x.number := fun h => hno ⟨rfl, h⟩
      omega
    rw [hmay] at Hm
    clear hno hmay
    go_enter Tryd.func26, Tryd.ntmps26
    go_wp2_with fail
    refine (Hm.out _).mono ?_
    rintro r w1 ⟨rfl, hb⟩
    have c0 : w1.cell? ⟨w.heap.size, 0, none⟩ = some (.int .i64 x.number) := by rw [hb.cell (by simp), World.cell?_alloc_new]; rfl
    have Hb := Lib.hid (show Below w.heap.size w w1 from ((Below.refl _ w).alloc (Nat.le_refl _) _).trans (hb.mono (by simp)))
    clear hb Hm
    go_wp2
    go_ret2
    exact ⟨rfl, Hb.out⟩

theorem rline_all (w : World) (x : Ent) (hx : x.Fit) :
    Calls Tryd.prog 26 #[.agg #[.int .i64 x.number, .int .i64 x.version, .int .i64 x.epoch, .string x.method, .string x.host, .string x.path, .int .u64 (x.a : Int), .int .u64 (x.b : Int), .int .i64 x.kind, .int .i64 x.status, .string x.route, .int .i64 x.rule, .string x.service, .string x.endp, .int .i64 x.fin]] w fun r w' => r = .returned (.tuple #[.string (lineOf x).1, .int .i64 (lineOf x).2]) ∧ Below w.heap.size w w' := by
  unfold lineOf
  by_cases h : x.may = true ∧ 0 ≤ x.number
  · rw [if_pos h]
    exact rline_yes w x hx h.1 h.2
  · rw [if_neg h]
    exact rline_no w x h

set_option maxHeartbeats 4000000 in
set_option maxRecDepth 20000 in
theorem lines_walk (w : World) (x : Ent) (hx : x.Fit) (hg : Glob w) (htab : Tab w) (t : ByteArray) (ht : t.size ≤ 10000000) :
    Calls Tryd.prog 6 #[.agg #[.int .i64 x.number, .int .i64 x.version, .int .i64 x.epoch, .string x.method, .string x.host, .string x.path, .int .u64 (x.a : Int), .int .u64 (x.b : Int), .int .i64 x.kind, .int .i64 x.status, .string x.route, .int .i64 x.rule, .string x.service, .string x.endp, .int .i64 x.fin], .string t] w fun r w' => r = .returned (.bool true) ∧ Below w.heap.size w w' := by
  have Ho := Lib.hid (fun w1 => own_walk w1 x)
  unfold Ent.v at Ho
  have Hl := Lib.hid (fun w1 (hb : Below w.heap.size w w1) => pline_walk w1 x hx (tab_later htab hb))
  have Hr := Lib.hid (fun w1 => rline_all w1 x hx)
  have Hp := Lib.hid (fun w1 (hb : Below w.heap.size w w1) => parse_c w1 t (by omega) (Seg.of_len t.size _ (by rw [size_list]; exact Nat.le_refl _) (by rw [size_list]; omega)) (glob_later hg hb) (tab_later htab hb))
  have Hq := Lib.hid (fun w1 => rparse_c w1 t ht)
  have Ht := Lib.hid ht
  clear hx hg htab ht
  generalize lineOf x = lf at *
  obtain ⟨l, f⟩ := lf
  dsimp only at Hl Hr
  have t1 : (l.toList == l.toList) = true := beq_self_eq_true _
  have t2 : (f == f) = true := beq_self_eq_true _
  go_enter Tryd.func6, Tryd.ntmps6
  go_wp2_with fail
  refine (Ho.out _).mono ?_
  rintro r w1 ⟨rfl, hb⟩
  have hz0 : (w.alloc (Obj15 x 32)).heap[w.heap.size]? = some (Obj15 x 32) := alloc_new _
  have hsz : (w.alloc (Obj15 x 32)).heap.size = w.heap.size + 1 := by simp
  have hb1 : Below w.heap.size w w1 := ((Below.refl _ w).alloc (Nat.le_refl _) (Obj15 x 32)).trans (Below.mono (B := (w.alloc (Obj15 x 32)).heap.size) hb (by omega))
  have hz1 : w1.heap[w.heap.size]? = some (Obj15 x 32) := (hb.block w.heap.size (by show w.heap.size < (w.alloc (Obj15 x 32)).heap.size; omega)).trans hz0
  have Hl1 := Lib.hid (Hl.out w1 hb1)
  have H1 := Lib.hid (And.intro hb1 hz1)
  clear hb hz0 hsz hb1 hz1 Hl Ho
  go_wp2_with fail
  refine Hl1.out.mono ?_
  rintro r w2 ⟨rfl, hb⟩
  have hb2 := H1.out.1.trans (hb.mono H1.out.1.size)
  have hz2 := (hb.block _ (lt_of_heap H1.out.2)).trans H1.out.2
  obtain ⟨c0, c1, c2, c3, c4, c5, c6, c7, c8, c9, c10, c11, c12, c13, c14⟩ := cells15 hz2
  have H2 := Lib.hid hb2
  clear hb hb2 hz2 Hl1 H1
  go_wp2_with fail
  refine (Hr.out _).mono ?_
  rintro r w3 ⟨rfl, hb⟩
  have hb3 := H2.out.trans (hb.mono H2.out.size)
  have Hp3 := Lib.hid (Hp.out w3 hb3)
  have H3 := Lib.hid hb3
  clear hb hb3 H2 Hr Hp c0 c1 c2 c3 c4 c5 c6 c7 c8 c9 c10 c11 c12 c13 c14
  go_wp2_with fail
  refine Hp3.out.mono ?_
  rintro r w4 ⟨es, b, hPR, hb, hcase⟩
  have H4 := Lib.hid (H3.out.trans (hb.mono H3.out.size))
  have Hq4 := Lib.hid (Hq.out w4)
  have HPR := Lib.hid hPR
  clear hb hPR H3 Hq Hp3
  rcases hcase with ⟨rfl, ao, c, rfl, hrow, hnew⟩ | ⟨rfl, rfl⟩
  · have Hrow := Lib.hid hrow
    have Hle := Lib.hid (show es.length ≤ 1000000000 from by have := HPR.out.len; rw [size_list] at this; have := Ht.out; omega)
    obtain ⟨n, hn⟩ : ∃ n, n = es.length := ⟨_, rfl⟩
    rw [← hn] at Hrow ⊢
    have Hn := Lib.hid hn
    clear hrow hnew hn
    go_wp2_with fail
    refine Hq4.out.mono ?_
    rintro r w5 ⟨es2, b2, hPR2, hb, hcase2⟩
    obtain ⟨rfl, rfl⟩ := HPR.out.uniq hPR2
    rcases hcase2 with ⟨_, ao2, c2, rfl, hrow2⟩ | ⟨h, _⟩
    · have hrow1 : EntRow w5 38 (.slice ao n c) es := below_row Hrow.out hb
      have He := Lib.hid (entries_walk3 w5 _ _ es es hrow1 hrow2 Hle.out)
      rw [sameL_iff.2 rfl, ← Hn.out] at He
      have H5 := Lib.hid (H4.out.trans (hb.mono H4.out.size))
      have hne : n = es.length := Hn.out
      rw [← hne]
      clear hPR2 hb hrow1 hrow2 hne Hq4
      have t3 : ((n : Int) == (n : Int)) = true := beq_self_eq_true _
      go_wp2_with fail
      refine He.out.mono ?_
      rintro r w6 ⟨rfl, hb⟩
      have H6 := Lib.hid (H5.out.trans (hb.mono H5.out.size))
      clear hb He
      go_wp2
      go_ret
      exact ⟨rfl, H6.out⟩
    · cases h
  · obtain ⟨n, hn⟩ : ∃ n, n = es.length := ⟨_, rfl⟩
    rw [← hn]
    have Hn := Lib.hid hn
    clear hn
    go_wp2_with fail
    refine Hq4.out.mono ?_
    rintro r w5 ⟨es2, b2, hPR2, hb, hcase2⟩
    obtain ⟨rfl, rfl⟩ := HPR.out.uniq hPR2
    rcases hcase2 with ⟨h, _⟩ | ⟨_, rfl⟩
    · cases h
    · have He := Lib.hid (entries_walk3 w5 (.slice none 0 0) (.slice none 0 0) [] [] (World.ownsRow_nil _ _ _ _) (World.ownsRow_nil _ _ _ _) (by decide))
      rw [sameL_iff.2 rfl] at He
      have H5 := Lib.hid (H4.out.trans (hb.mono H4.out.size))
      have hne : n = es.length := Hn.out
      rw [← hne]
      clear hPR2 hb hne Hq4
      have t3 : ((n : Int) == (n : Int)) = true := beq_self_eq_true _
      go_wp2_with fail
      refine He.out.mono ?_
      rintro r w6 ⟨rfl, hb⟩
      have H6 := Lib.hid (H5.out.trans (hb.mono H5.out.size))
      clear hb He
      go_wp2
      go_ret
      exact ⟨rfl, H6.out⟩

end Go.Proofs.YthpflfcgnaichaaDoor
