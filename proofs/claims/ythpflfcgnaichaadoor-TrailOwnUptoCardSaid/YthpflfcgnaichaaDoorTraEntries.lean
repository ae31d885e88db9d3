/-
'entries' of the law.
-/
import Derived.Test.YthpflfcgnaichaaDoorTraTold
import Derived.Deep.RegionHeld3
set_option linter.unusedVariables false
set_option linter.unusedSimpArgs false
namespace Go.Proofs.YthpflfcgnaichaaDoor
open Go Go.RowKit

/-- Both rows' k-th entries stand. -/
def Two (w0 w' : World) (q q2 k : Nat) (x y : Ent) : Prop := (w'.cell? ⟨q, k * 15, none⟩ = some (.int .i64 x.number) ∧ w'.cell? ⟨q, k * 15 + 1, none⟩ = some (.int .i64 x.version) ∧ w'.cell? ⟨q, k * 15 + 2, none⟩ = some (.int .i64 x.epoch) ∧ w'.cell? ⟨q, k * 15 + 3, none⟩ = some (.string x.method) ∧ w'.cell? ⟨q, k * 15 + 4, none⟩ = some (.string x.host) ∧ w'.cell? ⟨q, k * 15 + 5, none⟩ = some (.string x.path) ∧ w'.cell? ⟨q, k * 15 + 6, none⟩ = some (.int .u64 (x.a : Int)) ∧ w'.cell? ⟨q, k * 15 + 7, none⟩ = some (.int .u64 (x.b : Int)) ∧ w'.cell? ⟨q, k * 15 + 8, none⟩ = some (.int .i64 x.kind) ∧ w'.cell? ⟨q, k * 15 + 9, none⟩ = some (.int .i64 x.status) ∧ w'.cell? ⟨q, k * 15 + 10, none⟩ = some (.string x.route) ∧ w'.cell? ⟨q, k * 15 + 11, none⟩ = some (.int .i64 x.rule) ∧ w'.cell? ⟨q, k * 15 + 12, none⟩ = some (.string x.service) ∧ w'.cell? ⟨q, k * 15 + 13, none⟩ = some (.string x.endp) ∧ w'.cell? ⟨q, k * 15 + 14, none⟩ = some (.int .i64 x.fin)) ∧ (w'.cell? ⟨q2, k * 15, none⟩ = some (.int .i64 y.number) ∧ w'.cell? ⟨q2, k * 15 + 1, none⟩ = some (.int .i64 y.version) ∧ w'.cell? ⟨q2, k * 15 + 2, none⟩ = some (.int .i64 y.epoch) ∧ w'.cell? ⟨q2, k * 15 + 3, none⟩ = some (.string y.method) ∧ w'.cell? ⟨q2, k * 15 + 4, none⟩ = some (.string y.host) ∧ w'.cell? ⟨q2, k * 15 + 5, none⟩ = some (.string y.path) ∧ w'.cell? ⟨q2, k * 15 + 6, none⟩ = some (.int .u64 (y.a : Int)) ∧ w'.cell? ⟨q2, k * 15 + 7, none⟩ = some (.int .u64 (y.b : Int)) ∧ w'.cell? ⟨q2, k * 15 + 8, none⟩ = some (.int .i64 y.kind) ∧ w'.cell? ⟨q2, k * 15 + 9, none⟩ = some (.int .i64 y.status) ∧ w'.cell? ⟨q2, k * 15 + 10, none⟩ = some (.string y.route) ∧ w'.cell? ⟨q2, k * 15 + 11, none⟩ = some (.int .i64 y.rule) ∧ w'.cell? ⟨q2, k * 15 + 12, none⟩ = some (.string y.service) ∧ w'.cell? ⟨q2, k * 15 + 13, none⟩ = some (.string y.endp) ∧ w'.cell? ⟨q2, k * 15 + 14, none⟩ = some (.int .i64 y.fin)) ∧ Below w0.heap.size w0 w'

theorem below_row {w w' : World} {T : TypeId} {v : Value} {xs : List Ent} (h : EntRow w T v xs) (hb : Below w.heap.size w w') : EntRow w' T v xs :=
  ownsRow_frame h fun g hg => hb.block g (h.lt g hg).2

theorem two_first {w0 : World} {T U : TypeId} {q q2 c c2 n k : Nat} {xs ys : List Ent} {x y : Ent} (hn : n = xs.length) (hn2 : n = ys.length) (hx : EntRow w0 T (.slice (some ⟨q, 0, none⟩) n c) xs) (hy : EntRow w0 U (.slice (some ⟨q2, 0, none⟩) n c2) ys) (h1 : xs[k]? = some x) (h2 : ys[k]? = some y) : Two w0 w0 q q2 k x y :=
  ⟨⟨row_cell hn hx h1 0 (by decide), row_cell hn hx h1 1 (by decide), row_cell hn hx h1 2 (by decide), row_cell hn hx h1 3 (by decide), row_cell hn hx h1 4 (by decide), row_cell hn hx h1 5 (by decide), row_cell hn hx h1 6 (by decide), row_cell hn hx h1 7 (by decide), row_cell hn hx h1 8 (by decide), row_cell hn hx h1 9 (by decide), row_cell hn hx h1 10 (by decide), row_cell hn hx h1 11 (by decide), row_cell hn hx h1 12 (by decide), row_cell hn hx h1 13 (by decide), row_cell hn hx h1 14 (by decide)⟩, ⟨row_cell hn2 hy h2 0 (by decide), row_cell hn2 hy h2 1 (by decide), row_cell hn2 hy h2 2 (by decide), row_cell hn2 hy h2 3 (by decide), row_cell hn2 hy h2 4 (by decide), row_cell hn2 hy h2 5 (by decide), row_cell hn2 hy h2 6 (by decide), row_cell hn2 hy h2 7 (by decide), row_cell hn2 hy h2 8 (by decide), row_cell hn2 hy h2 9 (by decide), row_cell hn2 hy h2 10 (by decide), row_cell hn2 hy h2 11 (by decide), row_cell hn2 hy h2 12 (by decide), row_cell hn2 hy h2 13 (by decide), row_cell hn2 hy h2 14 (by decide)⟩, Below.refl _ _⟩

theorem two_step {w0 w1 w2 : World} {q q2 k : Nat} {x y : Ent} (hq : q < w0.heap.size) (hq2 : q2 < w0.heap.size) (h : Two w0 w1 q q2 k x y) (hb : Below w1.heap.size w1 w2) : Two w0 w2 q q2 k x y := by
  obtain ⟨⟨a0, a1, a2, a3, a4, a5, a6, a7, a8, a9, a10, a11, a12, a13, a14⟩, ⟨b0, b1, b2, b3, b4, b5, b6, b7, b8, b9, b10, b11, b12, b13, b14⟩, h3⟩ := h
  have g1 : ∀ j, w2.cell? ⟨q, j, none⟩ = w1.cell? ⟨q, j, none⟩ := fun j => hb.cell (Nat.lt_of_lt_of_le hq h3.size)
  have g2 : ∀ j, w2.cell? ⟨q2, j, none⟩ = w1.cell? ⟨q2, j, none⟩ := fun j => hb.cell (Nat.lt_of_lt_of_le hq2 h3.size)
  refine ⟨⟨(g1 _).trans a0, (g1 _).trans a1, (g1 _).trans a2, (g1 _).trans a3, (g1 _).trans a4, (g1 _).trans a5, (g1 _).trans a6, (g1 _).trans a7, (g1 _).trans a8, (g1 _).trans a9, (g1 _).trans a10, (g1 _).trans a11, (g1 _).trans a12, (g1 _).trans a13, (g1 _).trans a14⟩, ⟨(g2 _).trans b0, (g2 _).trans b1, (g2 _).trans b2, (g2 _).trans b3, (g2 _).trans b4, (g2 _).trans b5, (g2 _).trans b6, (g2 _).trans b7, (g2 _).trans b8, (g2 _).trans b9, (g2 _).trans b10, (g2 _).trans b11, (g2 _).trans b12, (g2 _).trans b13, (g2 _).trans b14⟩, h3.trans (hb.mono h3.size)⟩

theorem two_drew {w0 w1 : World} {q q2 k : Nat} {x y : Ent} (h : Two w0 w1 q q2 k x y) : Two w0 w1.drew q q2 k x y := ⟨h.1, h.2.1, h.2.2.drew⟩

set_option maxHeartbeats 4000000 in
set_option maxRecDepth 20000 in
theorem entries_walk2 (w : World) (v u : Value) (xs ys : List Ent) (hx : EntRow w 38 v xs) (hy : EntRow w 32 u ys) (hlx : xs.length < 65537) :
    Calls Tryd.prog 29 #[v, u] w fun r w' => r = .returned (.bool (sameL xs ys)) ∧ Below w.heap.size w w' := by
  obtain ⟨g, cg, hv⟩ := row_form hx
  obtain ⟨g2, cg2, hu⟩ := row_form hy
  obtain ⟨n, hn⟩ : ∃ n, n = xs.length := ⟨_, rfl⟩
  obtain ⟨n2, hn2⟩ : ∃ n, n = ys.length := ⟨_, rfl⟩
  rw [← hn] at hv
  rw [← hn2] at hu
  subst hv hu
  by_cases hne : n = n2
  · subst hne
    have t1 : ((n : Int) != (n : Int)) = false := by simp
    have Hx := Lib.hid hx
    have Hy := Lib.hid hy
    have Hn := Lib.hid hn
    have Hn2 := Lib.hid hn2
    have Hlx := Lib.hid hlx
    clear hx hy hn hn2 hlx
    go_enter Tryd.func29, Tryd.ntmps29
    go_wp2
    clear t1
    go_loopw [5] (fun i wr => ∃ k : Nat, i = .int .i64 (k : Int) ∧ Hid (k ≤ n ∧ xs.take k = ys.take k ∧ Below w.heap.size w wr)) (fun i _ => n - (intOf i).toNat)
    case atStart => exact ⟨0, rfl, Lib.hid ⟨Nat.zero_le _, rfl, Below.refl _ _⟩⟩
    case round =>
      obtain ⟨k, rfl, H⟩ := hrel
      by_cases hkn : k < n
      · have b1 : (k : Int) < (n : Int) := by omega
        have hB := H.out.2.2
        have hxs := below_row Hx.out hB
        have hys := below_row Hy.out hB
        have hn := Hn.out
        have hn2 := Hn2.out
        obtain ⟨x, hxk⟩ : ∃ e, xs[k]? = some e := ⟨xs[k]'(by omega), List.getElem?_eq_getElem _⟩
        obtain ⟨y, hyk⟩ : ∃ e, ys[k]? = some e := ⟨ys[k]'(by omega), List.getElem?_eq_getElem _⟩
        obtain ⟨q, qc, hv⟩ := row_some hxs (by omega)
        obtain ⟨q2, qc2, hv2⟩ := row_some hys (by omega)
        rw [← hn] at hv
        rw [← hn2] at hv2
        simp only [Value.slice.injEq, true_and] at hv hv2
        obtain ⟨rfl, rfl⟩ := hv
        obtain ⟨rfl, rfl⟩ := hv2
        have hq := (hxs.lt q rfl).2
        have hq2 := (hys.lt q2 rfl).2
        have k1 := fun w => neq_ent x y w
        have hT := two_first hn hn2 hxs hys hxk hyk
        have Ho := Lib.hid (show ∀ w1, Calls Tryd.prog 11 #[.agg #[.int .i64 y.number, .int .i64 y.version, .int .i64 y.epoch, .string y.method, .string y.host, .string y.path, .int .u64 (y.a : Int), .int .u64 (y.b : Int), .int .i64 y.kind, .int .i64 y.status, .string y.route, .int .i64 y.rule, .string y.service, .string y.endp, .int .i64 y.fin]] w1 fun r w' => r = .returned (.agg #[.int .i64 y.number, .int .i64 y.version, .int .i64 y.epoch, .string y.method, .string y.host, .string y.path, .int .u64 (y.a : Int), .int .u64 (y.b : Int), .int .i64 y.kind, .int .i64 y.status, .string y.route, .int .i64 y.rule, .string y.service, .string y.endp, .int .i64 y.fin]) ∧ Below w1.heap.size w1 w' from fun w1 => own_walk w1 y)
        have wk := wrap_small (Nat.lt_trans hkn (by rw [hn]; exact Hlx.out))
        have Hms := Lib.hid (meas_step hkn wk)
        have Hgo := Lib.hid (go_step wk)
        have Hst := Lib.hid (fun h => (⟨hkn, take_next H.out.2.1 hxk hyk h⟩ : k + 1 ≤ n ∧ xs.take (k + 1) = ys.take (k + 1)))
        have Hno := Lib.hid (fun h => sameL_not hxk hyk h)
        have HB := Lib.hid hB
        clear hxs hys hn hn2 hxk hyk wk hkn H hB
        cases hs : x.same y with
        | true =>
          have Heq := Lib.hid (Ent.same_eq hs)
          simp only [hs, Bool.not_true] at k1
          clear hs
          go_wp2
          go_region_held3 (fun w' => (w'.cell? ⟨q, k * 15, none⟩ = some (.int .i64 x.number) ∧ w'.cell? ⟨q, k * 15 + 1, none⟩ = some (.int .i64 x.version) ∧ w'.cell? ⟨q, k * 15 + 2, none⟩ = some (.int .i64 x.epoch) ∧ w'.cell? ⟨q, k * 15 + 3, none⟩ = some (.string x.method) ∧ w'.cell? ⟨q, k * 15 + 4, none⟩ = some (.string x.host) ∧ w'.cell? ⟨q, k * 15 + 5, none⟩ = some (.string x.path) ∧ w'.cell? ⟨q, k * 15 + 6, none⟩ = some (.int .u64 (x.a : Int)) ∧ w'.cell? ⟨q, k * 15 + 7, none⟩ = some (.int .u64 (x.b : Int)) ∧ w'.cell? ⟨q, k * 15 + 8, none⟩ = some (.int .i64 x.kind) ∧ w'.cell? ⟨q, k * 15 + 9, none⟩ = some (.int .i64 x.status) ∧ w'.cell? ⟨q, k * 15 + 10, none⟩ = some (.string x.route) ∧ w'.cell? ⟨q, k * 15 + 11, none⟩ = some (.int .i64 x.rule) ∧ w'.cell? ⟨q, k * 15 + 12, none⟩ = some (.string x.service) ∧ w'.cell? ⟨q, k * 15 + 13, none⟩ = some (.string x.endp) ∧ w'.cell? ⟨q, k * 15 + 14, none⟩ = some (.int .i64 x.fin)) ∧ (w'.cell? ⟨q2, k * 15, none⟩ = some (.int .i64 y.number) ∧ w'.cell? ⟨q2, k * 15 + 1, none⟩ = some (.int .i64 y.version) ∧ w'.cell? ⟨q2, k * 15 + 2, none⟩ = some (.int .i64 y.epoch) ∧ w'.cell? ⟨q2, k * 15 + 3, none⟩ = some (.string y.method) ∧ w'.cell? ⟨q2, k * 15 + 4, none⟩ = some (.string y.host) ∧ w'.cell? ⟨q2, k * 15 + 5, none⟩ = some (.string y.path) ∧ w'.cell? ⟨q2, k * 15 + 6, none⟩ = some (.int .u64 (y.a : Int)) ∧ w'.cell? ⟨q2, k * 15 + 7, none⟩ = some (.int .u64 (y.b : Int)) ∧ w'.cell? ⟨q2, k * 15 + 8, none⟩ = some (.int .i64 y.kind) ∧ w'.cell? ⟨q2, k * 15 + 9, none⟩ = some (.int .i64 y.status) ∧ w'.cell? ⟨q2, k * 15 + 10, none⟩ = some (.string y.route) ∧ w'.cell? ⟨q2, k * 15 + 11, none⟩ = some (.int .i64 y.rule) ∧ w'.cell? ⟨q2, k * 15 + 12, none⟩ = some (.string y.service) ∧ w'.cell? ⟨q2, k * 15 + 13, none⟩ = some (.string y.endp) ∧ w'.cell? ⟨q2, k * 15 + 14, none⟩ = some (.int .i64 y.fin)) ∧ Below wr.heap.size wr w') (first | exact two_drew hT | (refine two_step hq hq2 ?_ hb; assumption) | assumption)
            (first | (go_at_call 11; refine (Ho.out _).mono ?_; rintro e w' ⟨rfl, hb⟩))
          all_goals have Hf := Lib.hid (show Below wr.heap.size wr _ from by first | exact (show _ ∧ _ ∧ Below wr.heap.size wr _ from by assumption).2.2 | assumption)
          all_goals go_wp2
          all_goals go_roundw
          all_goals first
            | exact ⟨k + 1, Hgo.out, Lib.hid ⟨(Hst.out Heq.out).1, (Hst.out Heq.out).2, HB.out.trans (Hf.out.mono HB.out.size)⟩⟩
            | exact Hms.out
        | false =>
          have Hres := Lib.hid (Hno.out hs)
          simp only [hs, Bool.not_false] at k1
          clear hs
          go_wp2
          go_region_held3 (fun w' => (w'.cell? ⟨q, k * 15, none⟩ = some (.int .i64 x.number) ∧ w'.cell? ⟨q, k * 15 + 1, none⟩ = some (.int .i64 x.version) ∧ w'.cell? ⟨q, k * 15 + 2, none⟩ = some (.int .i64 x.epoch) ∧ w'.cell? ⟨q, k * 15 + 3, none⟩ = some (.string x.method) ∧ w'.cell? ⟨q, k * 15 + 4, none⟩ = some (.string x.host) ∧ w'.cell? ⟨q, k * 15 + 5, none⟩ = some (.string x.path) ∧ w'.cell? ⟨q, k * 15 + 6, none⟩ = some (.int .u64 (x.a : Int)) ∧ w'.cell? ⟨q, k * 15 + 7, none⟩ = some (.int .u64 (x.b : Int)) ∧ w'.cell? ⟨q, k * 15 + 8, none⟩ = some (.int .i64 x.kind) ∧ w'.cell? ⟨q, k * 15 + 9, none⟩ = some (.int .i64 x.status) ∧ w'.cell? ⟨q, k * 15 + 10, none⟩ = some (.string x.route) ∧ w'.cell? ⟨q, k * 15 + 11, none⟩ = some (.int .i64 x.rule) ∧ w'.cell? ⟨q, k * 15 + 12, none⟩ = some (.string x.service) ∧ w'.cell? ⟨q, k * 15 + 13, none⟩ = some (.string x.endp) ∧ w'.cell? ⟨q, k * 15 + 14, none⟩ = some (.int .i64 x.fin)) ∧ (w'.cell? ⟨q2, k * 15, none⟩ = some (.int .i64 y.number) ∧ w'.cell? ⟨q2, k * 15 + 1, none⟩ = some (.int .i64 y.version) ∧ w'.cell? ⟨q2, k * 15 + 2, none⟩ = some (.int .i64 y.epoch) ∧ w'.cell? ⟨q2, k * 15 + 3, none⟩ = some (.string y.method) ∧ w'.cell? ⟨q2, k * 15 + 4, none⟩ = some (.string y.host) ∧ w'.cell? ⟨q2, k * 15 + 5, none⟩ = some (.string y.path) ∧ w'.cell? ⟨q2, k * 15 + 6, none⟩ = some (.int .u64 (y.a : Int)) ∧ w'.cell? ⟨q2, k * 15 + 7, none⟩ = some (.int .u64 (y.b : Int)) ∧ w'.cell? ⟨q2, k * 15 + 8, none⟩ = some (.int .i64 y.kind) ∧ w'.cell? ⟨q2, k * 15 + 9, none⟩ = some (.int .i64 y.status) ∧ w'.cell? ⟨q2, k * 15 + 10, none⟩ = some (.string y.route) ∧ w'.cell? ⟨q2, k * 15 + 11, none⟩ = some (.int .i64 y.rule) ∧ w'.cell? ⟨q2, k * 15 + 12, none⟩ = some (.string y.service) ∧ w'.cell? ⟨q2, k * 15 + 13, none⟩ = some (.string y.endp) ∧ w'.cell? ⟨q2, k * 15 + 14, none⟩ = some (.int .i64 y.fin)) ∧ Below wr.heap.size wr w') (first | exact two_drew hT | (refine two_step hq hq2 ?_ hb; assumption) | assumption)
            (first | (go_at_call 11; refine (Ho.out _).mono ?_; rintro e w' ⟨rfl, hb⟩))
          all_goals have Hf := Lib.hid (show Below wr.heap.size wr _ from by first | exact (show _ ∧ _ ∧ Below wr.heap.size wr _ from by assumption).2.2 | assumption)
          all_goals go_wp2
          all_goals go_ret
          all_goals exact ⟨by rw [Hres.out]; rfl, HB.out.trans (Hf.out.mono HB.out.size)⟩
      · have Hres := Lib.hid (sameL_take Hn.out Hn2.out hkn H.out.2.1)
        have Hb := Lib.hid H.out.2.2
        have b1 : (n : Int) ≤ (k : Int) := by omega
        clear H
        go_wp2
        go_ret
        exact ⟨by rw [Hres.out]; rfl, Hb.out⟩
  · have hres : sameL xs ys = false := sameL_len (by omega)
    rw [hres]
    have t1 : ((n : Int) != (n2 : Int)) = true := by simp; omega
    clear hx hy hlx hn hn2 hres
    go_enter Tryd.func29, Tryd.ntmps29
    go_wp2
    go_ret
    exact ⟨rfl, Below.refl _ _⟩

end Go.Proofs.YthpflfcgnaichaaDoor
