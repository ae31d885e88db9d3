/-
TrailOrder's round, statement by statement: the op, Add.
-/
import Derived.Test.YthpflfcgnaichaaDoorTraOrdF
set_option linter.unusedVariables false
set_option linter.unusedSimpArgs false
namespace Go.Proofs.YthpflfcgnaichaaDoor
open Go Go.RowKit

/-- The log and the law's own list say the same. -/
structure OInv (w0 w : World) (lb : Nat) (v vw : Value) (xs : List Ent) : Prop where
  lg : Lg w0 w lb v xs
  was : EntRow w 38 vw xs
  wnew : ∀ g, vw.ownBlock = some g → w0.heap.size ≤ g ∧ g ≠ lb ∧ v.ownBlock ≠ some g

theorem OInv.later {w0 w w2 : World} {lb : Nat} {v vw : Value} {xs : List Ent} (h : OInv w0 w lb v vw xs) (hb : Below w.heap.size w w2) : OInv w0 w2 lb v vw xs :=
  ⟨h.lg.later hb, row_below h.was hb, h.wnew⟩

theorem op_later {w w2 : World} {cb : Nat} {o : OpD} (h : w.heap[cb]? = some (OpObj o)) (hb : Below w.heap.size w w2) : w2.heap[cb]? = some (OpObj o) := (hb.block cb (lt_of_heap h)).trans h

/-- A block of another type is none of a log's. -/
theorem op_apart {w0 w : World} {lb cb : Nat} {v : Value} {xs : List Ent} {o : OpD} (h : Lg w0 w lb v xs) (ho : w.heap[cb]? = some (OpObj o)) : ¬ (cb = lb ∨ v.ownBlock = some cb) := by
  rintro (e | e)
  · subst e
    rw [h.log.blk] at ho
    injection ho with ho
    injection ho with _ hT _
    exact absurd hT (by decide)
  · obtain ⟨c, fz, hc⟩ := row_kind h.log.row cb e
    rw [hc] at ho
    injection ho with ho
    injection ho with _ hT _
    exact absurd hT (by decide)

theorem op_row {w : World} {cb : Nat} {v : Value} {xs : List Ent} {o : OpD} (h : EntRow w 38 v xs) (ho : w.heap[cb]? = some (OpObj o)) : v.ownBlock ≠ some cb := by
  intro e
  obtain ⟨c, fz, hc⟩ := row_kind h cb e
  rw [hc] at ho
  injection ho with ho
  injection ho with _ hT _
  exact absurd hT (by decide)

/-- Behind Add of an entry that may be. -/
theorem oinv_add {w0 w w1 : World} {lb : Nat} {v v' vw : Value} {xs : List Ent} {e : Ent} (h : OInv w0 w lb v vw xs) (hl : Lg w0 w1 lb v' (xs ++ [e])) (hm : Mod (fun k => k = lb ∨ v.ownBlock = some k) w w1) (hn : ∀ g, v'.ownBlock = some g → v.ownBlock = some g ∨ w.heap.size ≤ g) :
    EntRow w1 38 vw xs ∧ (∀ g, vw.ownBlock = some g → w0.heap.size ≤ g ∧ g ≠ lb ∧ v'.ownBlock ≠ some g) := by
  refine ⟨ownsRow_frame h.was fun g hg => hm.block g (h.was.lt g hg).2 ?_, fun g hg => ?_⟩
  · have := h.wnew g hg
    rintro (q | q)
    · exact this.2.1 q
    · exact this.2.2 q
  · have q := h.wnew g hg
    refine ⟨q.1, q.2.1, fun e => ?_⟩
    rcases hn g e with q1 | q1
    · exact q.2.2 q1
    · have := (h.was.lt g hg).2
      omega

/-- Behind the law's own append. -/
theorem oinv_app {w0 w1 W w2 : World} {lb : Nat} {v' vw vw' : Value} {xs : List Ent} {e : Ent} (hl : Lg w0 w1 lb v' (xs ++ [e])) (hr : EntRow w1 38 vw xs) (hw : ∀ g, vw.ownBlock = some g → w0.heap.size ≤ g ∧ g ≠ lb ∧ v'.ownBlock ≠ some g)
    (hb : Below w1.heap.size w1 W) (own2 : EntRow w2 38 vw' (xs ++ [e])) (gr2 : W.grownBy w2 vw.ownBlock) (new2 : ∀ g, vw'.ownBlock = some g → vw.ownBlock = some g ∨ W.heap.size ≤ g) {o : OpD} {cb : Nat} (ho : w1.heap[cb]? = some (OpObj o)) :
    OInv w0 w2 lb v' vw' (xs ++ [e]) ∧ w2.heap[cb]? = some (OpObj o) := by
  have hl2 := hl.later hb
  have hm : Mod (fun k => vw.ownBlock = some k) W w2 := (Mod.refl _ W).grown gr2 (fun k e _ => e)
  refine ⟨⟨hl2.mod hm (fun q => (hw lb q).2.1 rfl) (fun g hg q => (hw g q).2.2 hg) (fun k q => (hw k q).1), own2, fun g hg => ?_⟩, hm.heap (op_later ho hb) (op_row hr ho)⟩
  rcases new2 g hg with q | q
  · exact hw g q
  · refine ⟨Nat.le_trans hl2.below.size q, fun e => ?_, fun e => ?_⟩
    · have := lt_of_heap hl2.log.blk
      omega
    · have := (hl2.log.row.lt g e).2
      omega

section
variable {w0 w : World} {lb cb : Nat} {v vw : Value} {xs : List Ent} {o : OpD} {sv : Value} {i : Int} {K : Act → World → Prop} {Q : Exit → Act → World → Prop} {a : Act}

set_option maxRecDepth 100000 in
set_option maxHeartbeats 4000000 in
theorem to_add (hf : ToB a sv lb vw i cb) (h : OInv w0 w lb v vw xs) (ho : w.heap[cb]? = some (OpObj o)) (hlen : xs.length < 60)
    (rest : ∀ a' w' v' vw' xs', ToB a' sv lb vw' i cb → OInv w0 w' lb v' vw' xs' → w'.heap[cb]? = some (OpObj o) → xs'.length ≤ xs.length + 1 → K a' w') : toAdd.wp Tryd.prog (Exit.then K Q) a w := by
  refine wp_cut (fun a' w' => ∃ v' vw' xs', ToB a' sv lb vw' i cb ∧ OInv w0 w' lb v' vw' xs' ∧ w'.heap[cb]? = some (OpObj o) ∧ xs'.length ≤ xs.length + 1) (fun a' w' ⟨v', vw', xs', h⟩ => rest a' w' v' vw' xs' h.1 h.2.1 h.2.2.1 h.2.2.2) ?_
  clear rest
  intro J K' hJ hK
  refine wp_calm ?_
  obtain ⟨vv, rfl⟩ := hf.shape
  clear hf
  dsimp only [toAdd, ncl, ncr, ncb, nco, nct, nce, ncx, Tryd.f3]
  obtain ⟨y0, y1, y2, y3, y4, y5, y6, y7, y8, y9, y10, y11, y12, y13, y14, y15, y16, y17, y18⟩ := op_block ho
  by_cases hk : o.kind = 0
  rotate_left
  · have hkb : (o.kind == 0) = false := beq_eq_false_iff_ne.2 hk
    have Hfin := Lib.hid (And.intro h ho)
    clear h ho hk
    go_wp2
    exact Met.intro (hJ _ _ ⟨_, _, _, ⟨rfl, rfl, rfl, rfl, rfl, rfl, rfl⟩, Hfin.out.1, Hfin.out.2, Nat.le_succ _⟩)
  have hkb : (o.kind == 0) = true := by rw [hk]; rfl
  clear hk
  have Ho := Lib.hid (show ∀ w1, Calls Tryd.prog 11 #[.agg #[.int .i64 o.e.number, .int .i64 o.e.version, .int .i64 o.e.epoch, .string o.e.method, .string o.e.host, .string o.e.path, .int .u64 (o.e.a : Int), .int .u64 (o.e.b : Int), .int .i64 o.e.kind, .int .i64 o.e.status, .string o.e.route, .int .i64 o.e.rule, .string o.e.service, .string o.e.endp, .int .i64 o.e.fin]] w1 fun r w' => r = .returned (.agg #[.int .i64 o.e.number, .int .i64 o.e.version, .int .i64 o.e.epoch, .string o.e.method, .string o.e.host, .string o.e.path, .int .u64 (o.e.a : Int), .int .u64 (o.e.b : Int), .int .i64 o.e.kind, .int .i64 o.e.status, .string o.e.route, .int .i64 o.e.rule, .string o.e.service, .string o.e.endp, .int .i64 o.e.fin]) ∧ Below w1.heap.size w1 w' from fun w1 => own_walk w1 o.e)
  by_cases hmay : o.e.may = true
  rotate_left
  · have HA := Lib.hid (show ∀ w1, Below w.heap.size w w1 → Calls Tryd.prog 10 #[.pointer (some ⟨lb, 0, none⟩), .agg #[.int .i64 o.e.number, .int .i64 o.e.version, .int .i64 o.e.epoch, .string o.e.method, .string o.e.host, .string o.e.path, .int .u64 (o.e.a : Int), .int .u64 (o.e.b : Int), .int .i64 o.e.kind, .int .i64 o.e.status, .string o.e.route, .int .i64 o.e.rule, .string o.e.service, .string o.e.endp, .int .i64 o.e.fin]] w1 fun r w' => r = .returned (.tuple #[.int .i64 0, .int .i64 2]) ∧ OInv w0 w' lb v vw xs ∧ w'.heap[cb]? = some (OpObj o) from
      fun w1 hb => ((h.lg.later hb).addBad o.e (by simpa using hmay)).mono fun r w' ⟨hr, _, h2⟩ => ⟨hr, (h.later hb).later h2, op_later (op_later ho hb) h2⟩)
    clear h ho hmay
    go_wp2_with fail
    refine (Ho.out _).mono ?_
    rintro r w1 ⟨rfl, hb⟩
    have HA1 := Lib.hid (HA.out w1 hb)
    clear hb HA Ho
    go_wp2_with fail
    refine HA1.out.mono ?_
    rintro r w2 ⟨rfl, h2⟩
    have H2 := Lib.hid h2
    clear h2 HA1
    go_wp2
    exact Met.intro (hJ _ _ ⟨_, _, _, ⟨rfl, rfl, rfl, rfl, rfl, rfl, rfl⟩, H2.out.1, H2.out.2, Nat.le_succ _⟩)
  · obtain ⟨n, hn⟩ : ∃ n, n = xs.length := ⟨_, rfl⟩
    have HA := Lib.hid (show ∀ w1, Below w.heap.size w w1 → Calls Tryd.prog 10 #[.pointer (some ⟨lb, 0, none⟩), .agg #[.int .i64 o.e.number, .int .i64 o.e.version, .int .i64 o.e.epoch, .string o.e.method, .string o.e.host, .string o.e.path, .int .u64 (o.e.a : Int), .int .u64 (o.e.b : Int), .int .i64 o.e.kind, .int .i64 o.e.status, .string o.e.route, .int .i64 o.e.rule, .string o.e.service, .string o.e.endp, .int .i64 o.e.fin]] w1 fun r w' => ∃ v', r = .returned (.tuple #[.int .i64 (n : Int), .int .i64 0]) ∧ Lg w0 w' lb v' (xs ++ [o.e.num n]) ∧ (EntRow w' 38 vw xs ∧ (∀ g, vw.ownBlock = some g → w0.heap.size ≤ g ∧ g ≠ lb ∧ v'.ownBlock ≠ some g)) ∧ w'.heap[cb]? = some (OpObj o) from
      fun w1 hb => ((h.lg.later hb).add o.e (by omega) hmay).mono fun r w' ⟨v', hr, h1, h2, h3⟩ => by
        rw [hn]
        exact ⟨v', hr, h1, oinv_add (h.later hb) h1 h2 h3, h2.heap (op_later ho hb) (op_apart (h.lg.later hb) (op_later ho hb))⟩)
    obtain ⟨ao, cw, hvw⟩ := row_form h.was
    rw [← hn] at hvw
    subst hvw
    have Hn := Lib.hid hn
    have Hle := Lib.hid (show xs.length ≤ 100000000 by omega)
    have Hq := Lib.hid (show n + 1 = xs.length + 1 by rw [hn])
    have hne : ((n : Int) != (n : Int)) = false := by simp
    clear h ho hmay hn hlen
    go_wp2_with fail
    refine (Ho.out _).mono ?_
    rintro r w1 ⟨rfl, hb⟩
    have HA1 := Lib.hid (HA.out w1 hb)
    clear hb HA
    go_wp2_with fail
    refine HA1.out.mono ?_
    rintro r w2 ⟨v', rfl, h1, h2, h3⟩
    clear y0 y1 y2 y3 y4 y5 y6 y7 y8 y9 y10 y11 y12 y13 y14 y15 y16 y17 y18
    have H1 := Lib.hid (And.intro h1 (And.intro h2 h3))
    obtain ⟨y0, y1, y2, y3, y4, y5, y6, y7, y8, y9, y10, y11, y12, y13, y14, y15, y16, y17, y18⟩ := op_block h3
    clear h1 h2 h3 HA1
    go_wp2_with fail
    refine (Ho.out _).mono ?_
    rintro r w3 ⟨rfl, hb⟩
    obtain ⟨O1, hO1⟩ : ∃ O1, O1 = Obj.cells #[.int .i64 (n : Int), .int .i64 o.e.version, .int .i64 o.e.epoch, .string o.e.method, .string o.e.host, .string o.e.path, .int .u64 (o.e.a : Int), .int .u64 (o.e.b : Int), .int .i64 o.e.kind, .int .i64 o.e.status, .string o.e.route, .int .i64 o.e.rule, .string o.e.service, .string o.e.endp, .int .i64 o.e.fin] 38 := ⟨_, rfl⟩
    have HB := Lib.hid (show Below w2.heap.size w2 ((w3.alloc O1).alloc O1) from (hb.alloc hb.size _).alloc (Nat.le_trans hb.size (by simp)) _)
    have Hrow := Lib.hid (row_below H1.out.2.1.1 HB.out)
    have Hnews := Lib.hid (show ∀ j u, (o.e.num n).cells[j]? = some u → ((w3.alloc O1).alloc O1).cell? ((⟨w3.heap.size + 1, 0, none⟩ : Addr).add j) = some u from by
      have q := news_new (w3.alloc O1) (o.e.num n) 38
      have e1 : (w3.alloc O1).heap.size = w3.heap.size + 1 := by simp
      rw [e1] at q
      rw [hO1] at q ⊢
      exact q)
    clear hb Ho y0 y1 y2 y3 y4 y5 y6 y7 y8 y9 y10 y11 y12 y13 y14 y15 y16 y17 y18
    subst hO1
    go_wp2_with (at_builtin; refine pappend rfl _ _ rfl (.slice ao n cw) xs rfl Hrow.out (w3.heap.size + 1) (o.e.num n) rfl Hnews.out Hle.out (n + 1) Hq.out ?_; intro ao' c' w4 own2 gr2 new2; have Hend := Lib.hid (oinv_app H1.out.1 H1.out.2.1.1 H1.out.2.1.2 HB.out own2 gr2 new2 H1.out.2.2); clear own2 gr2 new2)
    exact Met.intro (hJ _ _ ⟨_, _, _, ⟨rfl, rfl, rfl, rfl, rfl, rfl, rfl⟩, Hend.out.1, Hend.out.2, Nat.le_of_eq List.length_append⟩)

end

end Go.Proofs.YthpflfcgnaichaaDoor
