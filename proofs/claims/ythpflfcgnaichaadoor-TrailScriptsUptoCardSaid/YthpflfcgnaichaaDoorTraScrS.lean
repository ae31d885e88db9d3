/-
TrailScripts' round, statement by statement.
-/
import Derived.Test.YthpflfcgnaichaaDoorTraScrF
import Derived.Deep.RegionHeld3
set_option linter.unusedVariables false
set_option linter.unusedSimpArgs false
namespace Go.Proofs.YthpflfcgnaichaaDoor
open Go Go.RowKit

theorem op_one (o : OpD) : (#[.int .i64 o.kind, .int .i64 o.e.number, .int .i64 o.e.version, .int .i64 o.e.epoch, .string o.e.method, .string o.e.host, .string o.e.path, .int .u64 (o.e.a : Int), .int .u64 (o.e.b : Int), .int .i64 o.e.kind, .int .i64 o.e.status, .string o.e.route, .int .i64 o.e.rule, .string o.e.service, .string o.e.endp, .int .i64 o.e.fin, .int .i64 o.number, .int .i64 o.how, .bool o.on] : Array Value).all (·.oneCell') = true := by
  rw [← Array.all_toList]
  rfl

theorem op_later {w w2 : World} {cb : Nat} {o : OpD} (h : w.heap[cb]? = some (OpObj o)) (hb : Below w.heap.size w w2) : w2.heap[cb]? = some (OpObj o) := (hb.block cb (lt_of_heap h)).trans h

theorem op_mod {S T : TypeId} {w w2 : World} {cb lb : Nat} {o : OpD} {v : Value} {xs : List Ent} {F : Nat → Prop} (h : w.heap[cb]? = some (OpObj o)) (hl : LogAt w S T lb v xs) (hS : 34 ≠ S ∧ 34 ≠ T) (hm : Mod F w w2) (hF : ∀ k, F k → k = lb ∨ v.ownBlock = some k) : w2.heap[cb]? = some (OpObj o) :=
  hm.heap h fun q => by
    rcases log_types hl cb _ _ _ (hF cb q) h with q | q
    · exact hS.1 q
    · exact hS.2 q

theorem endsB_true {xs : List Ent} {i how : Int} (h : endsB xs i how = true) : ∃ (k : Nat) (e : Ent), i = (k : Int) ∧ xs[k]? = some e ∧ e.fin = 0 ∧ 1 ≤ how ∧ how ≤ 7 := by
  unfold endsB at h
  rw [Bool.and_eq_true, decide_eq_true_eq] at h
  obtain ⟨⟨h1, h2, h3, h4⟩, h5⟩ := h
  obtain ⟨k, rfl⟩ : ∃ k : Nat, i = (k : Int) := ⟨i.toNat, by omega⟩
  rw [show ((k : Int)).toNat = k from rfl] at h5
  cases he : xs[k]? with
  | none => rw [he] at h5; cases h5
  | some e =>
    rw [he] at h5
    exact ⟨k, e, rfl, he, by simpa using h5, h3, h4⟩

theorem ScSt.inv {w0 w : World} {lv dv lf sd : Value} {k : Nat} (h : ScSt w0 w lv dv lf sd k) : (lv = .pointer none ∧ dv = .pointer none ∧ lf = .pointer none ∧ sd = .pointer none ∧ Below w0.heap.size w0 w) ∨
    ∃ (lb rb : Nat) (v u : Value) (xs ys : List Ent) (b : Bool), lv = .pointer (some ⟨lb, 0, none⟩) ∧ dv = .pointer (some ⟨rb, 0, none⟩) ∧ PS w0 w lb v xs b lf ys ∧ RS w0 w rb u xs b sd ys ∧ AllGood xs k ∧ AllGood ys 60 := by
  cases h with
  | nil h => exact .inl ⟨rfl, rfl, rfl, rfl, h⟩
  | one p r g g2 => exact .inr ⟨_, _, _, _, _, _, _, rfl, rfl, p, r, g, g2⟩

theorem op_two {w : World} {cb : Nat} {o : OpD} (h : w.heap[cb]? = some (OpObj o)) : w.cell? ⟨cb, 16, none⟩ = some (.int .i64 o.number) ∧ w.cell? ⟨cb, 17, none⟩ = some (.int .i64 o.how) := by
  constructor <;> (rw [cell_blk h]; rfl)

section
variable {w0 w : World} {sv lv dv lf sd : Value} {cb k : Nat} {o : OpD} {i : Int} {K : Act → World → Prop} {Q : Exit → Act → World → Prop} {a : Act}

set_option maxRecDepth 100000 in
set_option maxHeartbeats 1600000 in
theorem sc_op {gl ol len cl kk : Nat} (hf : ScA a (.slice (some ⟨gl, ol, none⟩) len cl) lv dv lf sd (kk : Int)) (h : ScSt w0 w lv dv lf sd k) (hkk : kk < len) (ho : OpAt w gl (ol + kk * 19) o)
    (rest : ∀ a' w' cb, ScB a' (.slice (some ⟨gl, ol, none⟩) len cl) lv dv lf sd (kk : Int) cb → ScSt w0 w' lv dv lf sd k → w'.heap[cb]? = some (OpObj o) → K a' w') : scOp.wp Tryd.prog (Exit.then K Q) a w := by
  refine wp_cut (fun a' w' => ∃ cb, ScB a' (.slice (some ⟨gl, ol, none⟩) len cl) lv dv lf sd (kk : Int) cb ∧ ScSt w0 w' lv dv lf sd k ∧ w'.heap[cb]? = some (OpObj o)) (fun a' w' ⟨cb, h⟩ => rest a' w' cb h.1 h.2.1 h.2.2) ?_
  clear rest
  intro J K' hJ hK
  obtain ⟨vv, rfl⟩ := hf.shape
  clear hf
  dsimp only [scOp, ncl, ncr, ncb, nco, ncx, Tryd.f4]
  have Hr := Lib.hid (show w.rangeAt gl (ol + kk * 19) o.cells from ho)
  have Hi := Lib.hid (show (Tryd.prog.info? 34).map (·.size) = some o.cells.length by kernel_rfl)
  have Hfin := Lib.hid (And.intro (h.later ((Below.refl _ w).alloc (Nat.le_refl _) (OpObj o))) (alloc_new (w := w) (OpObj o)))
  clear h ho
  have b1 : (kk : Int) < (len : Int) := by omega
  refine wp_region_lit ?_
  refine wpList_plain rfl fun K1 hK1 => ?_
  go_simp
  refine hK1 _ _ ?_
  clear hK1 K1
  refine wpList_plain rfl fun K2 hK2 => ?_
  go_simp
  refine hK2 _ _ ?_
  clear hK2 K2
  refine wpList_plain rfl fun K3 hK3 => ?_
  go_simp
  refine hK3 _ _ ?_
  clear hK3 K3
  refine wpList_load_mid rfl 34 _ rfl gl (ol + kk * 19) rfl o.cells _ Hr.out Tryd.underlying34 rfl Hi.out ?_
  unfold OpD.cells
  refine wpList_plain rfl fun K4 hK4 => ?_
  go_simp
  refine hK4 _ _ ?_
  clear hK4 K4
  refine wpList_store_last rfl 34 _ _ rfl _ #[.int .i64 o.kind, .int .i64 o.e.number, .int .i64 o.e.version, .int .i64 o.e.epoch, .string o.e.method, .string o.e.host, .string o.e.path, .int .u64 (o.e.a : Int), .int .u64 (o.e.b : Int), .int .i64 o.e.kind, .int .i64 o.e.status, .string o.e.route, .int .i64 o.e.rule, .string o.e.service, .string o.e.endp, .int .i64 o.e.fin, .int .i64 o.number, .int .i64 o.how, .bool o.on] rfl rfl Hi.out rfl (op_one o) ?_
  refine wpList_nil ?_
  refine hK _ _ ?_
  exact Met.intro (hJ _ _ ⟨_, ⟨rfl, rfl, rfl, rfl, rfl, rfl, rfl, rfl, rfl⟩, Hfin.out.1, Hfin.out.2⟩)

/-- What the switch does. -/
abbrev ScPost (w0 : World) (sv : Value) (i : Int) (k : Nat) (a' : Act) (w' : World) : Prop := ∃ lv' dv' lf' sd', ScA a' sv lv' dv' lf' sd' i ∧ ScSt w0 w' lv' dv' lf' sd' (k + 1)

set_option maxRecDepth 100000 in
set_option maxHeartbeats 4000000 in
theorem sc_sw0 (hk0 : o.kind = 0) (hf : ScB a sv lv dv lf sd i cb) (h : ScSt w0 w lv dv lf sd k) (hk60 : k < 60) (ho : w.heap[cb]? = some (OpObj o)) (hfit : o.e.Fit)
    (rest : ∀ a' w', ScPost w0 sv i k a' w' → K a' w') : scSw.wp Tryd.prog (Exit.then K Q) a w := by
  refine wp_cut (fun a' w' => ScPost w0 sv i k a' w') rest ?_
  clear rest
  intro J K' hJ hK
  refine wp_calm ?_
  obtain ⟨vv, rfl⟩ := hf.shape
  clear hf
  dsimp only [scSw, ncl, ncr, ncb, nco, nct, nce, ncx, Tryd.f4]
  obtain ⟨y0, y1, y2, y3, y4, y5, y6, y7, y8, y9, y10, y11, y12, y13, y14, y15, y16, y17, y18⟩ := op_block ho
  rw [hk0] at y0
  clear hk0
  have Ho := Lib.hid (show ∀ w1, Calls Tryd.prog 11 #[.agg #[.int .i64 o.e.number, .int .i64 o.e.version, .int .i64 o.e.epoch, .string o.e.method, .string o.e.host, .string o.e.path, .int .u64 (o.e.a : Int), .int .u64 (o.e.b : Int), .int .i64 o.e.kind, .int .i64 o.e.status, .string o.e.route, .int .i64 o.e.rule, .string o.e.service, .string o.e.endp, .int .i64 o.e.fin]] w1 fun r w' => r = .returned (.agg #[.int .i64 o.e.number, .int .i64 o.e.version, .int .i64 o.e.epoch, .string o.e.method, .string o.e.host, .string o.e.path, .int .u64 (o.e.a : Int), .int .u64 (o.e.b : Int), .int .i64 o.e.kind, .int .i64 o.e.status, .string o.e.route, .int .i64 o.e.rule, .string o.e.service, .string o.e.endp, .int .i64 o.e.fin]) ∧ Below w1.heap.size w1 w' from fun w1 => own_walk w1 o.e)
  -- the contracts of both sides' Add, in one form
  have key : ∃ (lv' dv' : Value) (n z : Int), (n != n) = false ∧ (z != z) = false ∧ lv' = lv ∧ dv' = dv ∧
      (∃ M : World → Prop, (∀ w1, Below w.heap.size w w1 → Calls Tryd.prog 10 #[lv, .agg #[.int .i64 o.e.number, .int .i64 o.e.version, .int .i64 o.e.epoch, .string o.e.method, .string o.e.host, .string o.e.path, .int .u64 (o.e.a : Int), .int .u64 (o.e.b : Int), .int .i64 o.e.kind, .int .i64 o.e.status, .string o.e.route, .int .i64 o.e.rule, .string o.e.service, .string o.e.endp, .int .i64 o.e.fin]] w1 fun r w' => r = .returned (.tuple #[.int .i64 n, .int .i64 z]) ∧ M w' ∧ w'.heap[cb]? = some (OpObj o)) ∧
       (∀ w1, M w1 → Calls Tryd.prog 17 #[dv, .agg #[.int .i64 o.e.number, .int .i64 o.e.version, .int .i64 o.e.epoch, .string o.e.method, .string o.e.host, .string o.e.path, .int .u64 (o.e.a : Int), .int .u64 (o.e.b : Int), .int .i64 o.e.kind, .int .i64 o.e.status, .string o.e.route, .int .i64 o.e.rule, .string o.e.service, .string o.e.endp, .int .i64 o.e.fin]] w1 fun r w' => r = .returned (.tuple #[.int .i64 n, .int .i64 z]) ∧ ScSt w0 w' lv dv lf sd (k + 1))) := by
    rcases h.inv with ⟨rfl, rfl, rfl, rfl, hb0⟩ | ⟨lb, rb, v, u, xs, ys, b, rfl, rfl, p, r, g, g2⟩
    · refine ⟨_, _, 0, 1, by decide, by decide, rfl, rfl, fun w1 => Below w0.heap.size w0 w1, fun w1 hb => ?_, fun w1 hM => ?_⟩
      · exact (paddNil_walk w1 o.e).mono fun r w' ⟨hr, h2⟩ => ⟨hr, (hb0.trans (hb.mono hb0.size)).trans (h2.mono (hb0.trans (hb.mono hb0.size)).size), op_later (op_later ho hb) h2⟩
      · exact (raddNil_walk w1 o.e).mono fun r w' ⟨hr, h2⟩ => ⟨hr, .nil (hM.trans (h2.mono hM.size))⟩
    · by_cases hmay : o.e.may = true
      · refine ⟨_, _, (xs.length : Int), 0, by simp, by decide, rfl, rfl, fun w1 => ∃ v', PS w0 w1 lb v' (xs ++ [o.e.num xs.length]) b lf ys ∧ RS w0 w1 rb u xs b sd ys, fun w1 hb => ?_, fun w1 ⟨v', p1, r1⟩ => ?_⟩
        · have p1 := p.later hb
          have r1 := r.later hb
          refine (padd_walk w1 lb v xs o.e p1.log (by have := g.len; omega) hmay).mono fun q w' hp => ?_
          obtain ⟨hr, v', p2, hm⟩ := p1.add (by decide) hp
          exact ⟨hr, ⟨v', p2, p1.mod_other r1 (by decide) hm (fun k hk => hk)⟩, op_mod (op_later ho hb) p1.log (by decide) hm (fun k hk => hk)⟩
        · refine (radd_walk w1 rb u xs o.e r1.log (by have := g.len; omega) hmay).mono fun q w' hp => ?_
          obtain ⟨hr, u', r2, hm⟩ := r1.add (by decide) hp
          exact ⟨hr, .one (r1.mod_other p1 (by decide) hm (fun k hk => hk)) r2 (g.add (by omega) hfit hmay) g2⟩
      · have hmay2 : o.e.may = false := by simpa using hmay
        refine ⟨_, _, 0, 2, by decide, by decide, rfl, rfl, fun w1 => ScSt w0 w1 (.pointer (some ⟨lb, 0, none⟩)) (.pointer (some ⟨rb, 0, none⟩)) lf sd k, fun w1 hb => ?_, fun w1 hM => ?_⟩
        · exact (paddBad_walk w1 lb o.e hmay2).mono fun q w' ⟨hr, h2⟩ => ⟨hr, ((ScSt.one p r g g2).later hb).later h2, op_later (op_later ho hb) h2⟩
        · exact (raddBad_walk w1 rb o.e hmay2).mono fun q w' ⟨hr, h2⟩ => ⟨hr, (hM.later h2).mono (Nat.le_succ k)⟩
  obtain ⟨lv', dv', n, z, n1, n2, rfl, rfl, M, ha, hb'⟩ := key
  have HA := Lib.hid ha
  have HB := Lib.hid hb'
  clear ha hb' h ho hfit hk60
  go_wp2_with fail
  refine (Ho.out _).mono ?_
  rintro r w1 ⟨rfl, hb⟩
  have HA1 := Lib.hid (HA.out w1 hb)
  clear hb HA
  go_wp2_with fail
  refine HA1.out.mono ?_
  rintro r w2 ⟨rfl, h1, h2⟩
  have HB2 := Lib.hid (HB.out w2 h1)
  clear y0 y1 y2 y3 y4 y5 y6 y7 y8 y9 y10 y11 y12 y13 y14 y15 y16 y17 y18
  obtain ⟨y0, y1, y2, y3, y4, y5, y6, y7, y8, y9, y10, y11, y12, y13, y14, y15, y16, y17, y18⟩ := op_block h2
  clear h1 h2 HA1 HB
  go_wp2_with fail
  refine HB2.out.mono ?_
  rintro r w3 ⟨rfl, h3⟩
  have H3 := Lib.hid h3
  clear h3 HB2
  go_wp2
  exact Met.intro (hJ _ _ ⟨_, _, _, _, ⟨rfl, rfl, rfl, rfl, rfl, rfl, rfl, rfl⟩, H3.out⟩)

set_option maxRecDepth 100000 in
set_option maxHeartbeats 4000000 in
theorem sc_sw1 (hk1 : o.kind = 1) (hf : ScB a sv lv dv lf sd i cb) (h : ScSt w0 w lv dv lf sd k) (hk60 : k < 60) (ho : w.heap[cb]? = some (OpObj o))
    (rest : ∀ a' w', ScPost w0 sv i k a' w' → K a' w') : scSw.wp Tryd.prog (Exit.then K Q) a w := by
  refine wp_cut (fun a' w' => ScPost w0 sv i k a' w') rest ?_
  clear rest
  intro J K' hJ hK
  refine wp_calm ?_
  obtain ⟨vv, rfl⟩ := hf.shape
  clear hf
  dsimp only [scSw, ncl, ncr, ncb, nco, nct, nce, ncx, Tryd.f4]
  have hb2 : Below w.heap.size w w.drew := ⟨rfl, rfl, rfl, Nat.le_refl _, fun _ _ => rfl⟩
  have hD := h.later hb2
  have hoD := op_later ho hb2
  have y0 : w.cell? ⟨cb, 0, none⟩ = some (.int .i64 1) := by rw [← hk1, cell_blk ho]; rfl
  have y16 : w.drew.cell? ⟨cb, 16, none⟩ = some (.int .i64 o.number) := by rw [cell_blk hoD]; rfl
  have y17 : w.drew.cell? ⟨cb, 17, none⟩ = some (.int .i64 o.how) := by rw [cell_blk hoD]; rfl
  clear hk1
  have key : ∃ z : Int, (z != z) = false ∧ ∃ M : World → Prop, (Calls Tryd.prog 12 #[lv, .int .i64 o.number, .int .i64 o.how] w.drew fun r w' => r = .returned (.int .i64 z) ∧ M w' ∧ w'.heap[cb]? = some (OpObj o)) ∧
       (∀ w1, M w1 → w1.heap[cb]? = some (OpObj o) → Calls Tryd.prog 18 #[dv, .int .i64 o.number, .int .i64 o.how] w1 fun r w' => r = .returned (.int .i64 z) ∧ ScSt w0 w' lv dv lf sd k ∧ w'.heap[cb]? = some (OpObj o)) := by
    rcases hD.inv with ⟨rfl, rfl, rfl, rfl, hb0⟩ | ⟨lb, rb, v, u, xs, ys, b, rfl, rfl, p, r, g, g2⟩
    · refine ⟨1, by decide, fun w1 => Below w0.heap.size w0 w1, ?_, fun w1 hM ho1 => ?_⟩
      · exact (pendNil_walk w.drew _ _).mono fun r w' ⟨hr, h2⟩ => ⟨hr, by rw [h2]; exact hb0, by rw [h2]; exact hoD⟩
      · exact (rendNil_walk w1 _ _).mono fun r w' ⟨hr, h2⟩ => ⟨hr, .nil (by rw [h2]; exact hM), by rw [h2]; exact ho1⟩
    · cases he : endsB xs o.number o.how with
      | false =>
        refine ⟨2, by decide, fun w1 => ScSt w0 w1 (.pointer (some ⟨lb, 0, none⟩)) (.pointer (some ⟨rb, 0, none⟩)) lf sd k ∧ RLog w1 rb u xs, ?_, fun w1 hM ho1 => ?_⟩
        · exact (pendBad_walk w.drew lb v xs p.log (by have := g.len; omega) _ _ he).mono fun q w' ⟨hr, h2⟩ => ⟨hr, by rw [h2]; exact ⟨hD, r.log⟩, by rw [h2]; exact hoD⟩
        · exact (rendBad_walk w1 rb u xs hM.2 (by have := g.len; omega) _ _ he).mono fun q w' ⟨hr, h2⟩ => ⟨hr, by rw [h2]; exact hM.1, by rw [h2]; exact ho1⟩
      | true =>
        obtain ⟨j, e, hnum, hj, hf0, h1, h7⟩ := endsB_true he
        rw [hnum]
        refine ⟨0, by decide, fun w1 => PS w0 w1 lb v (xs.set j (e.ended o.how)) b lf ys ∧ RS w0 w1 rb u xs b sd ys, ?_, fun w1 hM ho1 => ?_⟩
        · refine (pend_walk w.drew lb v xs p.log (by have := g.len; omega) j e o.how hj hf0 h1 h7).mono fun q w' hp => ?_
          obtain ⟨hr, p2, hm⟩ := p.fin (by decide) hp
          exact ⟨hr, ⟨p2, p.mod_other r (by decide) hm (fun k hk => .inr hk)⟩, op_mod hoD p.log (by decide) hm (fun k hk => .inr hk)⟩
        · refine (rend_walk w1 rb u xs hM.2.log (by have := g.len; omega) j e o.how hj hf0 h1 h7).mono fun q w' hp => ?_
          obtain ⟨hr, r2, hm⟩ := hM.2.fin (by decide) hp
          exact ⟨hr, .one (hM.2.mod_other hM.1 (by decide) hm (fun k hk => .inr hk)) r2 (g.fin hj h1 h7) g2, op_mod ho1 hM.2.log (by decide) hm (fun k hk => .inr hk)⟩
  obtain ⟨z, n1, M, ha, hb'⟩ := key
  have HA := Lib.hid ha
  have HB := Lib.hid hb'
  clear ha hb' h ho hk60 hD hoD hb2
  go_wp2_with fail
  go_region_held3 (fun w' => w'.cell? ⟨cb, 16, none⟩ = some (.int .i64 o.number) ∧ w'.cell? ⟨cb, 17, none⟩ = some (.int .i64 o.how)) (first | exact ⟨y16, y17⟩ | exact op_two h2 | assumption)
    (first
      | (go_at_call 12; (with_reducible refine HA.out.mono ?_); rintro e w' ⟨rfl, h1, h2⟩; have HB2 := Lib.hid (HB.out _ h1 h2))
      | (go_at_call 18; (with_reducible refine HB2.out.mono ?_); rintro e w' ⟨rfl, h1, h2⟩))
  all_goals have H3 := Lib.hid (h1.mono (Nat.le_succ k))
  all_goals clear h1
  all_goals go_wp2
  all_goals exact Met.intro (hJ _ _ ⟨_, _, _, _, ⟨rfl, rfl, rfl, rfl, rfl, rfl, rfl, rfl⟩, H3.out⟩)

set_option maxRecDepth 100000 in
set_option maxHeartbeats 4000000 in
theorem sc_sw2 (hk2 : o.kind = 2) (hf : ScB a sv lv dv lf sd i cb) (h : ScSt w0 w lv dv lf sd k) (hk60 : k < 60) (ho : w.heap[cb]? = some (OpObj o))
    (rest : ∀ a' w', ScPost w0 sv i k a' w' → K a' w') : scSw.wp Tryd.prog (Exit.then K Q) a w := by
  refine wp_cut (fun a' w' => ScPost w0 sv i k a' w') rest ?_
  clear rest
  intro J K' hJ hK
  refine wp_calm ?_
  obtain ⟨vv, rfl⟩ := hf.shape
  clear hf
  dsimp only [scSw, ncl, ncr, ncb, nco, nct, nce, ncx, Tryd.f4]
  have y0 : w.cell? ⟨cb, 0, none⟩ = some (.int .i64 2) := by rw [← hk2, cell_blk ho]; rfl
  clear hk2
  rcases h.inv with ⟨rfl, rfl, rfl, rfl, hb0⟩ | ⟨lb, rb, v, u, xs, ys, b, rfl, rfl, p, r, g, g2⟩
  · have Hc := Lib.hid (fun w1 => copyNil_walk w1)
    have Hr := Lib.hid (fun w1 => rcopyNil_walk w1)
    have Hfin := Lib.hid (show ScSt w0 w (.pointer none) (.pointer none) (.pointer none) (.pointer none) (k + 1) from .nil hb0)
    have y18 : w.cell? ⟨cb, 18, none⟩ = some (.bool o.on) := by rw [cell_blk ho]; rfl
    clear h hb0 ho hk60
    cases hon : o.on
    all_goals
      rw [hon] at y18
      go_wp2_with fail
      refine (Hc.out _).mono ?_
      rintro r w1 ⟨rfl, hw⟩
      obtain rfl := hw.symm
      go_wp2_with fail
      refine (Hr.out _).mono ?_
      rintro r w2 ⟨rfl, hw2⟩
      obtain rfl := hw2.symm
      go_wp2
      exact Met.intro (hJ _ _ ⟨_, _, _, _, ⟨rfl, rfl, rfl, rfl, rfl, rfl, rfl, rfl⟩, Hfin.out⟩)
  · have hlen : xs.length < 65537 := by have := g.len; omega
    have Hc := Lib.hid (copy_walk w lb v xs p.log hlen)
    have Hr := Lib.hid (fun w1 (hb : Below w.heap.size w w1) => rcopy_walk w1 rb u xs (log_later r.log hb) hlen)
    have Hp := Lib.hid p
    have Hrr := Lib.hid r
    have Hg := Lib.hid g
    have Ho := Lib.hid ho
    have hg60 := Lib.hid (g.mono (by omega) : AllGood xs 60)
    clear h ho hk60 p r g g2 hlen
    go_wp2_with fail
    refine Hc.out.mono ?_
    rintro q w1 ⟨cb2, cv, rfl, l1, b1, n1, m1⟩
    have y18 : w1.cell? ⟨cb, 18, none⟩ = some (.bool o.on) := by rw [cell_blk (op_later Ho.out b1)]; rfl
    have Hstay := Lib.hid (Hp.out.copyStay l1 b1 n1 m1)
    have Hon := Lib.hid (Hp.out.copyOn l1 b1 n1 m1)
    have Hr1 := Lib.hid (Hr.out w1 b1)
    have Hrr1 := Lib.hid (Hrr.out.later b1)
    clear l1 b1 n1 m1 Hc Hr y0
    cases hon : o.on
    all_goals
      rw [hon] at y18
      go_wp2_with fail
      refine Hr1.out.mono ?_
      rintro q w2 ⟨cb3, cv3, rfl, l2, b2, n2, m2⟩
      have Hst := Lib.hid (Hrr1.out.copyStay l2 b2 n2 m2)
      have Hs2 := Lib.hid (Hstay.out.later b2)
      have Ho2 := Lib.hid (Hon.out.later b2)
      clear l2 b2 n2 m2
      go_wp2
    · exact Met.intro (hJ _ _ ⟨_, _, _, _, ⟨rfl, rfl, rfl, rfl, rfl, rfl, rfl, rfl⟩, .one Hs2.out Hst.out (Hg.out.mono (Nat.le_succ k)) hg60.out⟩)
    · exact Met.intro (hJ _ _ ⟨_, _, _, _, ⟨rfl, rfl, rfl, rfl, rfl, rfl, rfl, rfl⟩, .one Ho2.out Hst.out (Hg.out.mono (Nat.le_succ k)) hg60.out⟩)

set_option maxRecDepth 100000 in
set_option maxHeartbeats 4000000 in
theorem sc_sw3 (h0 : ¬ o.kind = 0) (h1 : ¬ o.kind = 1) (h2 : ¬ o.kind = 2) (hf : ScB a sv lv dv lf sd i cb) (h : ScSt w0 w lv dv lf sd k) (ho : w.heap[cb]? = some (OpObj o))
    (rest : ∀ a' w', ScPost w0 sv i k a' w' → K a' w') : scSw.wp Tryd.prog (Exit.then K Q) a w := by
  refine wp_cut (fun a' w' => ScPost w0 sv i k a' w') rest ?_
  clear rest
  intro J K' hJ hK
  refine wp_calm ?_
  obtain ⟨vv, rfl⟩ := hf.shape
  clear hf
  dsimp only [scSw, ncl, ncr, ncb, nco, nct, nce, ncx, Tryd.f4]
  have y0 : w.cell? ⟨cb, 0, none⟩ = some (.int .i64 o.kind) := by rw [cell_blk ho]; rfl
  have k0 : (o.kind == 0) = false := beq_eq_false_iff_ne.2 h0
  have k1 : (o.kind == 1) = false := beq_eq_false_iff_ne.2 h1
  have k2 : (o.kind == 2) = false := beq_eq_false_iff_ne.2 h2
  have Hfin := Lib.hid (h.mono (Nat.le_succ k))
  clear h ho h0 h1 h2
  go_wp2
  exact Met.intro (hJ _ _ ⟨_, _, _, _, ⟨rfl, rfl, rfl, rfl, rfl, rfl, rfl, rfl⟩, Hfin.out⟩)

end

end Go.Proofs.YthpflfcgnaichaaDoor
