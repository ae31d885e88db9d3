/-
The statements' made: a log behind a script.
-/
import Derived.Test.YthpflfcgnaichaaDoorTraOrdO
import Derived.Test.YthpflfcgnaichaaDoorTraSt
import Derived.Test.YthpflfcgnaichaaDoorTraIs
set_option linter.unusedVariables false
set_option linter.unusedSimpArgs false
namespace Go.Proofs.YthpflfcgnaichaaDoor
open Go Go.RowKit

noncomputable def mdLoop : Code := (ncr (ncl (ncr (ncr (ncx Tryd.f30.body)))))
noncomputable def mdTest : Code := (ncl (nco (ncb (ncr (ncl (ncr (ncr (ncx Tryd.f30.body))))))))
noncomputable def mdRound : Code := (ncl (ncr (nco (ncb (ncr (ncl (ncr (ncr (ncx Tryd.f30.body)))))))))
noncomputable def mdStep : Code := (ncr (ncr (nco (ncb (ncr (ncl (ncr (ncr (ncx Tryd.f30.body)))))))))
noncomputable def mdOp : Code := (ncl (ncb (ncl (ncr (nco (ncb (ncr (ncl (ncr (ncr (ncx Tryd.f30.body)))))))))))
noncomputable def mdAdd : Code := (ncl (ncr (ncb (ncl (ncr (nco (ncb (ncr (ncl (ncr (ncr (ncx Tryd.f30.body))))))))))))
noncomputable def mdEnd : Code := (ncr (ncr (ncb (ncl (ncr (nco (ncb (ncr (ncl (ncr (ncr (ncx Tryd.f30.body))))))))))))

set_option maxRecDepth 20000 in
theorem md_act (a : Act) (hs : a.tmps.size = 40) (hd : a.defers = []) : ∃ v : Nat → Value, (∀ (i : Nat) (x : Value), a.tmps[i]? = some x → v i = x) ∧ a = ⟨#[v 0, v 1, v 2, v 3, v 4, v 5, v 6, v 7, v 8, v 9, v 10, v 11, v 12, v 13, v 14, v 15, v 16, v 17, v 18, v 19, v 20, v 21, v 22, v 23, v 24, v 25, v 26, v 27, v 28, v 29, v 30, v 31, v 32, v 33, v 34, v 35, v 36, v 37, v 38, v 39], []⟩ := by
  obtain ⟨t, d⟩ := a
  obtain ⟨l⟩ := t
  obtain rfl : d = [] := hd
  have hl : l.length = 40 := hs
  refine ⟨fun i => l.getD i undef, fun i x hx => ?_, ?_⟩
  · have hx' : l[i]? = some x := by simpa using hx
    simp [List.getD, hx']
  · have e : l = (List.range 40).map (fun i => l.getD i undef) := by
      apply List.ext_getElem
      · simp [hl]
      · intro i h1 h2
        simp [List.getD, h1]
    generalize (fun i => l.getD i undef) = v at e ⊢
    subst e
    rfl

structure MdA (a : Act) (sv : Value) (lb : Nat) (i : Int) : Prop where
  size : a.tmps.size = 40
  dfr : a.defers = []
  s0 : a.tmps[0]? = some (sv)
  s3 : a.tmps[3]? = some (.pointer (some ⟨lb, 0, none⟩))
  s4 : a.tmps[4]? = some (.int .i64 i)

set_option maxRecDepth 20000 in
theorem MdA.shape {a : Act} {sv : Value} {lb : Nat} {i : Int} (h : MdA a sv lb i) : ∃ v : Nat → Value, a = ⟨#[sv, v 1, v 2, .pointer (some ⟨lb, 0, none⟩), .int .i64 i, v 5, v 6, v 7, v 8, v 9, v 10, v 11, v 12, v 13, v 14, v 15, v 16, v 17, v 18, v 19, v 20, v 21, v 22, v 23, v 24, v 25, v 26, v 27, v 28, v 29, v 30, v 31, v 32, v 33, v 34, v 35, v 36, v 37, v 38, v 39], []⟩ := by
  obtain ⟨v, hv, hd⟩ := md_act a h.size h.dfr
  have e0 := hv 0 _ h.s0
  have e3 := hv 3 _ h.s3
  have e4 := hv 4 _ h.s4
  refine ⟨v, ?_⟩
  rw [hd]
  simp only [e0, e3, e4]

structure MdB (a : Act) (sv : Value) (lb : Nat) (i : Int) (cb : Nat) : Prop where
  size : a.tmps.size = 40
  dfr : a.defers = []
  s0 : a.tmps[0]? = some (sv)
  s3 : a.tmps[3]? = some (.pointer (some ⟨lb, 0, none⟩))
  s4 : a.tmps[4]? = some (.int .i64 i)
  s5 : a.tmps[5]? = some (.pointer (some ⟨cb, 0, none⟩))

set_option maxRecDepth 20000 in
theorem MdB.shape {a : Act} {sv : Value} {lb : Nat} {i : Int} {cb : Nat} (h : MdB a sv lb i cb) : ∃ v : Nat → Value, a = ⟨#[sv, v 1, v 2, .pointer (some ⟨lb, 0, none⟩), .int .i64 i, .pointer (some ⟨cb, 0, none⟩), v 6, v 7, v 8, v 9, v 10, v 11, v 12, v 13, v 14, v 15, v 16, v 17, v 18, v 19, v 20, v 21, v 22, v 23, v 24, v 25, v 26, v 27, v 28, v 29, v 30, v 31, v 32, v 33, v 34, v 35, v 36, v 37, v 38, v 39], []⟩ := by
  obtain ⟨v, hv, hd⟩ := md_act a h.size h.dfr
  have e0 := hv 0 _ h.s0
  have e3 := hv 3 _ h.s3
  have e4 := hv 4 _ h.s4
  have e5 := hv 5 _ h.s5
  refine ⟨v, ?_⟩
  rw [hd]
  simp only [e0, e3, e4, e5]

theorem MdB.toA {a : Act} {sv : Value} {lb : Nat} {i : Int} {cb : Nat} (h : MdB a sv lb i cb) : MdA a sv lb i := ⟨h.size, h.dfr, h.s0, h.s3, h.s4⟩

theorem ends_yes {xs : List Ent} {i how : Int} (h : endsB xs i how = true) : ∃ (k : Nat) (e : Ent), i = (k : Int) ∧ xs[k]? = some e ∧ e.fin = 0 ∧ 1 ≤ how ∧ how ≤ 7 := by
  unfold endsB at h
  rw [Bool.and_eq_true, decide_eq_true_eq] at h
  obtain ⟨⟨h1, h2, h3, h4⟩, h5⟩ := h
  obtain ⟨k, rfl⟩ : ∃ k : Nat, i = (k : Int) := ⟨i.toNat, by omega⟩
  rw [show ((k : Int)).toNat = k from rfl] at h5
  cases he : xs[k]? with
  | none => rw [he] at h5; cases h5
  | some e =>
    rw [he] at h5
    exact ⟨k, e, rfl, he, by simpa using h5, h3, h4⟩

/-- An entry of small texts. -/
structure Ent.Sm (e : Ent) : Prop where
  method : e.method.size ≤ 1048576
  host : e.host.size ≤ 1048576
  path : e.path.size ≤ 1048576
  route : e.route.size ≤ 1048576
  service : e.service.size ≤ 1048576
  endp : e.endp.size ≤ 1048576

theorem Ent.Sm.num {e : Ent} (h : e.Sm) (n : Nat) : (e.num n).Sm := ⟨h.method, h.host, h.path, h.route, h.service, h.endp⟩
theorem Ent.Sm.ended {e : Ent} (h : e.Sm) (n : Int) : (e.ended n).Sm := ⟨h.method, h.host, h.path, h.route, h.service, h.endp⟩

theorem sm_add {xs : List Ent} {e : Ent} (h : ∀ x ∈ xs, x.Sm) (he : e.Sm) : ∀ x ∈ xs ++ [e.num xs.length], x.Sm := fun x hx => by
  rcases List.mem_append.1 hx with q | q
  · exact h x q
  · obtain rfl := List.mem_singleton.1 q
    exact he.num _

theorem sm_set {xs : List Ent} {e : Ent} {j : Nat} {how : Int} (h : ∀ x ∈ xs, x.Sm) (hj : xs[j]? = some e) : ∀ x ∈ xs.set j (e.ended how), x.Sm := fun x hx => by
  rcases List.mem_or_eq_of_mem_set hx with q | q
  · exact h x q
  · rw [q]
    exact (h e (List.mem_of_getElem? hj)).ended how

/-- The log under way. -/
structure MI (w0 w : World) (lb : Nat) (v : Value) (xs : List Ent) (k : Nat) : Prop where
  lg : Lg w0 w lb v xs
  all : AllGood xs k
  sm : ∀ x ∈ xs, x.Sm

theorem MI.later {w0 w w2 : World} {lb : Nat} {v : Value} {xs : List Ent} {k : Nat} (h : MI w0 w lb v xs k) (hb : Below w.heap.size w w2) : MI w0 w2 lb v xs k := ⟨h.lg.later hb, h.all, h.sm⟩

section
variable {w0 w : World} {lb cb : Nat} {v : Value} {xs : List Ent} {o : OpD} {sv : Value} {i : Int} {k : Nat} {K : Act → World → Prop} {Q : Exit → Act → World → Prop} {a : Act}

set_option maxRecDepth 100000 in
set_option maxHeartbeats 4000000 in
theorem md_op {gl ol len cl kk : Nat} (hf : MdA a (.slice (some ⟨gl, ol, none⟩) len cl) lb (kk : Int)) (h : MI w0 w lb v xs k) (hkk : kk < len) (ho : OpAt w gl (ol + kk * 19) o)
    (rest : ∀ a' w' cb, MdB a' (.slice (some ⟨gl, ol, none⟩) len cl) lb (kk : Int) cb → MI w0 w' lb v xs k → w'.heap[cb]? = some (OpObj o) → K a' w') : mdOp.wp Tryd.prog (Exit.then K Q) a w := by
  refine wp_cut (fun a' w' => ∃ cb, MdB a' (.slice (some ⟨gl, ol, none⟩) len cl) lb (kk : Int) cb ∧ MI w0 w' lb v xs k ∧ w'.heap[cb]? = some (OpObj o)) (fun a' w' ⟨cb, h⟩ => rest a' w' cb h.1 h.2.1 h.2.2) ?_
  clear rest
  intro J K' hJ hK
  obtain ⟨vv, rfl⟩ := hf.shape
  clear hf
  dsimp only [mdOp, ncl, ncr, ncb, nco, nct, nce, ncx, Tryd.f30]
  have Hr := Lib.hid (show w.rangeAt gl (ol + kk * 19) o.cells from ho)
  have Hi := Lib.hid (show (Tryd.prog.info? 34).map (·.size) = some o.cells.length by kernel_rfl)
  have Hfin := Lib.hid (And.intro (h.later ((Below.refl _ w).alloc (Nat.le_refl _) (OpObj o))) (alloc_new (w := w) (OpObj o)))
  clear h ho
  have b1 : (kk : Int) < (len : Int) := by omega
  refine wp_region_lit ?_
  refine wpList_plain rfl fun K1 hK1 => ?_
  go_simp
  refine hK1 _ _ ?_
  clear hK1 K1
  refine wpList_plain rfl fun K2 hK2 => ?_
  go_simp
  refine hK2 _ _ ?_
  clear hK2 K2
  refine wpList_plain rfl fun K3 hK3 => ?_
  go_simp
  refine hK3 _ _ ?_
  clear hK3 K3
  refine wpList_load_mid rfl 34 _ rfl gl (ol + kk * 19) rfl o.cells _ Hr.out Tryd.underlying34 rfl Hi.out ?_
  unfold OpD.cells
  refine wpList_plain rfl fun K4 hK4 => ?_
  go_simp
  refine hK4 _ _ ?_
  clear hK4 K4
  refine wpList_store_last rfl 34 _ _ rfl _ #[.int .i64 o.kind, .int .i64 o.e.number, .int .i64 o.e.version, .int .i64 o.e.epoch, .string o.e.method, .string o.e.host, .string o.e.path, .int .u64 (o.e.a : Int), .int .u64 (o.e.b : Int), .int .i64 o.e.kind, .int .i64 o.e.status, .string o.e.route, .int .i64 o.e.rule, .string o.e.service, .string o.e.endp, .int .i64 o.e.fin, .int .i64 o.number, .int .i64 o.how, .bool o.on] rfl rfl Hi.out rfl (op_one o) ?_
  refine wpList_nil ?_
  refine hK _ _ ?_
  exact Met.intro (hJ _ _ ⟨_, ⟨rfl, rfl, rfl, rfl, rfl, rfl⟩, Hfin.out.1, Hfin.out.2⟩)

set_option maxRecDepth 100000 in
set_option maxHeartbeats 4000000 in
theorem md_add (hf : MdB a sv lb i cb) (h : MI w0 w lb v xs k) (ho : w.heap[cb]? = some (OpObj o)) (hk60 : k < 60) (hfit : o.e.Fit) (hsm : o.e.Sm)
    (rest : ∀ a' w' v' xs' m, m ≤ k + 1 → MdB a' sv lb i cb → MI w0 w' lb v' xs' m → w'.heap[cb]? = some (OpObj o) → K a' w') : mdAdd.wp Tryd.prog (Exit.then K Q) a w := by
  refine wp_cut (fun a' w' => ∃ v' xs' m, m ≤ k + 1 ∧ MdB a' sv lb i cb ∧ MI w0 w' lb v' xs' m ∧ w'.heap[cb]? = some (OpObj o)) (fun a' w' ⟨v', xs', m, hm, h⟩ => rest a' w' v' xs' m hm h.1 h.2.1 h.2.2) ?_
  clear rest
  intro J K' hJ hK
  refine wp_calm ?_
  obtain ⟨vv, rfl⟩ := hf.shape
  clear hf
  dsimp only [mdAdd, ncl, ncr, ncb, nco, nct, nce, ncx, Tryd.f30]
  obtain ⟨y0, y1, y2, y3, y4, y5, y6, y7, y8, y9, y10, y11, y12, y13, y14, y15, y16, y17, y18⟩ := op_block ho
  by_cases hk : o.kind = 0
  rotate_left
  · have hkb : (o.kind == 0) = false := beq_eq_false_iff_ne.2 hk
    have Hfin := Lib.hid (And.intro h ho)
    clear h ho hk hfit hsm
    go_wp2
    exact Met.intro (hJ _ _ ⟨_, _, _, Nat.le_succ _, ⟨rfl, rfl, rfl, rfl, rfl, rfl⟩, Hfin.out.1, Hfin.out.2⟩)
  have hkb : (o.kind == 0) = true := by rw [hk]; rfl
  clear hk
  have Ho := Lib.hid (show ∀ w1, Calls Tryd.prog 11 #[.agg #[.int .i64 o.e.number, .int .i64 o.e.version, .int .i64 o.e.epoch, .string o.e.method, .string o.e.host, .string o.e.path, .int .u64 (o.e.a : Int), .int .u64 (o.e.b : Int), .int .i64 o.e.kind, .int .i64 o.e.status, .string o.e.route, .int .i64 o.e.rule, .string o.e.service, .string o.e.endp, .int .i64 o.e.fin]] w1 fun r w' => r = .returned (.agg #[.int .i64 o.e.number, .int .i64 o.e.version, .int .i64 o.e.epoch, .string o.e.method, .string o.e.host, .string o.e.path, .int .u64 (o.e.a : Int), .int .u64 (o.e.b : Int), .int .i64 o.e.kind, .int .i64 o.e.status, .string o.e.route, .int .i64 o.e.rule, .string o.e.service, .string o.e.endp, .int .i64 o.e.fin]) ∧ Below w1.heap.size w1 w' from fun w1 => own_walk w1 o.e)
  by_cases hmay : o.e.may = true
  rotate_left
  · have HA := Lib.hid (show ∀ w1, Below w.heap.size w w1 → Calls Tryd.prog 10 #[.pointer (some ⟨lb, 0, none⟩), .agg #[.int .i64 o.e.number, .int .i64 o.e.version, .int .i64 o.e.epoch, .string o.e.method, .string o.e.host, .string o.e.path, .int .u64 (o.e.a : Int), .int .u64 (o.e.b : Int), .int .i64 o.e.kind, .int .i64 o.e.status, .string o.e.route, .int .i64 o.e.rule, .string o.e.service, .string o.e.endp, .int .i64 o.e.fin]] w1 fun r w' => r = .returned (.tuple #[.int .i64 0, .int .i64 2]) ∧ (MI w0 w' lb v xs k ∧ w'.heap[cb]? = some (OpObj o)) from
      fun w1 hb => ((h.lg.later hb).addBad o.e (by simpa using hmay)).mono fun r w' ⟨hr, _, h2⟩ => ⟨hr, (h.later hb).later h2, op_later (op_later ho hb) h2⟩)
    clear h ho hmay hfit hsm
    go_wp2_with fail
    refine (Ho.out _).mono ?_
    rintro r w1 ⟨rfl, hb⟩
    have HA1 := Lib.hid (HA.out w1 hb)
    clear hb HA Ho
    go_wp2_with fail
    refine HA1.out.mono ?_
    rintro r w2 ⟨rfl, h2⟩
    have H2 := Lib.hid h2
    clear h2 HA1
    go_wp2
    exact Met.intro (hJ _ _ ⟨_, _, _, Nat.le_succ _, ⟨rfl, rfl, rfl, rfl, rfl, rfl⟩, H2.out.1, H2.out.2⟩)
  · obtain ⟨n, hn⟩ : ∃ n, n = xs.length := ⟨_, rfl⟩
    have HA := Lib.hid (show ∀ w1, Below w.heap.size w w1 → Calls Tryd.prog 10 #[.pointer (some ⟨lb, 0, none⟩), .agg #[.int .i64 o.e.number, .int .i64 o.e.version, .int .i64 o.e.epoch, .string o.e.method, .string o.e.host, .string o.e.path, .int .u64 (o.e.a : Int), .int .u64 (o.e.b : Int), .int .i64 o.e.kind, .int .i64 o.e.status, .string o.e.route, .int .i64 o.e.rule, .string o.e.service, .string o.e.endp, .int .i64 o.e.fin]] w1 fun r w' => ∃ v', r = .returned (.tuple #[.int .i64 (n : Int), .int .i64 0]) ∧ (MI w0 w' lb v' (xs ++ [o.e.num xs.length]) (k + 1) ∧ w'.heap[cb]? = some (OpObj o)) from
      fun w1 hb => ((h.lg.later hb).add o.e (by have := h.all.len; omega) hmay).mono fun r w' ⟨v', hr, h1, h2, h3⟩ => by
        rw [hn]
        exact ⟨v', hr, ⟨h1, h.all.add (by omega) hfit hmay, sm_add h.sm hsm⟩, h2.heap (op_later ho hb) (op_apart (h.lg.later hb) (op_later ho hb))⟩)
    clear h ho hmay hn hfit hsm
    go_wp2_with fail
    refine (Ho.out _).mono ?_
    rintro r w1 ⟨rfl, hb⟩
    have HA1 := Lib.hid (HA.out w1 hb)
    clear hb HA Ho
    go_wp2_with fail
    refine HA1.out.mono ?_
    rintro r w2 ⟨v', rfl, h2⟩
    have H2 := Lib.hid h2
    clear h2 HA1
    go_wp2
    exact Met.intro (hJ _ _ ⟨_, _, _, Nat.le_refl _, ⟨rfl, rfl, rfl, rfl, rfl, rfl⟩, H2.out.1, H2.out.2⟩)

set_option maxRecDepth 100000 in
set_option maxHeartbeats 4000000 in
theorem md_end (hf : MdB a sv lb i cb) (h : MI w0 w lb v xs k) (ho : w.heap[cb]? = some (OpObj o)) (hk60 : k ≤ 60)
    (rest : ∀ a' w' xs', MdB a' sv lb i cb → MI w0 w' lb v xs' k → K a' w') : mdEnd.wp Tryd.prog (Exit.then K Q) a w := by
  refine wp_cut (fun a' w' => ∃ xs', MdB a' sv lb i cb ∧ MI w0 w' lb v xs' k) (fun a' w' ⟨xs', h⟩ => rest a' w' xs' h.1 h.2) ?_
  clear rest
  intro J K' hJ hK
  refine wp_calm ?_
  obtain ⟨vv, rfl⟩ := hf.shape
  clear hf
  dsimp only [mdEnd, ncl, ncr, ncb, nco, nct, nce, ncx, Tryd.f30]
  have y0 := (op_block ho).1
  have y16 : w.cell? ⟨cb, 16, none⟩ = some (.int .i64 o.number) := by rw [cell_blk ho]; rfl
  have y17 : w.cell? ⟨cb, 17, none⟩ = some (.int .i64 o.how) := by rw [cell_blk ho]; rfl
  by_cases hk : o.kind = 1
  rotate_left
  · have hkb : (o.kind == 1) = false := beq_eq_false_iff_ne.2 hk
    have Hfin := Lib.hid h
    clear h ho hk
    go_wp2
    exact Met.intro (hJ _ _ ⟨_, ⟨rfl, rfl, rfl, rfl, rfl, rfl⟩, Hfin.out⟩)
  have hkb : (o.kind == 1) = true := by rw [hk]; rfl
  clear hk
  have hlen : xs.length < 65537 := by have := h.all.len; omega
  cases he : endsB xs o.number o.how with
  | false =>
    have HE := Lib.hid (pendBad_walk w lb v xs h.lg.log hlen o.number o.how he)
    have Hfin := Lib.hid h
    clear h ho he hlen
    go_wp2_with fail
    refine HE.out.mono ?_
    rintro r w1 ⟨rfl, hw⟩
    obtain rfl := hw.symm
    clear HE hw
    go_wp2
    exact Met.intro (hJ _ _ ⟨_, ⟨rfl, rfl, rfl, rfl, rfl, rfl⟩, Hfin.out⟩)
  | true =>
    obtain ⟨j, e, hnum, hke, hf0, h1, h7⟩ := ends_yes he
    obtain ⟨kd, ee, number, how, on⟩ := o
    dsimp only at hnum h1 h7 y0 y16 y17 hkb
    subst hnum
    have HE := Lib.hid (show Calls Tryd.prog 12 #[.pointer (some ⟨lb, 0, none⟩), .int .i64 (j : Int), .int .i64 how] w fun r w' => r = .returned (.int .i64 0) ∧ MI w0 w' lb v (xs.set j (e.ended how)) k from
      (h.lg.fin hlen j e how hke hf0 h1 h7).mono fun r w' ⟨hr, hl, hm⟩ => ⟨hr, hl, h.all.fin hke h1 h7, sm_set h.sm hke⟩)
    clear h ho he hke hf0 h1 h7 hlen
    go_wp2_with fail
    refine HE.out.mono ?_
    rintro r w1 ⟨rfl, hl⟩
    have Hend := Lib.hid hl
    clear hl HE
    go_wp2
    exact Met.intro (hJ _ _ ⟨_, ⟨rfl, rfl, rfl, rfl, rfl, rfl⟩, Hend.out⟩)

set_option maxRecDepth 100000 in
set_option maxHeartbeats 4000000 in
theorem md_step {k : Nat} (hf : MdA a sv lb (k : Int)) (hk : k < 65537) (rest : ∀ a', MdA a' sv lb ((k + 1 : Nat) : Int) → K a' w) : mdStep.wp Tryd.prog (Exit.then K Q) a w := by
  refine wp_cut (fun a' w' => MdA a' sv lb ((k + 1 : Nat) : Int) ∧ w' = w) (fun a' w' ⟨h, e⟩ => by subst e; exact rest a' h) ?_
  clear rest
  intro J K' hJ hK
  obtain ⟨vv, rfl⟩ := hf.shape
  clear hf
  dsimp only [mdStep, ncl, ncr, ncb, nco, nct, nce, ncx, Tryd.f30]
  have Hop := Lib.hid (go_step (wrap_small hk))
  clear hk
  go_wp2
  exact Met.intro (hJ _ _ ⟨⟨rfl, rfl, rfl, rfl, congrArg some Hop.out⟩, rfl⟩)

set_option maxRecDepth 100000 in
set_option maxHeartbeats 4000000 in
theorem md_test {k n c : Nat} {ao : Option Addr} (hf : MdA a (.slice ao n c) lb (k : Int))
    (rest : ∀ a', k < n → k < 60 → MdA a' (.slice ao n c) lb (k : Int) → K a' w) (out : ∀ a', MdA a' (.slice ao n c) lb (k : Int) → Q (.exit 0) a' w) : mdTest.wp Tryd.prog (Exit.then K Q) a w := by
  obtain ⟨vv, rfl⟩ := hf.shape
  clear hf
  dsimp only [mdTest, ncl, ncr, ncb, nco, nct, nce, ncx, Tryd.f30]
  by_cases hk : k < n
  · by_cases hk2 : k < 60
    · have Hr := Lib.hid (fun a' h => rest a' hk hk2 h)
      have b1 : (k : Int) < (n : Int) := by omega
      have b2 : decide ((k : Int) < 60) = true := decide_eq_true (by omega)
      clear rest out hk hk2
      go_wp2
      exact Hr.out _ ⟨rfl, rfl, rfl, rfl, rfl⟩
    · have Hr := Lib.hid (fun a' h => out a' h)
      have b1 : (k : Int) < (n : Int) := by omega
      have b2 : decide ((k : Int) < 60) = false := decide_eq_false (by omega)
      clear rest out hk hk2
      go_wp2
      exact Hr.out _ ⟨rfl, rfl, rfl, rfl, rfl⟩
  · have Hr := Lib.hid (fun a' h => out a' h)
    have b1 : (n : Int) ≤ (k : Int) := by omega
    clear rest out hk
    go_wp2
    exact Hr.out _ ⟨rfl, rfl, rfl, rfl, rfl⟩

theorem md_round {gl ol len cl kk : Nat} (hf : MdA a (.slice (some ⟨gl, ol, none⟩) len cl) lb (kk : Int)) (h : MI w0 w lb v xs kk) (hkk : kk < len) (h60 : kk < 60) (ho : OpAt w gl (ol + kk * 19) o) (hfit : o.e.Fit) (hsm : o.e.Sm)
    (rest : ∀ a' w' v' xs', MdA a' (.slice (some ⟨gl, ol, none⟩) len cl) lb (kk : Int) → MI w0 w' lb v' xs' (kk + 1) → K a' w') : mdRound.wp Tryd.prog (Exit.then K Q) a w := by
  show (Code.block 1 (Code.seq mdOp (Code.seq mdAdd mdEnd))).wp Tryd.prog (Exit.then K Q) a w
  refine in_block (wp_seq (md_op hf h hkk ho (fun a1 w1 cb f1 h1 o1 => wp_seq (md_add f1 h1 o1 h60 hfit hsm (fun a2 w2 v2 xs2 m hm f2 h2 o2 => md_end f2 h2 o2 (by omega) (fun a3 w3 xs3 f3 h3 => ?_))))))
  exact rest a3 w3 v2 xs3 f3.toA ⟨h3.lg, h3.all.mono hm, h3.sm⟩

theorem md_loop {ao : Option Addr} {gl ol len cl : Nat} {C : Nat → OpD} (hf : MdA a (.slice ao len cl) lb 0) (h : MI w0 w lb v [] 0) (hal : 0 < len → ao = some ⟨gl, ol, none⟩ ∧ gl < w0.heap.size) (hc : ∀ i, i < len → OpAt w0 gl (ol + i * 19) (C i)) (hfit : ∀ i, i < len → (C i).e.Fit ∧ (C i).e.Sm)
    (rest : ∀ a' w' v' xs' i, MdA a' (.slice ao len cl) lb i → MI w0 w' lb v' xs' 60 → K a' w') : (ncb mdLoop).wp Tryd.prog (Exit.inBlock 0 (Exit.then K Q)) a w := by
  show (Code.loop (Code.seq mdTest (Code.seq mdRound mdStep))).wp Tryd.prog (Exit.inBlock 0 (Exit.then K Q)) a w
  refine wp_loop (fun a' w' => ∃ (k : Nat) (v : Value) (xs : List Ent), k ≤ 60 ∧ MdA a' (.slice ao len cl) lb (k : Int) ∧ MI w0 w' lb v xs k) (fun a' _ => 60 - (intOf (a'.tmps.getD 4 undef)).toNat) ⟨0, _, [], by omega, hf, h⟩ ?_
  rintro a' w' ⟨k, v, xs, hk, hf', h'⟩
  refine wp_seq (md_test hf' (fun a1 hlt h60 hf1 => ?_) (fun a1 hf1 => ?_))
  · obtain ⟨rfl, hgl⟩ := hal (by omega)
    refine wp_seq (md_round hf1 h' hlt h60 ((hc k hlt).below hgl h'.lg.below) (hfit k hlt).1 (hfit k hlt).2 (fun a2 w2 v2 xs2 hf2 h2 => md_step hf2 (by omega) (fun a3 hf3 => ⟨⟨k + 1, v2, xs2, by omega, hf3, h2⟩, ?_⟩)))
    show 60 - (intOf (a3.tmps.getD 4 undef)).toNat < 60 - (intOf (a'.tmps.getD 4 undef)).toNat
    rw [getD_of hf3.s4, getD_of hf'.s4]
    simp only [intOf]
    omega
  · refine out_loop ?_
    exact rest _ _ _ _ _ hf1 ⟨h'.lg, h'.all.mono hk, h'.sm⟩

end

def MadePost (w : World) (r : Ending) (w' : World) : Prop := ∃ lb v xs, r = .returned (.pointer (some ⟨lb, 0, none⟩)) ∧ Lg w w' lb v xs ∧ AllGood xs 60 ∧ ∀ x ∈ xs, x.Sm

set_option maxRecDepth 100000 in
set_option maxHeartbeats 1600000 in
theorem made_walk (w : World) (al : Option Addr) (len cl gl ol : Nat) (hal : 0 < len → al = some ⟨gl, ol, .none⟩ ∧ gl < w.heap.size) (C : Nat → OpD) (hc : ∀ i, i < len → OpAt w gl (ol + i * 19) (C i)) (hfit : ∀ i, i < len → (C i).e.Fit ∧ (C i).e.Sm) :
    Calls Tryd.prog 30 #[.slice al len cl] w (MadePost w) := by
  have Hal := Lib.hid hal
  have Hc := Lib.hid hc
  have Hf := Lib.hid hfit
  have Hl := Lib.hid (show MI w (w.alloc (.cells #[.slice none 0 0] 27)) w.heap.size (.slice none 0 0) [] 0 from ⟨log_new w, AllGood.nil 0, nofun⟩)
  clear hal hc hfit
  go_enter Tryd.func30, Tryd.ntmps30
  go_wp2_with fail
  rename_i K1 hK1
  refine md_loop (w0 := w) (ao := al) (len := len) (cl := cl) (gl := gl) (ol := ol) (C := C) ?hf Hl.out Hal.out Hc.out Hf.out ?_
  case hf => exact ⟨rfl, rfl, rfl, rfl, rfl⟩
  intro a' w' v' xs' i hf h
  refine hK1 _ _ ?_
  obtain ⟨vv, rfl⟩ := hf.shape
  have Hend := Lib.hid (show MadePost w (.returned (.pointer (some ⟨w.heap.size, 0, none⟩))) w' from ⟨_, v', xs', rfl, h.lg, h.all, h.sm⟩)
  clear hf h
  go_wp2
  go_ret
  exact Hend.out

end Go.Proofs.YthpflfcgnaichaaDoor
