/-
decide.Decide: its memory, its frames and its pieces.
-/
import Derived.Test.YthpflfcgnaichaaDoorTraDec2
import Derived.Test.YthpflfcgnaichaaDoorCode
import Derived.Test.YthpflfcgnaichaaDoorTraEntM
set_option linter.unusedVariables false
set_option linter.unusedSimpArgs false
namespace Go.Proofs.YthpflfcgnaichaaDoor
open Go Go.RowKit

def ncs : Code → Code
  | .scope c => c
  | c => c

noncomputable def dc9 : Code := (ncl (ncr (ncr (ncr (ncr (ncr (ncr (ncr (ncr (ncs (ncr (ncx Tryd.f36.body))))))))))))
noncomputable def dc10 : Code := (ncl (ncr (ncr (ncr (ncr (ncr (ncr (ncr (ncr (ncr (ncs (ncr (ncx Tryd.f36.body)))))))))))))
noncomputable def dc11 : Code := (ncl (ncr (ncr (ncr (ncr (ncr (ncr (ncr (ncr (ncr (ncr (ncs (ncr (ncx Tryd.f36.body))))))))))))))
noncomputable def dc12 : Code := (ncl (ncr (ncr (ncr (ncr (ncr (ncr (ncr (ncr (ncr (ncr (ncr (ncs (ncr (ncx Tryd.f36.body)))))))))))))))
noncomputable def dc13 : Code := (ncl (ncr (ncr (ncr (ncr (ncr (ncr (ncr (ncr (ncr (ncr (ncr (ncr (ncs (ncr (ncx Tryd.f36.body))))))))))))))))
noncomputable def dc14 : Code := (ncl (ncr (ncr (ncr (ncr (ncr (ncr (ncr (ncr (ncr (ncr (ncr (ncr (ncr (ncs (ncr (ncx Tryd.f36.body)))))))))))))))))
noncomputable def dc15 : Code := (ncl (ncr (ncr (ncr (ncr (ncr (ncr (ncr (ncr (ncr (ncr (ncr (ncr (ncr (ncr (ncs (ncr (ncx Tryd.f36.body))))))))))))))))))
noncomputable def dc16 : Code := (ncl (ncr (ncr (ncr (ncr (ncr (ncr (ncr (ncr (ncr (ncr (ncr (ncr (ncr (ncr (ncr (ncs (ncr (ncx Tryd.f36.body)))))))))))))))))))
noncomputable def dcTail : Code := (ncr (ncr (ncr (ncr (ncr (ncr (ncr (ncr (ncr (ncr (ncr (ncr (ncr (ncr (ncr (ncr (ncr (ncs (ncr (ncx Tryd.f36.body))))))))))))))))))))

set_option maxRecDepth 20000 in
theorem dc_act (a : Act) (hs : a.tmps.size = 106) (hd : a.defers = []) : ∃ v : Nat → Value, (∀ (i : Nat) (x : Value), a.tmps[i]? = some x → v i = x) ∧ a = ⟨#[v 0, v 1, v 2, v 3, v 4, v 5, v 6, v 7, v 8, v 9, v 10, v 11, v 12, v 13, v 14, v 15, v 16, v 17, v 18, v 19, v 20, v 21, v 22, v 23, v 24, v 25, v 26, v 27, v 28, v 29, v 30, v 31, v 32, v 33, v 34, v 35, v 36, v 37, v 38, v 39, v 40, v 41, v 42, v 43, v 44, v 45, v 46, v 47, v 48, v 49, v 50, v 51, v 52, v 53, v 54, v 55, v 56, v 57, v 58, v 59, v 60, v 61, v 62, v 63, v 64, v 65, v 66, v 67, v 68, v 69, v 70, v 71, v 72, v 73, v 74, v 75, v 76, v 77, v 78, v 79, v 80, v 81, v 82, v 83, v 84, v 85, v 86, v 87, v 88, v 89, v 90, v 91, v 92, v 93, v 94, v 95, v 96, v 97, v 98, v 99, v 100, v 101, v 102, v 103, v 104, v 105], []⟩ := by
  obtain ⟨t, d⟩ := a
  obtain ⟨l⟩ := t
  obtain rfl : d = [] := hd
  have hl : l.length = 106 := hs
  refine ⟨fun i => l.getD i undef, fun i x hx => ?_, ?_⟩
  · have hx' : l[i]? = some x := by simpa using hx
    simp [List.getD, hx']
  · have e : l = (List.range 106).map (fun i => l.getD i undef) := by
      apply List.ext_getElem
      · simp [hl]
      · intro i h1 h2
        simp [List.getD, h1]
    generalize (fun i => l.getD i undef) = v at e ⊢
    subst e
    rfl

structure DcA (a : Act) (W : Nat) (hl : Value) (m : ByteArray) (p : ByteArray) (u : Nat) (n : Int) (al : Value) (i : Int) : Prop where
  size : a.tmps.size = 106
  dfr : a.defers = []
  s1 : a.tmps[1]? = some (hl)
  s2 : a.tmps[2]? = some (.string m)
  s4 : a.tmps[4]? = some (.string p)
  s5 : a.tmps[5]? = some (.float .f64 u)
  s6 : a.tmps[6]? = some (.int .i64 n)
  s7 : a.tmps[7]? = some (.pointer (some ⟨W, 0, none⟩))
  s14 : a.tmps[14]? = some (.pointer (some ⟨W + 1, 0, none⟩))
  s15 : a.tmps[15]? = some (.pointer (some ⟨W + 2, 0, none⟩))
  s16 : a.tmps[16]? = some (.pointer (some ⟨W + 3, 0, none⟩))
  s17 : a.tmps[17]? = some (.pointer (some ⟨W + 4, 0, none⟩))
  s18 : a.tmps[18]? = some (al)
  s19 : a.tmps[19]? = some (.int .i64 i)

set_option maxRecDepth 20000 in
theorem DcA.shape {a : Act} {W : Nat} {hl : Value} {m : ByteArray} {p : ByteArray} {u : Nat} {n : Int} {al : Value} {i : Int} (h : DcA a W hl m p u n al i) : ∃ v : Nat → Value, a = ⟨#[v 0, hl, .string m, v 3, .string p, .float .f64 u, .int .i64 n, .pointer (some ⟨W, 0, none⟩), v 8, v 9, v 10, v 11, v 12, v 13, .pointer (some ⟨W + 1, 0, none⟩), .pointer (some ⟨W + 2, 0, none⟩), .pointer (some ⟨W + 3, 0, none⟩), .pointer (some ⟨W + 4, 0, none⟩), al, .int .i64 i, v 20, v 21, v 22, v 23, v 24, v 25, v 26, v 27, v 28, v 29, v 30, v 31, v 32, v 33, v 34, v 35, v 36, v 37, v 38, v 39, v 40, v 41, v 42, v 43, v 44, v 45, v 46, v 47, v 48, v 49, v 50, v 51, v 52, v 53, v 54, v 55, v 56, v 57, v 58, v 59, v 60, v 61, v 62, v 63, v 64, v 65, v 66, v 67, v 68, v 69, v 70, v 71, v 72, v 73, v 74, v 75, v 76, v 77, v 78, v 79, v 80, v 81, v 82, v 83, v 84, v 85, v 86, v 87, v 88, v 89, v 90, v 91, v 92, v 93, v 94, v 95, v 96, v 97, v 98, v 99, v 100, v 101, v 102, v 103, v 104, v 105], []⟩ := by
  obtain ⟨v, hv, hd⟩ := dc_act a h.size h.dfr
  have e1 := hv 1 _ h.s1
  have e2 := hv 2 _ h.s2
  have e4 := hv 4 _ h.s4
  have e5 := hv 5 _ h.s5
  have e6 := hv 6 _ h.s6
  have e7 := hv 7 _ h.s7
  have e14 := hv 14 _ h.s14
  have e15 := hv 15 _ h.s15
  have e16 := hv 16 _ h.s16
  have e17 := hv 17 _ h.s17
  have e18 := hv 18 _ h.s18
  have e19 := hv 19 _ h.s19
  refine ⟨v, ?_⟩
  rw [hd]
  simp only [e1, e2, e4, e5, e6, e7, e14, e15, e16, e17, e18, e19]

structure DcT (a : Act) (W : Nat) : Prop where
  size : a.tmps.size = 106
  dfr : a.defers = []
  s14 : a.tmps[14]? = some (.pointer (some ⟨W + 1, 0, none⟩))
  s15 : a.tmps[15]? = some (.pointer (some ⟨W + 2, 0, none⟩))
  s16 : a.tmps[16]? = some (.pointer (some ⟨W + 3, 0, none⟩))

set_option maxRecDepth 20000 in
theorem DcT.shape {a : Act} {W : Nat} (h : DcT a W) : ∃ v : Nat → Value, a = ⟨#[v 0, v 1, v 2, v 3, v 4, v 5, v 6, v 7, v 8, v 9, v 10, v 11, v 12, v 13, .pointer (some ⟨W + 1, 0, none⟩), .pointer (some ⟨W + 2, 0, none⟩), .pointer (some ⟨W + 3, 0, none⟩), v 17, v 18, v 19, v 20, v 21, v 22, v 23, v 24, v 25, v 26, v 27, v 28, v 29, v 30, v 31, v 32, v 33, v 34, v 35, v 36, v 37, v 38, v 39, v 40, v 41, v 42, v 43, v 44, v 45, v 46, v 47, v 48, v 49, v 50, v 51, v 52, v 53, v 54, v 55, v 56, v 57, v 58, v 59, v 60, v 61, v 62, v 63, v 64, v 65, v 66, v 67, v 68, v 69, v 70, v 71, v 72, v 73, v 74, v 75, v 76, v 77, v 78, v 79, v 80, v 81, v 82, v 83, v 84, v 85, v 86, v 87, v 88, v 89, v 90, v 91, v 92, v 93, v 94, v 95, v 96, v 97, v 98, v 99, v 100, v 101, v 102, v 103, v 104, v 105], []⟩ := by
  obtain ⟨v, hv, hd⟩ := dc_act a h.size h.dfr
  have e14 := hv 14 _ h.s14
  have e15 := hv 15 _ h.s15
  have e16 := hv 16 _ h.s16
  refine ⟨v, ?_⟩
  rw [hd]
  simp only [e14, e15, e16]

theorem DcA.toT {a : Act} {W : Nat} {hl : Value} {m p : ByteArray} {u : Nat} {n : Int} {al : Value} {i : Int} (h : DcA a W hl m p u n al i) : DcT a W := ⟨h.size, h.dfr, h.s14, h.s15, h.s16⟩

abbrev DecO (k st : Int) (rt : ByteArray) (ru : Int) (svc ep : ByteArray) : Obj := .cells #[.int .i64 k, .int .i64 st, .string rt, .int .i64 ru, .string svc, .string ep] 30
abbrev HostO (h : HostD) : Obj := .cells #[.string h.host, .string h.route, h.ev, h.pv] 111
abbrev StO : Obj := .cells #[.int .i64 0, .int .i64 0, .int .i64 404, .int .i64 404, .int .i64 403, .int .i64 503] 107

/-- The memory of Decide. -/
structure DM (w0 w : World) (ver hv sv : Value) (k ru : Int) (rt svc ep : ByteArray) (h : HostD) : Prop where
  below : Below w0.heap.size w0 w
  tab : w.heap[w0.heap.size]? = some (.cells #[ver, hv, sv] 61 (0, 0))
  res : w.heap[w0.heap.size + 1]? = some (DecO 0 0 ⟨#[]⟩ 0 ⟨#[]⟩ ⟨#[]⟩)
  st : w.heap[w0.heap.size + 2]? = some StO
  dec : w.heap[w0.heap.size + 3]? = some (DecO k 0 rt ru svc ep)
  rou : w.heap[w0.heap.size + 4]? = some (HostO h)

section
variable {w0 w w2 : World} {ver hv sv : Value} {k ru : Int} {rt svc ep : ByteArray} {h : HostD} {hl al : Value} {m p : ByteArray} {u : Nat} {n i : Int} {K : Act → World → Prop} {Q : Exit → Act → World → Prop} {a : Act}

theorem DM.later (d : DM w0 w ver hv sv k ru rt svc ep h) (hb : Below w.heap.size w w2) : DM w0 w2 ver hv sv k ru rt svc ep h :=
  ⟨d.below.trans (hb.mono d.below.size), (hb.block _ (lt_of_heap d.tab)).trans d.tab, (hb.block _ (lt_of_heap d.res)).trans d.res, (hb.block _ (lt_of_heap d.st)).trans d.st, (hb.block _ (lt_of_heap d.dec)).trans d.dec, (hb.block _ (lt_of_heap d.rou)).trans d.rou⟩

theorem DM.put (d : DM w0 w ver hv sv k ru rt svc ep h) (j : Nat) (v : Value) (k' ru' : Int) (rt' svc' ep' : ByteArray) (hv' : (#[.int .i64 k, .int .i64 0, .string rt, .int .i64 ru, .string svc, .string ep] : Array Value).setIfInBounds j v = #[.int .i64 k', .int .i64 0, .string rt', .int .i64 ru', .string svc', .string ep']) :
    DM w0 (w.setCell ⟨w0.heap.size + 3, j, none⟩ v) ver hv sv k' ru' rt' svc' ep' h := by
  have hm : Mod (fun q => q = w0.heap.size + 3) w (w.setCell ⟨w0.heap.size + 3, j, none⟩ v) := (Mod.refl _ w).setCell _ _ (fun _ => rfl)
  refine ⟨d.below.trans (hm.below d.below.size fun q hq => by omega), hm.heap d.tab (by omega), hm.heap d.res (by omega), hm.heap d.st (by omega), ?_, hm.heap d.rou (by omega)⟩
  rw [set_blk d.dec j v, hv']

theorem DM.cells (d : DM w0 w ver hv sv k ru rt svc ep h) :
    (w.cell? ⟨w0.heap.size, 1, none⟩ = some hv ∧ w.cell? ⟨w0.heap.size + 3, 0, none⟩ = some (.int .i64 k) ∧ w.cell? ⟨w0.heap.size + 3, 1, none⟩ = some (.int .i64 0) ∧ w.cell? ⟨w0.heap.size + 3, 2, none⟩ = some (.string rt) ∧ w.cell? ⟨w0.heap.size + 3, 3, none⟩ = some (.int .i64 ru) ∧ w.cell? ⟨w0.heap.size + 3, 4, none⟩ = some (.string svc) ∧ w.cell? ⟨w0.heap.size + 3, 5, none⟩ = some (.string ep)) ∧
    (w.cell? ⟨w0.heap.size + 4, 0, none⟩ = some (.string h.host) ∧ w.cell? ⟨w0.heap.size + 4, 1, none⟩ = some (.string h.route) ∧ w.cell? ⟨w0.heap.size + 4, 2, none⟩ = some h.ev ∧ w.cell? ⟨w0.heap.size + 4, 3, none⟩ = some h.pv) := by
  refine ⟨⟨?_, ?_, ?_, ?_, ?_, ?_, ?_⟩, ?_, ?_, ?_, ?_⟩ <;> first | exact cell_blk d.dec _ | exact cell_blk d.rou _ | exact cell_blk d.tab _

def statOf (k : Int) : Int := if k = 2 then 404 else if k = 3 then 404 else if k = 4 then 403 else if k = 5 then 503 else 0

set_option maxRecDepth 20000 in
set_option maxHeartbeats 2000000 in
theorem dc_tail (hf : DcT a w0.heap.size) (d : DM w0 w ver hv sv k ru rt svc ep h) (hk : k = 1 ∨ k = 2 ∨ k = 3 ∨ k = 4 ∨ k = 5)
    (fin : ∀ a' w', a'.defers = [] → a'.tmps[14]? = some (.pointer (some ⟨w0.heap.size + 1, 0, none⟩)) → w'.heap[w0.heap.size + 1]? = some (DecO k (statOf k) rt ru svc ep) → Below w0.heap.size w0 w' → Q .ret a' w') : dcTail.wp Tryd.prog Q a w := by
  have hm : ∀ s : Int, Mod (fun q => q = w0.heap.size + 3 ∨ q = w0.heap.size + 1) w ((w.setCell ⟨w0.heap.size + 3, 1, none⟩ (.int .i64 s)).setCells (w0.heap.size + 1) 0 [.int .i64 k, .int .i64 s, .string rt, .int .i64 ru, .string svc, .string ep]) := fun s =>
    mod_setCells (fun _ => .inr rfl) _ 0 _ ((Mod.refl _ w).setCell _ _ (fun _ => .inl rfl))
  have hr : ∀ s : Int, (w.setCell ⟨w0.heap.size + 3, 1, none⟩ (.int .i64 s)).heap[w0.heap.size + 1]? = some (DecO 0 0 ⟨#[]⟩ 0 ⟨#[]⟩ ⟨#[]⟩) := fun s => by
    rw [set_other _ _ (by show w0.heap.size + 1 ≠ w0.heap.size + 3; omega)]
    exact d.res
  have HE := Lib.hid (fun s : Int => show Below w0.heap.size w0 ((w.setCell ⟨w0.heap.size + 3, 1, none⟩ (.int .i64 s)).setCells (w0.heap.size + 1) 0 [.int .i64 k, .int .i64 s, .string rt, .int .i64 ru, .string svc, .string ep]) ∧ ((w.setCell ⟨w0.heap.size + 3, 1, none⟩ (.int .i64 s)).setCells (w0.heap.size + 1) 0 [.int .i64 k, .int .i64 s, .string rt, .int .i64 ru, .string svc, .string ep]).heap[w0.heap.size + 1]? = some (DecO k s rt ru svc ep) from
    ⟨d.below.trans ((hm s).below d.below.size (fun q hq => by omega)), (setCells_blk _ 0 _ _ (hr s)).trans (congrArg (fun c => some (Obj.cells c 30 (0, 0))) (writeAt_all (old := [.int .i64 0, .int .i64 0, .string ⟨#[]⟩, .int .i64 0, .string ⟨#[]⟩, .string ⟨#[]⟩]) rfl))⟩)
  have Ht := Lib.hid (fun s : Int => show (w.setCell ⟨w0.heap.size + 3, 1, none⟩ (.int .i64 s)).there (w0.heap.size + 1) 0 6 from fun j hj => by
    have h1 := cell_blk (hr s) (0 + j)
    refine ⟨?_, frozen_blk (hr s) _⟩
    rw [h1, Array.getElem?_eq_getElem (by show 0 + j < 6; omega)]
    rfl)
  have Hr := Lib.hid (fun s : Int => show (w.setCell ⟨w0.heap.size + 3, 1, none⟩ (.int .i64 s)).rangeAt (w0.heap.size + 3) 0 [.int .i64 k, .int .i64 s, .string rt, .int .i64 ru, .string svc, .string ep] from fun j v hj => by
    rw [cell_blk (set_blk d.dec 1 (.int .i64 s)) (0 + j), Nat.zero_add]
    simpa using hj)
  have Hsz := Lib.hid (show (Tryd.prog.info? 30).map (·.size) = some 6 by kernel_rfl)
  obtain ⟨⟨_, c0, c1, _⟩, _⟩ := d.cells
  have f1 := frozen_blk d.dec 1
  have s1 : w.cell? ⟨w0.heap.size + 2, 1, none⟩ = some (.int .i64 0) := cell_blk d.st 1
  have s2 : w.cell? ⟨w0.heap.size + 2, 2, none⟩ = some (.int .i64 404) := cell_blk d.st 2
  have s3 : w.cell? ⟨w0.heap.size + 2, 3, none⟩ = some (.int .i64 404) := cell_blk d.st 3
  have s4 : w.cell? ⟨w0.heap.size + 2, 4, none⟩ = some (.int .i64 403) := cell_blk d.st 4
  have s5 : w.cell? ⟨w0.heap.size + 2, 5, none⟩ = some (.int .i64 503) := cell_blk d.st 5
  obtain ⟨vv, rfl⟩ := hf.shape
  have Hfin := Lib.hid fin
  clear hf fin hm hr d
  dsimp only [dcTail, ncs, ncl, ncr, ncb, nco, nct, nce, ncx, Tryd.f36]
  rcases hk with rfl | rfl | rfl | rfl | rfl
  · go_wp2_with (first
      | (refine wpList_load_mid rfl 30 _ rfl (w0.heap.size + 3) 0 rfl _ _ (Hr.out 0) Tryd.underlying30 rfl Hsz.out ?_)
      | (refine wpList_store_mid rfl 30 _ _ rfl (w0.heap.size + 1) 0 _ rfl rfl (Ht.out 0) Hsz.out (by rw [← Array.all_toList]; rfl) ?_))
    refine Hfin.out _ _ ?_ ?_ (HE.out 0).2 (HE.out 0).1
    · rfl
    · rfl
  · go_wp2_with (first
      | (refine wpList_load_mid rfl 30 _ rfl (w0.heap.size + 3) 0 rfl _ _ (Hr.out 404) Tryd.underlying30 rfl Hsz.out ?_)
      | (refine wpList_store_mid rfl 30 _ _ rfl (w0.heap.size + 1) 0 _ rfl rfl (Ht.out 404) Hsz.out (by rw [← Array.all_toList]; rfl) ?_))
    refine Hfin.out _ _ ?_ ?_ (HE.out 404).2 (HE.out 404).1
    · rfl
    · rfl
  · go_wp2_with (first
      | (refine wpList_load_mid rfl 30 _ rfl (w0.heap.size + 3) 0 rfl _ _ (Hr.out 404) Tryd.underlying30 rfl Hsz.out ?_)
      | (refine wpList_store_mid rfl 30 _ _ rfl (w0.heap.size + 1) 0 _ rfl rfl (Ht.out 404) Hsz.out (by rw [← Array.all_toList]; rfl) ?_))
    refine Hfin.out _ _ ?_ ?_ (HE.out 404).2 (HE.out 404).1
    · rfl
    · rfl
  · go_wp2_with (first
      | (refine wpList_load_mid rfl 30 _ rfl (w0.heap.size + 3) 0 rfl _ _ (Hr.out 403) Tryd.underlying30 rfl Hsz.out ?_)
      | (refine wpList_store_mid rfl 30 _ _ rfl (w0.heap.size + 1) 0 _ rfl rfl (Ht.out 403) Hsz.out (by rw [← Array.all_toList]; rfl) ?_))
    refine Hfin.out _ _ ?_ ?_ (HE.out 403).2 (HE.out 403).1
    · rfl
    · rfl
  · go_wp2_with (first
      | (refine wpList_load_mid rfl 30 _ rfl (w0.heap.size + 3) 0 rfl _ _ (Hr.out 503) Tryd.underlying30 rfl Hsz.out ?_)
      | (refine wpList_store_mid rfl 30 _ _ rfl (w0.heap.size + 1) 0 _ rfl rfl (Ht.out 503) Hsz.out (by rw [← Array.all_toList]; rfl) ?_))
    refine Hfin.out _ _ ?_ ?_ (HE.out 503).2 (HE.out 503).1
    · rfl
    · rfl

end

end Go.Proofs.YthpflfcgnaichaaDoor
