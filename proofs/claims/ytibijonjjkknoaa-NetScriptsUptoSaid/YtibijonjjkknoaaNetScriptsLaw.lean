/-
For every input whose arguments hold together at most 1048576 values and letters NetScripts returns true, and each argument reads behind the call as it read before. The condition is that bound alone.
-/
import Derived.Test.YtibijonjjkknoaaRows
import Derived.Test.YtibijonjjkknoaaNetScrX
import Derived.ProofKit
import Derived.OpenShut
import Derived.ShutString
import Derived.ChangeOld
import Derived.JoinedCond
import Derived.Deep.Slices
import Derived.Deep.Fields
import Derived.ChangeSame
namespace Go.Proofs.Ytibijonjjkknoaa.netScripts
open Go.ChangeShapes Go.WideShapes Go.ChangeAt Go.RowKit Go.Deep
set_option linter.unusedVariables false
set_option linter.unusedSimpArgs false

theorem own : ownKnob Try.prog.godebug = none := by kernel_rfl
theorem laidOut : laidOutB Try.prog = true := by kernel_rfl

section
variable {H : Type} {enc : TypeId × Value → H} {P : Program} {w : World} {base : Nat} {spare : Nat → Bool} {held : Bool}
theorem open_slice_fields {t e : TypeId} {fs : Array Field} {fuel : Nat} {cs : List Value} {x : DataW H × List MemPlace} (ht : P.underlying t = some (.slice e)) (he : P.underlying e = some (.struct fs))
    (hone : oneCellFields P fs = true) (hC : P.cellsOf e = fs.size) (h : DataW.trod enc P w base spare held fuel t cs = some x) :
    (cs = [.slice none 0 0] ∧ x = (.nil, [])) ∨
    ∃ (a : Addr) (len cap m : Nat) (D : Nat → DataW H) (Pl : Nat → List MemPlace), cs = [.slice (some a) len cap] ∧ base ≤ a.block ∧ len ≤ cap ∧ cap ≤ maxLen ∧ m = (if spare a.block then cap else len) ∧
      x = (.slice ((List.range len).map D) ((List.range (m - len)).map fun j => D (len + j)), MemPlace.row a (m * fs.size) ++ (List.range m).flatMap Pl) ∧
      ∀ i, i < m → ∃ (ys : List (DataW H × List MemPlace)) (n : Nat), D i = .agg (ys.map (·.1)) ∧ Pl i = ys.flatMap (·.2) ∧ ys.length = fs.size ∧
        ∀ (j : Nat) (f : Field), fs[j]? = some f → ∃ (v : Value) (y : DataW H × List MemPlace), w.cell? (a.add (i * fs.size + j)) = some v ∧ ys[j]? = some y ∧ DataW.trod enc P w base spare held n f.type [v] = some y := by
  rcases open_slice ht h with h0 | ⟨a, len, cap, m, n, D, Pl, hcs, hb, hl, hm, hmm, hx, hi⟩
  · exact .inl h0
  · refine .inr ⟨a, len, cap, m, D, Pl, hcs, hb, hl, hm, hmm, by rw [hC] at hx; exact hx, fun i him => ?_⟩
    obtain ⟨cs', hc, ht'⟩ := hi i him
    rw [hC] at hc
    obtain ⟨ys, n', hn', hy, hlen, hyl, hf⟩ := DataW.trod_struct he ht'
    obtain ⟨_, hcl, hat⟩ := World.cells?_some hc
    simp only [Prod.mk.injEq] at hy
    refine ⟨ys, n', hy.1, hy.2, hyl, fun j f hj => ?_⟩
    obtain ⟨ho, hk⟩ := hone_of hone j f hj
    have hjl : j < fs.size := (Array.getElem?_eq_some_iff.1 hj).1
    have hcell := hat j hjl
    have hv : cs'[j]? = some (cs'[j]'(by omega)) := List.getElem?_eq_getElem (by omega)
    have h1 := hf j f hj
    rw [ho, hk] at h1
    have hone' : (cs'.drop j).take 1 = [cs'[j]'(by omega)] := by
      rw [List.drop_eq_getElem_cons (by omega)]
      rfl
    rw [hone'] at h1
    have hys : ys[j]? = some (ys[j]'(by omega)) := List.getElem?_eq_getElem (by omega)
    refine ⟨_, _, ?_, hys, h1.trans hys⟩
    rw [← Go.Deep.add_add, hcell, hv]
end

theorem one_le {H : Type} (d : DataW H) : 1 ≤ Rows.uptoBulk d := by
  cases d with
  | lit l => cases l <;> simp [Rows.uptoBulk]
  | nil => simp [Rows.uptoBulk]
  | ptr d => simp [Rows.uptoBulk]
  | slice elems spare => simp [Rows.uptoBulk]
  | agg parts => simp [Rows.uptoBulk]
  | iface t d => simp [Rows.uptoBulk]
  | map entries => simp [Rows.uptoBulk]
  | held h => simp [Rows.uptoBulk]

theorem part_le {H : Type} {d : DataW H} {l : List (DataW H)} (h : d ∈ l) : Rows.uptoBulk d ≤ Rows.uptoBulkAll l := by
  induction l with
  | nil => cases h
  | cons x r ih =>
    simp only [Rows.uptoBulkAll]
    cases List.mem_cons.1 h with
    | inl e => subst e; omega
    | inr e => have := ih e; omega

theorem bulk_append {H : Type} (l r : List (DataW H)) : Rows.uptoBulkAll (l ++ r) = Rows.uptoBulkAll l + Rows.uptoBulkAll r := by
  induction l with
  | nil => simp [Rows.uptoBulkAll]
  | cons x l ih => simp only [List.cons_append, Rows.uptoBulkAll, ih]; omega

theorem length_le {H : Type} (l : List (DataW H)) : l.length ≤ Rows.uptoBulkAll l := by
  induction l with
  | nil => simp [Rows.uptoBulkAll]
  | cons x r ih => have := one_le x; simp only [Rows.uptoBulkAll, List.length_cons]; omega

/-- The bulk of the first i elements. -/
def sumOf {H : Type} (D : Nat → DataW H) (i : Nat) : Nat := Rows.uptoBulkAll ((List.range i).map D)

theorem sumOf_succ {H : Type} (D : Nat → DataW H) (i : Nat) : sumOf D (i + 1) = sumOf D i + Rows.uptoBulk (D i) := by
  unfold sumOf
  rw [List.range_succ, List.map_append, bulk_append]
  simp [Rows.uptoBulkAll]

theorem sumOf_mono {H : Type} (D : Nat → DataW H) {i j : Nat} (h : i ≤ j) : sumOf D i ≤ sumOf D j := by
  induction h with
  | refl => exact Nat.le_refl _
  | step _ ih => rw [sumOf_succ]; omega

/-- A slice of bytes that came in, as the walk wants it. -/
def Came (w : World) (a : Option Addr) (len cap : Nat) : Prop := ∃ ps : List UInt8, ps.length = len ∧ RdB w a cap ps ∧ (∀ ad, a = some ad → ps ≠ [] → ad.block < w.heap.size)

theorem came_nil (w : World) : Came w none 0 0 := ⟨[], rfl, ⟨fun _ => ⟨rfl, rfl⟩, (fun ad h => by cases h), Nat.le_refl _, Nat.zero_le _⟩, (fun ad h => by cases h)⟩

theorem came_row {w : World} {x : Addr} {len cap : Nat} {zs : List Int} (hl : len ≤ cap) (hm : cap ≤ maxLen) (hz : zs.length = cap) (hc : ∀ i, i < zs.length → w.cell? (x.add i) = some (.int .u8 (zs.getD i 0)))
    (hw : ∀ n ∈ zs, (Lit.int .u8 n).wf = true) : Came w (some x) len cap := by
  refine ⟨(zs.take len).map fun n => UInt8.ofNat n.toNat, by simp; omega, ⟨(fun h => by cases h), ?_, by simp; omega, hm⟩, ?_⟩
  · intro ad had j u hu
    obtain rfl := Option.some.inj had
    have hj : j < len := by
      have := (List.getElem?_eq_some_iff.1 hu).1
      simp at this; omega
    have hjz : j < zs.length := by omega
    rw [hc j hjz]
    have hn : zs[j] ∈ zs := List.getElem_mem hjz
    have hr : 0 ≤ zs[j] ∧ zs[j] ≤ 255 := by simpa [Lit.wf, IntKind.min, IntKind.max, IntKind.signed, IntKind.bits] using hw _ hn
    simp only [bytes, List.map_map, List.getElem?_map, List.getElem?_take, hj, if_true, List.getElem?_eq_getElem hjz, Option.map_some, Option.some.injEq, Function.comp] at hu
    rw [← hu]
    simp only [List.getD, List.getElem?_eq_getElem hjz, Option.getD_some, Option.some.injEq, Value.int.injEq, true_and]
    have : (UInt8.ofNat zs[j].toNat).toNat = zs[j].toNat := UInt8.toNat_ofNat_of_lt (by show zs[j].toNat < 256; omega)
    rw [this]; omega
  · intro ad had hne
    obtain rfl := Option.some.inj had
    have h0 : 0 < zs.length := by
      rcases Nat.eq_zero_or_pos zs.length with e | e
      · have : zs = [] := List.eq_nil_of_length_eq_zero e
        subst this; simp at hne
      · exact e
    have := World.block_lt_of_cell? w _ (hc 0 h0)
    simpa [Addr.add] using this

theorem opened {W : World} {H : Type} {enc : TypeId × Value → H} {v : Value} {d : DataW H} {p : List MemPlace} (hv : v.cells = #[v]) (h : DataW.Trod enc Try.prog W 0 (fun _ => true) true 37 v d p) (hk : Rows.uptoBulk d ≤ 1048576) :
    ∃ (al : Option Addr) (len cl gl ol : Nat) (C : Nat → ClD), v = .slice al len cl ∧ (0 < len → al = some ⟨gl, ol, none⟩ ∧ gl < W.heap.size) ∧
      (∀ i, i < len → ClAt W gl (ol + i * 6) (C i) ∧ (C i).Sm) ∧ len ≤ 1048576 := by
  obtain ⟨fuel, hf⟩ := h
  rw [hv] at hf
  rcases open_slice_fields Try.underlying37 Try.underlying40 (by kernel_rfl) (by kernel_rfl) hf with ⟨hcs, _⟩ | ⟨a, len, cap, m, D, Pl, hcs, hb, hl, hm, hmm, hx, hi⟩
  · obtain rfl : v = .slice none 0 0 := by simpa using hcs
    exact ⟨none, 0, 0, 0, 0, fun _ => ⟨0, .empty, 0, 0, 0, none, 0, 0, []⟩, rfl, (fun h => by omega), (fun i h => by omega), by omega⟩
  · obtain rfl : v = .slice (some a) len cap := by simpa using hcs
    simp only [if_true] at hmm
    subst hmm
    have hd : d = .slice ((List.range len).map D) ((List.range (m - len)).map fun j => D (len + j)) := congrArg Prod.fst hx
    rw [hd] at hk
    simp only [Rows.uptoBulk] at hk
    have hkl : sumOf D len ≤ 1048576 := by unfold sumOf; omega
    have hlen : len ≤ 1048576 := by
      have := length_le ((List.range len).map D)
      simp at this
      unfold sumOf at hkl; omega
    have key : ∀ i, ∃ c : ClD, i < len → ∃ (s5 : Option Nat), (c.dl ≤ Rows.uptoBulk (D i) ∧ c.name.size ≤ maxLen ∧ c.nn ≤ 9223372036854775807) ∧
        W.cell? (a.add (i * 6 + 0)) = some (.int .i64 c.kind) ∧ W.cell? (a.add (i * 6 + 1)) = some (.string c.name) ∧ W.cell? (a.add (i * 6 + 2)) = some (.int .i64 c.conn) ∧ W.cell? (a.add (i * 6 + 3)) = some (.int .i64 c.side) ∧
        W.cell? (a.add (i * 6 + 4)) = some (.int .i64 c.nn) ∧ W.cell? (a.add (i * 6 + 5)) = some (.slice c.ad c.dl c.dc) ∧ c.ps.length = c.dl ∧ RdB W c.ad c.dc c.ps ∧ (∀ ad, c.ad = some ad → c.ps ≠ [] → ad.block < W.heap.size) := by
      intro i
      by_cases hlt : i < len
      · obtain ⟨ys, n, hD, _, hyl, hfd⟩ := hi i (by omega)
        obtain ⟨u0, y0, c0, z0, t0⟩ := hfd 0 _ rfl
        obtain ⟨u1, y1, c1, z1, t1⟩ := hfd 1 _ rfl
        obtain ⟨u2, y2, c2, z2, t2⟩ := hfd 2 _ rfl
        obtain ⟨u3, y3, c3, z3, t3⟩ := hfd 3 _ rfl
        obtain ⟨u4, y4, c4, z4, t4⟩ := hfd 4 _ rfl
        obtain ⟨u5, y5, c5, z5, t5⟩ := hfd 5 _ rfl
        obtain ⟨n0, e0, _, _⟩ := DataW.trod_int Try.underlying3 t0
        obtain ⟨n1, e1, _, s1⟩ := DataW.trod_string Try.underlying9 t1
        obtain ⟨n2, e2, _, _⟩ := DataW.trod_int Try.underlying3 t2
        obtain ⟨n3, e3, _, _⟩ := DataW.trod_int Try.underlying3 t3
        obtain ⟨n4, e4, _, w4⟩ := DataW.trod_int Try.underlying3 t4
        obtain rfl := List.singleton_inj.1 e0
        obtain rfl := List.singleton_inj.1 e1
        obtain rfl := List.singleton_inj.1 e2
        obtain rfl := List.singleton_inj.1 e3
        obtain rfl := List.singleton_inj.1 e4
        have hpart : Rows.uptoBulk y5.1 ≤ Rows.uptoBulk (D i) := by
          rw [hD]
          simp only [Rows.uptoBulk]
          have : y5.1 ∈ ys.map (·.1) := List.mem_map.2 ⟨y5, List.mem_of_getElem? z5, rfl⟩
          have := part_le this
          omega
        have hdat : ∃ (ad : Option Addr) (dl dc : Nat), u5 = .slice ad dl dc ∧ dl ≤ Rows.uptoBulk y5.1 ∧ Came W ad dl dc := by
          rcases open_ints Try.underlying22 Try.underlying5 (by kernel_rfl) t5 with ⟨hcs5, hx5⟩ | ⟨x, l, c, zs, hcs5, _, hl5, hm5, hz5, hx5, hcell5, hwz5⟩
          · obtain rfl := List.singleton_inj.1 hcs5
            exact ⟨none, 0, 0, rfl, Nat.zero_le _, came_nil W⟩
          · obtain rfl := List.singleton_inj.1 hcs5
            refine ⟨some x, l, c, rfl, ?_, came_row hl5 hm5 (by simpa using hz5) hcell5 hwz5⟩
            rw [hx5]
            simp only [Rows.uptoBulk]
            have := length_le (lits (H := H) .u8 (zs.take l))
            simp only [lits, List.length_map, List.length_take] at this ⊢
            simp at hz5
            omega
        obtain ⟨ad, dl, dc, rfl, hdl, ps, hps, hrd, hold⟩ := hdat
        exact ⟨⟨n0, n1, n2, n3, n4, ad, dl, dc, ps⟩, fun _ => ⟨none, ⟨Nat.le_trans hdl hpart, s1, by simp [Lit.wf, IntKind.min, IntKind.max, IntKind.signed, IntKind.bits] at w4; exact w4.2⟩, c0, c1, c2, c3, c4, c5, hps, hrd, hold⟩⟩
      · exact ⟨⟨0, .empty, 0, 0, 0, none, 0, 0, []⟩, fun h => absurd h hlt⟩
    have hform : 0 < len → ∃ g o, a = ⟨g, o, none⟩ ∧ g < W.heap.size := by
      intro h0
      obtain ⟨c, hc⟩ := key 0
      obtain ⟨_, _, hc0, _⟩ := hc h0
      obtain ⟨g, o, sp⟩ := a
      have hsp : sp = none := by
        cases sp with
        | none => rfl
        | some k => simp [Addr.add, World.cell?] at hc0; split at hc0 <;> cases hc0
      subst hsp
      exact ⟨g, o, rfl, by simpa [Addr.add] using World.block_lt_of_cell? W _ hc0⟩
    obtain ⟨g, o, hgo⟩ : ∃ g o, 0 < len → a = ⟨g, o, none⟩ ∧ g < W.heap.size := by
      by_cases h0 : 0 < len
      · obtain ⟨g, o, h1, h2⟩ := hform h0
        exact ⟨g, o, fun _ => ⟨h1, h2⟩⟩
      · exact ⟨0, 0, fun h => absurd h h0⟩
    obtain ⟨C, hC⟩ := Classical.axiomOfChoice key
    refine ⟨some a, len, m, g, o, C, rfl, fun h0 => ⟨by rw [(hgo h0).1], (hgo h0).2⟩, ?_, hlen⟩
    intro i hlt
    obtain ⟨_, ⟨hdl, hnm, hnn⟩, q0, q1, q2, q3, q4, q5, hps, hrd, hold⟩ := hC i hlt
    rw [(hgo (by omega)).1] at q0 q1 q2 q3 q4 q5
    rw [Addr.add_lit] at q0 q1 q2 q3 q4 q5
    refine ⟨⟨q0, by rw [Nat.add_assoc]; exact q1, by rw [Nat.add_assoc]; exact q2, by rw [Nat.add_assoc]; exact q3, by rw [Nat.add_assoc]; exact q4, by rw [Nat.add_assoc]; exact q5, hps, hrd, hold⟩, hnm, hnn, ?_⟩
    have h1 : sumOf D i + Rows.uptoBulk (D i) ≤ 1048576 := by
      rw [← sumOf_succ]
      exact Nat.le_trans (sumOf_mono D hlt) hkl
    omega

set_option maxRecDepth 100000 in
theorem contract (H : Type) (enc : TypeId × Value → H) (W : World) (base : Nat) (args : Array Value) (ds gs : List (DataW H)) (before : List MemPlace)
    (hval : ∀ (j : Nat) t v, Try.f6.params[j]? = some t → args[j]? = some v → Value.okWide Try.prog W .any base t v)
    (hW : DataW.Whole enc Try.prog Try.f6.params.toList Rows.netScriptsSpec.vars false W args.toList ds gs before) (hk : Rows.uptoSmall H (ds ++ gs) = true) :
    Calls Try.prog 6 args W fun e W' => ∃ v, e = .returned v ∧ Rows.netScriptsSpec.post enc Try.prog Try.f6 false true false false W args v W' := by
  have hW' := hW
  obtain ⟨p, q, hA0, hV, rfl, hfz, hnd⟩ := hW
  have hA : DataW.TrodAll enc Try.prog W 0 (fun _ => true) true Try.f6.params.toList args.toList ds p := hA0
  rw [Try.params6] at hA hval
  obtain ⟨v0, v1, v2, d0, d1, d2, p0, p1, p2, rfl, rfl, rfl, h0, h1, h2⟩ := trodAll_three hA
  obtain ⟨rfl, rfl⟩ := trodVars_none hV
  obtain ⟨b, rfl, rfl, rfl⟩ := open_bool Try.underlying4 (hval 2 4 v2 rfl rfl) h2
  obtain ⟨a0, len0, cap0, hv0⟩ := okWide_slice Try.underlying37 (hval 0 37 v0 rfl rfl)
  obtain ⟨a1, len1, cap1, hv1⟩ := okWide_slice Try.underlying37 (hval 1 37 v1 rfl rfl)
  have k0 := h0
  have k1 := h1
  have lt0 : ∀ x ∈ p0, x.block < W.heap.size := by obtain ⟨m, hm⟩ := k0; exact DataW.trod_lt m _ _ _ hm
  have lt1 : ∀ x ∈ p1, x.block < W.heap.size := by obtain ⟨m, hm⟩ := k1; exact DataW.trod_lt m _ _ _ hm
  have hb : Rows.uptoBulk d0 ≤ 1048576 ∧ Rows.uptoBulk d1 ≤ 1048576 := by
    have h : Rows.uptoBulkAll ([d0, d1, (DataW.lit (.bool b) : DataW H)] ++ []) ≤ 1048576 := of_decide_eq_true hk
    simp only [List.append_nil, Rows.uptoBulkAll] at h
    constructor <;> omega
  obtain ⟨al, len, cl, gl, ol, C, rfl, hal, hc, hlen⟩ := opened (by rw [hv0]; rfl) h0 hb.1
  obtain ⟨am, len2, cm, gm, om, E, rfl, ham, he, hlen2⟩ := opened (by rw [hv1]; rfl) h1 hb.2
  clear hA0
  simp only [List.append_nil] at hW'
  refine (netScripts_walk W al am len len2 cl cm gl ol gm om C E b hal hc ham he hlen hlen2).mono fun e W' ⟨he2, bel⟩ => ?_
  subst he2
  exact ⟨_, rfl, _, _, _, [], _, [], hW', trodAll_mk1 (shut_bool Try.underlying4 _), (trodAll_mk3 (Below.trod laidOut (by kernel_rfl) (of_decide_eq_true (by kernel_rfl)) k0 bel lt0) (Below.trod laidOut (by kernel_rfl) (of_decide_eq_true (by kernel_rfl)) k1 bel lt1) (shut_bool Try.underlying4 b)), rfl, bel.frame _, fun h => by cases h⟩

set_option maxRecDepth 100000 in
theorem lifted (os : Os) (started : os.Started) (H : Type) (enc : TypeId × Value → H) (F : Stop.Interp) :
    ReturnsInHanded {} Try.checked os 6 .any ((Rows.OpenSpec.upto Rows.netScriptsSpec).pre6 enc Try.prog Try.f6 Rows.netScriptsUptoRow.domain false) (((Rows.OpenSpec.upto Rows.netScriptsSpec).at F).post enc Try.prog Try.f6 false true false false) := by
  refine returnsInHanded_of_cond (C := Try.checked) (s := Rows.OpenSpec.upto Rows.netScriptsSpec) (k := Rows.uptoSmall) rfl own started (by kernel_rfl) Try.func6
    (OpenSpec.witness (enc := enc) (C := Try.checked) (s := Rows.OpenSpec.upto Rows.netScriptsSpec) (k := Rows.uptoSmall) rfl false ⟨#[], #[.slice none 0 0, .slice none 0 0, .bool false], []⟩ 8 (by kernel_rfl) (by kernel_rfl) (by kernel_rfl)
      (x := ([.nil, .nil, .lit (.bool false)], [], [])) (by kernel_rfl) rfl (by kernel_rfl)) ?_
  intro W base args ds gs before hval hW _ hk _
  exact contract H enc W base args ds gs before hval hW hk

theorem proved : Rows.NetScriptsUptoSaid :=
  OpenClaim.holds_of_cond 6 Try.f6 rfl rfl rfl rfl rfl rfl rfl ⟨rfl, rfl, rfl, rfl, rfl⟩ rfl rfl rfl rfl rfl (by kernel_rfl) Try.func6 (by kernel_rfl)
    (of_decide_eq_true (by kernel_rfl)) (by unfold Func.isWrapper; first | (rw [if_pos (by decide +kernel)]; kernel_rfl) | (rw [if_neg (by decide +kernel)]; exact ⟨rfl, rfl⟩))
    (fun os started H enc _ F => lifted os started H enc F)
#print axioms proved
end Go.Proofs.Ytibijonjjkknoaa.netScripts
