/-
A script that came in: its calls, one by one.
-/
import Derived.Test.YthpflfcgnaichaaDoorTraOps
import Derived.Test.YthpflfcgnaichaaDoorRows
import Derived.ProofKit
import Derived.OpenShut
import Derived.ShutString
import Derived.Deep.Slices
set_option linter.unusedVariables false
set_option linter.unusedSimpArgs false
namespace Go.Proofs.YthpflfcgnaichaaDoor
open Go Go.ChangeShapes Go.WideShapes Go.ChangeAt Go.RowKit Go.Deep

theorem one_le {H : Type} (d : DataW H) : 1 ≤ Rows.uptoBulk d := by
  cases d with
  | lit l => cases l <;> simp [Rows.uptoBulk]
  | nil => simp [Rows.uptoBulk]
  | ptr d => simp [Rows.uptoBulk]
  | slice elems spare => simp [Rows.uptoBulk]
  | agg parts => simp [Rows.uptoBulk]
  | iface t d => simp [Rows.uptoBulk]
  | map entries => simp [Rows.uptoBulk]
  | held h => simp [Rows.uptoBulk]

theorem part_le {H : Type} {d : DataW H} {l : List (DataW H)} (h : d ∈ l) : Rows.uptoBulk d ≤ Rows.uptoBulkAll l := by
  induction l with
  | nil => cases h
  | cons x r ih =>
    simp only [Rows.uptoBulkAll]
    cases List.mem_cons.1 h with
    | inl e => subst e; omega
    | inr e => have := ih e; omega

theorem length_le {H : Type} (l : List (DataW H)) : l.length ≤ Rows.uptoBulkAll l := by
  induction l with
  | nil => simp [Rows.uptoBulkAll]
  | cons x r ih => have := one_le x; simp only [Rows.uptoBulkAll, List.length_cons]; omega

/-- An entry's numbers are numbers, its texts at most that long. -/
structure Ent.Wf (e : Ent) (B : Nat) : Prop where
  number : I64 e.number
  version : I64 e.version
  epoch : I64 e.epoch
  a : e.a < 18446744073709551616
  b : e.b < 18446744073709551616
  kind : I64 e.kind
  status : I64 e.status
  rule : I64 e.rule
  fin : I64 e.fin
  method : e.method.size ≤ B
  host : e.host.size ≤ B
  path : e.path.size ≤ B
  route : e.route.size ≤ B
  service : e.service.size ≤ B
  endp : e.endp.size ≤ B

theorem Ent.Wf.fit {e : Ent} {B : Nat} (h : e.Wf B) (hB : B ≤ 40000000) : e.Fit :=
  ⟨h.number, h.version, h.epoch, h.a, h.b, h.kind, h.status, h.rule, h.fin, Nat.le_trans h.method hB, Nat.le_trans h.host hB, Nat.le_trans h.path hB, Nat.le_trans h.route hB, Nat.le_trans h.service hB, Nat.le_trans h.endp hB⟩

theorem Ent.Wf.mono {e : Ent} {B C : Nat} (h : e.Wf B) (hB : B ≤ C) : e.Wf C :=
  ⟨h.number, h.version, h.epoch, h.a, h.b, h.kind, h.status, h.rule, h.fin, Nat.le_trans h.method hB, Nat.le_trans h.host hB, Nat.le_trans h.path hB, Nat.le_trans h.route hB, Nat.le_trans h.service hB, Nat.le_trans h.endp hB⟩

structure OpD.Wf (o : OpD) (B : Nat) : Prop where
  kind : I64 o.kind
  e : o.e.Wf B
  number : I64 o.number
  how : I64 o.how

theorem cellsI : Tryd.prog.cellsOf 3 = 1 := by kernel_rfl
theorem cellsB : Tryd.prog.cellsOf 4 = 1 := by kernel_rfl
theorem cellsS : Tryd.prog.cellsOf 9 = 1 := by kernel_rfl
theorem cellsU : Tryd.prog.cellsOf 28 = 1 := by kernel_rfl
theorem cellsD : Tryd.prog.cellsOf 30 = 6 := by kernel_rfl
theorem cellsE : Tryd.prog.cellsOf 32 = 15 := by kernel_rfl
theorem cellsO : Tryd.prog.cellsOf 34 = 19 := by kernel_rfl

theorem take_one {cs : List Value} {o : Nat} {v : Value} (h : (cs.drop o).take 1 = [v]) : cs[o]? = some v := by
  have h1 : ((cs.drop o).take 1)[0]? = some v := by rw [h]; rfl
  simpa [List.getElem?_take, List.getElem?_drop] using h1

theorem sub_at {cs : List Value} {o m j : Nat} {v : Value} (h : ((cs.drop o).take m)[j]? = some v) : cs[o + j]? = some v := by
  rw [List.getElem?_take] at h
  split at h
  · rw [List.getElem?_drop] at h
    exact h
  · cases h

section
variable {H : Type} {enc : TypeId × Value → H} {W : World} {sp : Nat → Bool} {held : Bool} {n : Nat}

theorem fld {fs : Array Field} {xs : List (DataW H × List MemPlace)} {cs : List Value} {base : Nat} (hf : ∀ (i : Nat) (f : Field), fs[i]? = some f → DataW.trod enc Tryd.prog W base sp held n f.type ((cs.drop f.offset).take (Tryd.prog.cellsOf f.type)) = xs[i]?)
    (hl : xs.length = fs.size) (i : Nat) (f : Field) (hi : fs[i]? = some f) : ∃ y, y ∈ xs ∧ DataW.trod enc Tryd.prog W base sp held n f.type ((cs.drop f.offset).take (Tryd.prog.cellsOf f.type)) = some y := by
  have hlt : i < xs.length := by rw [hl]; exact (Array.getElem?_eq_some_iff.1 hi).1
  exact ⟨xs[i], List.getElem_mem hlt, (hf i f hi).trans (List.getElem?_eq_getElem hlt)⟩

theorem leafI {base : Nat} {cs : List Value} {o : Nat} {y : DataW H × List MemPlace} (h : DataW.trod enc Tryd.prog W base sp held n 3 ((cs.drop o).take (Tryd.prog.cellsOf 3)) = some y) : ∃ z : Int, cs[o]? = some (.int .i64 z) ∧ I64 z := by
  rw [cellsI] at h
  obtain ⟨z, e, _, hw⟩ := DataW.trod_int Tryd.underlying3 h
  exact ⟨z, take_one e, by simpa [Lit.wf, IntKind.min, IntKind.max, IntKind.signed, IntKind.bits] using hw⟩

theorem leafU {base : Nat} {cs : List Value} {o : Nat} {y : DataW H × List MemPlace} (h : DataW.trod enc Tryd.prog W base sp held n 28 ((cs.drop o).take (Tryd.prog.cellsOf 28)) = some y) : ∃ z : Nat, cs[o]? = some (.int .u64 (z : Int)) ∧ z < 18446744073709551616 := by
  rw [cellsU] at h
  obtain ⟨z, e, _, hw⟩ := DataW.trod_int Tryd.underlying28 h
  have hb : 0 ≤ z ∧ z ≤ 18446744073709551615 := by simpa [Lit.wf, IntKind.min, IntKind.max, IntKind.signed, IntKind.bits] using hw
  obtain ⟨k, rfl⟩ : ∃ k : Nat, z = (k : Int) := ⟨z.toNat, by omega⟩
  exact ⟨k, take_one e, by omega⟩

theorem leafB {base : Nat} {cs : List Value} {o : Nat} {y : DataW H × List MemPlace} (h : DataW.trod enc Tryd.prog W base sp held n 4 ((cs.drop o).take (Tryd.prog.cellsOf 4)) = some y) : ∃ z : Bool, cs[o]? = some (.bool z) := by
  rw [cellsB] at h
  obtain ⟨z, e, _⟩ := DataW.trod_bool Tryd.underlying4 h
  exact ⟨z, take_one e⟩

theorem leafS {base : Nat} {cs : List Value} {o : Nat} {y : DataW H × List MemPlace} (h : DataW.trod enc Tryd.prog W base sp held n 9 ((cs.drop o).take (Tryd.prog.cellsOf 9)) = some y) : ∃ s : ByteArray, cs[o]? = some (.string s) ∧ s.size ≤ Rows.uptoBulk y.1 := by
  rw [cellsS] at h
  obtain ⟨s, e, rfl, _⟩ := DataW.trod_string Tryd.underlying9 h
  refine ⟨s, take_one e, ?_⟩
  simp only [Rows.uptoBulk]
  rw [Array.length_toList, ByteArray.size_data]
  omega

theorem agg_part {xs : List (DataW H × List MemPlace)} {y : DataW H × List MemPlace} (h : y ∈ xs) : Rows.uptoBulk y.1 ≤ Rows.uptoBulk (.agg (xs.map (·.1))) := by
  have := part_le (List.mem_map.2 ⟨y, h, rfl⟩ : y.1 ∈ xs.map (·.1))
  simp only [Rows.uptoBulk]
  omega

/-- An entry of the document's, out of its cells. -/
theorem ent_in {base : Nat} {cs : List Value} {x : DataW H × List MemPlace} (h : DataW.trod enc Tryd.prog W base sp held n 32 cs = some x) : ∃ e : Ent, (∀ (j : Nat) (u : Value), e.cells[j]? = some u → cs[j]? = some u) ∧ e.Wf (Rows.uptoBulk x.1) := by
  obtain ⟨xs, n1, _, rfl, _, hl, hf⟩ := DataW.trod_struct Tryd.underlying32 h
  obtain ⟨y0, m0, t0⟩ := fld hf hl 0 _ rfl
  obtain ⟨y1, m1, t1⟩ := fld hf hl 1 _ rfl
  obtain ⟨y2, m2, t2⟩ := fld hf hl 2 _ rfl
  obtain ⟨y3, m3, t3⟩ := fld hf hl 3 _ rfl
  obtain ⟨y4, m4, t4⟩ := fld hf hl 4 _ rfl
  obtain ⟨y5, m5, t5⟩ := fld hf hl 5 _ rfl
  obtain ⟨y6, m6, t6⟩ := fld hf hl 6 _ rfl
  obtain ⟨y7, m7, t7⟩ := fld hf hl 7 _ rfl
  obtain ⟨y8, m8, t8⟩ := fld hf hl 8 _ rfl
  obtain ⟨y9, m9, t9⟩ := fld hf hl 9 _ rfl
  obtain ⟨zs, n2, _, hz, _, hl2, hf2⟩ := DataW.trod_struct Tryd.underlying30 t8
  obtain ⟨u0, k0, d0⟩ := fld hf2 hl2 0 _ rfl
  obtain ⟨u1, k1, d1⟩ := fld hf2 hl2 1 _ rfl
  obtain ⟨u2, k2, d2⟩ := fld hf2 hl2 2 _ rfl
  obtain ⟨u3, k3, d3⟩ := fld hf2 hl2 3 _ rfl
  obtain ⟨u4, k4, d4⟩ := fld hf2 hl2 4 _ rfl
  obtain ⟨u5, k5, d5⟩ := fld hf2 hl2 5 _ rfl
  obtain ⟨number, c0, w0⟩ := leafI t0
  obtain ⟨version, c1, w1⟩ := leafI t1
  obtain ⟨epoch, c2, w2⟩ := leafI t2
  obtain ⟨method, c3, w3⟩ := leafS t3
  obtain ⟨host, c4, w4⟩ := leafS t4
  obtain ⟨path, c5, w5⟩ := leafS t5
  obtain ⟨a, c6, w6⟩ := leafU t6
  obtain ⟨b, c7, w7⟩ := leafU t7
  obtain ⟨fin, c9, w9⟩ := leafI t9
  obtain ⟨kind, e0, v0⟩ := leafI d0
  obtain ⟨status, e1, v1⟩ := leafI d1
  obtain ⟨route, e2, v2⟩ := leafS d2
  obtain ⟨rule, e3, v3⟩ := leafI d3
  obtain ⟨service, e4, v4⟩ := leafS d4
  obtain ⟨endp, e5, v5⟩ := leafS d5
  have hd : ∀ u ∈ zs, Rows.uptoBulk u.1 ≤ Rows.uptoBulk (DataW.agg (xs.map (·.1))) := fun u hu => by
    have q1 := agg_part hu
    have q2 := agg_part m8
    have q3 : y8.1 = .agg (zs.map (·.1)) := congrArg Prod.fst hz
    rw [q3] at q2
    omega
  have f0 := sub_at e0
  have f1 := sub_at e1
  have f2 := sub_at e2
  have f3 := sub_at e3
  have f4 := sub_at e4
  have f5 := sub_at e5
  refine ⟨⟨number, version, epoch, method, host, path, a, b, kind, status, route, rule, service, endp, fin⟩, ?_, ⟨w0, w1, w2, w6, w7, v0, v1, v3, w9, Nat.le_trans w3 (agg_part m3), Nat.le_trans w4 (agg_part m4), Nat.le_trans w5 (agg_part m5), Nat.le_trans v2 (hd _ k2), Nat.le_trans v4 (hd _ k4), Nat.le_trans v5 (hd _ k5)⟩⟩
  intro j u hj
  have hlt : j < 15 := (List.getElem?_eq_some_iff.1 hj).1
  obtain rfl | rfl | rfl | rfl | rfl | rfl | rfl | rfl | rfl | rfl | rfl | rfl | rfl | rfl | rfl : j = 0 ∨ j = 1 ∨ j = 2 ∨ j = 3 ∨ j = 4 ∨ j = 5 ∨ j = 6 ∨ j = 7 ∨ j = 8 ∨ j = 9 ∨ j = 10 ∨ j = 11 ∨ j = 12 ∨ j = 13 ∨ j = 14 := by omega
  all_goals obtain rfl := Option.some.inj hj
  · exact c0
  · exact c1
  · exact c2
  · exact c3
  · exact c4
  · exact c5
  · exact c6
  · exact c7
  · exact f0
  · exact f1
  · exact f2
  · exact f3
  · exact f4
  · exact f5
  · exact c9

/-- A call, out of its cells. -/
theorem op_in {base : Nat} {cs : List Value} {x : DataW H × List MemPlace} (h : DataW.trod enc Tryd.prog W base sp held n 34 cs = some x) : ∃ o : OpD, (∀ (j : Nat) (u : Value), o.cells[j]? = some u → cs[j]? = some u) ∧ o.Wf (Rows.uptoBulk x.1) := by
  obtain ⟨xs, n1, _, rfl, _, hl, hf⟩ := DataW.trod_struct Tryd.underlying34 h
  obtain ⟨y0, m0, t0⟩ := fld hf hl 0 _ rfl
  obtain ⟨y1, m1, t1⟩ := fld hf hl 1 _ rfl
  obtain ⟨y2, m2, t2⟩ := fld hf hl 2 _ rfl
  obtain ⟨y3, m3, t3⟩ := fld hf hl 3 _ rfl
  obtain ⟨y4, m4, t4⟩ := fld hf hl 4 _ rfl
  obtain ⟨kind, c0, w0⟩ := leafI t0
  obtain ⟨e, c1, w1⟩ := ent_in t1
  obtain ⟨number, c2, w2⟩ := leafI t2
  obtain ⟨how, c3, w3⟩ := leafI t3
  obtain ⟨on, c4⟩ := leafB t4
  refine ⟨⟨kind, e, number, how, on⟩, ?_, ⟨w0, w1.mono (agg_part m1), w2, w3⟩⟩
  intro j u hj
  have hlt : j < 19 := (List.getElem?_eq_some_iff.1 hj).1
  have hcase : j = 0 ∨ (∃ i, i < 15 ∧ j = 1 + i) ∨ j = 16 ∨ j = 17 ∨ j = 18 := by
    by_cases q : j = 0
    · exact .inl q
    by_cases q2 : j ≤ 15
    · exact .inr (.inl ⟨j - 1, by omega, by omega⟩)
    · omega
  rcases hcase with rfl | ⟨i, hi, rfl⟩ | rfl | rfl | rfl
  · obtain rfl := Option.some.inj hj
    exact c0
  · have hj2 : e.cells[i]? = some u := by
      have q : (OpD.cells ⟨kind, e, number, how, on⟩)[1 + i]? = (e.cells ++ [.int .i64 number, .int .i64 how, .bool on])[i]? := by
        rw [Nat.add_comm]
        rfl
      rw [q, List.getElem?_append_left (by exact hi)] at hj
      exact hj
    exact sub_at (c1 i u hj2)
  · obtain rfl := Option.some.inj hj
    exact c2
  · obtain rfl := Option.some.inj hj
    exact c3
  · obtain rfl := Option.some.inj hj
    exact c4
end

theorem ops_opened {W : World} {H : Type} {enc : TypeId × Value → H} {v : Value} {d : DataW H} {p : List MemPlace} (hv : v.cells = #[v]) (h : DataW.Trod enc Tryd.prog W 0 (fun _ => true) true 22 v d p) :
    ∃ (al : Option Addr) (len cl gl ol : Nat) (C : Nat → OpD), v = .slice al len cl ∧ (0 < len → al = some ⟨gl, ol, none⟩ ∧ gl < W.heap.size) ∧ (∀ i, i < len → OpAt W gl (ol + i * 19) (C i)) ∧ (∀ i, i < len → (C i).Wf (Rows.uptoBulk d)) ∧ len ≤ Rows.uptoBulk d := by
  obtain ⟨fuel, hf⟩ := h
  rw [hv] at hf
  rcases open_slice Tryd.underlying22 hf with ⟨hcs, _⟩ | ⟨a, len, cap, m, n, D, Pl, hcs, hb, hl, hm, hmm, hx, hi⟩
  · obtain rfl : v = .slice none 0 0 := by simpa using hcs
    exact ⟨none, 0, 0, 0, 0, fun _ => ⟨0, Ent.zero, 0, 0, false⟩, rfl, (fun h => by omega), (fun i h => by omega), (fun i h => by omega), Nat.zero_le _⟩
  · obtain rfl : v = .slice (some a) len cap := by simpa using hcs
    simp only [if_true] at hmm
    subst hmm
    have hd : d = .slice ((List.range len).map D) ((List.range (m - len)).map fun j => D (len + j)) := congrArg Prod.fst hx
    have hDi : ∀ i, i < len → Rows.uptoBulk (D i) ≤ Rows.uptoBulk d := fun i hlt => by
      rw [hd]
      simp only [Rows.uptoBulk]
      have := part_le (List.mem_map.2 ⟨i, List.mem_range.2 hlt, rfl⟩ : D i ∈ (List.range len).map D)
      omega
    have key : ∀ i, ∃ o : OpD, i < len → (∀ (j : Nat) (u : Value), o.cells[j]? = some u → W.cell? (a.add (i * 19 + j)) = some u) ∧ o.Wf (Rows.uptoBulk (D i)) := by
      intro i
      by_cases hlt : i < len
      · obtain ⟨cs', hc, ht⟩ := hi i (by omega)
        obtain ⟨o, ho, hw⟩ := op_in ht
        rw [cellsO] at hc
        obtain ⟨_, hcl, hat⟩ := World.cells?_some hc
        refine ⟨o, fun _ => ⟨fun j u hj => ?_, hw⟩⟩
        have hlt2 : j < 19 := (List.getElem?_eq_some_iff.1 hj).1
        rw [← Go.Deep.add_add, hat j hlt2]
        exact ho j u hj
      · exact ⟨⟨0, Ent.zero, 0, 0, false⟩, fun h => absurd h hlt⟩
    have hform : 0 < len → ∃ g o, a = ⟨g, o, none⟩ ∧ g < W.heap.size := by
      intro h0
      obtain ⟨o, ho⟩ := key 0
      have hc0 := (ho h0).1 0 _ rfl
      obtain ⟨g, o, spn⟩ := a
      have hsp : spn = none := by
        cases spn with
        | none => rfl
        | some k => simp [Addr.add, World.cell?] at hc0; split at hc0 <;> cases hc0
      subst hsp
      exact ⟨g, o, rfl, by simpa [Addr.add] using World.block_lt_of_cell? W _ hc0⟩
    obtain ⟨g, o, hgo⟩ : ∃ g o, 0 < len → a = ⟨g, o, none⟩ ∧ g < W.heap.size := by
      by_cases h0 : 0 < len
      · obtain ⟨g, o, h1, h2⟩ := hform h0
        exact ⟨g, o, fun _ => ⟨h1, h2⟩⟩
      · exact ⟨0, 0, fun h => absurd h h0⟩
    obtain ⟨C, hC⟩ := Classical.axiomOfChoice key
    refine ⟨some a, len, m, g, o, C, rfl, fun h0 => ⟨by rw [(hgo h0).1], (hgo h0).2⟩, fun i hlt j u hj => ?_, fun i hlt => ?_, ?_⟩
    · have q := (hC i hlt).1 j u hj
      rw [(hgo (by omega)).1, Addr.add_lit] at q
      rw [Nat.add_assoc]
      exact q
    · have q := (hC i hlt).2
      exact ⟨q.kind, q.e.mono (hDi i hlt), q.number, q.how⟩
    · rw [hd]
      simp only [Rows.uptoBulk]
      have := length_le ((List.range len).map D)
      simp at this
      omega

end Go.Proofs.YthpflfcgnaichaaDoor
