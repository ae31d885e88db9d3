/-
Tables and healthy lists as they come in.
-/
import Derived.Test.YthpflfcgnaichaaDoorTraAgrW
import Derived.Test.YthpflfcgnaichaaDoorTraIn
set_option linter.unusedVariables false
set_option linter.unusedSimpArgs false
namespace Go.Proofs.YthpflfcgnaichaaDoor
open Go Go.ChangeShapes Go.WideShapes Go.ChangeAt Go.RowKit Go.Deep

section
variable {H : Type} {enc : TypeId × Value → H} {W : World} {sp : Nat → Bool} {held : Bool} {base : Nat}

theorem slr_in {α : Type} {T E : TypeId} {sz n : Nat} {cs : List Value} {x : DataW H × List MemPlace} (cells : α → List Value) (good : α → Nat → Prop) (hT : Tryd.prog.underlying T = some (.slice E)) (hE : Tryd.prog.cellsOf E = sz) (hsz : 0 < sz) (hlen : ∀ a, (cells a).length = sz)
    (elem : ∀ m cs y, DataW.trod enc Tryd.prog W base sp held m E cs = some y → ∃ a : α, (∀ (j : Nat) (u : Value), (cells a)[j]? = some u → cs[j]? = some u) ∧ good a (Rows.uptoBulk y.1))
    (h : DataW.trod enc Tryd.prog W base sp held n T cs = some x) :
    ∃ (ao : Option Addr) (cap : Nat) (xs : List α), cs = [.slice ao xs.length cap] ∧ xs.length ≤ Rows.uptoBulk x.1 ∧ (0 < xs.length → ∃ b o, ao = some ⟨b, o, none⟩ ∧ b < W.heap.size ∧ ∀ i a, xs[i]? = some a → ∀ j u, (cells a)[j]? = some u → W.cell? ⟨b, o + i * sz + j, none⟩ = some u) ∧ ∀ a ∈ xs, ∃ B, B ≤ Rows.uptoBulk x.1 ∧ good a B := by
  rcases open_slice hT h with ⟨hcs, _⟩ | ⟨a, len, cap, m, nn, D, Pl, hcs, hb, hl, hm, hmm, hx, hi⟩
  · exact ⟨none, 0, [], hcs, Nat.zero_le _, (fun h => absurd h (Nat.lt_irrefl 0)), (fun a h => by cases h)⟩
  · have hlm : len ≤ m := by rw [hmm]; split <;> omega
    have hd : x.1 = .slice ((List.range len).map D) ((List.range (m - len)).map fun j => D (len + j)) := congrArg Prod.fst hx
    have hDi : ∀ i, i < len → Rows.uptoBulk (D i) ≤ Rows.uptoBulk x.1 := fun i hlt => by
      rw [hd]
      simp only [Rows.uptoBulk]
      have := part_le (List.mem_map.2 ⟨i, List.mem_range.2 hlt, rfl⟩ : D i ∈ (List.range len).map D)
      omega
    have hle : len ≤ Rows.uptoBulk x.1 := by
      rw [hd]
      simp only [Rows.uptoBulk]
      have := length_le ((List.range len).map D)
      simp at this
      omega
    have key : ∀ i : Fin len, ∃ o : α, (∀ (j : Nat) (u : Value), (cells o)[j]? = some u → W.cell? (a.add (i * sz + j)) = some u) ∧ good o (Rows.uptoBulk (D i)) := by
      intro ⟨i, hlt⟩
      obtain ⟨cs', hc, ht⟩ := hi i (by omega)
      obtain ⟨o, ho, hw⟩ := elem _ _ _ ht
      rw [hE] at hc
      obtain ⟨_, hcl, hat⟩ := World.cells?_some hc
      refine ⟨o, fun j u hj => ?_, hw⟩
      have hlt2 : j < sz := by rw [← hlen o]; exact (List.getElem?_eq_some_iff.1 hj).1
      rw [← Go.Deep.add_add, hat j hlt2]
      exact ho j u hj
    obtain ⟨C, hC⟩ := Classical.axiomOfChoice key
    have hget : ∀ (i : Nat) (z : α), (List.ofFn C)[i]? = some z → ∃ h : i < len, C ⟨i, h⟩ = z := fun i z hz => by
      rw [List.getElem?_ofFn] at hz
      split at hz
      · exact ⟨by assumption, Option.some.inj hz⟩
      · cases hz
    refine ⟨some a, cap, List.ofFn C, by rw [hcs, List.length_ofFn], by rw [List.length_ofFn]; exact hle, fun h0 => ?_, fun z hz => ?_⟩
    · rw [List.length_ofFn] at h0
      obtain ⟨u0, hu0⟩ : ∃ u0, (cells (C ⟨0, h0⟩))[0]? = some u0 := ⟨_, List.getElem?_eq_getElem (by rw [hlen]; exact hsz)⟩
      have hc0 := (hC ⟨0, h0⟩).1 0 u0 hu0
      obtain ⟨g, o, spn⟩ := a
      have hsp : spn = none := by
        cases spn with
        | none => rfl
        | some k => simp [Addr.add, World.cell?] at hc0; split at hc0 <;> cases hc0
      subst hsp
      refine ⟨g, o, rfl, by simpa [Addr.add] using World.block_lt_of_cell? W _ hc0, fun i z hz j u hj => ?_⟩
      obtain ⟨hlt, hz2⟩ := hget i z hz
      rw [← hz2] at hj
      have q := (hC ⟨i, hlt⟩).1 j u hj
      rw [Addr.add_lit] at q
      rw [Nat.add_assoc]
      exact q
    · obtain ⟨i, hi2, hzi⟩ := List.getElem_of_mem hz
      obtain ⟨hlt, hz2⟩ := hget i z (by rw [List.getElem?_eq_getElem hi2, hzi])
      exact ⟨_, hDi i hlt, by rw [← hz2]; exact (hC ⟨i, hlt⟩).2⟩

theorem trod_flt {k : FloatKind} {fuel : Nat} {t : TypeId} {cs : List Value} {x : DataW H × List MemPlace} (ht : Tryd.prog.underlying t = some (.float k)) (h : DataW.trod enc Tryd.prog W base sp held fuel t cs = some x) : ∃ n, cs = [.float k n] := by
  cases fuel with
  | zero => simp [DataW.trod] at h
  | succ n =>
    unfold DataW.trod at h
    rw [ht] at h
    split at h <;> simp_all

theorem slrS {α : Type} {sz : Nat} {cells : α → List Value} {ao : Option Addr} {cap : Nat} {xs : List α} (h1 : xs.length ≤ 1048576) (h : 0 < xs.length → ∃ b o, ao = some ⟨b, o, none⟩ ∧ b < W.heap.size ∧ ∀ i a, xs[i]? = some a → ∀ j u, (cells a)[j]? = some u → W.cell? ⟨b, o + i * sz + j, none⟩ = some u) : SlR W (.slice ao xs.length cap) sz xs cells :=
  ⟨ao, cap, rfl, h1, h⟩

theorem str_in {n : Nat} {cs : List Value} {y : DataW H × List MemPlace} (h : DataW.trod enc Tryd.prog W base sp held n 9 cs = some y) : ∃ s : ByteArray, (∀ (j : Nat) (u : Value), ((fun s : ByteArray => [Value.string s]) s)[j]? = some u → cs[j]? = some u) ∧ s.size ≤ Rows.uptoBulk y.1 := by
  obtain ⟨s, rfl, rfl, _⟩ := DataW.trod_string Tryd.underlying9 h
  refine ⟨s, fun j u hj => hj, ?_⟩
  simp only [Rows.uptoBulk]
  rw [Array.length_toList, ByteArray.size_data]
  omega

theorem cells2 {cs : List Value} {a b : Value} (h0 : cs[0]? = some a) (h1 : cs[1]? = some b) : ∀ (j : Nat) (u : Value), [a, b][j]? = some u → cs[j]? = some u := by
  intro j u hj
  match j with
  | 0 => obtain rfl := Option.some.inj hj; exact h0
  | 1 => obtain rfl := Option.some.inj hj; exact h1
  | k + 2 => simp at hj
theorem cells3 {cs : List Value} {a b c : Value} (h0 : cs[0]? = some a) (h1 : cs[1]? = some b) (h2 : cs[2]? = some c) : ∀ (j : Nat) (u : Value), [a, b, c][j]? = some u → cs[j]? = some u := by
  intro j u hj
  match j with
  | 0 => obtain rfl := Option.some.inj hj; exact h0
  | 1 => obtain rfl := Option.some.inj hj; exact h1
  | 2 => obtain rfl := Option.some.inj hj; exact h2
  | k + 3 => simp at hj
theorem cells4 {cs : List Value} {a b c d : Value} (h0 : cs[0]? = some a) (h1 : cs[1]? = some b) (h2 : cs[2]? = some c) (h3 : cs[3]? = some d) : ∀ (j : Nat) (u : Value), [a, b, c, d][j]? = some u → cs[j]? = some u := by
  intro j u hj
  match j with
  | 0 => obtain rfl := Option.some.inj hj; exact h0
  | 1 => obtain rfl := Option.some.inj hj; exact h1
  | 2 => obtain rfl := Option.some.inj hj; exact h2
  | 3 => obtain rfl := Option.some.inj hj; exact h3
  | k + 4 => simp at hj

theorem cellsSl1 : Tryd.prog.cellsOf 117 = 1 := by kernel_rfl
theorem cellsSl2 : Tryd.prog.cellsOf 108 = 1 := by kernel_rfl
theorem cellsSl3 : Tryd.prog.cellsOf 109 = 1 := by kernel_rfl
theorem cellsSl4 : Tryd.prog.cellsOf 59 = 1 := by kernel_rfl
theorem cellsSl5 : Tryd.prog.cellsOf 58 = 1 := by kernel_rfl
theorem cellsF : Tryd.prog.cellsOf 88 = 1 := by kernel_rfl

theorem share_in (n : Nat) (cs : List Value) (y : DataW H × List MemPlace) (h : DataW.trod enc Tryd.prog W base sp held n 146 cs = some y) : ∃ s : ShareD, (∀ (j : Nat) (u : Value), s.cells[j]? = some u → cs[j]? = some u) ∧ True := by
  obtain ⟨xs, n1, _, rfl, _, hl, hf⟩ := DataW.trod_struct Tryd.underlying146 h
  obtain ⟨y0, m0, t0⟩ := fld hf hl 0 _ rfl
  obtain ⟨y1, m1, t1⟩ := fld hf hl 1 _ rfl
  obtain ⟨s, c0, _⟩ := leafS t0
  change DataW.trod enc Tryd.prog W base sp held _ 88 ((cs.drop 1).take (Tryd.prog.cellsOf 88)) = some y1 at t1
  rw [cellsF] at t1
  obtain ⟨u, e1⟩ := trod_flt Tryd.underlying88 t1
  exact ⟨⟨s, u⟩, cells2 c0 (take_one e1), trivial⟩

theorem ent2_in (n : Nat) (cs : List Value) (y : DataW H × List MemPlace) (h : DataW.trod enc Tryd.prog W base sp held n 119 cs = some y) : ∃ e : EntD, (∀ (j : Nat) (u : Value), e.cells[j]? = some u → cs[j]? = some u) ∧ (Rows.uptoBulk y.1 ≤ 1048576 → e.ok W) := by
  obtain ⟨xs, n1, _, rfl, _, hl, hf⟩ := DataW.trod_struct Tryd.underlying119 h
  obtain ⟨y0, m0, t0⟩ := fld hf hl 0 _ rfl
  obtain ⟨y1, m1, t1⟩ := fld hf hl 1 _ rfl
  obtain ⟨y2, m2, t2⟩ := fld hf hl 2 _ rfl
  obtain ⟨s, c0, hs⟩ := leafS t0
  obtain ⟨m, c1, _⟩ := leafS t1
  change DataW.trod enc Tryd.prog W base sp held _ 117 ((cs.drop 2).take (Tryd.prog.cellsOf 117)) = some y2 at t2
  rw [cellsSl1] at t2
  obtain ⟨ao, cap, ss, e2, hb, hm, _⟩ := slr_in ShareD.cells (fun _ _ => True) Tryd.underlying117 (show Tryd.prog.cellsOf 146 = 2 by kernel_rfl) (by decide) (fun _ => rfl) share_in t2
  have b0 := agg_part m0
  have b2 := agg_part m2
  exact ⟨⟨s, m, .slice ao ss.length cap, ss⟩, cells3 c0 c1 (take_one e2), fun hB => by
    change Rows.uptoBulk (DataW.agg (xs.map (·.1))) ≤ 1048576 at hB
    exact ⟨show s.size ≤ 40000000 by omega, slrS (by omega) hm⟩⟩

theorem perm_in (n : Nat) (cs : List Value) (y : DataW H × List MemPlace) (h : DataW.trod enc Tryd.prog W base sp held n 143 cs = some y) : ∃ e : PermD, (∀ (j : Nat) (u : Value), e.cells[j]? = some u → cs[j]? = some u) ∧ e.path.size ≤ Rows.uptoBulk y.1 := by
  obtain ⟨xs, n1, _, rfl, _, hl, hf⟩ := DataW.trod_struct Tryd.underlying143 h
  obtain ⟨y0, m0, t0⟩ := fld hf hl 0 _ rfl
  obtain ⟨y1, m1, t1⟩ := fld hf hl 1 _ rfl
  obtain ⟨y2, m2, t2⟩ := fld hf hl 2 _ rfl
  obtain ⟨s, c0, hs⟩ := leafS t0
  obtain ⟨m, c1, _⟩ := leafS t1
  obtain ⟨b, c2⟩ := leafB t2
  have b0 := agg_part m0
  exact ⟨⟨s, m, b⟩, cells3 c0 c1 c2, show s.size ≤ Rows.uptoBulk (DataW.agg (xs.map (·.1))) by omega⟩

theorem host_in (n : Nat) (cs : List Value) (y : DataW H × List MemPlace) (h : DataW.trod enc Tryd.prog W base sp held n 111 cs = some y) : ∃ e : HostD, (∀ (j : Nat) (u : Value), e.cells[j]? = some u → cs[j]? = some u) ∧ (Rows.uptoBulk y.1 ≤ 1048576 → e.Ok W) := by
  obtain ⟨xs, n1, _, rfl, _, hl, hf⟩ := DataW.trod_struct Tryd.underlying111 h
  obtain ⟨y0, m0, t0⟩ := fld hf hl 0 _ rfl
  obtain ⟨y1, m1, t1⟩ := fld hf hl 1 _ rfl
  obtain ⟨y2, m2, t2⟩ := fld hf hl 2 _ rfl
  obtain ⟨y3, m3, t3⟩ := fld hf hl 3 _ rfl
  obtain ⟨s, c0, hs⟩ := leafS t0
  obtain ⟨m, c1, _⟩ := leafS t1
  change DataW.trod enc Tryd.prog W base sp held _ 108 ((cs.drop 2).take (Tryd.prog.cellsOf 108)) = some y2 at t2
  change DataW.trod enc Tryd.prog W base sp held _ 109 ((cs.drop 3).take (Tryd.prog.cellsOf 109)) = some y3 at t3
  rw [cellsSl2] at t2
  rw [cellsSl3] at t3
  obtain ⟨ao, cap, es, e2, hb, hm, he⟩ := slr_in EntD.cells (fun e B => B ≤ 1048576 → e.ok W) Tryd.underlying108 (show Tryd.prog.cellsOf 119 = 3 by kernel_rfl) (by decide) (fun _ => rfl) ent2_in t2
  obtain ⟨ap, cap2, ps, e3, hb3, hm3, hp⟩ := slr_in PermD.cells (fun e B => e.path.size ≤ B) Tryd.underlying109 (show Tryd.prog.cellsOf 143 = 3 by kernel_rfl) (by decide) (fun _ => rfl) perm_in t3
  have b2 := agg_part m2
  have b3 := agg_part m3
  refine ⟨⟨s, m, .slice ao es.length cap, es, .slice ap ps.length cap2, ps⟩, cells4 c0 c1 (take_one e2) (take_one e3), fun hB => ?_⟩
  change Rows.uptoBulk (DataW.agg (xs.map (·.1))) ≤ 1048576 at hB
  refine ⟨slrS (by omega) hm, fun e hem => ?_, slrS (by omega) hm3, fun q hq => ?_⟩
  · obtain ⟨B, hB2, hg⟩ := he e hem
    exact hg (by omega)
  · obtain ⟨B, hB2, hg⟩ := hp q hq
    show q.path.size ≤ 40000000
    omega

theorem heal_in (n : Nat) (cs : List Value) (y : DataW H × List MemPlace) (h : DataW.trod enc Tryd.prog W base sp held n 122 cs = some y) : ∃ e : HealD, (∀ (j : Nat) (u : Value), e.cells[j]? = some u → cs[j]? = some u) ∧ (Rows.uptoBulk y.1 ≤ 1048576 → e.ok W ∧ ∀ s ∈ e.endpoints, s.size ≤ 1048576) := by
  obtain ⟨xs, n1, _, rfl, _, hl, hf⟩ := DataW.trod_struct Tryd.underlying122 h
  obtain ⟨y0, m0, t0⟩ := fld hf hl 0 _ rfl
  obtain ⟨y1, m1, t1⟩ := fld hf hl 1 _ rfl
  obtain ⟨s, c0, hs⟩ := leafS t0
  change DataW.trod enc Tryd.prog W base sp held _ 59 ((cs.drop 1).take (Tryd.prog.cellsOf 59)) = some y1 at t1
  rw [cellsSl4] at t1
  obtain ⟨ao, cap, es, e1, hb, hm, he⟩ := slr_in (fun s : ByteArray => [Value.string s]) (fun s B => s.size ≤ B) Tryd.underlying59 cellsS (by decide) (fun _ => rfl) (fun _ _ _ h => str_in h) t1
  have b1 := agg_part m1
  refine ⟨⟨s, .slice ao es.length cap, es⟩, cells2 c0 (take_one e1), fun hB => ?_⟩
  change Rows.uptoBulk (DataW.agg (xs.map (·.1))) ≤ 1048576 at hB
  refine ⟨slrS (by omega) hm, fun q hq => ?_⟩
  obtain ⟨B, hB2, hg⟩ := he q hq
  omega

end

end Go.Proofs.YthpflfcgnaichaaDoor
