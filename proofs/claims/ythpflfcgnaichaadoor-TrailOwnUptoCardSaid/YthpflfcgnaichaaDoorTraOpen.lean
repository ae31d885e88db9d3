/-
The walk of Open.
-/
import Derived.Test.YthpflfcgnaichaaDoorTraEnts
import Derived.LoopTactic
set_option linter.unusedVariables false
set_option linter.unusedSimpArgs false
namespace Go.Proofs.YthpflfcgnaichaaDoor
open Go Go.RowKit

/-- The numbers of those that are open. -/
def opensL (xs : List Ent) : List Int := (xs.filter fun e => e.fin == 0).map fun e => e.number

theorem wrap_small {k : Nat} (h : k < 65537) : wrap64 ((k : Int) + 1) = (k : Int) + 1 := by unfold wrap64; omega

theorem meas_step {n k : Nat} (h : k < n) (hw : wrap64 ((k : Int) + 1) = (k : Int) + 1) : n - (intOf (.int .i64 (wrap64 ((k : Int) + 1)))).toNat < n - (intOf (.int .i64 (k : Int))).toNat := by
  rw [hw]
  show n - ((k : Int) + 1).toNat < n - (k : Int).toNat
  omega

def intVs (l : List Int) : List Value := l.map fun z => Value.int .i64 z

theorem opens_snoc (l : List Ent) (e : Ent) : opensL (l ++ [e]) = if e.fin = 0 then opensL l ++ [e.number] else opensL l := by
  unfold opensL
  rw [List.filter_append, List.map_append]
  by_cases h : e.fin = 0 <;> simp [h]

theorem opens_le (l : List Ent) : (opensL l).length ≤ l.length := by
  unfold opensL
  rw [List.length_map]
  exact List.length_filter_le _ _

theorem opens_small {xs : List Ent} (k : Nat) (h : xs.length < 65537) : (opensL (xs.take k)).length ≤ 100000000 := by
  have h1 := opens_le (xs.take k)
  have h2 : (xs.take k).length ≤ xs.length := by rw [List.length_take]; omega
  omega

theorem intInfo : (Tryd.prog.info? 3).map (fun i => (i.zero, i.size, i.bytes)) = some (some (.int .i64 0), 1, 8) := by kernel_rfl

/-- Append of one int in a plain region. -/
theorem intAppend {w : World} {ops : Array Oper} {rest : List Oper} {o : Oper} {a : Act} {Q : Exit → Act → World → Prop} (hgd : o.guard = none) (s x : Operand)
    (ho : o.op = .call { callee := .builtin .append, args := #[s, x], argTypes := #[44, 44] })
    (v : Value) (xs : List Int) (hs : a.eval s = v) (hown : w.ownsRow 0 3 1 v xs.length (intVs xs)) (g : Nat) (z : Int) (hx : a.eval x = .slice (some ⟨g, 0, none⟩) 1 1)
    (hnew : w.cell? ⟨g, 0, none⟩ = some (.int .i64 z)) (hlen : xs.length ≤ 100000000) (q : Nat) (hq : q = xs.length + 1)
    (h : ∀ ao' c' w', w'.ownsRow 0 3 1 (.slice ao' q c') q (intVs (xs ++ [z])) → w.grownBy w' v.ownBlock → (∀ g, (Value.slice ao' q c').ownBlock = some g → v.ownBlock = some g ∨ w.heap.size ≤ g) →
      wpList Tryd.prog ops Q rest (a.put o.dst (.slice ao' q c')) w') : wpList Tryd.prog ops Q (o :: rest) a w := by
  refine wpList_append_q hgd s x 44 ho 3 (.int .i64 0) 1 8 Tryd.underlying44 intInfo rfl (by decide) v xs.length (intVs xs) hs hown (some ⟨g, 0, none⟩) 1 1 [.int .i64 z] hx rfl
    (fun hn => by cases hn) (fun ad had => ?_) (fun u hu => by simp at hu; subst hu; rfl) (by unfold maxLen; omega) (by omega) q hq ?_
  · obtain rfl := Option.some.inj had
    intro j u hj
    cases j with
    | zero =>
      simp only [List.getElem?_cons_zero, Option.some.injEq] at hj
      subst hj
      exact hnew
    | succ j => simp at hj
  · intro ao' c' w' h1 h2 h3
    refine h ao' c' w' ?_ h2 h3
    have e1 : intVs (xs ++ [z]) = intVs xs ++ [.int .i64 z] := by simp [intVs]
    rw [e1, hq]
    rw [hq] at h1
    exact h1

/-- The memory while open entries are gathered. -/
structure OW (w wr : World) (T : TypeId) (ev : Value) (xs : List Ent) (v : Value) (zs : List Int) : Prop where
  below : Below w.heap.size w wr
  row : EntRow wr T ev xs
  ints : wr.ownsRow 0 3 1 v zs.length (intVs zs)
  apart : ∀ g, v.ownBlock = some g → ev.ownBlock ≠ some g ∧ w.heap.size ≤ g

theorem OW.alloc {w wr : World} {T : TypeId} {ev v : Value} {xs : List Ent} {zs : List Int} (h : OW w wr T ev xs v zs) (o : Obj) : OW w (wr.alloc o) T ev xs v zs :=
  ⟨h.below.alloc h.below.size _, h.row.alloc _, h.ints.alloc _, h.apart⟩

theorem OW.grown {w wr w2 : World} {T : TypeId} {ev v v' : Value} {xs : List Ent} {zs zs' : List Int} (h : OW w wr T ev xs v zs) (hr : w2.ownsRow 0 3 1 v' zs'.length (intVs zs')) (hg : wr.grownBy w2 v.ownBlock)
    (hn : ∀ g, v'.ownBlock = some g → v.ownBlock = some g ∨ wr.heap.size ≤ g) : OW w w2 T ev xs v' zs' := by
  refine ⟨⟨hg.os.trans h.below.os, hg.tape.trans h.below.tape, hg.output.trans h.below.output, Nat.le_trans h.below.size hg.size, fun k hk => ?_⟩, ?_, hr, fun g hg2 => ?_⟩
  · refine (hg.block k (Nat.lt_of_lt_of_le hk h.below.size) (fun e => ?_)).trans (h.below.block k hk)
    have := (h.apart k e.symm).2
    omega
  · refine ownsRow_frame h.row fun g hg2 => ?_
    have hlt := (h.row.lt g hg2).2
    exact hg.block g hlt (fun e => (h.apart g e.symm).1 hg2)
  · rcases hn g hg2 with q | q
    · exact h.apart g q
    · exact ⟨fun e => by have := (h.row.lt g e).2; omega, Nat.le_trans h.below.size q⟩

theorem OW.cell {w wr : World} {T : TypeId} {g n c : Nat} {v : Value} {xs : List Ent} {zs : List Int} (h : OW w wr T (.slice (some ⟨g, 0, none⟩) n c) xs v zs) (hn : n = xs.length) {i : Nat} {e : Ent} (hi : xs[i]? = some e) (j : Nat) (hj : j < 15) : wr.cell? ⟨g, i * 15 + j, none⟩ = e.cells[j]? :=
  row_cell hn h.row hi j hj

theorem open_yes {w wr w2 : World} {T : TypeId} {ev : Value} {xs : List Ent} {k n m c' c2 : Nat} {ao' ao2 : Option Addr} (e : Ent) (o1 o2 : Obj) (hn : n = xs.length) (hk : k < n) (he : xs[k]? = some e) (hf : (e.fin == 0) = true) (hm : m = (opensL (xs.take k)).length) (h : OW w wr T ev xs (.slice ao' m c') (opensL (xs.take k)))
    (h1 : w2.ownsRow 0 3 1 (.slice ao2 (m + 1) c2) (m + 1) (intVs (opensL (xs.take k) ++ [e.number]))) (h2 : ((wr.alloc o1).alloc o2).grownBy w2 (Value.slice ao' m c').ownBlock) (h3 : ∀ g, (Value.slice ao2 (m + 1) c2).ownBlock = some g → (Value.slice ao' m c').ownBlock = some g ∨ ((wr.alloc o1).alloc o2).heap.size ≤ g) :
    Hid (k + 1 ≤ n ∧ m + 1 = (opensL (xs.take (k + 1))).length ∧ OW w w2 T ev xs (.slice ao2 (m + 1) c2) (opensL (xs.take (k + 1)))) := by
  have e1 : xs.take (k + 1) = xs.take k ++ [e] := by rw [List.take_add_one, he]; rfl
  have e2 : opensL (xs.take (k + 1)) = opensL (xs.take k) ++ [e.number] := by
    rw [e1, opens_snoc, if_pos (by simpa using hf)]
  have e3 : m + 1 = (opensL (xs.take (k + 1))).length := by rw [e2, List.length_append, ← hm]; rfl
  refine Lib.hid ⟨hk, e3, ?_⟩
  refine ((h.alloc o1).alloc o2).grown ?_ h2 h3
  rw [← e3, e2]
  exact h1

theorem open_no {w wr : World} {T : TypeId} {ev v : Value} {xs : List Ent} {k n m : Nat} (e : Ent) (o1 : Obj) (hn : n = xs.length) (hk : k < n) (he : xs[k]? = some e) (hf : (e.fin == 0) = false) (hm : m = (opensL (xs.take k)).length) (h : OW w wr T ev xs v (opensL (xs.take k))) :
    Hid (k + 1 ≤ n ∧ m = (opensL (xs.take (k + 1))).length ∧ OW w (wr.alloc o1) T ev xs v (opensL (xs.take (k + 1)))) := by
  have e1 : xs.take (k + 1) = xs.take k ++ [e] := by rw [List.take_add_one, he]; rfl
  have e2 : opensL (xs.take (k + 1)) = opensL (xs.take k) := by
    rw [e1, opens_snoc, if_neg (by simpa using hf)]
  rw [e2]
  exact Lib.hid ⟨hk, hm, h.alloc o1⟩

/-- What Open leaves. -/
def OpenPost (w : World) (xs : List Ent) (r : Ending) (w' : World) : Prop :=
  ∃ ao c, r = .returned (.slice ao (opensL xs).length c) ∧ w'.ownsRow 0 3 1 (.slice ao (opensL xs).length c) (opensL xs).length (intVs (opensL xs)) ∧ Below w.heap.size w w' ∧ (∀ g, (Value.slice ao (opensL xs).length c).ownBlock = some g → w.heap.size ≤ g)

set_option maxHeartbeats 1000000 in
theorem openNil_walk (w : World) : Calls Tryd.prog 16 #[.pointer none] w fun r w' => r = .returned (.slice none 0 0) ∧ w' = w := by
  have He := Lib.hid (fun w => entriesNil_walk w)
  go_enter Tryd.func16, Tryd.ntmps16
  go_wp2_with fail
  refine (He.out _).mono ?_
  rintro r w1 ⟨rfl, hw⟩
  obtain rfl := hw.symm
  clear He
  go_wp2
  go_loop [3, 9] (fun v i => v = .slice none 0 0 ∧ i = .int .i64 0) (fun _ _ => 0)
  case atStart => exact ⟨rfl, rfl⟩
  case round =>
    obtain ⟨rfl, rfl⟩ := hrel
    go_wp2
    go_ret
    exact ⟨rfl, rfl⟩

set_option maxHeartbeats 4000000 in
set_option maxRecDepth 20000 in
theorem open_walk (w : World) (lb : Nat) (v : Value) (xs : List Ent) (hlog : LogAt w 27 38 lb v xs) (hlen : xs.length < 65537) :
    Calls Tryd.prog 16 #[.pointer (some ⟨lb, 0, none⟩)] w fun r w' => OpenPost w xs r w' := by
  have He := Lib.hid (entries_walk w lb v xs hlog hlen)
  have Hlen := Lib.hid hlen
  clear hlog hlen
  go_enter Tryd.func16, Tryd.ntmps16
  go_wp2_with fail
  refine He.out.mono ?_
  rintro r w1 ⟨ao, c, rfl, h1, h2, h3⟩
  obtain ⟨n, hn⟩ : ∃ n, n = xs.length := ⟨_, rfl⟩
  rw [← hn] at h1 h3 ⊢
  have hO : OW w w1 38 (.slice ao n c) xs (.slice none 0 0) [] := ⟨h2, h1, World.ownsRow_nil _ _ _ _, fun g h => by cases h⟩
  have HO := Lib.hid hO
  have Hn := Lib.hid hn
  have Hnew := Lib.hid h3
  clear h1 h2 h3 hO hn He
  go_wp2
  go_loopw [3, 9] (fun v i wr => ∃ (k m : Nat) (ao' : Option Addr) (c' : Nat), i = .int .i64 (k : Int) ∧ v = .slice ao' m c' ∧ Hid (k ≤ n ∧ m = (opensL (xs.take k)).length ∧ OW w wr 38 (.slice ao n c) xs (.slice ao' m c') (opensL (xs.take k)))) (fun _ i _ => n - (intOf i).toNat)
  case atStart => exact ⟨0, 0, none, 0, rfl, rfl, Lib.hid ⟨Nat.zero_le _, rfl, HO.out⟩⟩
  case round =>
    obtain ⟨k, m, ao', c', rfl, rfl, H⟩ := hrel
    have hn : n = xs.length := Hn.out
    obtain ⟨hk, hm, hO⟩ := H.out
    by_cases hkn : k < n
    · obtain ⟨e, he⟩ : ∃ e, xs[k]? = some e := ⟨xs[k]'(by omega), List.getElem?_eq_getElem _⟩
      obtain ⟨g, c2, hv⟩ := row_some hO.row (by omega)
      rw [← hn] at hv
      simp only [Value.slice.injEq, true_and] at hv
      obtain ⟨rfl, rfl⟩ := hv
      have t1 : decide ((k : Int) < (n : Int)) = true := decide_eq_true (by omega)
      have b1 : (k : Int) < (n : Int) := by omega
      have c0 : wr.cell? ⟨g, k * 15, none⟩ = some (.int .i64 e.number) := OW.cell hO hn he 0 (by decide)
      have c1 : wr.cell? ⟨g, k * 15 + 1, none⟩ = some (.int .i64 e.version) := OW.cell hO hn he 1 (by decide)
      have c2 : wr.cell? ⟨g, k * 15 + 2, none⟩ = some (.int .i64 e.epoch) := OW.cell hO hn he 2 (by decide)
      have c3 : wr.cell? ⟨g, k * 15 + 3, none⟩ = some (.string e.method) := OW.cell hO hn he 3 (by decide)
      have c4 : wr.cell? ⟨g, k * 15 + 4, none⟩ = some (.string e.host) := OW.cell hO hn he 4 (by decide)
      have c5 : wr.cell? ⟨g, k * 15 + 5, none⟩ = some (.string e.path) := OW.cell hO hn he 5 (by decide)
      have c6 : wr.cell? ⟨g, k * 15 + 6, none⟩ = some (.int .u64 (e.a : Int)) := OW.cell hO hn he 6 (by decide)
      have c7 : wr.cell? ⟨g, k * 15 + 7, none⟩ = some (.int .u64 (e.b : Int)) := OW.cell hO hn he 7 (by decide)
      have c8 : wr.cell? ⟨g, k * 15 + 8, none⟩ = some (.int .i64 e.kind) := OW.cell hO hn he 8 (by decide)
      have c9 : wr.cell? ⟨g, k * 15 + 9, none⟩ = some (.int .i64 e.status) := OW.cell hO hn he 9 (by decide)
      have c10 : wr.cell? ⟨g, k * 15 + 10, none⟩ = some (.string e.route) := OW.cell hO hn he 10 (by decide)
      have c11 : wr.cell? ⟨g, k * 15 + 11, none⟩ = some (.int .i64 e.rule) := OW.cell hO hn he 11 (by decide)
      have c12 : wr.cell? ⟨g, k * 15 + 12, none⟩ = some (.string e.service) := OW.cell hO hn he 12 (by decide)
      have c13 : wr.cell? ⟨g, k * 15 + 13, none⟩ = some (.string e.endp) := OW.cell hO hn he 13 (by decide)
      have c14 : wr.cell? ⟨g, k * 15 + 14, none⟩ = some (.int .i64 e.fin) := OW.cell hO hn he 14 (by decide)
      obtain ⟨O1, hO1⟩ : ∃ O1, O1 = Obj.cells #[.int .i64 e.number, .int .i64 e.version, .int .i64 e.epoch, .string e.method, .string e.host, .string e.path, .int .u64 (e.a : Int), .int .u64 (e.b : Int), .int .i64 e.kind, .int .i64 e.status, .string e.route, .int .i64 e.rule, .string e.service, .string e.endp, .int .i64 e.fin] 38 := ⟨_, rfl⟩
      obtain ⟨O2, hO2⟩ : ∃ O2, O2 = Obj.cells #[.int .i64 e.number] 3 := ⟨_, rfl⟩
      have Hown := Lib.hid (((hO.alloc O1).alloc O2).ints)
      have Hcell := Lib.hid (show ((wr.alloc O1).alloc O2).cell? ⟨wr.heap.size + 1, 0, none⟩ = some (.int .i64 e.number) by rw [hO2]; exact World.cell?_alloc2_new ..)
      have Hyes := Lib.hid (fun hf w2 ao2 c2 => open_yes (w2 := w2) (ao2 := ao2) (c2 := c2) e O1 O2 hn hkn he hf hm hO)
      have Hno := Lib.hid (fun hf => open_no e O1 hn hkn he hf hm hO)
      have wk := wrap_small (Nat.lt_trans hkn (by rw [hn]; exact Hlen.out))
      have Hms := Lib.hid (meas_step hkn wk)
      have Hlen2 := opens_small k Hlen.out
      have Hle := Lib.hid Hlen2
      have Hq := Lib.hid (show m + 1 = (opensL (xs.take k)).length + 1 by rw [hm])
      subst hO1 hO2
      clear hn hk hm hO H hkn he HO Hnew Hlen2 Hn Hlen
      go_wp2_with (at_builtin; refine intAppend rfl _ _ rfl (.slice ao' m c') (opensL (xs.take k)) rfl Hown.out (wr.heap.size + 1) e.number rfl Hcell.out Hle.out (m + 1) Hq.out ?_; intro ao2 c2 w2 own2 gr2 new2; have Hend := Lib.hid (Hyes.out (by assumption) w2 ao2 c2 own2 gr2 new2); clear own2 gr2 new2)
      · go_roundw
        case rel => exact ⟨k + 1, m + 1, ao2, c2, by go_num, rfl, Hend⟩
        case measure => exact Hms.out
      · have Hend := Hno.out (by assumption)
        go_roundw
        case rel => exact ⟨k + 1, m, ao', c', by go_num, rfl, Hend⟩
        case measure => exact Hms.out
    · obtain rfl : k = n := by omega
      have hend : OpenPost w xs (.returned (.slice ao' m c')) wr := by
        have h0 : xs.take k = xs := by rw [hn]; exact List.take_length
        rw [h0] at hm hO
        subst hm
        exact ⟨ao', c', rfl, hO.ints, hO.below, fun g hg => (hO.apart g hg).2⟩
      have Hend := Lib.hid hend
      clear hend hn hk hm hO H HO Hnew
      go_wp2
      go_ret
      exact Hend.out

end Go.Proofs.YthpflfcgnaichaaDoor
