/-
The walk of the program's text (a told form read back); what Atoi and ParseUint answer.
-/
import Derived.Test.YthpflfcgnaichaaDoorTraPlain
import Derived.Test.YthpflfcgnaichaaDoorTraRefText
import Derived.Test.YthpflfcgnaichaaDoorTraShelfB
import Derived.Deep.RegionHeld3
set_option linter.unusedVariables false
set_option linter.unusedSimpArgs false
namespace Go.Proofs.YthpflfcgnaichaaDoor
open Go Go.RowKit

/-- The package's variables that a reading meets. -/
structure Glob (w : World) : Prop where
  max : ∃ m, w.cell? ⟨0, 0, none⟩ = some (.int .i64 m)
  syn : ∃ ev, w.cell? ⟨2, 0, none⟩ = some ev ∧ (ev = .nilIface ∨ ∃ te pe, ev = .iface te pe)
  rng : ∃ ev, w.cell? ⟨3, 0, none⟩ = some ev ∧ (ev = .nilIface ∨ ∃ te pe, ev = .iface te pe)

theorem glob_later {w w2 : World} (h : Glob w) (hb : Below w.heap.size w w2) : Glob w2 := by
  obtain ⟨⟨m, h0⟩, ⟨e2, h2, g2⟩, ⟨e3, h3, g3⟩⟩ := h
  exact ⟨⟨m, (hb.cell (World.block_lt_of_cell? w _ h0)).trans h0⟩, ⟨e2, (hb.cell (World.block_lt_of_cell? w _ h2)).trans h2, g2⟩, ⟨e3, (hb.cell (World.block_lt_of_cell? w _ h3)).trans h3, g3⟩⟩

def atoiV (s : ByteArray) : Int := match Lib.atoiAll s.data.toList with
  | .ok v => v
  | Lib.NumEnd.syntax => 0
  | .range => Lib.atoiSat s.data.toList

def puintV (s : ByteArray) : Nat := match Lib.parseUintB 64 s.data.toList with
  | .ok v => v
  | Lib.NumEnd.syntax => 0
  | .range => 18446744073709551615

theorem atoi_c (s : ByteArray) (hs : s.size ≤ 281474976710656) (w : World) (hg : Glob w) : Calls Tryd.prog 61 #[.string s] w fun e w' => (∃ er, e = .returned (.tuple #[.int .i64 (atoiV s), er])) ∧ Below w.heap.size w w' := by
  obtain ⟨_, ⟨e2, h2, g2⟩, ⟨e3, h3, g3⟩⟩ := hg
  rcases h : Lib.atoiAll s.data.toList with v | _ | _
  · refine (Tryd.strconv_Atoi_ok s (by omega) v h w).mono fun e w' ⟨he, hw⟩ => ⟨⟨.nilIface, by unfold atoiV; rw [h]; exact he⟩, ?_⟩
    rcases hw with rfl | ⟨t, rfl⟩
    · exact Below.refl _ _
    · exact Lib.bytesWorld_below _ _ _
  · exact (Tryd.strconv_Atoi_syntax s hs h e2 w h2 g2).mono fun e w' ⟨N, he, _, _, hb⟩ => ⟨⟨_, by unfold atoiV; rw [h]; exact he⟩, hb⟩
  · exact (Tryd.strconv_Atoi_range s hs h e3 w h3 g3).mono fun e w' ⟨N, he, _, _, hb⟩ => ⟨⟨_, by unfold atoiV; rw [h]; exact he⟩, hb⟩

theorem puint_c (s : ByteArray) (hs : s.size ≤ 281474976710656) (w : World) (hg : Glob w) : Calls Tryd.prog 63 #[.string s, .int .i64 10, .int .i64 64] w fun e w' => (∃ er, e = .returned (.tuple #[.int .u64 (puintV s : Int), er])) ∧ Below w.heap.size w w' := by
  obtain ⟨_, ⟨e2, h2, g2⟩, ⟨e3, h3, g3⟩⟩ := hg
  rcases h : Lib.parseUintB 64 s.data.toList with v | _ | _
  · refine (Tryd.strconv_ParseUint_10_at64_ok s (by omega) v h w).mono fun e w' ⟨he, hw⟩ => ⟨⟨.nilIface, by unfold puintV; rw [h]; exact he⟩, ?_⟩
    rcases hw with rfl | rfl
    · exact Below.refl _ _
    · exact Lib.bytesWorld_below _ _ _
  · exact (Tryd.strconv_ParseUint_10_at64_syntax s hs h e2 w h2 g2).mono fun e w' ⟨N, he, _, _, hb⟩ => ⟨⟨_, by unfold puintV; rw [h]; exact he⟩, hb⟩
  · exact (Tryd.strconv_ParseUint_10_at64_range s hs h e3 w h3 g3).mono fun e w' ⟨N, he, _, _, hb⟩ => ⟨⟨_, by unfold puintV; rw [h]; exact he⟩, hb⟩

theorem atoiV_back {s : ByteArray} {n : Int} (h : s.data.toList = Lib.itoa n) (h0 : -1 ≤ n) (h1 : n ≤ 9223372036854775807) : atoiV s = n := by
  unfold atoiV
  rw [h, atoi_back n h0 h1]

theorem puintV_back {s : ByteArray} {n : Nat} (h : s.data.toList = Lib.decDigits n) (h1 : n < 18446744073709551616) : puintV s = n := by
  unfold puintV
  rw [h, puint_back n h1]

theorem parse_lt : ∀ (l : List UInt8) (acc u : Nat), acc < 18446744073709551616 → Lib.parseUintM 18446744073709551615 acc l = .ok u → u < 18446744073709551616
  | [], acc, u, ha, h => by
    simp only [Lib.parseUintM] at h
    injection h with h
    omega
  | c :: r, acc, u, ha, h => by
    simp only [Lib.parseUintM] at h
    split at h
    · split at h
      · cases h
      · split at h
        · cases h
        · exact parse_lt r _ u (by omega) h
    · cases h

theorem puintV_lt (s : ByteArray) : puintV s < 18446744073709551616 := by
  unfold puintV
  rcases h : Lib.parseUintB 64 s.data.toList with v | _ | _
  · unfold Lib.parseUintB at h
    split at h
    · cases h
    · exact parse_lt _ 0 v (by decide) h
  · decide
  · decide

theorem atoiV_i64 (s : ByteArray) : I64 (atoiV s) := by
  unfold atoiV
  rcases h : Lib.atoiAll s.data.toList with v | _ | _
  · show I64 v
    unfold Lib.atoiAll at h
    split at h
    · cases h
    · dsimp only at h
      split at h
      · cases h
      · cases h
      · rename_i u _
        split at h
        · cases h
        · split at h
          · cases h
          · injection h with h
            subst h
            split <;> (constructor <;> omega)
  · constructor <;> simp
  · unfold Lib.atoiSat
    show I64 (if _ then _ else _)
    split <;> (constructor <;> decide)

/-- A row of bytes that the call which began in w has made. -/
structure RB (w wr : World) (v : Value) (l : List UInt8) : Prop where
  below : Below w.heap.size w wr
  row : ByteRow wr 0 v l
  new : ∀ g, v.ownBlock = some g → w.heap.size ≤ g

theorem RB.first (w : World) : RB w w (.slice none 0 0) [] := ⟨Below.refl _ _, World.ownsRow_nil _ _ _ _, nofun⟩

theorem RB.drewN {w wr : World} {v : Value} {l : List UInt8} (h : RB w wr v l) (n : Nat) : RB w (wr.drewN n) v l := ⟨h.below.trans ⟨rfl, rfl, rfl, Nat.le_refl _, fun _ _ => rfl⟩, h.row, h.new⟩

theorem RB.app {w wr w2 : World} {v v' : Value} {l : List UInt8} {c : UInt8} {o : Obj} (h : RB w wr v l) (own2 : w2.ownsRow 0 5 1 v' (l.length + 1) (Lib.byteCells l ++ [.int .u8 (c.toNat : Int)])) (gr2 : (wr.alloc o).grownBy w2 v.ownBlock) (new2 : ∀ g, v'.ownBlock = some g → v.ownBlock = some g ∨ (wr.alloc o).heap.size ≤ g) : RB w w2 v' (l ++ [c]) := by
  have hb := h.below.alloc h.below.size o
  have hm : Mod (fun k => v.ownBlock = some k) (wr.alloc o) w2 := (Mod.refl _ _).grown gr2 (fun k e _ => e)
  refine ⟨hb.trans (hm.below hb.size fun k hk => h.new k hk), ?_, fun g hg => ?_⟩
  · show w2.ownsRow 0 _ 1 v' (l ++ [c]).length (Lib.byteCells (l ++ [c]))
    rw [byteCells_snoc, List.length_append]
    exact own2
  · rcases new2 g hg with q | q
    · exact h.new g q
    · exact Nat.le_trans hb.size q

/-- Append of one byte in a plain region. -/
theorem byteAppend {w : World} {ops : Array Oper} {rest : List Oper} {o : Oper} {a : Act} {Q : Exit → Act → World → Prop} (hgd : o.guard = none) (s x : Operand)
    (ho : o.op = .call { callee := .builtin .append, args := #[s, x], argTypes := #[79, 79] })
    (v : Value) (l : List UInt8) (hs : a.eval s = v) (hown : w.ownsRow 0 5 1 v l.length (Lib.byteCells l)) (g : Nat) (c : UInt8) (hx : a.eval x = .slice (some ⟨g, 0, none⟩) 1 1)
    (hnew : w.cell? ⟨g, 0, none⟩ = some (.int .u8 (c.toNat : Int))) (hlen : l.length ≤ 1000000000)
    (h : ∀ v' w', w'.ownsRow 0 5 1 v' (l.length + 1) (Lib.byteCells l ++ [.int .u8 (c.toNat : Int)]) → w.grownBy w' v.ownBlock → (∀ g, v'.ownBlock = some g → v.ownBlock = some g ∨ w.heap.size ≤ g) →
      wpList Tryd.prog ops Q rest (a.put o.dst v') w') : wpList Tryd.prog ops Q (o :: rest) a w := by
  obtain ⟨i0, hi5, hz0, hz1, hz2⟩ := info_parts binfo
  refine wpList_append_sl w hgd s x 79 ho 5 i0 (.int .u8 0) 1 1 Tryd.underlying79 hi5 hz0 hz1 hz2 rfl (by decide) v l.length (Lib.byteCells l) hs hown (some ⟨g, 0, none⟩) 1 1 [.int .u8 (c.toNat : Int)] hx rfl
    (fun hn => by cases hn) (fun ad had => ?_) (fun u hu => by simp at hu; subst hu; rfl) (by unfold maxLen; omega) (by omega) h
  obtain rfl := Option.some.inj had
  intro j u hj
  cases j with
  | zero =>
    simp only [List.getElem?_cons_zero, Option.some.injEq] at hj
    subst hj
    exact hnew
  | succ j => simp at hj

theorem idx_le (c : UInt8) : ∀ l : List UInt8, Lib.indexByte l c ≤ (l.length : Int) - 1
  | [] => by simp [Lib.indexByte]
  | b :: l => by
    have ih := idx_le c l
    unfold Lib.indexByte
    rw [List.length_cons]
    split
    · omega
    · split
      · omega
      · omega

theorem hexV_bnd (c : UInt8) : -1 ≤ hexV c ∧ hexV c ≤ 15 := by
  refine ⟨Lib.indexByte_ge _ _, ?_⟩
  have h := idx_le c hexB.data.toList
  have e : hexB.data.toList.length = 16 := rfl
  rw [e] at h
  exact h

theorem shl_run {hi : Int} (h0 : -1 ≤ hi) (h1 : hi ≤ 15) : ∀ w, (binOp .shl 3 (.int .i64 hi) (.int .u64 4)).run Tryd.prog w = .ok (.int .i64 (16 * hi)) w := by
  intro w
  have e : IntKind.i64.wrap (hi * 2 ^ 4) = 16 * hi := by rw [IntKind.wrap_i64]; omega
  simp [binOp, Op.shift]
  first
    | exact e
    | (rw [show (2 : Int) ^ min 4 IntKind.i64.bits = 2 ^ 4 from rfl]; exact e)

theorem and15_run {lo : Int} (h0 : -1 ≤ lo) (h1 : lo ≤ 15) : ∀ w, (binOp .and 3 (.int .i64 lo) (.int .i64 15)).run Tryd.prog w = .ok (.int .i64 (lo % 16)) w := by
  intro w
  have key : ∀ a : Fin 17, IntKind.i64.wrap (((((a.val : Int) - 1) % 18446744073709551616).toNat &&& 15 : Nat) : Int) = ((a.val : Int) - 1) % 16 := by decide +kernel
  obtain ⟨a, ha⟩ : ∃ a : Fin 17, lo = (a.val : Int) - 1 := ⟨⟨(lo + 1).toNat, by omega⟩, by show lo = ((lo + 1).toNat : Int) - 1; omega⟩
  simp [binOp, Op.intBits]
  rw [ha]
  exact key a

theorem or_run {hi d : Int} (h0 : -1 ≤ hi) (h1 : hi ≤ 15) (d0 : 0 ≤ d) (d1 : d ≤ 15) : ∀ w, (binOp .or 3 (.int .i64 (16 * hi)) (.int .i64 d)).run Tryd.prog w = .ok (.int .i64 (16 * hi + d)) w := by
  intro w
  have key : ∀ a : Fin 17, ∀ b : Fin 16, IntKind.i64.wrap ((((16 * ((a.val : Int) - 1)) % 18446744073709551616).toNat ||| (((b.val : Int)) % 18446744073709551616).toNat : Nat) : Int) = 16 * ((a.val : Int) - 1) + (b.val : Int) := by decide +kernel
  obtain ⟨a, ha⟩ : ∃ a : Fin 17, hi = (a.val : Int) - 1 := ⟨⟨(hi + 1).toNat, by omega⟩, by show hi = ((hi + 1).toNat : Int) - 1; omega⟩
  obtain ⟨b, hb⟩ : ∃ b : Fin 16, d = (b.val : Int) := ⟨⟨d.toNat, by omega⟩, by show d = (d.toNat : Int); omega⟩
  simp [binOp, Op.intBits]
  rw [ha, hb]
  exact key a b

end Go.Proofs.YthpflfcgnaichaaDoor
