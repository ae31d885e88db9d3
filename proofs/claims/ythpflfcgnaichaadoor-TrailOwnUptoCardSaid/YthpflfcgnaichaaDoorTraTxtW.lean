/-
The walk of the program's text.
-/
import Derived.Test.YthpflfcgnaichaaDoorTraTxt
set_option linter.unusedVariables false
set_option linter.unusedSimpArgs false
namespace Go.Proofs.YthpflfcgnaichaaDoor
open Go Go.RowKit

/-- A scope in which nothing jumps. -/
theorem wp_scope_calm {P : Program} {a : Act} {w : World} {Q : Exit → Act → World → Prop} {c rest : Code} (l : Nat) (hf : findLabel c l = some rest)
    (h : ∀ J : Act → World → Prop, c.wp P (Exit.jump l J Q) a w) : (Code.scope c).wp P Q a w := wp_scope_fwd l hf fun J _ => h J

def byteV (h l : UInt8) : UInt8 := UInt8.ofNat ((16 * hexV h + hexV l % 16) % 256).toNat

theorem byteV_wrap (h l : UInt8) : IntKind.u8.wrap (16 * hexV h + hexV l % 16) = ((byteV h l).toNat : Int) := by
  unfold byteV
  have e : (UInt8.ofNat ((16 * hexV h + hexV l % 16) % 256).toNat).toNat = ((16 * hexV h + hexV l % 16) % 256).toNat := UInt8.toNat_ofNat_of_lt (by show _ < 256; omega)
  rw [e, IntKind.wrap_u8]
  omega

theorem txtL_byte {c : UInt8} (h l : UInt8) (r : List UInt8) (hc : c.toNat = 37) : txtL (c :: h :: l :: r) = byteV h l :: txtL r := txtL_hex h l r hc

theorem idx_run' {s : ByteArray} {k : Nat} {c : UInt8} (z : Int) (hz : z = (k : Int)) (h : s.data.toList[k]? = some c) : ∀ w, (Instr.index 9 (.string s) (.int .i64 z)).run Tryd.prog w = .ok (.int .u8 (c.toNat : Int)) w := by
  subst hz
  exact idx_run .i64 h

theorem go3 {k : Nat} (hw : wrap64 ((k : Int) + 2 + 1) = (k : Int) + 3) : Value.int .i64 (wrap64 ((k : Int) + 2 + 1)) = .int .i64 ((k + 3 : Nat) : Int) := by
  rw [hw, Int.natCast_add]
  rfl

theorem meas3 {n k : Nat} (h : k < n) (hw : wrap64 ((k : Int) + 2 + 1) = (k : Int) + 3) : n - (intOf (.int .i64 (wrap64 ((k : Int) + 2 + 1)))).toNat < n - (intOf (.int .i64 (k : Int))).toNat := by
  rw [hw]
  show n - ((k : Int) + 3).toNat < n - (k : Int).toNat
  omega

theorem drop_at {l : List UInt8} {k : Nat} {c : UInt8} (h : l[k]? = some c) : l.drop k = c :: l.drop (k + 1) := by
  obtain ⟨hk, he⟩ := List.getElem?_eq_some_iff.1 h
  rw [List.drop_eq_getElem_cons hk, he]

theorem txt_step {L l : List UInt8} {k : Nat} {c h x B : UInt8} (heq : txtL L = l ++ txtL (L.drop k)) (hc : L[k]? = some c) (hh : L[k + 1]? = some h) (hx : L[k + 2]? = some x) (hB : ∀ r, txtL (c :: h :: x :: r) = B :: txtL r) : txtL L = (l ++ [B]) ++ txtL (L.drop (k + 3)) := by
  have e3 : L.drop (k + 2) = x :: L.drop (k + 3) := drop_at hx
  have e2 : L.drop (k + 1) = h :: L.drop (k + 2) := drop_at hh
  have e1 : L.drop k = c :: L.drop (k + 1) := drop_at hc
  rw [heq, e1, e2, e3, hB, List.append_assoc]
  rfl

theorem len3 {l : List UInt8} {k : Nat} (B : UInt8) (h : l.length ≤ k) : (l ++ [B]).length ≤ k + 3 := by
  rw [List.length_append, List.length_singleton]
  omega

theorem RB.drew {w wr : World} {v : Value} {l : List UInt8} (h : RB w wr v l) : RB w wr.drew v l := ⟨h.below.drew, h.row, h.new⟩

theorem ix_call (x : UInt8) (w1 : World) : Calls Tryd.prog 86 #[.string ⟨#[48, 49, 50, 51, 52, 53, 54, 55, 56, 57, 97, 98, 99, 100, 101, 102]⟩, .int .u8 (x.toNat : Int)] w1 fun r w' => r = .returned (.int .i64 (hexV x)) ∧ w' = w1 :=
  (Tryd.strings_IndexByte ⟨#[48, 49, 50, 51, 52, 53, 54, 55, 56, 57, 97, 98, 99, 100, 101, 102]⟩ (x.toNat : Int) w1).mono fun r w' ⟨hr, hw⟩ => ⟨by
    rw [hr]
    unfold hexV
    have e : ((x.toNat : Int)).toNat.toUInt8 = x := by
      show (x.toNat).toUInt8 = x
      simp
    rw [e]
    rfl, hw⟩

theorem bits_key : ∀ a b : Fin 17, bits BinOp.or IntKind.i64 (wrap64 (((a.val : Int) - 1) * 16)) (bits BinOp.and IntKind.i64 ((b.val : Int) - 1) 15) % 256 = (16 * ((a.val : Int) - 1) + ((b.val : Int) - 1) % 16) % 256 := by
  decide +kernel

theorem bits_val (h x : UInt8) : bits BinOp.or IntKind.i64 (wrap64 (hexV h * 16)) (bits BinOp.and IntKind.i64 (hexV x) 15) % 256 = ((byteV h x).toNat : Int) := by
  have q := byteV_wrap h x
  obtain ⟨g0, g1⟩ := hexV_bnd h
  obtain ⟨f0, f1⟩ := hexV_bnd x
  generalize hexV h = hi at *
  generalize hexV x = lo at *
  generalize byteV h x = B at *
  obtain ⟨a, rfl⟩ : ∃ a : Fin 17, hi = (a.val : Int) - 1 := ⟨⟨(hi + 1).toNat, by omega⟩, by show hi = ((hi + 1).toNat : Int) - 1; omega⟩
  obtain ⟨b, rfl⟩ : ∃ b : Fin 17, lo = (b.val : Int) - 1 := ⟨⟨(lo + 1).toNat, by omega⟩, by show lo = ((lo + 1).toNat : Int) - 1; omega⟩
  rw [bits_key a b, ← q, IntKind.wrap_u8]

theorem new_val {W : World} {hi lo : Int} {B : UInt8} (h : bits BinOp.or IntKind.i64 (wrap64 (hi * 16)) (bits BinOp.and IntKind.i64 lo 15) % 256 = (B.toNat : Int)) :
    (W.alloc (.cells #[.int .u8 (bits BinOp.or IntKind.i64 (wrap64 (hi * 16)) (bits BinOp.and IntKind.i64 lo 15) % 256)] 5)).cell? ⟨W.heap.size, 0, none⟩ = some (.int .u8 (B.toNat : Int)) := by
  rw [World.cell?_alloc_new, h]
  rfl

theorem hex_pack (h x : UInt8) : ∃ (hi lo : Int) (B : UInt8), (∀ w1, Calls Tryd.prog 86 #[.string ⟨#[48, 49, 50, 51, 52, 53, 54, 55, 56, 57, 97, 98, 99, 100, 101, 102]⟩, .int .u8 (h.toNat : Int)] w1 fun r w' => r = .returned (.int .i64 hi) ∧ w' = w1) ∧
    (∀ w1, Calls Tryd.prog 86 #[.string ⟨#[48, 49, 50, 51, 52, 53, 54, 55, 56, 57, 97, 98, 99, 100, 101, 102]⟩, .int .u8 (x.toNat : Int)] w1 fun r w' => r = .returned (.int .i64 lo) ∧ w' = w1) ∧
    (-1 ≤ hi ∧ hi ≤ 15) ∧ (-1 ≤ lo ∧ lo ≤ 15) ∧ bits BinOp.or IntKind.i64 (wrap64 (hi * 16)) (bits BinOp.and IntKind.i64 lo 15) % 256 = (B.toNat : Int) ∧ (∀ (c : UInt8) (r : List UInt8), c.toNat = 37 → txtL (c :: h :: x :: r) = B :: txtL r) :=
  ⟨hexV h, hexV x, byteV h x, ix_call h, ix_call x, hexV_bnd h, hexV_bnd x, bits_val h x, fun c r hc => txtL_byte h x r hc⟩

theorem txt_len (l : List UInt8) : (txtL l).length ≤ l.length := by
  induction l using txtL.induct with
  | case1 => simp [txtL]
  | case2 c => simp [txtL]
  | case3 c h => simp [txtL]
  | case4 c h l r hc ih => rw [txtL, if_pos hc]; simp; omega
  | case5 c h l r hc ih => rw [txtL, if_neg hc]; simp at ih ⊢; omega

set_option maxHeartbeats 4000000 in
set_option maxRecDepth 20000 in
theorem text_c (w : World) (s : ByteArray) (hs : s.size ≤ 40000000) :
    Calls Tryd.prog 64 #[.string s] w fun r w' => r = .returned (.string ⟨(txtS s.data.toList).toArray⟩) ∧ Below w.heap.size w w' := by
  obtain ⟨n, hn⟩ : ∃ n, n = s.size := ⟨_, rfl⟩
  have Hn := Lib.hid hn
  have Hs := Lib.hid hs
  by_cases h1 : s = ⟨#[45]⟩
  · subst h1
    clear hs hn
    go_enter Tryd.func64, Tryd.ntmps64
    go_wp2
    refine wp_scope_calm 0 rfl ?_
    intro J
    go_wp2
    refine wp_label ?_
    have hcv := conv_row (w := w) (B := 0) (v := .slice none 0 0) (l := []) (World.ownsRow_nil _ _ _ _)
    go_wp2
    go_loop [3, 4] (fun v i => v = .slice none 0 0 ∧ i = .int .i64 0) (fun _ _ => 0)
    case atStart => exact ⟨rfl, rfl⟩
    case round =>
      obtain ⟨rfl, rfl⟩ := hrel
      go_wp2
      simp only [Exit.jump]
      go_ret
      exact ⟨rfl, Below.refl _ _⟩
  have t1 := beq_no (l := [45]) (fun h => h1 (ByteArray.ext (Array.ext' h)))
  have hS : txtS s.data.toList = txtL s.data.toList := by
    unfold txtS
    rw [if_neg (fun h => h1 (ByteArray.ext (Array.ext' h)))]
  rw [hS]
  have HT := Lib.hid (RB.first w)
  clear hs hn h1 hS
  go_enter Tryd.func64, Tryd.ntmps64
  go_wp2
  refine wp_scope_calm 0 rfl ?_
  intro J
  go_wp2
  refine wp_label ?_
  go_wp2
  go_loopw [3, 4] (fun vs i wr => ∃ (k : Nat) (vb : Value) (l : List UInt8), vb = vs ∧ i = .int .i64 (k : Int) ∧ Hid (k ≤ n ∧ RB w wr vb l ∧ l.length ≤ k ∧ txtL s.data.toList = l ++ txtL (s.data.toList.drop k))) (fun _ i _ => n - (intOf i).toNat)
  case atStart => exact ⟨0, _, [], rfl, rfl, Lib.hid ⟨Nat.zero_le _, HT.out, Nat.le_refl _, rfl⟩⟩
  case round =>
    obtain ⟨k, vb, l, rfl, rfl, H⟩ := hrel
    have hn := Hn.out
    clear HT
    by_cases hkn : k < n
    · obtain ⟨c, hc⟩ : ∃ c, s.data.toList[k]? = some c := ⟨s.data.toList[k]'(by rw [size_list]; omega), List.getElem?_eq_getElem _⟩
      have k1 := idx_run .i64 hc
      have b1 : (k : Int) < (n : Int) := by omega
      have c1 : (k : Int) < (s.size : Int) := by omega
      have hs := Hs.out
      have wk : wrap64 ((k : Int) + 1) = (k : Int) + 1 := wrap_small2 (show k < 40000000000001 by omega)
      have wk2 : wrap64 ((k : Int) + 2) = (k : Int) + 2 := by unfold wrap64; omega
      have Hms := Lib.hid (meas_step hkn wk)
      have Hgo := Lib.hid (go_step wk)
      have hR := H.out.2.1
      have hll := H.out.2.2.1
      have heq := H.out.2.2.2
      have Hle := Lib.hid (show l.length ≤ 1000000000 by omega)
      have HR := Lib.hid hR
      have Hown := Lib.hid (fun o => hR.row.alloc o)
      have hstay : c.toNat ≠ 37 ∨ (c.toNat = 37 ∧ n ≤ k + 2) → Hid (∀ w2 v', RB w w2 v' (l ++ [c]) → k + 1 ≤ n ∧ RB w w2 v' (l ++ [c]) ∧ (l ++ [c]).length ≤ k + 1 ∧ txtL s.data.toList = (l ++ [c]) ++ txtL (s.data.toList.drop (k + 1))) := fun hcase => Lib.hid fun w2 v' h => by
        refine ⟨hkn, h, by rw [List.length_append]; simp; omega, ?_⟩
        rw [heq, drop_at hc]
        rcases hcase with h | ⟨_, h⟩
        · rw [txtL_plain _ h]; simp
        · rw [txtL_short _ (by rw [List.length_drop, size_list]; omega)]; simp
      by_cases hp : c.toNat = 37
      · by_cases hq : n ≤ k + 2
        · have Hst := hstay (.inr ⟨hp, hq⟩)
          have p3 : ((c.toNat : Int) != 37) = false := by rw [hp]; rfl
          have p4 : (s.size : Int) ≤ (k : Int) + 2 := by omega
          clear hn hc hkn hs hR hll heq H hp hq hstay
          go_wp2_with (at_builtin; refine byteAppend rfl _ _ rfl vb l rfl (Hown.out _) _ c rfl (World.cell?_alloc_new _ _ _ _) Hle.out ?_; intro v' w2 own2 gr2 new2; have Hend := Lib.hid (Hst.out w2 v' (HR.out.app own2 gr2 new2)); clear own2 gr2 new2)
          go_roundw
          case rel => exact ⟨k + 1, _, _, rfl, Hgo.out, Hend⟩
          case measure => exact Hms.out
        · have hk3 : k + 3 ≤ n := by omega
          have wi1 : IntKind.i64.wrap ((k : Int) + 1) = (k : Int) + 1 := by rw [IntKind.wrap_i64]; omega
          have wi2 : IntKind.i64.wrap ((k : Int) + 2) = (k : Int) + 2 := by rw [IntKind.wrap_i64]; omega
          have p4 : (k : Int) + 2 < (s.size : Int) := by omega
          obtain ⟨h, hh⟩ : ∃ h, s.data.toList[k + 1]? = some h := ⟨s.data.toList[k + 1]'(by rw [size_list]; omega), List.getElem?_eq_getElem _⟩
          obtain ⟨x, hx⟩ : ∃ x, s.data.toList[k + 2]? = some x := ⟨s.data.toList[k + 2]'(by rw [size_list]; omega), List.getElem?_eq_getElem _⟩
          have k2 : ∀ w1, (Instr.index 9 (.string s) (.int .i64 ((k : Int) + 1))).run Tryd.prog w1 = .ok (.int .u8 (h.toNat : Int)) w1 := idx_run' _ (by omega) hh
          have k3 : ∀ w1, (Instr.index 9 (.string s) (.int .i64 ((k : Int) + 2))).run Tryd.prog w1 = .ok (.int .u8 (x.toNat : Int)) w1 := idx_run' _ (by omega) hx
          obtain ⟨hi, lo, B, hci, hcj, ⟨g0, g1⟩, ⟨f0, f1⟩, r4, hB⟩ := hex_pack h x
          have Hi := Lib.hid hci
          have Hj := Lib.hid hcj
          have Hnew := Lib.hid (fun W : World => new_val (W := W) r4)
          clear r4 g0 g1 f0 f1
          have wk3 : wrap64 ((k : Int) + 2 + 1) = (k : Int) + 3 := by unfold wrap64; omega
          have Hst := Lib.hid (show ∀ w2 v', RB w w2 v' (l ++ [B]) → k + 3 ≤ n ∧ RB w w2 v' (l ++ [B]) ∧ (l ++ [B]).length ≤ k + 3 ∧ txtL s.data.toList = (l ++ [B]) ++ txtL (s.data.toList.drop (k + 3)) from fun w2 v' q => by
            exact ⟨hk3, q, len3 _ hll, txt_step heq hc hh hx (fun r => hB c r hp)⟩)
          have Hgo3 := Lib.hid (go3 wk3)
          have Hm3 := Lib.hid (meas3 hkn wk3)
          have p3 : ((c.toNat : Int) != 37) = false := by rw [hp]; rfl
          have Hown2 := Lib.hid (fun o => (RB.drew hR).row.alloc o)
          have HR2 := Lib.hid (RB.drew hR)
          clear hn hc hkn hs hR hll heq H hp hq hstay hh hx hci hcj hB hk3 wk3
          go_wp2_with fail
          go_region_held3 (fun w' => w' = wr.drew) (first | rfl | assumption)
            (first
              | (go_at_call 86; (first | (with_reducible refine (Hi.out _).mono ?_) | (with_reducible refine (Hj.out _).mono ?_)); rintro e w' ⟨rfl, hw⟩; obtain rfl := hw.symm))
          all_goals go_wp2_with (at_builtin; refine byteAppend rfl _ _ rfl vb l rfl (Hown2.out _) _ B rfl (Hnew.out _) Hle.out ?_; intro v' w2 own2 gr2 new2; have Hend := Lib.hid (Hst.out w2 v' (HR2.out.app own2 gr2 new2)); clear own2 gr2 new2)
          all_goals go_roundw
          all_goals first
            | exact ⟨k + 3, _, _, rfl, Hgo3.out, Hend⟩
            | exact Hm3.out
      · have Hst := hstay (.inl hp)
        have p3 : ((c.toNat : Int) != 37) = true := by simp; omega
        clear hn hc hkn hs hR hll heq H hp hstay
        go_wp2_with (at_builtin; refine byteAppend rfl _ _ rfl vb l rfl (Hown.out _) _ c rfl (World.cell?_alloc_new _ _ _ _) Hle.out ?_; intro v' w2 own2 gr2 new2; have Hend := Lib.hid (Hst.out w2 v' (HR.out.app own2 gr2 new2)); clear own2 gr2 new2)
        go_roundw
        case rel => exact ⟨k + 1, _, _, rfl, Hgo.out, Hend⟩
        case measure => exact Hms.out
    · have b2 : (s.size : Int) ≤ (k : Int) := by omega
      have hcv := conv_row H.out.2.1.row
      have heq := H.out.2.2.2
      rw [List.drop_of_length_le (by rw [size_list]; omega), txtL_nil, List.append_nil] at heq
      have Hend := Lib.hid (And.intro heq H.out.2.1.below)
      clear hn H hkn heq
      go_wp2
      simp only [Exit.jump]
      go_ret
      exact ⟨by rw [Hend.out.1]; rfl, Hend.out.2⟩

end Go.Proofs.YthpflfcgnaichaaDoor
