/-
The walk of TrailOrder: it answers true, and leaves all that was there as it was.
-/
import Derived.Test.YthpflfcgnaichaaDoorTraOrdE
set_option linter.unusedVariables false
set_option linter.unusedSimpArgs false
namespace Go.Proofs.YthpflfcgnaichaaDoor
open Go Go.RowKit

section
variable {w0 w : World} {lb cb : Nat} {v vw : Value} {xs : List Ent} {o : OpD} {sv : Value} {i : Int} {K : Act → World → Prop} {Q : Exit → Act → World → Prop} {a : Act}

theorem to_cnt {n c : Nat} {ao : Option Addr} (hf : ToD a sv lb (.slice ao n c) i cb 0 0) (hn : n = xs.length) (hr : EntRow w 38 (.slice ao n c) xs) (hlen : xs.length ≤ 60)
    (rest : ∀ a', ToC a' sv lb (.slice ao n c) i cb (openN xs : Int) → K a' w) : toCnt.wp Tryd.prog (Exit.then K Q) a w := by
  show (Code.block 2 (Code.loop (Code.seq toCTest (Code.seq toCRound toCStep)))).wp Tryd.prog (Exit.then K Q) a w
  refine wp_block (wp_loop (fun a' w' => ∃ k : Nat, k ≤ n ∧ ToD a' sv lb (.slice ao n c) i cb (openN (xs.take k) : Int) (k : Int) ∧ w' = w) (fun a' _ => n - (intOf (a'.tmps.getD 12 undef)).toNat) ⟨0, Nat.zero_le _, hf, rfl⟩ ?_)
  rintro a' w' ⟨k, hk, hf', rfl⟩
  refine wp_seq (to_ctest hf' (fun a1 hkn hf1 => ?_) (fun a1 hkn hf1 => ?_))
  · obtain ⟨e, he⟩ : ∃ e, xs[k]? = some e := ⟨xs[k]'(by omega), List.getElem?_eq_getElem _⟩
    obtain ⟨g, c2, hv⟩ := row_some hr (by omega)
    rw [← hn] at hv
    simp only [Value.slice.injEq, true_and] at hv
    obtain ⟨rfl, rfl⟩ := hv
    refine wp_seq (to_cround hf1 hn hr he (Nat.le_trans (openN_le xs k) (by omega)) (fun a2 hf2 => to_cstep hf2 (by omega) (fun a3 hf3 => ⟨⟨k + 1, hkn, ?_, rfl⟩, ?_⟩)))
    · rw [openN_next he]
      exact hf3
    · show n - (intOf (a3.tmps.getD 12 undef)).toNat < n - (intOf (a'.tmps.getD 12 undef)).toNat
      rw [getD_of hf3.s12, getD_of hf'.s12]
      simp only [intOf]
      omega
  · refine out_loop ?_
    rw [List.take_of_length_le (by omega)] at hf1
    exact rest _ hf1.toC

theorem to_round {gl ol len cl kk : Nat} (hf : ToA a (.slice (some ⟨gl, ol, none⟩) len cl) lb vw (kk : Int)) (h : OInv w0 w lb v vw xs) (hkk : kk < len) (h60 : kk < 60) (hx : xs.length ≤ kk) (ho : OpAt w gl (ol + kk * 19) o)
    (rest : ∀ a' w' v' vw' xs', ToA a' (.slice (some ⟨gl, ol, none⟩) len cl) lb vw' (kk : Int) → OInv w0 w' lb v' vw' xs' → xs'.length ≤ kk + 1 → K a' w') : toRound.wp Tryd.prog (Exit.then K Q) a w := by
  show (Code.block 1 (Code.seq toOp (Code.seq toAdd (Code.seq toEnd (Code.seq to23 (Code.seq (Code.seq to24 toCnt) toSame)))))).wp Tryd.prog (Exit.then K Q) a w
  refine in_block (wp_seq (to_op hf h hkk ho (fun a1 w1 cb f1 h1 o1 => wp_seq (to_add f1 h1 o1 (by omega) (fun a2 w2 v2 vw2 xs2 f2 h2 o2 l2 => wp_seq (to_end f2 h2 o2 (by omega) (fun a3 w3 xs3 f3 h3 l3 => wp_seq (to_23 f3 (fun a4 f4 => wp_seq (wp_seq (to_24 f4 (fun a5 f5 => ?_))))))))))))
  obtain ⟨ao, cw, hv⟩ := row_form h3.was
  subst hv
  exact to_cnt f5 rfl h3.was (by omega) (fun a6 f6 => to_same f6 h3 (by omega) (fun a7 w7 f7 h7 => rest a7 w7 v2 _ xs3 f7 h7 (by omega)))

theorem to_loop {ao : Option Addr} {gl ol len cl : Nat} {C : Nat → OpD} (hf : ToA a (.slice ao len cl) lb (.slice none 0 0) 0) (h : OInv w0 w lb v (.slice none 0 0) []) (hal : 0 < len → ao = some ⟨gl, ol, none⟩ ∧ gl < w0.heap.size) (hc : ∀ i, i < len → OpAt w0 gl (ol + i * 19) (C i))
    (rest : ∀ a' w', a'.tmps.size = 138 → a'.defers = [] → Below w0.heap.size w0 w' → K a' w') : (ncb toLoop).wp Tryd.prog (Exit.inBlock 0 (Exit.then K Q)) a w := by
  show (Code.loop (Code.seq toTest (Code.seq toRound toStep))).wp Tryd.prog (Exit.inBlock 0 (Exit.then K Q)) a w
  refine wp_loop (fun a' w' => ∃ (k : Nat) (v vw : Value) (xs : List Ent), k ≤ 60 ∧ xs.length ≤ k ∧ ToA a' (.slice ao len cl) lb vw (k : Int) ∧ OInv w0 w' lb v vw xs) (fun a' _ => 60 - (intOf (a'.tmps.getD 5 undef)).toNat) ⟨0, _, _, [], by omega, Nat.le_refl _, hf, h⟩ ?_
  rintro a' w' ⟨k, v, vw, xs, hk, hx, hf', h'⟩
  refine wp_seq (to_test hf' (fun a1 hlt h60 hf1 => ?_) (fun a1 hf1 => ?_))
  · obtain ⟨rfl, hgl⟩ := hal (by omega)
    refine wp_seq (to_round hf1 h' hlt h60 hx ((hc k hlt).below hgl h'.lg.below) (fun a2 w2 v2 vw2 xs2 hf2 h2 l2 => to_step hf2 (by omega) (fun a3 hf3 => ⟨⟨k + 1, v2, vw2, xs2, by omega, l2, hf3, h2⟩, ?_⟩)))
    show 60 - (intOf (a3.tmps.getD 5 undef)).toNat < 60 - (intOf (a'.tmps.getD 5 undef)).toNat
    rw [getD_of hf3.s5, getD_of hf'.s5]
    simp only [intOf]
    omega
  · refine out_loop ?_
    exact rest _ _ hf1.size hf1.dfr h'.lg.below

end

set_option maxRecDepth 100000 in
set_option maxHeartbeats 1600000 in
theorem to_true {Q : Exit → Act → World → Prop} {a : Act} {w : World} (hs : a.tmps.size = 138) (hd : a.defers = [])
    (fin : ∀ a', a'.tmps.size = 138 → a'.defers = [] → a'.tmps[2]? = some (.bool true) → Q .ret a' w) : toTrue.wp Tryd.prog Q a w := by
  obtain ⟨v, _, rfl⟩ := to_act a hs hd
  clear hs hd
  dsimp only [toTrue, ncl, ncr, ncb, nco, ncx, Tryd.f3]
  have Hfin := Lib.hid fin
  clear fin
  go_wp2
  exact Hfin.out _ rfl rfl rfl

theorem lg_from {w w1 : World} (hb : Below w.heap.size w w1) : Lg w (w1.alloc (.cells #[.slice none 0 0] 27)) w1.heap.size (.slice none 0 0) [] :=
  have h := log_new w1
  ⟨h.log, hb.alloc hb.size _, hb.size, nofun⟩

set_option maxRecDepth 100000 in
set_option maxHeartbeats 1600000 in
theorem order_walk (w : World) (htab : Tab w) (al : Option Addr) (len cl gl ol : Nat) (hal : 0 < len → al = some ⟨gl, ol, none⟩ ∧ gl < w.heap.size) (C : Nat → OpD) (hc : ∀ i, i < len → OpAt w gl (ol + i * 19) (C i)) :
    Calls Tryd.prog 3 #[.slice al len cl] w fun e w' => e = .returned (.bool true) ∧ Below w.heap.size w w' := by
  have Hal := Lib.hid hal
  have Hc := Lib.hid hc
  have Ha := Lib.hid (awake_walk w htab)
  clear hal hc htab
  go_enter Tryd.func3, Tryd.ntmps3
  go_wp2_with fail
  refine Ha.out.mono ?_
  rintro e w1 ⟨rfl, hb1⟩
  have Hl := Lib.hid (lg_from hb1)
  clear hb1 Ha
  go_wp2_with fail
  rename_i Q1 K1 hK1
  refine to_loop (w0 := w) (ao := al) (len := len) (cl := cl) (gl := gl) (ol := ol) (C := C) ?hf ⟨Hl.out, World.ownsRow_nil _ _ _ _, nofun⟩ Hal.out Hc.out ?_
  case hf => exact ⟨rfl, rfl, rfl, rfl, rfl, rfl⟩
  intro a' w' hs hd hb
  refine hK1 _ _ ?_
  refine to_true hs hd ?_
  intro a2 z1 z2 z3
  refine ⟨z2, .bool true, ?_, rfl, hb⟩
  rw [← getD_of z3]
  exact results_tmp rfl _ _ _

end Go.Proofs.YthpflfcgnaichaaDoor
