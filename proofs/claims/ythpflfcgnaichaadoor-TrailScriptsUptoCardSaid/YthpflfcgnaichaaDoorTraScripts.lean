/-
The walk of TrailScripts: it answers true, and leaves all that was there as it was.
-/
import Derived.Test.YthpflfcgnaichaaDoorTraScrS
set_option linter.unusedVariables false
set_option linter.unusedSimpArgs false
namespace Go.Proofs.YthpflfcgnaichaaDoor
open Go Go.RowKit

section
variable {w0 w : World} {sv lv dv lf sd : Value} {cb k : Nat} {o : OpD} {i : Int} {K : Act → World → Prop} {Q : Exit → Act → World → Prop} {a : Act}

/-- Both tell the same, and what was left behind too. -/
theorem st_is (htab : Tab w0) (h : ScSt w0 w lv dv lf sd k) (hk : k ≤ 60) :
    (∀ w1, Below w.heap.size w w1 → Calls Tryd.prog 21 #[lv, dv] w1 fun r w' => r = .returned (.bool true) ∧ Below w.heap.size w w') ∧
    (lf = .pointer none ∨ ∃ lb2, lf = .pointer (some ⟨lb2, 0, none⟩) ∧ ∀ w1, Below w.heap.size w w1 → Calls Tryd.prog 21 #[lf, sd] w1 fun r w' => r = .returned (.bool true) ∧ Below w.heap.size w w') := by
  rcases h.inv with ⟨rfl, rfl, rfl, rfl, hb0⟩ | ⟨lb, rb, v, u, xs, ys, b, rfl, rfl, p, r, g, g2⟩
  · refine ⟨fun w1 hb => ?_, .inl rfl⟩
    exact (is_walk w1 _ _ [] (tab_later htab (hb0.trans (hb.mono hb0.size))) .none nofun (fun i e h => by simp at h) (by decide)).mono fun r w' ⟨hr, h2⟩ => ⟨hr, hb.trans (h2.mono hb.size)⟩
  · refine ⟨fun w1 hb => ?_, ?_⟩
    · exact (is_walk w1 _ _ xs (tab_later htab (p.below.trans (hb.mono p.below.size))) (.some (log_later p.log hb) (log_later r.log hb)) g.good g.num (by have := g.len; omega)).mono fun r w' ⟨hr, h2⟩ => ⟨hr, hb.trans (h2.mono hb.size)⟩
    · have hp := p.sec
      have hr := r.sec
      cases b with
      | false => exact .inl hp
      | true =>
        obtain ⟨lb2, v2, rfl, q1⟩ := hp
        obtain ⟨rb2, u2, rfl, q2⟩ := hr
        refine .inr ⟨lb2, rfl, fun w1 hb => ?_⟩
        exact (is_walk w1 _ _ ys (tab_later htab (p.below.trans (hb.mono p.below.size))) (.some (log_later q1.log hb) (log_later q2.log hb)) g2.good g2.num (by have := g2.len; omega)).mono fun r w' ⟨hr, h2⟩ => ⟨hr, hb.trans (h2.mono hb.size)⟩

set_option maxRecDepth 100000 in
set_option maxHeartbeats 4000000 in
theorem sc_is (htab : Tab w0) (hf : ScA a sv lv dv lf sd i) (h : ScSt w0 w lv dv lf sd k) (hk : k ≤ 60)
    (rest : ∀ a' w', ScA a' sv lv dv lf sd i → ScSt w0 w' lv dv lf sd k → K a' w') : scIs.wp Tryd.prog (Exit.then K Q) a w := by
  refine wp_cut (fun a' w' => ScA a' sv lv dv lf sd i ∧ ScSt w0 w' lv dv lf sd k) (fun a' w' h => rest a' w' h.1 h.2) ?_
  clear rest
  intro J K' hJ hK
  refine wp_calm ?_
  obtain ⟨vv, rfl⟩ := hf.shape
  clear hf
  dsimp only [scIs, ncl, ncr, ncb, nco, nct, nce, ncx, Tryd.f4]
  obtain ⟨h1, h2⟩ := st_is htab h hk
  have H1 := Lib.hid (h1 w (Below.refl _ _))
  have Hfin := Lib.hid (fun w2 (hb : Below w.heap.size w w2) => h.later hb)
  clear h1
  rcases h2 with rfl | ⟨lb2, rfl, h2⟩
  · clear h htab hk
    go_wp2_with fail
    refine H1.out.mono ?_
    rintro r w1 ⟨rfl, hb⟩
    have H := Lib.hid (Hfin.out w1 hb)
    clear hb H1 Hfin
    go_wp2
    exact Met.intro (hJ _ _ ⟨⟨rfl, rfl, rfl, rfl, rfl, rfl, rfl, rfl⟩, H.out⟩)
  · have H2 := Lib.hid h2
    clear h htab hk h2
    go_wp2_with fail
    refine H1.out.mono ?_
    rintro r w1 ⟨rfl, hb⟩
    have H3 := Lib.hid (H2.out w1 hb)
    clear hb H1 H2
    go_wp2_with fail
    refine H3.out.mono ?_
    rintro r w2 ⟨rfl, hb⟩
    have H := Lib.hid (Hfin.out w2 hb)
    clear hb H3 Hfin
    go_wp2
    exact Met.intro (hJ _ _ ⟨⟨rfl, rfl, rfl, rfl, rfl, rfl, rfl, rfl⟩, H.out⟩)

set_option maxRecDepth 100000 in
set_option maxHeartbeats 1600000 in
theorem sc_step {k : Nat} (hf : ScA a sv lv dv lf sd (k : Int)) (hk : k < 65537) (rest : ∀ a', ScA a' sv lv dv lf sd ((k + 1 : Nat) : Int) → K a' w) : scStep.wp Tryd.prog (Exit.then K Q) a w := by
  refine wp_cut (fun a' w' => ScA a' sv lv dv lf sd ((k + 1 : Nat) : Int) ∧ w' = w) (fun a' w' ⟨h, e⟩ => by subst e; exact rest a' h) ?_
  clear rest
  intro J K' hJ hK
  obtain ⟨vv, rfl⟩ := hf.shape
  clear hf
  dsimp only [scStep, ncl, ncr, ncb, nco, nct, nce, ncx, Tryd.f4]
  have Hop := Lib.hid (go_step (wrap_small hk))
  clear hk
  go_wp2
  exact Met.intro (hJ _ _ ⟨⟨rfl, rfl, rfl, rfl, rfl, rfl, rfl, congrArg some Hop.out⟩, rfl⟩)

set_option maxRecDepth 100000 in
set_option maxHeartbeats 1600000 in
theorem sc_test {k n c : Nat} {ao : Option Addr} (hf : ScA a (.slice ao n c) lv dv lf sd (k : Int))
    (rest : ∀ a', k < n → ScA a' (.slice ao n c) lv dv lf sd (k : Int) → K a' w) (out : ∀ a', ScA a' (.slice ao n c) lv dv lf sd (k : Int) → Q (.exit 0) a' w) : scTest.wp Tryd.prog (Exit.then K Q) a w := by
  obtain ⟨vv, rfl⟩ := hf.shape
  clear hf
  dsimp only [scTest, ncl, ncr, ncb, nco, nct, nce, ncx, Tryd.f4]
  by_cases hk : k < n
  · have Hr := Lib.hid (fun a' h => rest a' hk h)
    have b1 : (k : Int) < (n : Int) := by omega
    clear rest out hk
    go_wp2
    exact Hr.out _ ⟨rfl, rfl, rfl, rfl, rfl, rfl, rfl, rfl⟩
  · have Hr := Lib.hid (fun a' h => out a' h)
    have b1 : (n : Int) ≤ (k : Int) := by omega
    clear rest out hk
    go_wp2
    exact Hr.out _ ⟨rfl, rfl, rfl, rfl, rfl, rfl, rfl, rfl⟩

theorem sc_round {gl ol len cl kk : Nat} (htab : Tab w0) (hf : ScA a (.slice (some ⟨gl, ol, none⟩) len cl) lv dv lf sd (kk : Int)) (h : ScSt w0 w lv dv lf sd kk) (hkk : kk < len) (h60 : kk < 60) (ho : OpAt w gl (ol + kk * 19) o) (hfit : o.e.Fit)
    (rest : ∀ a' w' lv' dv' lf' sd', ScA a' (.slice (some ⟨gl, ol, none⟩) len cl) lv' dv' lf' sd' (kk : Int) → ScSt w0 w' lv' dv' lf' sd' (kk + 1) → K a' w') : scRound.wp Tryd.prog (Exit.then K Q) a w := by
  show (Code.block 1 (Code.seq scOp (Code.seq scSw scIs))).wp Tryd.prog (Exit.then K Q) a w
  refine in_block (wp_seq (sc_op hf h hkk ho (fun a1 w1 cb f1 h1 o1 => wp_seq ?_)))
  have key : ∀ a2 w2, ScPost w0 (.slice (some ⟨gl, ol, none⟩) len cl) (kk : Int) kk a2 w2 → scIs.wp Tryd.prog (Exit.then K fun _ _ _ => False) a2 w2 := fun a2 w2 ⟨lv', dv', lf', sd', f2, h2⟩ =>
    sc_is htab f2 h2 h60 (fun a3 w3 f3 h3 => rest a3 w3 lv' dv' lf' sd' f3 h3)
  by_cases q0 : o.kind = 0
  · exact sc_sw0 q0 f1 h1 h60 o1 hfit key
  by_cases q1 : o.kind = 1
  · exact sc_sw1 q1 f1 h1 h60 o1 key
  by_cases q2 : o.kind = 2
  · exact sc_sw2 q2 f1 h1 h60 o1 key
  · exact sc_sw3 q0 q1 q2 f1 h1 o1 key

theorem sc_loop {ao : Option Addr} {gl ol len cl : Nat} {C : Nat → OpD} (htab : Tab w0) (hf : ScA a (.slice ao len cl) lv dv lf sd 0) (h : ScSt w0 w lv dv lf sd 0) (hal : 0 < len → ao = some ⟨gl, ol, none⟩ ∧ gl < w0.heap.size) (hc : ∀ i, i < len → OpAt w0 gl (ol + i * 19) (C i)) (hfit : ∀ i, i < len → (C i).e.Fit) (hlen : len ≤ 60)
    (rest : ∀ a' w' lv' dv' lf' sd' i', ScA a' (.slice ao len cl) lv' dv' lf' sd' i' → ScSt w0 w' lv' dv' lf' sd' 60 → K a' w') : (ncb scLoop).wp Tryd.prog (Exit.inBlock 0 (Exit.then K Q)) a w := by
  show (Code.loop (Code.seq scTest (Code.seq scRound scStep))).wp Tryd.prog (Exit.inBlock 0 (Exit.then K Q)) a w
  refine wp_loop (fun a' w' => ∃ (k : Nat) (lv dv lf sd : Value), k ≤ 60 ∧ ScA a' (.slice ao len cl) lv dv lf sd (k : Int) ∧ ScSt w0 w' lv dv lf sd k) (fun a' _ => 60 - (intOf (a'.tmps.getD 9 undef)).toNat) ⟨0, _, _, _, _, by omega, hf, h⟩ ?_
  rintro a' w' ⟨k, lv, dv, lf, sd, hk, hf', h'⟩
  refine wp_seq (sc_test hf' (fun a1 hlt hf1 => ?_) (fun a1 hf1 => ?_))
  · obtain ⟨rfl, hgl⟩ := hal (by omega)
    refine wp_seq (sc_round htab hf1 h' hlt (by omega) ((hc k hlt).below hgl h'.below) (hfit k hlt) (fun a2 w2 lv2 dv2 lf2 sd2 hf2 h2 => sc_step hf2 (by omega) (fun a3 hf3 => ⟨⟨k + 1, lv2, dv2, lf2, sd2, by omega, hf3, h2⟩, ?_⟩)))
    show 60 - (intOf (a3.tmps.getD 9 undef)).toNat < 60 - (intOf (a'.tmps.getD 9 undef)).toNat
    rw [getD_of hf3.s9, getD_of hf'.s9]
    simp only [intOf]
    omega
  · refine out_loop ?_
    exact rest _ _ _ _ _ _ _ hf1 (h'.mono hk)

set_option maxRecDepth 100000 in
set_option maxHeartbeats 1600000 in
theorem sc_end (htab : Tab w0) (hf : ScA a sv lv dv lf sd i) (h : ScSt w0 w lv dv lf sd 60)
    (fin : ∀ a' w', a'.tmps.size = 109 → a'.defers = [] → a'.tmps[4]? = some (.bool true) → Below w0.heap.size w0 w' → Q .ret a' w') : scEnd.wp Tryd.prog Q a w := by
  obtain ⟨vv, rfl⟩ := hf.shape
  clear hf
  dsimp only [scEnd, ncl, ncr, ncb, nco, ncx, Tryd.f4]
  have H1 := Lib.hid ((st_is htab h (Nat.le_refl _)).1 w (Below.refl _ _))
  have Hb := Lib.hid h.below
  have Hfin := Lib.hid fin
  clear fin htab h
  go_wp2_with fail
  refine H1.out.mono ?_
  rintro r w1 ⟨rfl, hb⟩
  have H2 := Lib.hid (Hb.out.trans (hb.mono Hb.out.size))
  clear hb H1
  go_wp2
  exact Hfin.out _ _ rfl rfl rfl H2.out

end

theorem two_logs (w : World) : ScSt w ((w.alloc (.cells #[.slice none 0 0] 27)).alloc (.cells #[.slice none 0 0] 50)) (.pointer (some ⟨w.heap.size, 0, none⟩)) (.pointer (some ⟨w.heap.size + 1, 0, none⟩)) (.pointer none) (.pointer none) 0 := by
  have e : (w.alloc (.cells #[.slice none 0 0] 27)).heap.size = w.heap.size + 1 := by simp
  have hb := two_new w (.cells #[.slice none 0 0] 27) (.cells #[.slice none 0 0] 50)
  refine .one (v := .slice none 0 0) (u := .slice none 0 0) (xs := []) (ys := []) (b := false) ⟨⟨?_, World.ownsRow_nil _ _ _ _, nofun⟩, hb, Nat.le_refl _, nofun, rfl⟩ ⟨⟨?_, World.ownsRow_nil _ _ _ _, nofun⟩, hb, by omega, nofun, rfl⟩ (AllGood.nil _) (AllGood.nil _)
  · exact (alloc_old _ (by omega)).trans (alloc_new _)
  · rw [← e]
    exact alloc_new _

set_option maxRecDepth 100000 in
set_option maxHeartbeats 1600000 in
theorem scripts_walk (w : World) (htab : Tab w) (al : Option Addr) (len cl gl ol : Nat) (none : Bool) (hal : 0 < len → al = some ⟨gl, ol, .none⟩ ∧ gl < w.heap.size) (C : Nat → OpD) (hc : ∀ i, i < len → OpAt w gl (ol + i * 19) (C i)) (hfit : ∀ i, i < len → (C i).e.Fit) :
    Calls Tryd.prog 4 #[.slice al len cl, .bool none] w fun e w' => e = .returned (.bool true) ∧ Below w.heap.size w w' := by
  by_cases hlen : len ≤ 60
  rotate_left
  · have b1 : decide ((60 : Int) < (len : Int)) = true := decide_eq_true (by omega)
    clear hal hc hfit htab hlen
    go_enter Tryd.func4, Tryd.ntmps4
    go_wp2
    go_ret
    exact ⟨rfl, Below.refl _ _⟩
  have b1 : decide ((60 : Int) < (len : Int)) = false := decide_eq_false (by omega)
  have Hal := Lib.hid hal
  have Hc := Lib.hid hc
  have Hf := Lib.hid hfit
  have Ht := Lib.hid htab
  have Hlen := Lib.hid hlen
  have Hst := Lib.hid (two_logs w)
  have Hst0 := Lib.hid (show ScSt w ((w.alloc (.cells #[.slice .none 0 0] 27)).alloc (.cells #[.slice .none 0 0] 50)) (.pointer .none) (.pointer .none) (.pointer .none) (.pointer .none) 0 from .nil (two_new _ _ _))
  clear hal hc hfit htab hlen
  cases none
  · go_enter Tryd.func4, Tryd.ntmps4
    go_wp2_with fail
    rename_i Q1 K1 hK1
    refine sc_loop (w0 := w) (ao := al) (len := len) (cl := cl) (gl := gl) (ol := ol) (C := C) Ht.out ?hf Hst.out Hal.out Hc.out Hf.out Hlen.out ?_
    case hf => exact ⟨rfl, rfl, rfl, rfl, rfl, rfl, rfl, rfl⟩
    intro a' w' lv' dv' lf' sd' i' hf h
    refine hK1 _ _ ?_
    refine sc_end Ht.out hf h ?_
    intro a2 w2 z1 z2 z3 hb
    refine ⟨z2, .bool true, ?_, rfl, hb⟩
    rw [← getD_of z3]
    exact results_tmp rfl _ _ _
  · go_enter Tryd.func4, Tryd.ntmps4
    go_wp2_with fail
    rename_i Q1 K1 hK1
    refine sc_loop (w0 := w) (ao := al) (len := len) (cl := cl) (gl := gl) (ol := ol) (C := C) Ht.out ?hf Hst0.out Hal.out Hc.out Hf.out Hlen.out ?_
    case hf => exact ⟨rfl, rfl, rfl, rfl, rfl, rfl, rfl, rfl⟩
    intro a' w' lv' dv' lf' sd' i' hf h
    refine hK1 _ _ ?_
    refine sc_end Ht.out hf h ?_
    intro a2 w2 z1 z2 z3 hb
    refine ⟨z2, .bool true, ?_, rfl, hb⟩
    rw [← getD_of z3]
    exact results_tmp rfl _ _ _

end Go.Proofs.YthpflfcgnaichaaDoor
