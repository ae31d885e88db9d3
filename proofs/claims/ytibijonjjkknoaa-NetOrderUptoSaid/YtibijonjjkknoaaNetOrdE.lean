/-
NetOrder behind its loop: the rest is passed and read; a cut connection tells that it is cut.
-/
import Derived.Test.YtibijonjjkknoaaNetOrdI
set_option linter.unusedVariables false
set_option linter.unusedSimpArgs false
namespace Go.Proofs.Ytibijonjjkknoaa
open Go Go.RowKit

/-- Behind the Pass of side k: nothing is under way. -/
def InvU (B : Nat) (w0 w : World) (n bw br : Nat) (k : Int) (V : Nat) : Prop :=
  ∃ L S M W0 W1 R0 R1 va vb vc vd c, Net1 B w0 w L n S ∧ S.cs.length = 3 ∧ (∀ (j : Nat) (c : Cn), S.cs[j]? = some c → c.vol ≤ V) ∧ MineAt B w L M bw br W0 W1 R0 R1 va vb vc vd ∧ S.cs[1]? = some c ∧
    Ord false c W0 W1 R0 R1 ∧ W0.length ≤ V ∧ W1.length ≤ V ∧ (c.sd k).under = []

/-- Behind the Read, ahead of the law's own append. -/
def InvE (B : Nat) (w0 w : World) (n bw br : Nat) (k : Int) (ao : Option Addr) (len cap : Nat) (V : Nat) : Prop :=
  ∃ L S M W0 W1 R0 R1 va vb vc vd c ps, Net1 B w0 w L n S ∧ S.cs.length = 3 ∧ (∀ (j : Nat) (c : Cn), S.cs[j]? = some c → c.vol ≤ V) ∧ MineAt B w L M bw br W0 W1 R0 R1 va vb vc vd ∧ S.cs[1]? = some c ∧
    ((k = 0 ∧ W0 = R0 ++ ps ∧ Ord false c W0 W1 (R0 ++ ps) R1) ∨ (k = 1 ∧ W1 = R1 ++ ps ∧ Ord false c W0 W1 R0 (R1 ++ ps))) ∧ W0.length ≤ V ∧ W1.length ≤ V ∧ (c.sd k).under = [] ∧ ps.length = len ∧ RdB w ao cap ps

theorem inv_app {B : Nat} {w0 w w' : World} {n bw br : Nat} {L : Lab} {S : St} {M M' : MLab} {W0 W1 R0 R1 X0 X1 Y0 Y1 : List UInt8} {va vb vc vd ua ub uc ud : Value}
    (hn : Net1 B w0 w L n S) (hM : MineAt B w L M bw br W0 W1 R0 R1 va vb vc vd) (hM' : MineAt B w' L M' bw br X0 X1 Y0 Y1 ua ub uc ud) (hm : Mod (fun x => M x ≠ none) w w') : Net1 B w0 w' L n S := by
  have hq : ∀ x, M x ≠ none → L x = none ∧ B ≤ x := by
    intro x hx
    cases hMx : M x with
    | none => exact absurd hMx hx
    | some t => exact ⟨(hM.labs x t hMx).1, (hM.labs x t hMx).2.1⟩
  exact hn.frame hm (fun x t hx e => by rw [(hq x e).1] at hx; cases hx) (fun x e => (hq x e).2)

section
variable {B n bw br : Nat} {w0 w : World} {V : Nat} {K : Act → World → Prop} {Q : Exit → Act → World → Prop} {a : Act}

theorem pass_end (h : Inv B w0 w n bw br false V) (hV : V ≤ 1048576) (k : Int) (hk : k = 0 ∨ k = 1) :
    Calls Try.prog 11 #[.pointer (some ⟨n, 0, none⟩), .int .i64 1, .int .i64 k, .int .i64 1099511627776] w fun e w' =>
      ∃ (y : Int) (m : Nat), e = .returned (.tuple #[.int .i64 m, .int .i64 y]) ∧ InvU B w0 w' n bw br k V := by
  obtain ⟨L, S, M, W0, W1, R0, R1, va, vb, vc, vd, c, hn, h3, hv, hM, hc1, ho, l0, l1⟩ := h
  refine (pass_tot hn (three_le h3) 1 1 rfl k c hc1 hk 1099511627776 (Nat.le_trans (hv _ _ hc1) hV)).mono ?_
  rintro e w' ⟨y, m, L', S', rfl, hn', hf, hcase⟩
  refine ⟨y, m, rfl, ?_⟩
  rcases hcase with ⟨hy, h1, hcutf, hm, rfl⟩ | ⟨_, _, hbad⟩
  · have hone := set_one (c := c.passed k m) (show 1 < S.cs.length by omega) hc1
    rw [if_pos rfl] at hone
    have hvol := set_vol hv (Nat.le_refl V) (c := c.passed k m) (j := 1) (Nat.le_trans (vol_pass c k hk m) (hv _ _ hc1))
    refine ⟨L', _, M, W0, W1, R0, R1, va, vb, vc, vd, _, hn', by rw [set_len]; exact h3, hvol, hM.net hf, hone, ho.pass k m hk, l0, l1, ?_⟩
    have hlu : (c.sd k).under.length ≤ 1048576 := by
      have := hv _ _ hc1
      unfold Cn.vol at this
      rcases hk with rfl | rfl <;> simp [Cn.sd] <;> omega
    have hml : (c.sd k).under.length ≤ m := by rw [hm]; unfold passLen; omega
    rcases hk with rfl | rfl
    · simp [Cn.sd] at hml
      simp [Cn.passed, Cn.sd, hml]
    · simp [Cn.sd] at hml
      simp [Cn.passed, Cn.sd, hml]
  · rcases hbad with hb | hb
    · have := ho.1; rw [hb] at this; cases this
    · omega

theorem read_end (k j : Int) (hk : k = 0 ∧ j = 1 ∨ k = 1 ∧ j = 0) (h : InvU B w0 w n bw br k V) :
    Calls Try.prog 12 #[.pointer (some ⟨n, 0, none⟩), .int .i64 1, .int .i64 j] w fun e w' =>
      ∃ (y : Int) (en : Bool) (ao : Option Addr) (len cap : Nat), e = .returned (.tuple #[.slice ao len cap, .bool en, .int .i64 y]) ∧ InvE B w0 w' n bw br k ao len cap V := by
  obtain ⟨L, S, M, W0, W1, R0, R1, va, vb, vc, vd, c, hn, h3, hv, hM, hc1, ho, l0, l1, hu⟩ := h
  have hj : j = 0 ∨ j = 1 := by omega
  refine (read_tot hn (three_le h3) 1 1 rfl j c hc1 hj).mono ?_
  rintro e w' ⟨y, en, ao, len, cap, ps, L', S', rfl, hn', hf, my, hlen, hlab, hcase⟩
  refine ⟨y, en, ao, len, cap, rfl, ?_⟩
  rcases hcase with ⟨rfl, hcf, hps, rfl⟩ | ⟨rfl, hct, _, rfl⟩
  · have hone := set_one (c := c.setSd j { c.sd j with there := [] }) (show 1 < S.cs.length by omega) hc1
    rw [if_pos rfl] at hone
    have hvol := set_vol hv (Nat.le_refl V) (c := c.setSd j { c.sd j with there := [] }) (j := 1) (Nat.le_trans (vol_read c j hj) (hv _ _ hc1))
    subst hps
    refine ⟨L', _, M, W0, W1, R0, R1, va, vb, vc, vd, _, _, hn', by rw [set_len]; exact h3, hvol, hM.net hf, hone, ?_, l0, l1, ?_, hlen, my.rd hlen⟩
    · rcases hk with ⟨rfl, rfl⟩ | ⟨rfl, rfl⟩
      · refine .inl ⟨rfl, ?_, ho.read1⟩
        have := (ho.2.2.2 rfl).1
        simp only [Cn.sd] at hu ⊢
        simp at hu ⊢
        rw [this, hu]; simp
      · refine .inr ⟨rfl, ?_, ho.read0⟩
        have := (ho.2.2.2 rfl).2
        simp only [Cn.sd] at hu ⊢
        simp at hu ⊢
        rw [this, hu]; simp
    · rcases hk with ⟨rfl, rfl⟩ | ⟨rfl, rfl⟩
      · simpa [Cn.setSd, Cn.sd] using hu
      · simpa [Cn.setSd, Cn.sd] using hu
  · have := ho.1; rw [hct] at this; cases this

theorem under_end {L : Lab} {S : St} {c : Cn} {k : Int} (hn : Net1 B w0 w L n S) (h3 : S.cs.length = 3) (hc1 : S.cs[1]? = some c) (hcut : c.cut = false) (hk : k = 0 ∨ k = 1) (hu : (c.sd k).under = []) :
    ∀ nn, Calls Try.prog 16 #[.pointer (some ⟨n, 0, none⟩), .int .i64 1, .int .i64 k] (w.drewN nn) fun e w' => e = .returned (.int .i64 0) ∧ ∃ nd, w' = (w.drewN nn).drewN nd := by
  intro nn
  refine (under_ok (hn.drewN nn).net (three_le h3) 1 k c hc1 hcut hk).mono ?_
  rintro e w' ⟨rfl, nq, rfl⟩
  exact ⟨by rw [hu]; rfl, nq, rfl⟩

set_option maxRecDepth 100000 in
set_option maxHeartbeats 1600000 in
theorem sEndRound {k : Nat} (hf : FrE a n bw (bw + 1) (k : Int)) (hk : k < 2) (h : Inv B w0 w n bw (bw + 1) false V) (hV : V ≤ 1048576)
    (rest : ∀ a' w', FrE a' n bw (bw + 1) (k : Int) → Inv B w0 w' n bw (bw + 1) false V → K a' w') : codeEndRound.wp Try.prog (Exit.then K Q) a w := by
  refine wp_cut (fun a' w' => FrE a' n bw (bw + 1) (k : Int) ∧ Inv B w0 w' n bw (bw + 1) false V) (fun a' w' h => rest a' w' h.1 h.2) ?_
  clear rest
  intro J K' hJ hK
  refine wp_calm ?_
  obtain ⟨v, rfl⟩ := hf.shape
  clear hf
  dsimp only [codeEndRound, ncl, ncr, ncb, nco, ncx, Try.f5]
  obtain rfl | rfl : k = 0 ∨ k = 1 := by omega
  · have wk : IntKind.i64.wrap 1 = 1 := by decide
    have Hp := Lib.hid (pass_end h hV 0 (.inl rfl))
    clear h
    go_wp2_with fail
    refine Hp.out.mono ?_
    rintro e wx ⟨y, m, rfl, hU⟩
    clear Hp
    have Hr := Lib.hid (read_end 0 1 (.inl ⟨rfl, rfl⟩) hU)
    clear hU
    go_wp2_with fail
    refine Hr.out.mono ?_
    rintro e wy ⟨y2, en, ao, len', cap, rfl, hE⟩
    clear Hr
    obtain ⟨L, S, M, W0, W1, R0, R1, va, vb, vc, vd, c, ps, hn, h3, hv, hM, hc1, hor, l0, l1, hu, hlk, hrd⟩ := hE
    rcases hor with ⟨_, hW, ho⟩ | ⟨hno, _⟩
    · have bc := cell_blk hM.hbr 0
      simp at bc
      have Hown := Lib.hid hM.r0.own
      have Hq := Lib.hid (show R0.length + len' = R0.length + ps.length by rw [hlk])
      have H47 := Lib.hid (show R0.length + ps.length ≤ 140737488355328 by have := congrArg List.length hW; simp only [List.length_append] at this; omega)
      have Hlk := Lib.hid hlk
      have Hrd := Lib.hid hrd
      have Hall := Lib.hid (And.intro hn (And.intro h3 (And.intro hv (And.intro hM (And.intro hc1 (And.intro ho (And.intro hu hW)))))))
      clear hn h3 hv hM hc1 ho hu hW hlk hrd
      go_upto_region 45 with (at_builtin; refine append_bytes rfl _ _ rfl vc R0 rfl Hown.out ao cap ps _ rfl Hlk.out.symm (R0.length + len') Hq.out Hrd.out H47.out ?_; intro ao' c' w2 own2 gr2 new2; have hmr := (Mod.refl (fun x => vc.ownBlock = some x) wy).grown gr2 (fun k hk _ => hk); have hb2 := hmr.heap Hall.out.2.2.2.1.hbr (fun e => by have := Hall.out.2.2.2.1.r0.lab _ e; rw [Hall.out.2.2.2.1.lr] at this; cases this); have t2 := cell_blk hb2 0; have tf2 := frozen_blk hb2 0; simp at t2; have Happ := Lib.hid (app2 Hall.out.2.2.2.1 Hall.out.1.le (fun x hx => Hall.out.1.lab_none hx) own2 hmr new2); clear own2 gr2 new2 hmr hb2)
      obtain ⟨hn, h3, hv, hM, hc1, ho, hu, hW⟩ := Hall.out
      obtain ⟨M', hM', hMo, hMm⟩ := Happ.out
      have hn' := inv_app hn hM hM' hMm
      clear t2 tf2 bc Happ Hall Hown Hq H47 Hrd hn hMo hMm hM
      obtain ⟨w3, hw3⟩ : ∃ w3, w3 = w2.setCell ⟨bw + 1, 0, none⟩ (.slice ao' (R0.length + len') c') := ⟨_, rfl⟩
      rw [← hw3] at hM' hn' ⊢
      clear hw3
      have Hfin := Lib.hid (show ∀ nq, Inv B w0 (w3.drewN nq) n bw (bw + 1) false V from fun nq => Inv.kept ⟨L, S, M', _, _, _, _, _, _, _, _, c, hn', h3, hv, hM', hc1, ho, l0, l1⟩ ((Mod.refl (fun _ => False) w3).drewN nq) (Nat.le_refl _))
      have Hun := Lib.hid (under_end (k := 0) hn' h3 hc1 ho.1 (.inl rfl) hu)
      obtain ⟨aw, cw, ew, rw⟩ := hM'.w0.form
      obtain ⟨ar, cr, er, rr⟩ := hM'.r0.form
      have t0 := cell_blk hM'.hbw 0
      have u0 := cell_blk hM'.hbr 0
      simp only [Value.slice.injEq] at er
      obtain ⟨rfl, hlr, rfl⟩ := er
      subst ew
      simp at t0 u0
      have Hs := Lib.hid (show ∀ (nn : Nat), Calls Try.prog 13 #[.slice ao' (R0.length + len') c', .slice aw W0.length cw] (w3.drewN nn) fun e w' => e = .returned (.bool true) ∧ ∃ nd, w' = (w3.drewN nn).drewN nd from fun nn => (same_to (w3.drewN nn) ao' aw c' cw (R0.length + len') W0.length (R0 ++ ps) W0 (rr.drewN nn) (rw.drewN nn) hlr.symm rfl true (by rw [hW]; simp)).mono (fun e w' ⟨h1, nd, h2⟩ => ⟨h1, nd, h2.symm⟩))
      clear hn' h3 hv hM' hc1 ho hu hW rw rr hlr l0 l1 Hlk
      go_quiet (first | (go_at_call 13; refine Calls.quiet_of (Hs.out _)) | (go_at_call 16; refine Calls.quiet_of (Hun.out _)))
      go_wp2
      exact Met.intro (hJ _ _ ⟨⟨rfl, rfl, rfl, rfl, rfl, rfl⟩, Hfin.out _⟩)
    · cases hno
  · have wk : IntKind.i64.wrap 0 = 0 := by decide
    have Hp := Lib.hid (pass_end h hV 1 (.inr rfl))
    clear h
    go_wp2_with fail
    refine Hp.out.mono ?_
    rintro e wx ⟨y, m, rfl, hU⟩
    clear Hp
    have Hr := Lib.hid (read_end 1 0 (.inr ⟨rfl, rfl⟩) hU)
    clear hU
    go_wp2_with fail
    refine Hr.out.mono ?_
    rintro e wy ⟨y2, en, ao, len', cap, rfl, hE⟩
    clear Hr
    obtain ⟨L, S, M, W0, W1, R0, R1, va, vb, vc, vd, c, ps, hn, h3, hv, hM, hc1, hor, l0, l1, hu, hlk, hrd⟩ := hE
    rcases hor with ⟨hno, _⟩ | ⟨_, hW, ho⟩
    · cases hno
    · have bc := cell_blk hM.hbr 1
      simp at bc
      have Hown := Lib.hid hM.r1.own
      have Hq := Lib.hid (show R1.length + len' = R1.length + ps.length by rw [hlk])
      have H47 := Lib.hid (show R1.length + ps.length ≤ 140737488355328 by have := congrArg List.length hW; simp only [List.length_append] at this; omega)
      have Hlk := Lib.hid hlk
      have Hrd := Lib.hid hrd
      have Hall := Lib.hid (And.intro hn (And.intro h3 (And.intro hv (And.intro hM (And.intro hc1 (And.intro ho (And.intro hu hW)))))))
      clear hn h3 hv hM hc1 ho hu hW hlk hrd
      go_upto_region 45 with (at_builtin; refine append_bytes rfl _ _ rfl vd R1 rfl Hown.out ao cap ps _ rfl Hlk.out.symm (R1.length + len') Hq.out Hrd.out H47.out ?_; intro ao' c' w2 own2 gr2 new2; have hmr := (Mod.refl (fun x => vd.ownBlock = some x) wy).grown gr2 (fun k hk _ => hk); have hb2 := hmr.heap Hall.out.2.2.2.1.hbr (fun e => by have := Hall.out.2.2.2.1.r1.lab _ e; rw [Hall.out.2.2.2.1.lr] at this; cases this); have t2 := cell_blk hb2 1; have tf2 := frozen_blk hb2 1; simp at t2; have Happ := Lib.hid (app3 Hall.out.2.2.2.1 Hall.out.1.le (fun x hx => Hall.out.1.lab_none hx) own2 hmr new2); clear own2 gr2 new2 hmr hb2)
      obtain ⟨hn, h3, hv, hM, hc1, ho, hu, hW⟩ := Hall.out
      obtain ⟨M', hM', hMo, hMm⟩ := Happ.out
      have hn' := inv_app hn hM hM' hMm
      clear t2 tf2 bc Happ Hall Hown Hq H47 Hrd hn hMo hMm hM
      obtain ⟨w3, hw3⟩ : ∃ w3, w3 = w2.setCell ⟨bw + 1, 1, none⟩ (.slice ao' (R1.length + len') c') := ⟨_, rfl⟩
      rw [← hw3] at hM' hn' ⊢
      clear hw3
      have Hfin := Lib.hid (show ∀ nq, Inv B w0 (w3.drewN nq) n bw (bw + 1) false V from fun nq => Inv.kept ⟨L, S, M', _, _, _, _, _, _, _, _, c, hn', h3, hv, hM', hc1, ho, l0, l1⟩ ((Mod.refl (fun _ => False) w3).drewN nq) (Nat.le_refl _))
      have Hun := Lib.hid (under_end (k := 1) hn' h3 hc1 ho.1 (.inr rfl) hu)
      obtain ⟨aw, cw, ew, rw⟩ := hM'.w1.form
      obtain ⟨ar, cr, er, rr⟩ := hM'.r1.form
      have t0 := cell_blk hM'.hbw 1
      have u0 := cell_blk hM'.hbr 1
      simp only [Value.slice.injEq] at er
      obtain ⟨rfl, hlr, rfl⟩ := er
      subst ew
      simp at t0 u0
      have Hs := Lib.hid (show ∀ (nn : Nat), Calls Try.prog 13 #[.slice ao' (R1.length + len') c', .slice aw W1.length cw] (w3.drewN nn) fun e w' => e = .returned (.bool true) ∧ ∃ nd, w' = (w3.drewN nn).drewN nd from fun nn => (same_to (w3.drewN nn) ao' aw c' cw (R1.length + len') W1.length (R1 ++ ps) W1 (rr.drewN nn) (rw.drewN nn) hlr.symm rfl true (by rw [hW]; simp)).mono (fun e w' ⟨h1, nd, h2⟩ => ⟨h1, nd, h2.symm⟩))
      clear hn' h3 hv hM' hc1 ho hu hW rw rr hlr l0 l1 Hlk
      go_quiet (first | (go_at_call 13; refine Calls.quiet_of (Hs.out _)) | (go_at_call 16; refine Calls.quiet_of (Hun.out _)))
      go_wp2
      exact Met.intro (hJ _ _ ⟨⟨rfl, rfl, rfl, rfl, rfl, rfl⟩, Hfin.out _⟩)

set_option maxRecDepth 100000 in
set_option maxHeartbeats 1600000 in
theorem sCut {al : Value} {cut : Bool} {i : Int} (hf : FrO a al n bw (bw + 1) cut i) (h : Inv B w0 w n bw (bw + 1) cut V)
    (rest : ∀ a', cut = false → FrO a' al n bw (bw + 1) cut i → K a' w)
    (fin : ∀ a', a'.tmps.size = 261 → a'.defers = [] → a'.tmps[2]? = some (.bool true) → Q .ret a' w) : codeCut.wp Try.prog (Exit.then K Q) a w := by
  refine wp_cut (fun a' w' => w' = w ∧ cut = false ∧ FrO a' al n bw (bw + 1) cut i) (fun a' w' h => h.1 ▸ rest a' h.2.1 h.2.2) ?_
  clear rest
  intro J K' hJ hK
  obtain ⟨v, rfl⟩ := hf.shape
  clear hf
  dsimp only [codeCut, ncl, ncr, ncb, nco, ncx, Try.f5]
  have Hfin := Lib.hid fin
  clear fin
  cases cut with
  | false =>
    clear h
    go_wp2
    exact Met.intro (hJ _ _ ⟨rfl, (by first | rfl | trivial), ⟨rfl, rfl, rfl, rfl, rfl, rfl, rfl, rfl⟩⟩)
  | true =>
    obtain ⟨L, S, M, W0, W1, R0, R1, va, vb, vc, vd, c, hn, h3, hv, hM, hc1, ho, l0, l1⟩ := h
    have hw0 : S.why 1 0 = 40 := by rw [why_of (iz := 1) (j := 1) rfl hc1 (.inl rfl), ho.1]; rfl
    have hw1 : S.why 1 1 = 40 := by rw [why_of (iz := 1) (j := 1) rfl hc1 (.inr rfl), ho.1]; rfl
    have b0 := ofBad_why hn.net (three_le h3) 1 0 (by rw [hw0]; decide)
    have b1 := ofBad_why hn.net (three_le h3) 1 1 (by rw [hw1]; decide)
    rw [hw0] at b0
    rw [hw1] at b1
    have Hr := Lib.hid (read_bad b0)
    have Hu := Lib.hid (under_bad b0)
    have Hv := Lib.hid (under_bad b1)
    clear hn h3 hv hM hc1 ho l0 l1 hw0 hw1 b0 b1
    go_wp2_with fail
    refine Hr.out.mono ?_
    rintro e w' ⟨rfl, rfl⟩
    go_wp2_with fail
    refine Hu.out.mono ?_
    rintro e w' ⟨rfl, rfl⟩
    go_wp2_with fail
    refine Hv.out.mono ?_
    rintro e w' ⟨rfl, rfl⟩
    go_wp2
    exact Hfin.out _ rfl rfl rfl

end

end Go.Proofs.Ytibijonjjkknoaa
