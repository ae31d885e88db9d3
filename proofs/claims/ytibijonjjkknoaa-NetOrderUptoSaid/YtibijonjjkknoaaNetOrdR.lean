/-
NetOrder's round, statement by statement: Read.
-/
import Derived.Test.YtibijonjjkknoaaNetOrdF
set_option linter.unusedVariables false
set_option linter.unusedSimpArgs false
namespace Go.Proofs.Ytibijonjjkknoaa
open Go Go.RowKit

section
variable {B n bw cb : Nat} {w0 w : World} {cut : Bool} {V : Nat} {kd cn sd nk : Int} {nm : ByteArray} {adk : Option Addr} {dlk dck : Nat} {al : Value} {i : Int} {K : Act → World → Prop} {Q : Exit → Act → World → Prop} {a : Act}

set_option maxRecDepth 100000 in
set_option maxHeartbeats 1600000 in
theorem s22 (hf : FrC a al n bw (bw + 1) cut i cb) (h : InvC B w0 w n bw (bw + 1) cb (callObj kd nm cn sd nk adk dlk dck) cut V) (v0 : 0 ≤ cn) (v2 : cn ≤ 2) (hs : sd = 0 ∨ sd = 1) (hV : V ≤ 1048576)
    (rest : ∀ a' w', FrC a' al n bw (bw + 1) cut i cb → InvC B w0 w' n bw (bw + 1) cb (callObj kd nm cn sd nk adk dlk dck) cut V → K a' w') : code22.wp Try.prog (Exit.then K Q) a w := by
  refine wp_cut (fun a' w' => FrC a' al n bw (bw + 1) cut i cb ∧ InvC B w0 w' n bw (bw + 1) cb (callObj kd nm cn sd nk adk dlk dck) cut V) (fun a' w' h => rest a' w' h.1 h.2) ?_
  clear rest
  intro J K' hJ hK
  refine wp_calm ?_
  obtain ⟨v, rfl⟩ := hf.shape
  clear hf
  dsimp only [code22, ncl, ncr, ncb, nco, ncx, Try.f5]
  have Hs := Lib.hid hs
  clear hs
  have b9 := h.blk
  have y0 := cell_blk b9 0
  have y2 := cell_blk b9 2
  have y3 := cell_blk b9 3
  simp [callObj] at y0 y2 y3
  clear b9
  by_cases hk6 : kd = 6
  · have hkb : (kd == 6) = true := by simp [hk6]
    have Hw := Lib.hid (read_inv h cn v0 v2 sd Hs.out)
    clear h hk6
    go_wp2_with fail
    refine Hw.out.mono ?_
    rintro e wx ⟨y, en, ao, len', cap, rfl, hcase⟩
    clear y0 y2 y3 Hw
    rcases hcase with ⟨rfl, hcn, hR⟩ | ⟨hno, hI⟩
    · obtain ⟨L, S, M, W0, W1, R0, R1, va, vb, vc, vd, c1, ps', hn, h3, hv, hM, hc1, hor, l0, l1, hl, hm, hB, hb, hlk, hrd⟩ := hR
      have y2 := cell_blk hb 2
      have y3 := cell_blk hb 3
      simp [callObj] at y2 y3
      have hcb1 : (cn == 1) = true := by simp [hcn]
      clear hcn
      rcases hor with ⟨rfl, ho⟩ | ⟨rfl, ho⟩
      · have wr0 : IntKind.i64.wrap 0 = 0 := by decide
        have bc := cell_blk hM.hbr 0
        simp at bc
        have Hown := Lib.hid (show ∀ nd, (wx.drewN nd).ownsRow 0 5 1 vc R0.length (bytes R0) from fun nd => hM.r0.own)
        have Hq := Lib.hid (show R0.length + len' = R0.length + ps'.length by rw [hlk])
        have H47 := Lib.hid (show R0.length + ps'.length ≤ 140737488355328 by obtain ⟨T, hT⟩ := ho.2.1; have := congrArg List.length hT; simp only [List.length_append] at this; omega)
        have Hlk := Lib.hid hlk
        have Hrd := Lib.hid hrd
        have Hall := Lib.hid (And.intro hn (And.intro h3 (And.intro hv (And.intro hM (And.intro hc1 (And.intro ho (And.intro hl (And.intro hm (And.intro hB hb)))))))))
        clear hn h3 hv hM hc1 ho hl hm hB hb hlk hrd
        go_wp2
        go_region_law (refine step_bytes rfl _ _ rfl vc R0 rfl (Hown.out _) ao cap ps' _ rfl Hlk.out.symm (R0.length + len') Hq.out (Hrd.out.drewN _) H47.out ?_; intro ao' c' w2 own2 gr2 new2; have hmr := ((Mod.refl (fun x => vc.ownBlock = some x) wx).drewN _).grown gr2 (fun k hk _ => hk); have hb2 := hmr.heap Hall.out.2.2.2.1.hbr (fun e => by have := Hall.out.2.2.2.1.r0.lab _ e; rw [Hall.out.2.2.2.1.lr] at this; cases this); have t2 := cell_blk hb2 0; have tf2 := frozen_blk hb2 0; simp at t2; have hb3 := hmr.heap Hall.out.2.2.2.2.2.2.2.2.2 (fun e => by have := Hall.out.2.2.2.1.r0.lab _ e; rw [Hall.out.2.2.2.2.2.2.2.1] at this; cases this); have t3 := cell_blk hb3 3; simp [callObj] at t3; clear hb3; have Happ := Lib.hid (app2 Hall.out.2.2.2.1 Hall.out.1.le (fun x hx => Hall.out.1.lab_none hx) own2 hmr new2); clear own2 gr2 new2 hmr hb2)
        all_goals
          obtain ⟨hn, h3, hv, hM, hc1, ho, hl, hm, hB, hb⟩ := Hall.out
          obtain ⟨M', hM', hMo, hMm⟩ := Happ.out
          have Hfin := Lib.hid (invC_app (V := V) hn h3 hv hM hM' hMo hMm hc1 ho l0 l1 hl hm hB hb)
          clear hn h3 hv hM hc1 ho hl hm hB hb hM' hMo hMm
          go_wp2
          exact Met.intro (hJ _ _ ⟨⟨rfl, rfl, rfl, rfl, rfl, rfl, rfl, rfl, rfl⟩, Hfin.out⟩)
      · have wr1 : IntKind.i64.wrap 1 = 1 := by decide
        have bc := cell_blk hM.hbr 1
        simp at bc
        have Hown := Lib.hid (show ∀ nd, (wx.drewN nd).ownsRow 0 5 1 vd R1.length (bytes R1) from fun nd => hM.r1.own)
        have Hq := Lib.hid (show R1.length + len' = R1.length + ps'.length by rw [hlk])
        have H47 := Lib.hid (show R1.length + ps'.length ≤ 140737488355328 by obtain ⟨T, hT⟩ := ho.2.2.1; have := congrArg List.length hT; simp only [List.length_append] at this; omega)
        have Hlk := Lib.hid hlk
        have Hrd := Lib.hid hrd
        have Hall := Lib.hid (And.intro hn (And.intro h3 (And.intro hv (And.intro hM (And.intro hc1 (And.intro ho (And.intro hl (And.intro hm (And.intro hB hb)))))))))
        clear hn h3 hv hM hc1 ho hl hm hB hb hlk hrd
        go_wp2
        go_region_law (refine step_bytes rfl _ _ rfl vd R1 rfl (Hown.out _) ao cap ps' _ rfl Hlk.out.symm (R1.length + len') Hq.out (Hrd.out.drewN _) H47.out ?_; intro ao' c' w2 own2 gr2 new2; have hmr := ((Mod.refl (fun x => vd.ownBlock = some x) wx).drewN _).grown gr2 (fun k hk _ => hk); have hb2 := hmr.heap Hall.out.2.2.2.1.hbr (fun e => by have := Hall.out.2.2.2.1.r1.lab _ e; rw [Hall.out.2.2.2.1.lr] at this; cases this); have t2 := cell_blk hb2 1; have tf2 := frozen_blk hb2 1; simp at t2; have hb3 := hmr.heap Hall.out.2.2.2.2.2.2.2.2.2 (fun e => by have := Hall.out.2.2.2.1.r1.lab _ e; rw [Hall.out.2.2.2.2.2.2.2.1] at this; cases this); have t3 := cell_blk hb3 3; simp [callObj] at t3; clear hb3; have Happ := Lib.hid (app3 Hall.out.2.2.2.1 Hall.out.1.le (fun x hx => Hall.out.1.lab_none hx) own2 hmr new2); clear own2 gr2 new2 hmr hb2)
        all_goals
          obtain ⟨hn, h3, hv, hM, hc1, ho, hl, hm, hB, hb⟩ := Hall.out
          obtain ⟨M', hM', hMo, hMm⟩ := Happ.out
          have Hfin := Lib.hid (invC_app (V := V) hn h3 hv hM hM' hMo hMm hc1 ho l0 l1 hl hm hB hb)
          clear hn h3 hv hM hc1 ho hl hm hB hb hM' hMo hMm
          go_wp2
          exact Met.intro (hJ _ _ ⟨⟨rfl, rfl, rfl, rfl, rfl, rfl, rfl, rfl, rfl⟩, Hfin.out⟩)
    · have b9 := hI.blk
      have y2 := cell_blk b9 2
      simp [callObj] at y2
      clear b9
      have Hfin := Lib.hid hI
      clear hI
      by_cases hy : y = 0
      · have hyb : (y == 0) = true := by simp [hy]
        have hcb1 : (cn == 1) = false := by
          have : ¬ cn = 1 := fun e => hno ⟨hy, e⟩
          simp [this]
        clear hno hy
        go_wp2
        exact Met.intro (hJ _ _ ⟨⟨rfl, rfl, rfl, rfl, rfl, rfl, rfl, rfl, rfl⟩, Hfin.out⟩)
      · have hyb : (y == 0) = false := by simp [hy]
        clear hno hy
        go_wp2
        exact Met.intro (hJ _ _ ⟨⟨rfl, rfl, rfl, rfl, rfl, rfl, rfl, rfl, rfl⟩, Hfin.out⟩)
  · have hkb : (kd == 6) = false := by simp [hk6]
    have Hfin := Lib.hid h
    clear h hk6
    go_wp2
    exact Met.intro (hJ _ _ ⟨⟨rfl, rfl, rfl, rfl, rfl, rfl, rfl, rfl, rfl⟩, Hfin.out⟩)

end

end Go.Proofs.Ytibijonjjkknoaa
