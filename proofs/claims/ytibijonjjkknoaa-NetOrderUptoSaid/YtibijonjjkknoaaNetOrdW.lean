/-
NetOrder's round, statement by statement: Write.
-/
import Derived.Test.YtibijonjjkknoaaNetOrdF
set_option linter.unusedVariables false
set_option linter.unusedSimpArgs false
namespace Go.Proofs.Ytibijonjjkknoaa
open Go Go.RowKit

section
variable {B n bw cb : Nat} {w0 w : World} {cut : Bool} {V V' : Nat} {kd cn sd nk : Int} {nm : ByteArray} {adk : Option Addr} {dlk dck : Nat} {al : Value} {i : Int} {K : Act → World → Prop} {Q : Exit → Act → World → Prop} {a : Act} {ps : List UInt8}

set_option maxRecDepth 100000 in
set_option maxHeartbeats 1600000 in
theorem s16 (hf : FrC a al n bw (bw + 1) cut i cb) (h : InvC B w0 w n bw (bw + 1) cb (callObj kd nm cn sd nk adk dlk dck) cut V) (v0 : 0 ≤ cn) (v2 : cn ≤ 2) (hs : sd = 0 ∨ sd = 1) (hV' : V' ≤ 1048576) (hsm : V + dlk ≤ V')
    (hlen : ps.length = dlk) (hrd : ∀ w', Below B w0 w' → RdB w' adk dck ps)
    (rest : ∀ a' w', FrC a' al n bw (bw + 1) cut i cb → InvC B w0 w' n bw (bw + 1) cb (callObj kd nm cn sd nk adk dlk dck) cut V' → K a' w') : code16.wp Try.prog (Exit.then K Q) a w := by
  refine wp_cut (fun a' w' => FrC a' al n bw (bw + 1) cut i cb ∧ InvC B w0 w' n bw (bw + 1) cb (callObj kd nm cn sd nk adk dlk dck) cut V') (fun a' w' h => rest a' w' h.1 h.2) ?_
  clear rest
  intro J K' hJ hK
  refine wp_calm ?_
  obtain ⟨v, rfl⟩ := hf.shape
  clear hf
  dsimp only [code16, ncl, ncr, ncb, nco, ncx, Try.f5]
  have Hlow := Lib.hid hs
  clear hs
  have HC := Lib.hid h
  have b7 := h.blk
  have y0 := cell_blk b7 0
  have y2 := cell_blk b7 2
  have y3 := cell_blk b7 3
  have y5 := cell_blk b7 5
  simp [callObj] at y0 y2 y3 y5
  clear h b7
  by_cases hk3 : kd = 3
  · have hkb : (kd == 3) = true := by simp [hk3]
    obtain ⟨L, S, M, W0, W1, R0, R1, va, vb, vc, vd, c1, hn, h3, hv, hM, hc1, ho, l0, l1, hl, hm, hB, hb⟩ := HC.out
    obtain ⟨c, hcc⟩ := get_conn h3 v0 v2
    have Hw := Lib.hid (write_tot hn (three_le h3) cn cn.toNat (by omega) sd c hcc Hlow.out adk dck dlk ps (hrd w hn.below) hlen (by have := hv _ _ hcc; omega))
    clear hk3
    have Hrd := Lib.hid hrd
    have Hlen := Lib.hid hlen
    have HH := Lib.hid (And.intro hn (And.intro h3 (And.intro hv (And.intro hM (And.intro hc1 (And.intro ho (And.intro hl (And.intro hm (And.intro hB (And.intro hb hcc))))))))))
    clear hn h3 hv hM hc1 ho hl hm hB hb hcc hrd hlen
    go_wp2_with fail
    refine Hw.out.mono ?_
    rintro e wx ⟨y, L', S', rfl, hn', hf, hcase⟩
    obtain ⟨hn, h3, hv, hM, hc1, ho, hl, hm, hB, hb, hcc⟩ := HH.out
    have hlen := Hlen.out
    have b8 := hf.2.heap hb (fun e => e hl)
    have z2 := cell_blk b8 2
    have z3 := cell_blk b8 3
    have z5 := cell_blk b8 5
    simp [callObj] at z2 z3 z5
    clear b8 y0 y2 y3 y5 Hw HH
    rcases hcase with ⟨rfl, hcut, rfl⟩ | ⟨hy, rfl⟩
    · have hvol : (c.setSd sd { c.sd sd with under := (c.sd sd).under ++ ps }).vol ≤ V' := by
        rw [vol_write c sd Hlow.out]; have := hv _ _ hcc; omega
      have hone := set_one (c := c.setSd sd { c.sd sd with under := (c.sd sd).under ++ ps }) (show cn.toNat < S.cs.length by omega) hc1
      by_cases hcn : cn = 1
      · have hj : cn.toNat = 1 := by omega
        rw [if_pos hj] at hone
        rw [hj, hc1] at hcc
        obtain rfl := Option.some.inj hcc
        obtain rfl : cut = false := ho.1.symm.trans hcut
        have hW := invW_net (V := V) (V' := V') hn' hf (by rw [set_len]; exact h3) (set_vol hv (by omega) hvol) hM hone ho l0 l1 hl hm hB hb
        have hcb1 : (cn == 1) = true := by simp [hcn]
        clear hn' hf hone hvol hcn hj hn h3 hv hM hc1 ho hl hm hB hb hcut hcc
        clear l0 l1
        obtain ⟨L, S, M, W0, W1, R0, R1, va, vb, vc, vd, c1, hn, h3, hv, hM, hc1, ho, l0, l1, hl, hm, hB, hb⟩ := hW
        have Hrd := Lib.hid (Hrd.out wx hn.below)
        clear hlen
        rcases Hlow.out with rfl | rfl
        · have bc := cell_blk hM.hbw 0
          simp at bc
          have Hown := Lib.hid (show ∀ nd, (wx.drewN nd).ownsRow 0 5 1 va W0.length (bytes W0) from fun nd => hM.w0.own)
          have Hq := Lib.hid (show W0.length + dlk = W0.length + ps.length by rw [Hlen.out])
          have H47 := Lib.hid (show W0.length + ps.length ≤ 140737488355328 by rw [Hlen.out]; omega)
          have Hall := Lib.hid (And.intro hn (And.intro h3 (And.intro hv (And.intro hM (And.intro hc1 (And.intro ho (And.intro hl (And.intro hm (And.intro hB hb)))))))))
          clear hn h3 hv hM hc1 ho hl hm hB hb
          go_wp2
          go_region_law (refine step_bytes rfl _ _ rfl va W0 rfl (Hown.out _) adk dck ps _ rfl Hlen.out.symm (W0.length + dlk) Hq.out (Hrd.out.drewN _) H47.out ?_; intro ao' c' w2 own2 gr2 new2; have hmr := ((Mod.refl (fun x => va.ownBlock = some x) wx).drewN _).grown gr2 (fun k hk _ => hk); have hb2 := hmr.heap Hall.out.2.2.2.1.hbw (fun e => by have := Hall.out.2.2.2.1.w0.lab _ e; rw [Hall.out.2.2.2.1.lw] at this; cases this); have t2 := cell_blk hb2 0; have tf2 := frozen_blk hb2 0; simp at t2; have hb3 := hmr.heap Hall.out.2.2.2.2.2.2.2.2.2 (fun e => by have := Hall.out.2.2.2.1.w0.lab _ e; rw [Hall.out.2.2.2.2.2.2.2.1] at this; cases this); have t3 := cell_blk hb3 3; simp [callObj] at t3; clear hb3; have Happ := Lib.hid (app0 Hall.out.2.2.2.1 Hall.out.1.le (fun x hx => Hall.out.1.lab_none hx) own2 hmr new2); clear own2 gr2 new2 hmr hb2)
          all_goals
            obtain ⟨hn, h3, hv, hM, hc1, ho, hl, hm, hB, hb⟩ := Hall.out
            obtain ⟨M', hM', hMo, hMm⟩ := Happ.out
            have Hfin := Lib.hid (invC_app (V := V') hn h3 hv hM hM' hMo hMm hc1 ho.write0 (by first | (rw [List.length_append, Hlen.out]; omega) | omega) (by first | (rw [List.length_append, Hlen.out]; omega) | omega) hl hm hB hb)
            clear hn h3 hv hM hc1 ho hl hm hB hb hM' hMo hMm
            go_wp2
            exact Met.intro (hJ _ _ ⟨⟨rfl, rfl, rfl, rfl, rfl, rfl, rfl, rfl, rfl⟩, Hfin.out⟩)
        · have bc := cell_blk hM.hbw 1
          simp at bc
          have Hown := Lib.hid (show ∀ nd, (wx.drewN nd).ownsRow 0 5 1 vb W1.length (bytes W1) from fun nd => hM.w1.own)
          have Hq := Lib.hid (show W1.length + dlk = W1.length + ps.length by rw [Hlen.out])
          have H47 := Lib.hid (show W1.length + ps.length ≤ 140737488355328 by rw [Hlen.out]; omega)
          have Hall := Lib.hid (And.intro hn (And.intro h3 (And.intro hv (And.intro hM (And.intro hc1 (And.intro ho (And.intro hl (And.intro hm (And.intro hB hb)))))))))
          clear hn h3 hv hM hc1 ho hl hm hB hb
          go_wp2
          go_region_law (refine step_bytes rfl _ _ rfl vb W1 rfl (Hown.out _) adk dck ps _ rfl Hlen.out.symm (W1.length + dlk) Hq.out (Hrd.out.drewN _) H47.out ?_; intro ao' c' w2 own2 gr2 new2; have hmr := ((Mod.refl (fun x => vb.ownBlock = some x) wx).drewN _).grown gr2 (fun k hk _ => hk); have hb2 := hmr.heap Hall.out.2.2.2.1.hbw (fun e => by have := Hall.out.2.2.2.1.w1.lab _ e; rw [Hall.out.2.2.2.1.lw] at this; cases this); have t2 := cell_blk hb2 1; have tf2 := frozen_blk hb2 1; simp at t2; have hb3 := hmr.heap Hall.out.2.2.2.2.2.2.2.2.2 (fun e => by have := Hall.out.2.2.2.1.w1.lab _ e; rw [Hall.out.2.2.2.2.2.2.2.1] at this; cases this); have t3 := cell_blk hb3 3; simp [callObj] at t3; clear hb3; have Happ := Lib.hid (app1 Hall.out.2.2.2.1 Hall.out.1.le (fun x hx => Hall.out.1.lab_none hx) own2 hmr new2); clear own2 gr2 new2 hmr hb2)
          all_goals
            obtain ⟨hn, h3, hv, hM, hc1, ho, hl, hm, hB, hb⟩ := Hall.out
            obtain ⟨M', hM', hMo, hMm⟩ := Happ.out
            have Hfin := Lib.hid (invC_app (V := V') hn h3 hv hM hM' hMo hMm hc1 ho.write1 (by first | (rw [List.length_append, Hlen.out]; omega) | omega) (by first | (rw [List.length_append, Hlen.out]; omega) | omega) hl hm hB hb)
            clear hn h3 hv hM hc1 ho hl hm hB hb hM' hMo hMm
            go_wp2
            exact Met.intro (hJ _ _ ⟨⟨rfl, rfl, rfl, rfl, rfl, rfl, rfl, rfl, rfl⟩, Hfin.out⟩)
      · rw [if_neg (by omega)] at hone
        have Hfin := Lib.hid (invC_net (V := V') hn' hf (by rw [set_len]; exact h3) (set_vol hv (by omega) hvol) hM hone ho (by omega) (by omega) hl hm hB hb)
        have hcb1 : (cn == 1) = false := by simp [hcn]
        clear hn' hf hone hvol hcn hn h3 hv hM hc1 ho hl hm hB hb hcut hcc hlen
        go_wp2
        exact Met.intro (hJ _ _ ⟨⟨rfl, rfl, rfl, rfl, rfl, rfl, rfl, rfl, rfl⟩, Hfin.out⟩)
    · have Hfin := Lib.hid (invC_net (V := V') hn' hf h3 (fun j c hj => Nat.le_trans (hv j c hj) (by omega)) hM hc1 ho (by omega) (by omega) hl hm hB hb)
      have hyb : (y == 0) = false := by simp [hy]
      clear hn' hf hy hn h3 hv hM hc1 ho hl hm hB hb hcc hlen
      go_wp2
      exact Met.intro (hJ _ _ ⟨⟨rfl, rfl, rfl, rfl, rfl, rfl, rfl, rfl, rfl⟩, Hfin.out⟩)
  · have hkb : (kd == 3) = false := by simp [hk3]
    have Hfin := Lib.hid (HC.out.mono (show V ≤ V' by omega))
    clear hk3
    go_wp2
    exact Met.intro (hJ _ _ ⟨⟨rfl, rfl, rfl, rfl, rfl, rfl, rfl, rfl, rfl⟩, Hfin.out⟩)

end

end Go.Proofs.Ytibijonjjkknoaa
