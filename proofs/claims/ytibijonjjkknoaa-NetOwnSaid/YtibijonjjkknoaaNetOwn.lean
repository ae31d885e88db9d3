/-
The walk of NetOwn: what is read is memory of its own, and so is what was written.
-/
import Derived.Test.YtibijonjjkknoaaNetErr
import Derived.Test.YtibijonjjkknoaaNetAwake
set_option linter.unusedVariables false
set_option linter.unusedSimpArgs false
namespace Go.Proofs.Ytibijonjjkknoaa
open Go Go.RowKit

def connA (s0 s1 : Sd) : Cn := ⟨nameA, true, false, s0, s1⟩

theorem ownsRow_empty (w : World) : (w.alloc (.cells #[] 5)).ownsRow 0 5 1 (.slice (some ⟨w.heap.size, 0, none⟩) 0 0) ([] : List UInt8).length (bytes []) :=
  ⟨by simp [bytes], .inr ⟨w.heap.size, 0, #[], rfl, Nat.zero_le _, alloc_new _, Nat.le_refl _, Nat.zero_le _, rfl, rfl⟩⟩

set_option maxRecDepth 100000 in
set_option maxHeartbeats 1600000 in
theorem netOwn_walk (w : World) (a0 a1 : Option Addr) (c0 c1 : Nat) (ps qs : List UInt8) (hp : RdB w a0 c0 ps) (hq : RdB w a1 c1 qs)
    (hpb : ∀ ad, a0 = some ad → ps ≠ [] → ad.block < w.heap.size) (hqb : ∀ ad, a1 = some ad → qs ≠ [] → ad.block < w.heap.size)
    (hc0 : c0 ≤ 140737488351232) (hc1 : c1 ≤ 140737488351232) :
    Calls Try.prog 3 #[.slice a0 ps.length c0, .slice a1 qs.length c1] w fun e w' => e = .returned (.bool true) ∧ Below w.heap.size w w' := by
  have lp : ps.length ≤ 140737488351232 := Nat.le_trans hp.le hc0
  have lq : qs.length ≤ 140737488351232 := Nat.le_trans hq.le hc1
  have lp0 := hp.le
  have hlen47 : ([] : List UInt8).length + ps.length ≤ 140737488355328 := by simp only [List.length_nil, Nat.zero_add]; omega
  have Hlen47 := Lib.hid hlen47
  have Hp := Lib.hid hp
  have Hq := Lib.hid hq
  have Hpb := Lib.hid hpb
  have Hqb := Lib.hid hqb
  clear hp hq hpb hqb hlen47
  obtain ⟨i5, hi5⟩ := info5e
  obtain ⟨i50, hi50, hz50, hz51, hz52⟩ := info_parts info5
  clear hz50 hz52
  go_enter Try.func3, Try.ntmps3
  go_wp2_with fail
  refine (awake_any w).mono ?_
  rintro e w1 ⟨rfl, hb1⟩
  have Hb1 := Lib.hid hb1
  have hs1 := hb1.size
  clear hb1
  go_wp2_with fail
  refine (new_any _ w.heap.size hs1).mono ?_
  rintro e w2 ⟨n, L2, rfl, h2, hm2, hl2⟩
  have hb2 : Below w.heap.size w w2 := Hb1.out.trans (hm2.below hs1 (fun _ f => f.elim))
  have H2 := Lib.hid (show Net1 w.heap.size w w2 L2 n St.new from ⟨h2, hb2, hb2.size⟩)
  clear h2 hm2 hl2 hb2
  go_wp2_with fail
  refine (dial_to H2.out (by decide) nameA (by decide) rfl 0 rfl (St.mk [connA Sd.zero Sd.zero] (.map []) 0) rfl).mono ?_
  rintro e w3 ⟨L3, rfl, h3⟩
  have H3 := Lib.hid h3
  clear h3
  go_wp2_with fail
  refine (dial_to H3.out (by decide) nameA (by decide) rfl 1 rfl (St.mk [connA Sd.zero Sd.zero, connA Sd.zero Sd.zero] (.map []) 0) rfl).mono ?_
  rintro e w4 ⟨L4, rfl, h4⟩
  have H4 := Lib.hid h4
  have hs4 := h4.le
  clear h4
  go_wp2_with (at_builtin; refine append_bytes rfl _ _ rfl (.slice (some ⟨w4.heap.size, 0, none⟩) 0 0) [] rfl (ownsRow_empty w4) a0 c0 ps _ rfl rfl ps.length (Nat.zero_add _).symm (Hp.out.below (H4.out.below.alloc hs4 _) Hpb.out) Hlen47.out ?_)
  intro ai ci w5 own5 gr5 new5
  have hm5 : Mod (fun _ => False) w4 w5 := ((Mod.refl _ w4).alloc _).grown gr5 (fun k hk hlt => by simp [Value.ownBlock] at hk; omega)
  have h5 := H4.out.frame hm5 (fun _ _ _ => id) (fun _ f => f.elim)
  have my5 : MyRow w.heap.size w5 L4 (.slice ai ps.length ci) ps := ⟨own5, fun g hg => by
    have hge : w4.heap.size ≤ g := by
      rcases new5 g hg with q | q
      · simp [Value.ownBlock] at q; omega
      · omega
    exact ⟨H4.out.lab_none hge, by omega, (own5.lt g hg).2⟩⟩
  have H5 := Lib.hid h5
  have My5 := Lib.hid my5
  clear own5 gr5 new5 hm5 h5 my5
  by_cases hlong : 1048576 < ps.length
  · go_wp2_with fail
    refine (write_long H5.out (by decide) 0 0 rfl 0 (connA Sd.zero Sd.zero) rfl rfl (.inl rfl) rfl (by decide) _ _ _ (by omega) (by show 1048576 < 0 + ps.length; omega)).mono ?_
    rintro e w6 ⟨rfl, nq, rfl⟩
    have hb6 : Below w.heap.size w (w5.drewN nq) := below_drewN H5.out.below nq
    have Hb6 := Lib.hid hb6
    clear hb6
    go_wp2
    go_ret
    exact ⟨rfl, Hb6.out⟩
  · go_wp2_with fail
    refine (write_to H5.out (by decide) 0 0 rfl 0 (connA Sd.zero Sd.zero) rfl rfl (.inl rfl) rfl _ _ _ (My5.out.rd rfl) (by show 0 + ps.length ≤ 1048576; omega) (St.mk [connA ⟨ps, [], false, false⟩ Sd.zero, connA Sd.zero Sd.zero] (.map []) 0) rfl).mono ?_
    rintro e w6 ⟨L6, rfl, h6, hl6, hm6⟩
    have my6 := My5.out.kept hl6 hm6
    have H6 := Lib.hid h6
    have My6 := Lib.hid my6
    clear h6 hl6 hm6 my6
    by_cases hlong2 : 1048576 < qs.length
    · go_wp2_with fail
      refine (write_long H6.out two_le 1 1 rfl 0 (connA Sd.zero Sd.zero) rfl rfl (.inl rfl) rfl (by decide) _ _ _ (by omega) (by show 1048576 < 0 + qs.length; omega)).mono ?_
      rintro e w7 ⟨rfl, nq, rfl⟩
      have hb7 : Below w.heap.size w (w6.drewN nq) := below_drewN H6.out.below nq
      have Hb7 := Lib.hid hb7
      have hor : (decide (1048576 < (ps.length : Int)) || decide (1048576 < (qs.length : Int))) = true := by simp; omega
      have Hor := Lib.hid hor
      clear hb7 hor
      go_wp2
      go_ret
      exact ⟨congrArg (fun b => Ending.returned (.bool b)) Hor.out, Hb7.out⟩
    · go_wp2_with fail
      refine (write_to H6.out two_le 1 1 rfl 0 (connA Sd.zero Sd.zero) rfl rfl (.inl rfl) rfl _ _ _ (Hq.out.below H6.out.below Hqb.out) (by show 0 + qs.length ≤ 1048576; omega) (St.mk [connA ⟨ps, [], false, false⟩ Sd.zero, connA ⟨qs, [], false, false⟩ Sd.zero] (.map []) 0) rfl).mono ?_
      rintro e w7 ⟨L7, rfl, h7, hl7, hm7⟩
      have my7 := My6.out.kept hl7 hm7
      have H7 := Lib.hid h7
      have My7 := Lib.hid my7
      clear h7 hl7 hm7 my7
      go_wp2_with fail
      go_loopw [11] (fun i wr => ∃ k : Nat, i = .int .i64 k ∧ k ≤ ps.length ∧ Hid (Net1 w.heap.size w wr L7 n (St.mk [connA ⟨ps, [], false, false⟩ Sd.zero, connA ⟨qs, [], false, false⟩ Sd.zero] (.map []) 0)) ∧
          Hid (∀ g, ai = some ⟨g, 0, none⟩ → IsBytes wr g ci ps.length)) (fun i _ => ps.length - (intOf i).toNat)
      case atStart => exact ⟨0, rfl, Nat.zero_le _, H7.out, fun g hg => by subst hg; exact IsBytes.of My7.out rfl⟩
      case round =>
        obtain ⟨k, rfl, hk, hn, hib⟩ := hrel
        by_cases hlt : k < ps.length
        · obtain ⟨gi, hai, _, hgl, hgB⟩ := My7.out.isBytes rfl (by omega)
          subst hai
          obtain ⟨x, hx⟩ := (hib.out gi rfl).cell hlt
          have hf := (hib.out gi rfl).frozen k
          go_wp2
          go_roundw
          case rel => exact ⟨k + 1, by go_num, by omega, hn.out.setCell hgl hgB _ _, fun g hg => by cases hg; exact (hib.out gi rfl).stored k _⟩
          case measure => simp [intOf]; omega
        · have hge : ps.length ≤ k := by omega
          have H8 := Lib.hid hn.out
          clear hn hib
          obtain ⟨h2, hh⟩ : ∃ h2, h2 = ps.length / 2 := ⟨_, rfl⟩
          have hh2 : h2 ≤ ps.length := by omega
          have hcast : (ps.length : Int) / 2 = (h2 : Int) := by omega
          have Hcast := Lib.hid hcast
          clear hh hcast
          go_wp2_with fail
          rw [Hcast.out]
          refine (pass_to H8.out two_le 0 0 rfl 0 (connA ⟨ps, [], false, false⟩ Sd.zero) rfl rfl (.inl rfl) h2 (by omega) (by show 0 + ps.length ≤ 140737488355328; omega) h2 (by show min (h2 : Int).toNat ps.length = h2; omega) h2 rfl (St.mk [connA ⟨ps.drop h2, [], false, false⟩ ⟨[], ps.take h2, false, false⟩, connA ⟨qs, [], false, false⟩ Sd.zero] (.map []) 0) rfl).mono ?_
          rintro e w9 ⟨L9, rfl, h9, _, _⟩
          have H9 := Lib.hid h9
          clear h9
          go_wp2_with fail
          refine (read_to H9.out two_le 0 0 rfl 1 _ rfl rfl (.inr rfl) (ps.take h2) rfl h2 (by simp; omega) false rfl (St.mk [connA ⟨ps.drop h2, [], false, false⟩ ⟨[], [], false, false⟩, connA ⟨qs, [], false, false⟩ Sd.zero] (.map []) 0) rfl).mono ?_
          rintro e w10 ⟨ao, cap, L10, rfl, h10, my10, _, _⟩
          have H10 := Lib.hid h10
          have My10 := Lib.hid my10
          clear h10 my10
          have hlt2 : (ps.take h2).length = h2 := by simp; omega
          have Hlt2 := Lib.hid hlt2
          have hm2 : h2 ≤ c0 := by omega
          clear hlt2
          go_wp2_with (with_reducible refine wpList_slice_hi rfl _ _ 22 5 rfl Try.underlying22 ⟨i5, hi5⟩ a0 ps.length c0 rfl .i64 h2 _ rfl rfl hm2 ?_)
          refine (same_to w10 ao a0 cap c0 h2 h2 (ps.take h2) (ps.take h2) (My10.out.rd Hlt2.out) ((Hp.out.below H10.out.below Hpb.out).take h2) Hlt2.out Hlt2.out true (by simp)).mono ?_
          rintro e w11 ⟨rfl, nd, rfl⟩
          go_wp2_with fail
          go_loopw [16] (fun i wr => ∃ k : Nat, i = .int .i64 k ∧ k ≤ h2 ∧ Hid (Net1 w.heap.size w wr L10 n (St.mk [connA ⟨ps.drop h2, [], false, false⟩ ⟨[], [], false, false⟩, connA ⟨qs, [], false, false⟩ Sd.zero] (.map []) 0)) ∧
              Hid (IsB wr (.slice ao h2 cap) h2)) (fun i _ => h2 - (intOf i).toNat)
          case atStart => exact ⟨0, rfl, Nat.zero_le _, H10.out.drewN nd, IsB.of (My10.out.drewN nd) Hlt2.out⟩
          case round =>
            obtain ⟨k2, rfl, hk2, hn, hib⟩ := hrel
            by_cases hlt : k2 < h2
            · obtain ⟨gi, hai, _, hgl, hgB⟩ := My10.out.isBytes Hlt2.out (by omega)
              subst hai
              obtain ⟨x, hx⟩ := IsBytes.cell (show IsBytes _ gi cap h2 from hib.out) hlt
              have hf := IsBytes.frozen (show IsBytes _ gi cap h2 from hib.out) k2
              go_wp2
              go_roundw
              case rel => exact ⟨k2 + 1, by go_num, by omega, hn.out.setCell hgl hgB _ _, IsBytes.stored (show IsBytes _ gi cap h2 from hib.out) k2 _⟩
              case measure => simp [intOf]; omega
            · have hge2 : h2 ≤ k2 := by omega
              have H12 := Lib.hid hn.out
              have hib := hib.out
              clear hn
              obtain ⟨vs, hvo, hvs⟩ := hib
              have Hvo := Lib.hid hvo
              clear hvo hvs
              have hvo2 : (wr.alloc (.cells #[.int .u8 1, .int .u8 2, .int .u8 3, .int .u8 4, .int .u8 5, .int .u8 6, .int .u8 7, .int .u8 8, .int .u8 9] 5)).ownsRow 0 5 1 (.slice ao h2 cap) h2 vs := Hvo.out.alloc _
              have Hvo2 := Lib.hid hvo2
              clear hvo2
              go_wp2_with (at_builtin; refine wpList_append_q rfl _ _ 22 rfl 5 (.int .u8 0) 1 1 Try.underlying22 info5 rfl (by decide) (.slice ao h2 cap) h2 vs rfl Hvo2.out (some ⟨wr.heap.size, 0, none⟩) 9 9 [.int .u8 1, .int .u8 2, .int .u8 3, .int .u8 4, .int .u8 5, .int .u8 6, .int .u8 7, .int .u8 8, .int .u8 9] rfl rfl ?_ ?_ ?_ ?_ ?_ (h2 + 9) rfl ?_)
              case refine_1 => intro h; cases h
              case refine_2 =>
                intro ad had j u hu
                obtain rfl := Option.some.inj had
                rw [Addr.add_lit, Nat.zero_add, cell_blk (alloc_new _)]
                simpa using hu
              case refine_3 => intro u hu; simp at hu; rcases hu with rfl | rfl | rfl | rfl | rfl | rfl | rfl | rfl | rfl <;> rfl
              case refine_4 => unfold maxLen; omega
              case refine_5 => omega
              intro ao2 cap2 w13 own13 gr13 new13
              have hm13 : Mod (fun x => (Value.slice ao h2 cap).ownBlock = some x) wr w13 := ((Mod.refl _ wr).alloc _).grown gr13 (fun k hk _ => hk)
              have h13 := H12.out.frame hm13 (fun x t hx e => by rw [(My10.out.lab x e).1] at hx; cases hx) (fun x e => (My10.out.lab x e).2.1)
              have H13 := Lib.hid h13
              clear own13 gr13 new13 hm13 h13
              go_wp2_with fail
              refine (pass_to H13.out two_le 0 0 rfl 0 _ rfl rfl (.inl rfl) ps.length (by omega) (by show 0 + (ps.drop h2).length ≤ 140737488355328; simp; omega) (ps.length - h2) (by show min (ps.length : Int).toNat (ps.drop h2).length = _; simp) _ rfl (St.mk [(connA ⟨ps.drop h2, [], false, false⟩ ⟨[], [], false, false⟩).passed 0 (ps.length - h2), connA ⟨qs, [], false, false⟩ Sd.zero] (.map []) 0) rfl).mono ?_
              rintro e w14 ⟨L14, rfl, h14, _, _⟩
              have H14 := Lib.hid h14
              clear h14
              go_wp2_with fail
              refine (pass_to H14.out two_le 1 1 rfl 0 _ rfl rfl (.inl rfl) qs.length (by omega) (by show 0 + qs.length ≤ 140737488355328; omega) qs.length (by show min (qs.length : Int).toNat qs.length = _; simp) _ rfl (St.mk [(connA ⟨ps.drop h2, [], false, false⟩ ⟨[], [], false, false⟩).passed 0 (ps.length - h2), (connA ⟨qs, [], false, false⟩ Sd.zero).passed 0 qs.length] (.map []) 0) rfl).mono ?_
              rintro e w15 ⟨L15, rfl, h15, _, _⟩
              have H15 := Lib.hid h15
              clear h15
              have hd2 : (ps.drop h2).length = ps.length - h2 := by simp
              have Hd2 := Lib.hid hd2
              have htk : (ps.drop h2).take (ps.length - h2) = ps.drop h2 := List.take_of_length_le (by simp)
              have Htk := Lib.hid htk
              have htq : qs.take qs.length = qs := List.take_of_length_le (Nat.le_refl _)
              have Htq := Lib.hid htq
              clear hd2 htk htq
              go_wp2_with fail
              refine (read_to H15.out two_le 0 0 rfl 1 _ rfl rfl (.inr rfl) (ps.drop h2) (by show [] ++ (ps.drop h2).take (ps.length - h2) = _; rw [Htk.out]; rfl) (ps.length - h2) Hd2.out _ rfl _ rfl).mono ?_
              rintro e w16 ⟨ao3, cap3, L16, rfl, h16, my16, _, _⟩
              have H16 := Lib.hid h16
              have My16 := Lib.hid my16
              clear h16 my16
              go_wp2_with fail
              refine (read_to H16.out two_le 1 1 rfl 1 ((connA ⟨qs, [], false, false⟩ Sd.zero).passed 0 qs.length) rfl rfl (.inr rfl) qs (by show [] ++ qs.take qs.length = _; rw [Htq.out]; rfl) qs.length rfl _ rfl _ rfl).mono ?_
              rintro e w17 ⟨ao4, cap4, L17, rfl, h17, my17, hl17, hm17⟩
              have my16' := My16.out.kept hl17 hm17
              have H17 := Lib.hid h17
              have My17 := Lib.hid my17
              have My16' := Lib.hid my16'
              clear h17 my17 my16' hl17 hm17
              go_wp2_with (refine wpList_slice_lo_g (o := ⟨some 141, _, _, _, _, _⟩) rfl (.tmp 139) (.tmp 140) 22 5 rfl Try.underlying22 i50 hi50 1 hz51 a0 ps.length c0 rfl .i64 h2 rfl hh2 ?_; intro ao5 hao5; have Hao5 := Lib.hid hao5; clear hao5)
              refine (same_to w17 ao3 ao5 cap3 (c0 - h2) (ps.length - h2) (ps.length - h2) (ps.drop h2) (ps.drop h2) (My16'.out.rd Hd2.out) ((Hp.out.below H17.out.below Hpb.out).drop h2 hh2 Hao5.out) Hd2.out Hd2.out true (by simp)).mono ?_
              rintro e w18 ⟨rfl, nd18, rfl⟩
              go_wp2_with fail
              refine (same_to _ ao4 a1 cap4 c1 qs.length qs.length qs qs (RdB.drewN (My17.out.rd rfl) nd18) ((Hq.out.below H17.out.below Hqb.out).drewN nd18) rfl rfl true (by simp)).mono ?_
              rintro e w19 ⟨rfl, nd19, rfl⟩
              have hbf : Below w.heap.size w (w17.drewN (nd18 + nd19)) := below_drewN H17.out.below _
              have Hbf := Lib.hid hbf
              clear hbf
              go_wp2
              go_ret
              exact ⟨rfl, Hbf.out⟩

end Go.Proofs.Ytibijonjjkknoaa
