/-
NetScripts' walk, whole.
-/
import Derived.Test.YtibijonjjkknoaaNetScrW
set_option linter.unusedVariables false
set_option linter.unusedSimpArgs false
namespace Go.Proofs.Ytibijonjjkknoaa
open Go Go.RowKit

structure Sc0 (a : Act) (lv : Value) (mv : Value) (no : Bool) (n1 : Nat) (n2 : Nat) : Prop where
  size : a.tmps.size = 141
  dfr : a.defers = []
  s0 : a.tmps[0]? = some (lv)
  s1 : a.tmps[1]? = some (mv)
  s2 : a.tmps[2]? = some (.bool no)
  s7 : a.tmps[7]? = some (.pointer (some ⟨n1, 0, none⟩))
  s8 : a.tmps[8]? = some (.pointer (some ⟨n2, 0, none⟩))

set_option maxRecDepth 20000 in
theorem Sc0.shape {a : Act} {lv : Value} {mv : Value} {no : Bool} {n1 : Nat} {n2 : Nat} (h : Sc0 a lv mv no n1 n2) : ∃ v : Nat → Value, a = ⟨#[lv, mv, .bool no, v 3, v 4, v 5, v 6, .pointer (some ⟨n1, 0, none⟩), .pointer (some ⟨n2, 0, none⟩), v 9, v 10, v 11, v 12, v 13, v 14, v 15, v 16, v 17, v 18, v 19, v 20, v 21, v 22, v 23, v 24, v 25, v 26, v 27, v 28, v 29, v 30, v 31, v 32, v 33, v 34, v 35, v 36, v 37, v 38, v 39, v 40, v 41, v 42, v 43, v 44, v 45, v 46, v 47, v 48, v 49, v 50, v 51, v 52, v 53, v 54, v 55, v 56, v 57, v 58, v 59, v 60, v 61, v 62, v 63, v 64, v 65, v 66, v 67, v 68, v 69, v 70, v 71, v 72, v 73, v 74, v 75, v 76, v 77, v 78, v 79, v 80, v 81, v 82, v 83, v 84, v 85, v 86, v 87, v 88, v 89, v 90, v 91, v 92, v 93, v 94, v 95, v 96, v 97, v 98, v 99, v 100, v 101, v 102, v 103, v 104, v 105, v 106, v 107, v 108, v 109, v 110, v 111, v 112, v 113, v 114, v 115, v 116, v 117, v 118, v 119, v 120, v 121, v 122, v 123, v 124, v 125, v 126, v 127, v 128, v 129, v 130, v 131, v 132, v 133, v 134, v 135, v 136, v 137, v 138, v 139, v 140], []⟩ := by
  obtain ⟨v, hv, hd⟩ := sc_act a h.size h.dfr
  have e0 := hv 0 _ h.s0
  have e1 := hv 1 _ h.s1
  have e2 := hv 2 _ h.s2
  have e7 := hv 7 _ h.s7
  have e8 := hv 8 _ h.s8
  refine ⟨v, ?_⟩
  rw [hd]
  simp only [e0, e1, e2, e7, e8]

structure Sc1 (a : Act) (lv : Value) (mv : Value) (no : Bool) (n1 : Nat) (n2 : Nat) (b1 : Nat) (b2 : Nat) : Prop where
  size : a.tmps.size = 141
  dfr : a.defers = []
  s0 : a.tmps[0]? = some (lv)
  s1 : a.tmps[1]? = some (mv)
  s2 : a.tmps[2]? = some (.bool no)
  s7 : a.tmps[7]? = some (.pointer (some ⟨n1, 0, none⟩))
  s8 : a.tmps[8]? = some (.pointer (some ⟨n2, 0, none⟩))
  s9 : a.tmps[9]? = some (.pointer (some ⟨b1, 0, none⟩))
  s10 : a.tmps[10]? = some (.pointer (some ⟨b2, 0, none⟩))

set_option maxRecDepth 20000 in
theorem Sc1.shape {a : Act} {lv : Value} {mv : Value} {no : Bool} {n1 : Nat} {n2 : Nat} {b1 : Nat} {b2 : Nat} (h : Sc1 a lv mv no n1 n2 b1 b2) : ∃ v : Nat → Value, a = ⟨#[lv, mv, .bool no, v 3, v 4, v 5, v 6, .pointer (some ⟨n1, 0, none⟩), .pointer (some ⟨n2, 0, none⟩), .pointer (some ⟨b1, 0, none⟩), .pointer (some ⟨b2, 0, none⟩), v 11, v 12, v 13, v 14, v 15, v 16, v 17, v 18, v 19, v 20, v 21, v 22, v 23, v 24, v 25, v 26, v 27, v 28, v 29, v 30, v 31, v 32, v 33, v 34, v 35, v 36, v 37, v 38, v 39, v 40, v 41, v 42, v 43, v 44, v 45, v 46, v 47, v 48, v 49, v 50, v 51, v 52, v 53, v 54, v 55, v 56, v 57, v 58, v 59, v 60, v 61, v 62, v 63, v 64, v 65, v 66, v 67, v 68, v 69, v 70, v 71, v 72, v 73, v 74, v 75, v 76, v 77, v 78, v 79, v 80, v 81, v 82, v 83, v 84, v 85, v 86, v 87, v 88, v 89, v 90, v 91, v 92, v 93, v 94, v 95, v 96, v 97, v 98, v 99, v 100, v 101, v 102, v 103, v 104, v 105, v 106, v 107, v 108, v 109, v 110, v 111, v 112, v 113, v 114, v 115, v 116, v 117, v 118, v 119, v 120, v 121, v 122, v 123, v 124, v 125, v 126, v 127, v 128, v 129, v 130, v 131, v 132, v 133, v 134, v 135, v 136, v 137, v 138, v 139, v 140], []⟩ := by
  obtain ⟨v, hv, hd⟩ := sc_act a h.size h.dfr
  have e0 := hv 0 _ h.s0
  have e1 := hv 1 _ h.s1
  have e2 := hv 2 _ h.s2
  have e7 := hv 7 _ h.s7
  have e8 := hv 8 _ h.s8
  have e9 := hv 9 _ h.s9
  have e10 := hv 10 _ h.s10
  refine ⟨v, ?_⟩
  rw [hd]
  simp only [e0, e1, e2, e7, e8, e9, e10]

abbrev netO : Obj := .cells #[.slice none 0 0, .slice none 0 0, .slice none 0 0] 48

section
variable {w0 w : World} {lv mv np rp nq rq : Value} {no : Bool} {n1 n2 b1 b2 N M : Nat} {K : Act → World → Prop} {Q : Exit → Act → World → Prop} {a : Act}

set_option maxRecDepth 100000 in
set_option maxHeartbeats 8000000 in
theorem sc_4 (hf : Sc0 a lv mv no n1 n2) (rest : ∀ a', Sc1 a' lv mv no n1 n2 w.heap.size (w.heap.size + 1) → K a' ((w.alloc netO).alloc netO)) : sc4.wp Try.prog (Exit.then K Q) a w := by
  refine wp_cut (fun a' w' => Sc1 a' lv mv no n1 n2 w.heap.size (w.heap.size + 1) ∧ w' = (w.alloc netO).alloc netO) (fun a' w' ⟨h, e⟩ => by subst e; exact rest a' h) ?_
  clear rest
  intro J K' hJ hK
  refine wp_calm ?_
  obtain ⟨vv, rfl⟩ := hf.shape
  clear hf
  dsimp only [sc4, ncl, ncr, ncb, nco, nct, nce, ncx, Try.f6]
  go_wp2
  exact Met.intro (hJ _ _ ⟨⟨rfl, rfl, rfl, rfl, rfl, rfl, rfl, rfl, by simp⟩, rfl⟩)

set_option maxRecDepth 100000 in
set_option maxHeartbeats 8000000 in
theorem sc_5 (hf : Sc1 a lv mv no n1 n2 b1 b2) (rest : ∀ a' np rp, (np = .pointer none ∧ rp = .pointer none ∨ np = .pointer (some ⟨n1, 0, none⟩) ∧ rp = .pointer (some ⟨b1, 0, none⟩)) → ScB a' lv mv np (.pointer (some ⟨n2, 0, none⟩)) rp (.pointer (some ⟨b2, 0, none⟩)) → K a' w) : sc5.wp Try.prog (Exit.then K Q) a w := by
  refine wp_cut (fun a' w' => ∃ np rp, (np = .pointer none ∧ rp = .pointer none ∨ np = .pointer (some ⟨n1, 0, none⟩) ∧ rp = .pointer (some ⟨b1, 0, none⟩)) ∧ ScB a' lv mv np (.pointer (some ⟨n2, 0, none⟩)) rp (.pointer (some ⟨b2, 0, none⟩)) ∧ w' = w) (fun a' w' ⟨np, rp, h1, h, e⟩ => by subst e; exact rest a' np rp h1 h) ?_
  clear rest
  intro J K' hJ hK
  refine wp_calm ?_
  obtain ⟨vv, rfl⟩ := hf.shape
  clear hf
  dsimp only [sc5, ncl, ncr, ncb, nco, nct, nce, ncx, Try.f6]
  cases no with
  | true =>
    go_wp2
    exact Met.intro (hJ _ _ ⟨_, _, .inl ⟨rfl, rfl⟩, ⟨rfl, rfl, rfl, rfl, rfl, rfl, rfl, rfl⟩, rfl⟩)
  | false =>
    go_wp2
    exact Met.intro (hJ _ _ ⟨_, _, .inr ⟨rfl, rfl⟩, ⟨rfl, rfl, rfl, rfl, rfl, rfl, rfl, rfl⟩, rfl⟩)

set_option maxRecDepth 100000 in
set_option maxHeartbeats 8000000 in
theorem sc_8 (hf : ScB a lv mv np nq rp rq) (rest : ∀ a', ScA a' lv mv np nq rp rq ((0 : Nat) : Int) → K a' w) : sc8.wp Try.prog (Exit.then K Q) a w := by
  refine wp_cut (fun a' w' => ScA a' lv mv np nq rp rq ((0 : Nat) : Int) ∧ w' = w) (fun a' w' ⟨h, e⟩ => by subst e; exact rest a' h) ?_
  clear rest
  intro J K' hJ hK
  refine wp_calm ?_
  obtain ⟨vv, rfl⟩ := hf.shape
  clear hf
  dsimp only [sc8, ncl, ncr, ncb, nco, nct, nce, ncx, Try.f6]
  go_wp2
  exact Met.intro (hJ _ _ ⟨⟨rfl, rfl, rfl, rfl, rfl, rfl, rfl, rfl, rfl⟩, rfl⟩)

set_option maxRecDepth 100000 in
set_option maxHeartbeats 8000000 in
theorem sc_15 (hf : ScB a lv mv np (.pointer (some ⟨n2, 0, none⟩)) rp (.pointer (some ⟨b2, 0, none⟩))) (h : ScSt w0 w np rp (.pointer (some ⟨n2, 0, none⟩)) (.pointer (some ⟨b2, 0, none⟩)) N M)
    (fin : ∀ a' w', a'.defers = [] → a'.tmps[6]? = some (.bool true) → Below w0.heap.size w0 w' → Q .ret a' w') : scR15.wp Try.prog Q a w := by
  have hbl := h.below
  obtain ⟨It, d1, d2⟩ := h
  obtain ⟨y1, k1, c1⟩ := d1.conns
  obtain ⟨y2, k2, c2⟩ := d2.conns
  have Hfin := Lib.hid fin
  have Hb := Lib.hid (show ∀ n, Below w0.heap.size w0 (w.drewN n) from fun n => hbl.trans (below_drew.mono hbl.size))
  obtain ⟨vv, rfl⟩ := hf.shape
  clear hf fin hbl
  dsimp only [scR15, ncl, ncr, ncb, nco, nct, nce, ncx, Try.f6]
  rcases c2 with ⟨e, _⟩ | ⟨n', rb', ao2, cc2, m2, e1, e2, z2, e3⟩
  · cases e
  · simp only [Value.pointer.injEq, Option.some.injEq, Addr.mk.injEq, and_true, true_and] at e1 e2
    subst e1 e2 e3
    have HC1 := Lib.hid (k1 w.drew bd_drew)
    have HC2 := Lib.hid (k2 w.drew bd_drew)
    have zd : w.drew.cell? ⟨b2, 0, none⟩ = some (.slice ao2 m2 cc2) := z2
    rcases c1 with ⟨rfl, rfl, rfl⟩ | ⟨n', rb', ao1, cc1, m1, rfl, rfl, z1, rfl⟩
    · clear d1 d2 k1 k2 z2
      go_wp2_with fail
      go_region_held3 (fun w' => w'.cell? ⟨b2, 0, none⟩ = some (.slice ao2 m2 cc2)) (first | exact zd | assumption)
        (first
          | (go_at_call 19; (with_reducible refine HC1.out.mono ?_); rintro e w' ⟨rfl, hw⟩; obtain rfl := hw.symm)
          | (go_at_call 19; (with_reducible refine HC2.out.mono ?_); rintro e w' ⟨rfl, hw⟩; obtain rfl := hw.symm))
      all_goals go_wp2
      all_goals exact Hfin.out _ _ rfl rfl (Hb.out 1)
    · clear d1 d2 k1 k2 z2
      go_wp2_with fail
      go_region_held3 (fun w' => w'.cell? ⟨b2, 0, none⟩ = some (.slice ao2 m2 cc2)) (first | exact zd | assumption)
        (first
          | (go_at_call 19; (with_reducible refine HC1.out.mono ?_); rintro e w' ⟨rfl, hw⟩; obtain rfl := hw.symm)
          | (go_at_call 19; (with_reducible refine HC2.out.mono ?_); rintro e w' ⟨rfl, hw⟩; obtain rfl := hw.symm))
      all_goals go_wp2
      all_goals exact Hfin.out _ _ rfl rfl (Hb.out 1)

theorem sc_tail {al am : Option Addr} {len len2 cl cm gl ol gm om : Nat} {C E : Nat → ClD} (hK : ∀ a w, scR5.wp Try.prog Q a w → K a w) (hf : Sc0 a (.slice al len cl) (.slice am len2 cm) no n1 n2)
    (hst : ∃ It, Duo w0 ((w.alloc netO).alloc netO) It 0 (.pointer (some ⟨n1, 0, none⟩)) (.pointer (some ⟨w.heap.size, 0, none⟩)) 0 ∧ Duo w0 ((w.alloc netO).alloc netO) It 1 (.pointer (some ⟨n2, 0, none⟩)) (.pointer (some ⟨w.heap.size + 1, 0, none⟩)) 0)
    (hal : 0 < len → al = some ⟨gl, ol, none⟩ ∧ gl < w0.heap.size) (hc : ∀ i, i < len → ClAt w0 gl (ol + i * 6) (C i) ∧ (C i).Sm) (ham : 0 < len2 → am = some ⟨gm, om, none⟩ ∧ gm < w0.heap.size) (he : ∀ i, i < len2 → ClAt w0 gm (om + i * 6) (E i) ∧ (E i).Sm)
    (hlen : len ≤ 1048576) (hlen2 : len2 ≤ 1048576) (fin : ∀ a' w', a'.defers = [] → a'.tmps[6]? = some (.bool true) → Below w0.heap.size w0 w' → Q .ret a' w') : sc4.wp Try.prog (Exit.then K Q) a w := by
  refine sc_4 hf (fun a1 f1 => hK _ _ ?_)
  show (Code.seq sc5 (Code.seq (Code.seq sc8 (Code.block 0 scL)) scR15)).wp Try.prog Q a1 _
  refine wp_seq (sc_5 f1 (fun a2 np rp hnp f2 => wp_seq (wp_seq (sc_8 f2 (fun a3 f3 => wp_block ?_)))))
  obtain ⟨It, d1, d2⟩ := hst
  have hs : ScSt w0 ((w.alloc netO).alloc netO) np rp (.pointer (some ⟨n2, 0, none⟩)) (.pointer (some ⟨w.heap.size + 1, 0, none⟩)) 0 0 := by
    rcases hnp with ⟨rfl, rfl⟩ | ⟨rfl, rfl⟩
    · exact ⟨It, .bare d1.bg, d2⟩
    · exact ⟨It, d1, d2⟩
  exact sc_loop f3 hs hal hc ham he hlen hlen2 (fun a4 w4 N hN f4 h4 => sc_15 f4 h4 fin)

end

set_option maxHeartbeats 4000000 in
set_option maxRecDepth 20000 in
theorem netScripts_walk (w : World) (al am : Option Addr) (len len2 cl cm gl ol gm om : Nat) (C E : Nat → ClD) (no : Bool)
    (hal : 0 < len → al = some ⟨gl, ol, none⟩ ∧ gl < w.heap.size) (hc : ∀ i, i < len → ClAt w gl (ol + i * 6) (C i) ∧ (C i).Sm) (ham : 0 < len2 → am = some ⟨gm, om, none⟩ ∧ gm < w.heap.size) (he : ∀ i, i < len2 → ClAt w gm (om + i * 6) (E i) ∧ (E i).Sm)
    (hlen : len ≤ 1048576) (hlen2 : len2 ≤ 1048576) :
    Calls Try.prog 6 #[.slice al len cl, .slice am len2 cm, .bool no] w fun e w' => e = .returned (.bool true) ∧ Below w.heap.size w w' := by
  have H1 := Lib.hid (new_any w w.heap.size (Nat.le_refl _))
  have H2 := Lib.hid (fun w1 (hm : Mod (fun _ => False) w w1) => new_any w1 w.heap.size hm.size)
  have Hal := Lib.hid hal
  have Hc := Lib.hid hc
  have Ham := Lib.hid ham
  have He := Lib.hid he
  have Hl := Lib.hid (And.intro hlen hlen2)
  clear hal hc ham he hlen hlen2
  go_enter Try.func6, Try.ntmps6
  go_wp2_with fail
  refine H1.out.mono ?_
  rintro e w1 ⟨n1, L1, rfl, hN1, m1, l1⟩
  have H3 := Lib.hid (H2.out w1 m1)
  have HN1 := Lib.hid (And.intro hN1 (And.intro m1 l1))
  clear hN1 m1 l1 H1 H2
  go_wp2_with fail
  refine H3.out.mono ?_
  rintro e w2 ⟨n2, L2, rfl, hN2, m2, l2⟩
  have Hst := Lib.hid (sc_start (w0 := w) (Below.refl _ w) HN1.out.1 HN1.out.2.1 HN1.out.2.2 hN2 m2 l2)
  clear hN2 m2 l2 H3 HN1
  go_upto_region 4 with (fail)
  rename_i K1 hK1
  refine sc_tail (w0 := w) (cl := cl) (cm := cm) (no := no) hK1 ?hf Hst.out Hal.out Hc.out Ham.out He.out Hl.out.1 Hl.out.2 ?_
  case hf => exact ⟨rfl, rfl, rfl, rfl, rfl, rfl, rfl⟩
  intro a' w' h1 h2 hb
  refine ⟨h1, .bool true, ?_, rfl, hb⟩
  rw [← getD_of h2]
  exact results_tmp rfl _ _ _

end Go.Proofs.Ytibijonjjkknoaa
