/-
TrailOwn: lists are made, marked, grown.
-/
import Derived.Test.YthpflfcgnaichaaDoorTraOwn2
import Derived.Test.YthpflfcgnaichaaDoorTraEnts
import Derived.Test.YthpflfcgnaichaaDoorTraSame
set_option linter.unusedVariables false
set_option linter.unusedSimpArgs false
namespace Go.Proofs.YthpflfcgnaichaaDoor
open Go Go.RowKit

section
variable {w0 w : World} {It : Nat → Item} {p : OP} {vl vc : Value} {xs : List Ent} {va vo mv : Value} {vals vos : List Value} {i : Int} {xb n k : Nat} {K : Act → World → Prop} {Q : Exit → Act → World → Prop} {a : Act}

set_option maxRecDepth 100000 in
set_option maxHeartbeats 4000000 in
theorem ow_x1 (hf : OwA a p va vo i) (rest : ∀ a', OwB a' p va vo i p.lb → K a' w) : owA1.wp Tryd.prog (Exit.then K Q) a w := by
  refine wp_cut (fun a' w' => OwB a' p va vo i p.lb ∧ w' = w) (fun a' w' ⟨h, e⟩ => by subst e; exact rest a' h) ?_
  clear rest
  intro J K' hJ hK
  refine wp_calm ?_
  obtain ⟨vv, rfl⟩ := hf.shape
  clear hf
  dsimp only [owA1, ncl, ncr, ncb, nco, nct, nce, ncx, Tryd.f8]
  go_wp2
  exact Met.intro (hJ _ _ ⟨⟨rfl, rfl, rfl, rfl, rfl, rfl, rfl, rfl, rfl, rfl⟩, rfl⟩)

set_option maxRecDepth 100000 in
set_option maxHeartbeats 4000000 in
theorem ow_x2 (hf : OwB a p va vo i p.lb) (rest : ∀ a' xb, (xb = p.lb ∨ xb = p.cb) → OwB a' p va vo i xb → K a' w) : owA2.wp Tryd.prog (Exit.then K Q) a w := by
  refine wp_cut (fun a' w' => ∃ xb, (xb = p.lb ∨ xb = p.cb) ∧ OwB a' p va vo i xb ∧ w' = w) (fun a' w' ⟨xb, h1, h, e⟩ => by subst e; exact rest a' xb h1 h) ?_
  clear rest
  intro J K' hJ hK
  refine wp_calm ?_
  obtain ⟨vv, rfl⟩ := hf.shape
  clear hf
  dsimp only [owA2, ncl, ncr, ncb, nco, nct, nce, ncx, Tryd.f8]
  cases hb : (i == 1) with
  | true =>
    go_wp2
    exact Met.intro (hJ _ _ ⟨_, .inr rfl, ⟨rfl, rfl, rfl, rfl, rfl, rfl, rfl, rfl, rfl, rfl⟩, rfl⟩)
  | false =>
    go_wp2
    exact Met.intro (hJ _ _ ⟨_, .inl rfl, ⟨rfl, rfl, rfl, rfl, rfl, rfl, rfl, rfl, rfl, rfl⟩, rfl⟩)

set_option maxRecDepth 100000 in
set_option maxHeartbeats 4000000 in
theorem ow_p (hf : OwB a p va vo i xb) (h : OwAS w0 w It p vl vc xs va vo vals vos)
    (hP : Calls Tryd.prog 27 #[.string p.t] w fun r w' => ∃ ao c, r = .returned (.tuple #[.slice ao n c, .int .i64 0, .int .i64 0]) ∧ w'.ownsRow 0 38 15 (.slice ao n c) n (ents xs) ∧ Below w.heap.size w w' ∧ ∀ g, (Value.slice ao n c).ownBlock = some g → w.heap.size ≤ g)
    (rest : ∀ a' w' It' am cm, OwC a' p va vo i xb (.slice am n cm) → OwAS w0 w' It' p vl vc xs va vo vals vos → It' (11 + vals.length) = rowItem 38 15 (.slice am n cm) n (ents xs) → K a' w') : owA3.wp Tryd.prog (Exit.then K Q) a w := by
  refine wp_cut (fun a' w' => ∃ It' am cm, OwC a' p va vo i xb (.slice am n cm) ∧ OwAS w0 w' It' p vl vc xs va vo vals vos ∧ It' (11 + vals.length) = rowItem 38 15 (.slice am n cm) n (ents xs)) (fun a' w' ⟨It', am, cm, h1, h2, h3⟩ => rest a' w' It' am cm h1 h2 h3) ?_
  clear rest
  intro J K' hJ hK
  refine wp_calm ?_
  obtain ⟨vv, rfl⟩ := hf.shape
  clear hf
  dsimp only [owA3, ncl, ncr, ncb, nco, nct, nce, ncx, Tryd.f8]
  have HP := Lib.hid hP
  have HS := Lib.hid (fun w2 am cm hb hr hn => h.parsed (w2 := w2) (am := am) (n := n) (cm := cm) hb hr hn)
  clear hP h
  go_wp2_with fail
  refine HP.out.mono ?_
  rintro r w1 ⟨am, cm, rfl, h1, h2, h3⟩
  have Hend := Lib.hid (HS.out w1 am cm h2 h1 h3)
  clear h1 h2 h3 HP HS
  go_wp2
  exact Met.intro (hJ _ _ ⟨_, _, _, ⟨rfl, rfl, rfl, rfl, rfl, rfl, rfl, rfl, rfl, rfl, rfl⟩, Hend.out, upd_same _ _ _⟩)

set_option maxRecDepth 100000 in
set_option maxHeartbeats 4000000 in
theorem ow_a (hf : OwC a p va vo i xb mv) (hx : xb = p.lb ∨ xb = p.cb) (hn : n = xs.length) {am : Option Addr} {cm : Nat} (hm : mv = .slice am n cm) (h : OwAS w0 w It p vl vc xs va vo vals vos) (h11 : It (11 + vals.length) = rowItem 38 15 (.slice am n cm) n (ents xs)) (hv : vals.length < 5)
    (rest : ∀ a' w' It' va' e m, OwC a' p va' vo i xb mv → OwAS w0 w' It' p vl vc xs va' vo (vals ++ [e, m]) vos → K a' w') : owA4.wp Tryd.prog (Exit.then K Q) a w := by
  refine wp_cut (fun a' w' => ∃ It' va' e m, OwC a' p va' vo i xb mv ∧ OwAS w0 w' It' p vl vc xs va' vo (vals ++ [e, m]) vos) (fun a' w' ⟨It', va', e, m, h1, h2⟩ => rest a' w' It' va' e m h1 h2) ?_
  clear rest
  intro J K' hJ hK
  refine wp_calm ?_
  obtain ⟨vv, rfl⟩ := hf.shape
  clear hf
  subst hm
  dsimp only [owA4, ncl, ncr, ncb, nco, nct, nce, ncx, Tryd.f8]
  obtain ⟨v, hlog⟩ := h.m.log hx
  have hE := entries_walk w xb v xs hlog (Nat.lt_of_le_of_lt h.m.len (by decide))
  unfold NewPost at hE
  rw [← hn] at hE
  have HE := Lib.hid hE
  have HS := Lib.hid (fun w1 ao c hb hr hnw => h.told (w2 := w1) (ao := ao) (c := c) h11 hb hr hnw)
  have Hn := Lib.hid hn
  have Hv := Lib.hid hv
  obtain ⟨nv, hnv⟩ : ∃ nv, nv = vals.length := ⟨_, rfl⟩
  have Hnv := Lib.hid hnv
  clear hE hlog h h11 hn hv hx hnv
  go_wp2_with fail
  refine HE.out.mono ?_
  rintro r w1 ⟨ao, c, rfl, h1, h2, h3⟩
  have hst := HS.out w1 ao c h2 (by rw [Hn.out] at h1 ⊢; exact h1) h3
  have Hst := Lib.hid hst
  clear h1 h2 h3 HE HS hst
  obtain ⟨It', hst⟩ := Hst.out
  have Hrow := Lib.hid (show (w1.alloc (.cells #[.slice ao n c, .slice am n cm] 25)).ownsRow 0 25 1 va nv vals from by
    have := hst.1.m.bg.bag.holds 0
    rw [hst.1.ra] at this
    rw [Hnv.out]
    exact World.ownsRow.alloc this _)
  have Hnews := Lib.hid (show ∀ j u, [Value.slice ao n c, Value.slice am n cm][j]? = some u → (w1.alloc (.cells #[.slice ao n c, .slice am n cm] 25)).cell? ((⟨w1.heap.size, 0, none⟩ : Addr).add j) = some u from by
    intro j u hu
    rw [show ((⟨w1.heap.size, 0, none⟩ : Addr).add j) = ⟨w1.heap.size, j, none⟩ by unfold Addr.add; split <;> simp_all, World.cell?_alloc_new]
    simpa using hu)
  have H63 := Lib.hid (show nv + 2 ≤ maxLen by have h1 := Hv.out; have h2 := Hnv.out; unfold maxLen; omega)
  have H47 := Lib.hid (show (nv + 2) * 24 ≤ 140737488355328 by have h1 := Hv.out; have h2 := Hnv.out; omega)
  have H1 := Lib.hid (show ∀ u ∈ [Value.slice ao n c, Value.slice am n cm], u.oneCell' = true by simp [Value.oneCell'])
  have Hst2 := Lib.hid hst
  clear hst Hst
  go_wp2_with (at_builtin; refine wpList_append_q rfl _ _ 81 rfl 25 (.slice none 0 0) 1 24 Tryd.underlying81 slinfo rfl (by decide) va nv vals rfl Hrow.out (some ⟨w1.heap.size, 0, none⟩) 2 2 [.slice ao n c, .slice am n cm] rfl rfl (fun hn => by cases hn) (fun ad had => by obtain rfl := Option.some.inj had; exact Hnews.out) H1.out H63.out H47.out (nv + 2) rfl ?_; intro ao' c' w2 own2 gr2 new2; have Hend := Lib.hid (Hst2.out.1.all (by have h1 := Hv.out; omega) Hn.out Hst2.out.2.1 Hst2.out.2.2 gr2 own2 new2); clear own2 gr2 new2)
  obtain ⟨It2, hend⟩ := Hend.out
  exact Met.intro (hJ _ _ ⟨_, _, _, _, ⟨rfl, rfl, rfl, rfl, rfl, rfl, rfl, rfl, rfl, rfl, rfl⟩, hend⟩)

set_option maxRecDepth 100000 in
set_option maxHeartbeats 4000000 in
theorem ow_o (hf : OwC a p va vo i xb mv) (hx : xb = p.lb ∨ xb = p.cb) (h : OwAS w0 w It p vl vc xs va vo vals vos) (hv : vos.length < 3)
    (rest : ∀ a' w' It' vo' e, OwC a' p va vo' i xb mv → OwAS w0 w' It' p vl vc xs va vo' vals (vos ++ [e]) → K a' w') : owA5.wp Tryd.prog (Exit.then K Q) a w := by
  refine wp_cut (fun a' w' => ∃ It' vo' e, OwC a' p va vo' i xb mv ∧ OwAS w0 w' It' p vl vc xs va vo' vals (vos ++ [e])) (fun a' w' ⟨It', vo', e, h1, h2⟩ => rest a' w' It' vo' e h1 h2) ?_
  clear rest
  intro J K' hJ hK
  refine wp_calm ?_
  obtain ⟨vv, rfl⟩ := hf.shape
  clear hf
  dsimp only [owA5, ncl, ncr, ncb, nco, nct, nce, ncx, Tryd.f8]
  obtain ⟨v, hlog⟩ := h.m.log hx
  have hE := open_walk w xb v xs hlog (Nat.lt_of_le_of_lt h.m.len (by decide))
  unfold OpenPost at hE
  have hle := Nat.le_trans (open_len xs) h.m.len
  generalize opensL xs = ks at hE hle
  obtain ⟨n, hn⟩ : ∃ n, n = ks.length := ⟨_, rfl⟩
  rw [← hn] at hE hle
  have HE := Lib.hid hE
  have HS := Lib.hid (fun w1 ao c hb hr hnw => h.opened hv (w2 := w1) (ao := ao) (n := n) (c := c) (vs := intVs ks) hb hr hnw)
  have Hn := Lib.hid hn
  have Hle := Lib.hid hle
  have Hv := Lib.hid hv
  obtain ⟨nv, hnv⟩ : ∃ nv, nv = vos.length := ⟨_, rfl⟩
  have Hnv := Lib.hid hnv
  clear hE hlog h hv hx hnv hn hle
  go_wp2_with fail
  refine HE.out.mono ?_
  rintro r w1 ⟨ao, c, rfl, h1, h2, h3⟩
  have hst := HS.out w1 ao c h2 h1 h3
  have Hst := Lib.hid hst
  clear h1 h2 h3 HE HS hst
  obtain ⟨It', hst⟩ := Hst.out
  have Hrow := Lib.hid (show (w1.alloc (.cells #[.slice ao n c] 44)).ownsRow 0 44 1 vo nv vos from by
    have := hst.1.m.bg.bag.holds 1
    rw [hst.1.ro] at this
    rw [Hnv.out]
    exact World.ownsRow.alloc this _)
  have Hnews := Lib.hid (show ∀ j u, [Value.slice ao n c][j]? = some u → (w1.alloc (.cells #[.slice ao n c] 44)).cell? ((⟨w1.heap.size, 0, none⟩ : Addr).add j) = some u from by
    intro j u hu
    rw [show ((⟨w1.heap.size, 0, none⟩ : Addr).add j) = ⟨w1.heap.size, j, none⟩ by unfold Addr.add; split <;> simp_all, World.cell?_alloc_new]
    simpa using hu)
  have H63 := Lib.hid (show nv + 1 ≤ maxLen by have h1 := Hv.out; have h2 := Hnv.out; unfold maxLen; omega)
  have H47 := Lib.hid (show (nv + 1) * 24 ≤ 140737488355328 by have h1 := Hv.out; have h2 := Hnv.out; omega)
  have H1 := Lib.hid (show ∀ u ∈ [Value.slice ao n c], u.oneCell' = true by simp [Value.oneCell'])
  have Hst2 := Lib.hid hst
  clear hst Hst
  go_wp2_with (at_builtin; refine wpList_append_q rfl _ _ 82 rfl 44 (.slice none 0 0) 1 24 Tryd.underlying82 iinfo rfl (by decide) vo nv vos rfl Hrow.out (some ⟨w1.heap.size, 0, none⟩) 1 1 [.slice ao n c] rfl rfl (fun hn => by cases hn) (fun ad had => by obtain rfl := Option.some.inj had; exact Hnews.out) H1.out H63.out H47.out (nv + 1) rfl ?_; intro ao' c' w2 own2 gr2 new2; have Hend := Lib.hid (Hst2.out.1.opens Hv.out Hn.out Hle.out Hst2.out.2 gr2 own2 new2); clear own2 gr2 new2)
  obtain ⟨It2, hend⟩ := Hend.out
  exact Met.intro (hJ _ _ ⟨_, _, _, ⟨rfl, rfl, rfl, rfl, rfl, rfl, rfl, rfl, rfl, rfl, rfl⟩, hend⟩)

set_option maxRecDepth 100000 in
set_option maxHeartbeats 4000000 in
theorem ow_as (hf : OwA a p va vo (k : Int)) (hk : k < 65537) (rest : ∀ a', OwA a' p va vo ((k + 1 : Nat) : Int) → K a' w) : owAs.wp Tryd.prog (Exit.then K Q) a w := by
  refine wp_cut (fun a' w' => OwA a' p va vo ((k + 1 : Nat) : Int) ∧ w' = w) (fun a' w' ⟨h, e⟩ => by subst e; exact rest a' h) ?_
  clear rest
  intro J K' hJ hK
  refine wp_calm ?_
  obtain ⟨vv, rfl⟩ := hf.shape
  clear hf
  dsimp only [owAs, ncl, ncr, ncb, nco, nct, nce, ncx, Tryd.f8]
  have Hop := Lib.hid (go_step (wrap_small hk))
  clear hk
  go_wp2
  exact Met.intro (hJ _ _ ⟨⟨rfl, rfl, rfl, rfl, rfl, rfl, rfl, rfl, congrArg some Hop.out⟩, rfl⟩)

set_option maxRecDepth 100000 in
set_option maxHeartbeats 4000000 in
theorem ow_at (hf : OwA a p va vo (k : Int)) (rest : ∀ a', k < 3 → OwA a' p va vo (k : Int) → K a' w) (out : ∀ a', 3 ≤ k → OwA a' p va vo (k : Int) → Q (.exit 0) a' w) : owAt.wp Tryd.prog (Exit.then K Q) a w := by
  obtain ⟨vv, rfl⟩ := hf.shape
  clear hf
  dsimp only [owAt, ncl, ncr, ncb, nco, nct, nce, ncx, Tryd.f8]
  by_cases hk : k < 3
  · have Hr := Lib.hid (fun a' h => rest a' hk h)
    have b1 : decide ((k : Int) < 3) = true := decide_eq_true (by omega)
    clear rest out hk
    go_wp2
    exact Hr.out _ ⟨rfl, rfl, rfl, rfl, rfl, rfl, rfl, rfl, rfl⟩
  · have Hr := Lib.hid (fun a' h => out a' (by omega) h)
    have b1 : decide ((k : Int) < 3) = false := decide_eq_false (by omega)
    clear rest out hk
    go_wp2
    exact Hr.out _ ⟨rfl, rfl, rfl, rfl, rfl, rfl, rfl, rfl, rfl⟩

/-- What Parse says of the text, at any later time. -/
def ParseAt (w0 : World) (p : OP) (n : Nat) (xs : List Ent) : Prop :=
  ∀ w, Below w0.heap.size w0 w → Calls Tryd.prog 27 #[.string p.t] w fun r w' => ∃ ao c, r = .returned (.tuple #[.slice ao n c, .int .i64 0, .int .i64 0]) ∧ w'.ownsRow 0 38 15 (.slice ao n c) n (ents xs) ∧ Below w.heap.size w w' ∧ ∀ g, (Value.slice ao n c).ownBlock = some g → w.heap.size ≤ g

theorem ow_ab (hf : OwA a p va vo i) (hn : n = xs.length) (hP : ParseAt w0 p n xs) (h : OwAS w0 w It p vl vc xs va vo vals vos) (hv : vals.length < 5) (ho : vos.length < 3)
    (rest : ∀ a' w' It' va' vo' e m o, OwA a' p va' vo' i → OwAS w0 w' It' p vl vc xs va' vo' (vals ++ [e, m]) (vos ++ [o]) → K a' w') : owAb.wp Tryd.prog (Exit.then K Q) a w := by
  show (Code.block 1 (Code.seq owA1 (Code.seq owA2 (Code.seq owA3 (Code.seq owA4 owA5))))).wp Tryd.prog (Exit.then K Q) a w
  refine in_block (wp_seq (ow_x1 hf (fun a1 f1 => wp_seq (ow_x2 f1 (fun a2 xb hx f2 => wp_seq (ow_p f2 h (hP w h.m.bg.below) (fun a3 w3 It3 am cm f3 h3 q3 => wp_seq (ow_a f3 hx hn rfl h3 q3 hv (fun a4 w4 It4 va4 e m f4 h4 => ow_o f4 hx h4 ho (fun a5 w5 It5 vo5 o f5 h5 => ?_))))))))))
  exact rest a5 w5 It5 va4 vo5 e m o f5.toA h5

theorem ow_al (hf : OwA a p va vo 0) (hn : n = xs.length) (hP : ParseAt w0 p n xs) (h : OwAS w0 w It p vl vc xs va vo [] [])
    (rest : ∀ a' w' It' va' vo' vals vos, vals.length = 6 → vos.length = 3 → OwA a' p va' vo' 3 → OwAS w0 w' It' p vl vc xs va' vo' vals vos → K a' w') : owAl.wp Tryd.prog (Exit.inBlock 0 (Exit.then K Q)) a w := by
  show (Code.loop (Code.seq owAt (Code.seq owAb owAs))).wp Tryd.prog (Exit.inBlock 0 (Exit.then K Q)) a w
  refine wp_loop (fun a' w' => ∃ (k : Nat) (It : Nat → Item) (va vo : Value) (vals vos : List Value), k ≤ 3 ∧ vals.length = 2 * k ∧ vos.length = k ∧ OwA a' p va vo (k : Int) ∧ OwAS w0 w' It p vl vc xs va vo vals vos) (fun a' _ => 3 - (intOf (a'.tmps.getD 10 undef)).toNat) ⟨0, _, _, _, _, _, by omega, rfl, rfl, hf, h⟩ ?_
  rintro a' w' ⟨k, It, va, vo, vals, vos, hk, hv, ho, hf', h'⟩
  refine wp_seq (ow_at hf' (fun a1 hlt hf1 => ?_) (fun a1 hge hf1 => ?_))
  · refine wp_seq (ow_ab hf1 hn hP h' (by omega) (by omega) (fun a2 w2 It2 va2 vo2 e m o hf2 h2 => ow_as hf2 (by omega) (fun a3 hf3 => ⟨⟨k + 1, It2, va2, vo2, _, _, by omega, ?_, ?_, hf3, h2⟩, ?_⟩)))
    · rw [List.length_append, hv]
      show 2 * k + 2 = 2 * (k + 1)
      omega
    · rw [List.length_append, ho]
      rfl
    · show 3 - (intOf (a3.tmps.getD 10 undef)).toNat < 3 - (intOf (a'.tmps.getD 10 undef)).toNat
      rw [getD_of hf3.s10, getD_of hf'.s10]
      simp only [intOf]
      omega
  · obtain rfl : k = 3 := by omega
    exact out_loop (rest _ _ _ _ _ _ _ (by omega) ho hf1 h')

end

end Go.Proofs.YthpflfcgnaichaaDoor

set_option linter.unusedVariables false
set_option linter.unusedSimpArgs false
namespace Go.Proofs.YthpflfcgnaichaaDoor
open Go Go.RowKit

/-- The memory while marks are written: entries up to (i, k), numbers up to (i2, k2). -/
structure OwBS (w0 w : World) (It : Nat → Item) (p : OP) (q : OQ) (vl vc : Value) (xs : List Ent) (vals vos : List Value) (i k i2 k2 : Nat) : Prop where
  m : OwL w0 w It p vl vc xs
  ra : It 0 = rowItem 25 1 (.slice (some ⟨q.ga, 0, none⟩) q.na q.ca) q.na vals
  ro : It 1 = rowItem 44 1 (.slice (some ⟨q.go, 0, none⟩) q.no q.co) q.no vos
  a : Lst It 10 38 15 mkE vals i k
  o : Lst It 20 3 1 mkI vos i2 k2
  na : q.na = 6
  no : q.no = 3

section
variable {w0 w : World} {It : Nat → Item} {p : OP} {q : OQ} {vl vc : Value} {xs : List Ent} {vals vos : List Value} {i k i2 k2 : Nat}

theorem OwBS.rows (h : OwBS w0 w It p q vl vc xs vals vos i k i2 k2) : w.ownsRow 0 25 1 (.slice (some ⟨q.ga, 0, none⟩) q.na q.ca) q.na vals ∧ w.ownsRow 0 44 1 (.slice (some ⟨q.go, 0, none⟩) q.no q.co) q.no vos := by
  have h1 := h.m.bg.bag.holds 0
  have h2 := h.m.bg.bag.holds 1
  rw [h.ra] at h1
  rw [h.ro] at h2
  exact ⟨h1, h2⟩

theorem OwBS.lens (h : OwBS w0 w It p q vl vc xs vals vos i k i2 k2) : vals.length = q.na ∧ vos.length = q.no := by
  have h1 := h.rows.1.1
  have h2 := h.rows.2.1
  omega

theorem OwBS.cellA (h : OwBS w0 w It p q vl vc xs vals vos i k i2 k2) {j : Nat} {v : Value} (hj : vals[j]? = some v) : w.cell? ⟨q.ga, j, none⟩ = some v := row_cell1 h.rows.1 hj
theorem OwBS.cellO (h : OwBS w0 w It p q vl vc xs vals vos i k i2 k2) {j : Nat} {v : Value} (hj : vos[j]? = some v) : w.cell? ⟨q.go, j, none⟩ = some v := row_cell1 h.rows.2 hj

theorem OwBS.markA (h : OwBS w0 w It p q vl vc xs vals vos i k i2 k2) {g n c : Nat} (hj : vals[i]? = some (.slice (some ⟨g, 0, none⟩) n c)) (hk : k < n) : ∃ It', OwBS w0 (w.setCells g (k * 15) (mkE i)) It' p q vl vc xs vals vos i (k + 1) i2 k2 := by
  obtain ⟨x, hb, hl⟩ := h.a.mark h.m.bg rfl hj hk
  have h1 := h.lens
  have h2 := (List.getElem?_eq_some_iff.1 hj).1
  have h3 := h.na
  exact ⟨_, h.m.put hb (by omega) (by omega), by rw [upd_ne _ _ (by omega)]; exact h.ra, by rw [upd_ne _ _ (by omega)]; exact h.ro, hl, h.o.other _ _ (fun j _ => by omega), h.na, h.no⟩

theorem OwBS.markO (h : OwBS w0 w It p q vl vc xs vals vos i k i2 k2) {g n c : Nat} (hj : vos[i2]? = some (.slice (some ⟨g, 0, none⟩) n c)) (hk : k2 < n) : ∃ It', OwBS w0 (w.setCell ⟨g, k2, none⟩ (.int .i64 (-(i2 : Int) - 1))) It' p q vl vc xs vals vos i k i2 (k2 + 1) := by
  obtain ⟨x, hb, hl⟩ := h.o.mark h.m.bg rfl hj hk
  rw [Nat.mul_one] at hb
  have h1 := h.lens
  have h2 := (List.getElem?_eq_some_iff.1 hj).1
  have h3 := h.na
  exact ⟨_, h.m.put hb (by omega) (by omega), by rw [upd_ne _ _ (by omega)]; exact h.ra, by rw [upd_ne _ _ (by omega)]; exact h.ro, h.a.other _ _ (fun j _ => by omega), hl, h.na, h.no⟩

end

theorem neg_mark {i : Nat} (h : i < 65537) : IntKind.i64.wrap (IntKind.i64.wrap (-(i : Int)) - 1) = -(i : Int) - 1 := by
  rw [IntKind.wrap_i64, IntKind.wrap_i64]
  omega

/-- What a list of numbers lets be written. -/
theorem one_there {w : World} {g k : Nat} (h : w.there g (k * 1) 1) : (∃ u, w.cell? ⟨g, k, none⟩ = some u) ∧ w.frozen? ⟨g, k, none⟩ = false := by
  have h1 := h 0 (by decide)
  rw [Nat.mul_one, Nat.add_zero] at h1
  exact ⟨Option.isSome_iff_exists.1 h1.1, h1.2⟩

section
variable {w0 w : World} {It : Nat → Item} {p : OP} {q : OQ} {vl vc : Value} {xs : List Ent} {vals vos : List Value} {K : Act → World → Prop} {Q : Exit → Act → World → Prop} {a : Act}


/-! Stage B -/

set_option maxRecDepth 100000 in
set_option maxHeartbeats 4000000 in
theorem owB_w {ao : Option Addr} {n c i k : Nat} (hf : OwM2 a p q (i : Int) (k : Int)) (h : OwBS w0 w It p q vl vc xs vals vos i k 0 0) (hi : i < 6) (hv : vals[i]? = some (.slice ao n c)) (hk : k < n)
    (rest : ∀ a' w' It', OwM2 a' p q (i : Int) (k : Int) → OwBS w0 w' It' p q vl vc xs vals vos i (k + 1) 0 0 → K a' w') : owBw.wp Tryd.prog (Exit.then K Q) a w := by
  refine wp_cut (fun a' w' => ∃ It', OwM2 a' p q (i : Int) (k : Int) ∧ OwBS w0 w' It' p q vl vc xs vals vos i (k + 1) 0 0) (fun a' w' ⟨It', h1, h2⟩ => rest a' w' It' h1 h2) ?_
  clear rest
  intro J K' hJ hK
  refine wp_calm ?_
  obtain ⟨vv, rfl⟩ := hf.shape
  clear hf
  dsimp only [owBw, ncl, ncr, ncb, nco, nct, nce, ncx, Tryd.f8]
  have y0 := h.cellA hv
  have b0 : (i : Int) < (q.na : Int) := by have h1 := h.na; have h2 := h.no; omega
  obtain ⟨ao, n', c', hv', hn60, hrow⟩ := h.a.row h.m.bg hv
  simp only [Value.slice.injEq] at hv'
  obtain ⟨rfl, rfl, rfl⟩ := hv'
  obtain ⟨g, rfl, _, _, ht⟩ := hrow (by omega)
  have Ht := Lib.hid (show w.there g (k * 15) (#[Value.int .i64 (-(i : Int) - 1), .int .i64 0, .int .i64 0, .string ⟨#[]⟩, .string ⟨#[]⟩, .string ⟨#[]⟩, .int .u64 0, .int .u64 0, .int .i64 0, .int .i64 0, .string ⟨#[]⟩, .int .i64 0, .string ⟨#[]⟩, .string ⟨#[]⟩, .int .i64 0] : Array Value).size from ht k hk)
  have Hi := Lib.hid (show (Tryd.prog.info? 38).map (·.size) = some (#[Value.int .i64 (-(i : Int) - 1), .int .i64 0, .int .i64 0, .string ⟨#[]⟩, .string ⟨#[]⟩, .string ⟨#[]⟩, .int .u64 0, .int .u64 0, .int .i64 0, .int .i64 0, .string ⟨#[]⟩, .int .i64 0, .string ⟨#[]⟩, .string ⟨#[]⟩, .int .i64 0] : Array Value).size by kernel_rfl)
  have Hfin := Lib.hid (h.markA hv hk)
  have b1 : (k : Int) < (n : Int) := by omega
  have Hng := Lib.hid (neg_mark (show i < 65537 by omega))
  clear h ht hrow hv hk hi hn60
  refine wp_region_lit ?_
  iterate 8 (refine wpList_plain rfl fun K1 hK1 => ?_; go_simp; refine hK1 _ _ ?_; clear hK1 K1)
  rw [Hng.out]
  iterate 2 (refine wpList_plain rfl fun K1 hK1 => ?_; go_simp; refine hK1 _ _ ?_; clear hK1 K1)
  refine wpList_store_mid rfl 38 _ _ rfl g (k * 15) #[.int .i64 (-(i : Int) - 1), .int .i64 0, .int .i64 0, .string ⟨#[]⟩, .string ⟨#[]⟩, .string ⟨#[]⟩, .int .u64 0, .int .u64 0, .int .i64 0, .int .i64 0, .string ⟨#[]⟩, .int .i64 0, .string ⟨#[]⟩, .string ⟨#[]⟩, .int .i64 0] rfl rfl Ht.out Hi.out (all_oneCell_toArray (cells_one (markE (-(i : Int) - 1)))) ?_
  refine wpList_nil ?_
  refine hK _ _ ?_
  obtain ⟨It', h'⟩ := Hfin.out
  exact Met.intro (hJ _ _ ⟨_, ⟨rfl, rfl, rfl, rfl, rfl, rfl, rfl, rfl, rfl, rfl⟩, h'⟩)

set_option maxRecDepth 100000 in
set_option maxHeartbeats 4000000 in
theorem owB_i {i : Nat} (hf : OwM1 a p q (i : Int)) (rest : ∀ a', OwM2 a' p q (i : Int) ((0 : Nat) : Int) → K a' w) : owBi.wp Tryd.prog (Exit.then K Q) a w := by
  refine wp_cut (fun a' w' => OwM2 a' p q (i : Int) ((0 : Nat) : Int) ∧ w' = w) (fun a' w' ⟨h, e⟩ => by subst e; exact rest a' h) ?_
  clear rest
  intro J K' hJ hK
  refine wp_calm ?_
  obtain ⟨vv, rfl⟩ := hf.shape
  clear hf
  dsimp only [owBi, ncl, ncr, ncb, nco, nct, nce, ncx, Tryd.f8]
  go_wp2
  exact Met.intro (hJ _ _ ⟨⟨rfl, rfl, rfl, rfl, rfl, rfl, rfl, rfl, rfl, rfl⟩, rfl⟩)

set_option maxRecDepth 100000 in
set_option maxHeartbeats 4000000 in
theorem owB_u {ao : Option Addr} {n c i k : Nat} (hf : OwM2 a p q (i : Int) (k : Int)) (hc : w.cell? ⟨q.ga, i, none⟩ = some (.slice ao n c)) (hi : i < q.na)
    (rest : ∀ a', k < n → OwM2 a' p q (i : Int) (k : Int) → K a' w) (out : ∀ a', n ≤ k → OwM2 a' p q (i : Int) (k : Int) → Q (.exit 4) a' w) : owBu.wp Tryd.prog (Exit.then K Q) a w := by
  obtain ⟨vv, rfl⟩ := hf.shape
  clear hf
  dsimp only [owBu, ncl, ncr, ncb, nco, nct, nce, ncx, Tryd.f8]
  have b0 : (i : Int) < (q.na : Int) := by omega
  by_cases hk : k < n
  · have Hr := Lib.hid (fun a' h => rest a' hk h)
    have b1 : (k : Int) < (n : Int) := by omega
    clear rest out hk hi
    go_wp2
    exact Hr.out _ ⟨rfl, rfl, rfl, rfl, rfl, rfl, rfl, rfl, rfl, rfl⟩
  · have Hr := Lib.hid (fun a' h => out a' (by omega) h)
    have b1 : (n : Int) ≤ (k : Int) := by omega
    clear rest out hk hi
    go_wp2
    exact Hr.out _ ⟨rfl, rfl, rfl, rfl, rfl, rfl, rfl, rfl, rfl, rfl⟩

set_option maxRecDepth 100000 in
set_option maxHeartbeats 4000000 in
theorem owB_v {i k : Nat} (hf : OwM2 a p q (i : Int) (k : Int)) (hk : k < 65537) (rest : ∀ a', OwM2 a' p q (i : Int) ((k + 1 : Nat) : Int) → K a' w) : owBv.wp Tryd.prog (Exit.then K Q) a w := by
  refine wp_cut (fun a' w' => OwM2 a' p q (i : Int) ((k + 1 : Nat) : Int) ∧ w' = w) (fun a' w' ⟨h, e⟩ => by subst e; exact rest a' h) ?_
  clear rest
  intro J K' hJ hK
  refine wp_calm ?_
  obtain ⟨vv, rfl⟩ := hf.shape
  clear hf
  dsimp only [owBv, ncl, ncr, ncb, nco, nct, nce, ncx, Tryd.f8]
  have Hop := Lib.hid (go_step (wrap_small hk))
  clear hk
  go_wp2
  exact Met.intro (hJ _ _ ⟨⟨rfl, rfl, rfl, rfl, rfl, rfl, rfl, rfl, rfl, congrArg some Hop.out⟩, rfl⟩)

set_option maxRecDepth 100000 in
set_option maxHeartbeats 4000000 in
theorem owB_t {i : Nat} (hf : OwM1 a p q (i : Int)) (rest : ∀ a', i < q.na → OwM1 a' p q (i : Int) → K a' w) (out : ∀ a', q.na ≤ i → OwM1 a' p q (i : Int) → Q (.exit 2) a' w) : owBt.wp Tryd.prog (Exit.then K Q) a w := by
  obtain ⟨vv, rfl⟩ := hf.shape
  clear hf
  dsimp only [owBt, ncl, ncr, ncb, nco, nct, nce, ncx, Tryd.f8]
  by_cases hk : i < q.na
  · have Hr := Lib.hid (fun a' h => rest a' hk h)
    have b1 : (i : Int) < (q.na : Int) := by omega
    clear rest out hk
    go_wp2
    exact Hr.out _ ⟨rfl, rfl, rfl, rfl, rfl, rfl, rfl, rfl, rfl⟩
  · have Hr := Lib.hid (fun a' h => out a' (by omega) h)
    have b1 : (q.na : Int) ≤ (i : Int) := by omega
    clear rest out hk
    go_wp2
    exact Hr.out _ ⟨rfl, rfl, rfl, rfl, rfl, rfl, rfl, rfl, rfl⟩

set_option maxRecDepth 100000 in
set_option maxHeartbeats 4000000 in
theorem owB_s {i : Nat} (hf : OwM1 a p q (i : Int)) (hk : i < 65537) (rest : ∀ a', OwM1 a' p q ((i + 1 : Nat) : Int) → K a' w) : owBs.wp Tryd.prog (Exit.then K Q) a w := by
  refine wp_cut (fun a' w' => OwM1 a' p q ((i + 1 : Nat) : Int) ∧ w' = w) (fun a' w' ⟨h, e⟩ => by subst e; exact rest a' h) ?_
  clear rest
  intro J K' hJ hK
  refine wp_calm ?_
  obtain ⟨vv, rfl⟩ := hf.shape
  clear hf
  dsimp only [owBs, ncl, ncr, ncb, nco, nct, nce, ncx, Tryd.f8]
  have Hop := Lib.hid (go_step (wrap_small hk))
  clear hk
  go_wp2
  exact Met.intro (hJ _ _ ⟨⟨rfl, rfl, rfl, rfl, rfl, rfl, rfl, rfl, congrArg some Hop.out⟩, rfl⟩)

set_option maxRecDepth 100000 in
set_option maxHeartbeats 4000000 in
theorem owB_0 (hf : OwS a p q) (rest : ∀ a', OwM1 a' p q ((0 : Nat) : Int) → K a' w) : owB0.wp Tryd.prog (Exit.then K Q) a w := by
  refine wp_cut (fun a' w' => OwM1 a' p q ((0 : Nat) : Int) ∧ w' = w) (fun a' w' ⟨h, e⟩ => by subst e; exact rest a' h) ?_
  clear rest
  intro J K' hJ hK
  refine wp_calm ?_
  obtain ⟨vv, rfl⟩ := hf.shape
  clear hf
  dsimp only [owB0, ncl, ncr, ncb, nco, nct, nce, ncx, Tryd.f8]
  go_wp2
  exact Met.intro (hJ _ _ ⟨⟨rfl, rfl, rfl, rfl, rfl, rfl, rfl, rfl, rfl⟩, rfl⟩)

theorem owB_m {i : Nat} (hf : OwM2 a p q (i : Int) ((0 : Nat) : Int)) (h : OwBS w0 w It p q vl vc xs vals vos i 0 0 0) (hi : i < 6)
    (rest : ∀ a' w' It', OwM1 a' p q (i : Int) → OwBS w0 w' It' p q vl vc xs vals vos (i + 1) 0 0 0 → K a' w') : owBm.wp Tryd.prog (Exit.inBlock 4 (Exit.then K Q)) a w := by
  have hi2 : i < vals.length := by have h1 := h.lens.1; have h2 := h.na; have h3 := h.no; omega
  obtain ⟨v, hv⟩ : ∃ v, vals[i]? = some v := ⟨_, List.getElem?_eq_getElem hi2⟩
  obtain ⟨ao, n, c, rfl, hn, _⟩ := h.a.row h.m.bg hv
  show (Code.loop (Code.seq owBu (Code.seq owBc owBv))).wp Tryd.prog (Exit.inBlock 4 (Exit.then K Q)) a w
  refine wp_loop (fun a' w' => ∃ (k : Nat) (It : Nat → Item), k ≤ n ∧ OwM2 a' p q (i : Int) (k : Int) ∧ OwBS w0 w' It p q vl vc xs vals vos i k 0 0) (fun a' _ => n - (intOf (a'.tmps.getD 16 undef)).toNat) ⟨0, _, Nat.zero_le _, hf, h⟩ ?_
  rintro a' w' ⟨k, It, hk, hf', h'⟩
  refine wp_seq (owB_u hf' (h'.cellA hv) (by have h1 := h.na; have h2 := h.no; omega) (fun a1 hlt hf1 => ?_) (fun a1 hge hf1 => ?_))
  · show (Code.seq (Code.block 5 owBw) owBv).wp Tryd.prog _ a1 w'
    refine wp_seq (in_block (owB_w hf1 h' hi hv hlt (fun a2 w2 It2 hf2 h2 => owB_v hf2 (by omega) (fun a3 hf3 => ⟨⟨k + 1, It2, hlt, hf3, h2⟩, ?_⟩))))
    show n - (intOf (a3.tmps.getD 16 undef)).toNat < n - (intOf (a'.tmps.getD 16 undef)).toNat
    rw [getD_of hf3.s16, getD_of hf'.s16]
    simp only [intOf]
    omega
  · exact out_loop (rest _ _ _ hf1.to1 { h' with a := h'.a.next hv hge })

theorem owB_b {i : Nat} (hf : OwM1 a p q (i : Int)) (h : OwBS w0 w It p q vl vc xs vals vos i 0 0 0) (hi : i < 6)
    (rest : ∀ a' w' It', OwM1 a' p q (i : Int) → OwBS w0 w' It' p q vl vc xs vals vos (i + 1) 0 0 0 → K a' w') : owBb.wp Tryd.prog (Exit.then K Q) a w := by
  show (Code.block 3 (Code.seq owBi (Code.block 4 owBm))).wp Tryd.prog (Exit.then K Q) a w
  refine in_block (wp_seq (owB_i hf (fun a1 f1 => wp_block (owB_m f1 h hi (fun a2 w2 It2 f2 h2 => rest a2 w2 It2 f2 h2)))))

theorem owB_l (hf : OwM1 a p q ((0 : Nat) : Int)) (h : OwBS w0 w It p q vl vc xs vals vos 0 0 0 0)
    (rest : ∀ a' w' It', OwS a' p q → OwBS w0 w' It' p q vl vc xs vals vos 6 0 0 0 → K a' w') : owBl.wp Tryd.prog (Exit.inBlock 2 (Exit.then K Q)) a w := by
  show (Code.loop (Code.seq owBt (Code.seq owBb owBs))).wp Tryd.prog (Exit.inBlock 2 (Exit.then K Q)) a w
  refine wp_loop (fun a' w' => ∃ (i : Nat) (It : Nat → Item), i ≤ 6 ∧ OwM1 a' p q (i : Int) ∧ OwBS w0 w' It p q vl vc xs vals vos i 0 0 0) (fun a' _ => 6 - (intOf (a'.tmps.getD 15 undef)).toNat) ⟨0, _, Nat.zero_le _, hf, h⟩ ?_
  rintro a' w' ⟨i, It, hi, hf', h'⟩
  have hN : q.na = 6 := by have h1 := h.na; have h2 := h.no; omega
  refine wp_seq (owB_t hf' (fun a1 hlt hf1 => ?_) (fun a1 hge hf1 => ?_))
  · refine wp_seq (owB_b hf1 h' (by omega) (fun a2 w2 It2 hf2 h2 => owB_s hf2 (by omega) (fun a3 hf3 => ⟨⟨i + 1, It2, by omega, hf3, h2⟩, ?_⟩)))
    show 6 - (intOf (a3.tmps.getD 15 undef)).toNat < 6 - (intOf (a'.tmps.getD 15 undef)).toNat
    rw [getD_of hf3.s15, getD_of hf'.s15]
    simp only [intOf]
    omega
  · obtain rfl : i = 6 := by omega
    exact out_loop (rest _ _ _ hf1.toS h')

theorem owB_all (hf : OwS a p q) (h : OwBS w0 w It p q vl vc xs vals vos 0 0 0 0) (rest : ∀ a' w' It', OwS a' p q → OwBS w0 w' It' p q vl vc xs vals vos 6 0 0 0 → K a' w') : owB.wp Tryd.prog (Exit.then K Q) a w := by
  show (Code.seq owB0 (Code.block 2 owBl)).wp Tryd.prog (Exit.then K Q) a w
  exact wp_seq (owB_0 hf (fun a1 f1 => wp_block (owB_l f1 h rest)))


/-! Stage C -/

set_option maxRecDepth 100000 in
set_option maxHeartbeats 4000000 in
theorem owC_w {ao : Option Addr} {n c i k : Nat} (hf : OwM4 a p q (i : Int) (k : Int)) (h : OwBS w0 w It p q vl vc xs vals vos 6 0 i k) (hi : i < 3) (hv : vos[i]? = some (.slice ao n c)) (hk : k < n)
    (rest : ∀ a' w' It', OwM4 a' p q (i : Int) (k : Int) → OwBS w0 w' It' p q vl vc xs vals vos 6 0 i (k + 1) → K a' w') : owCw.wp Tryd.prog (Exit.then K Q) a w := by
  refine wp_cut (fun a' w' => ∃ It', OwM4 a' p q (i : Int) (k : Int) ∧ OwBS w0 w' It' p q vl vc xs vals vos 6 0 i (k + 1)) (fun a' w' ⟨It', h1, h2⟩ => rest a' w' It' h1 h2) ?_
  clear rest
  intro J K' hJ hK
  refine wp_calm ?_
  obtain ⟨vv, rfl⟩ := hf.shape
  clear hf
  dsimp only [owCw, ncl, ncr, ncb, nco, nct, nce, ncx, Tryd.f8]
  have y0 := h.cellO hv
  have b0 : (i : Int) < (q.no : Int) := by have h1 := h.na; have h2 := h.no; omega
  obtain ⟨ao, n', c', hv', hn60, hrow⟩ := h.o.row h.m.bg hv
  simp only [Value.slice.injEq] at hv'
  obtain ⟨rfl, rfl, rfl⟩ := hv'
  obtain ⟨g, rfl, _, _, ht⟩ := hrow (by omega)
  obtain ⟨⟨u, hu⟩, hfz⟩ := one_there (ht k hk)
  have Hfin := Lib.hid (h.markO hv hk)
  have b1 : (k : Int) < (n : Int) := by omega
  have Hng := Lib.hid (neg_mark (show i < 65537 by omega))
  clear h ht hrow hv hk hi hn60
  refine wp_region_lit ?_
  iterate 8 (refine wpList_plain rfl fun K1 hK1 => ?_; go_simp; refine hK1 _ _ ?_; clear hK1 K1)
  rw [Hng.out]
  iterate 2 (refine wpList_plain rfl fun K1 hK1 => ?_; go_simp; refine hK1 _ _ ?_; clear hK1 K1)
  refine wpList_nil ?_
  refine hK _ _ ?_
  obtain ⟨It', h'⟩ := Hfin.out
  exact Met.intro (hJ _ _ ⟨_, ⟨rfl, rfl, rfl, rfl, rfl, rfl, rfl, rfl, rfl, rfl⟩, h'⟩)

set_option maxRecDepth 100000 in
set_option maxHeartbeats 4000000 in
theorem owC_i {i : Nat} (hf : OwM3 a p q (i : Int)) (rest : ∀ a', OwM4 a' p q (i : Int) ((0 : Nat) : Int) → K a' w) : owCi.wp Tryd.prog (Exit.then K Q) a w := by
  refine wp_cut (fun a' w' => OwM4 a' p q (i : Int) ((0 : Nat) : Int) ∧ w' = w) (fun a' w' ⟨h, e⟩ => by subst e; exact rest a' h) ?_
  clear rest
  intro J K' hJ hK
  refine wp_calm ?_
  obtain ⟨vv, rfl⟩ := hf.shape
  clear hf
  dsimp only [owCi, ncl, ncr, ncb, nco, nct, nce, ncx, Tryd.f8]
  go_wp2
  exact Met.intro (hJ _ _ ⟨⟨rfl, rfl, rfl, rfl, rfl, rfl, rfl, rfl, rfl, rfl⟩, rfl⟩)

set_option maxRecDepth 100000 in
set_option maxHeartbeats 4000000 in
theorem owC_u {ao : Option Addr} {n c i k : Nat} (hf : OwM4 a p q (i : Int) (k : Int)) (hc : w.cell? ⟨q.go, i, none⟩ = some (.slice ao n c)) (hi : i < q.no)
    (rest : ∀ a', k < n → OwM4 a' p q (i : Int) (k : Int) → K a' w) (out : ∀ a', n ≤ k → OwM4 a' p q (i : Int) (k : Int) → Q (.exit 8) a' w) : owCu.wp Tryd.prog (Exit.then K Q) a w := by
  obtain ⟨vv, rfl⟩ := hf.shape
  clear hf
  dsimp only [owCu, ncl, ncr, ncb, nco, nct, nce, ncx, Tryd.f8]
  have b0 : (i : Int) < (q.no : Int) := by omega
  by_cases hk : k < n
  · have Hr := Lib.hid (fun a' h => rest a' hk h)
    have b1 : (k : Int) < (n : Int) := by omega
    clear rest out hk hi
    go_wp2
    exact Hr.out _ ⟨rfl, rfl, rfl, rfl, rfl, rfl, rfl, rfl, rfl, rfl⟩
  · have Hr := Lib.hid (fun a' h => out a' (by omega) h)
    have b1 : (n : Int) ≤ (k : Int) := by omega
    clear rest out hk hi
    go_wp2
    exact Hr.out _ ⟨rfl, rfl, rfl, rfl, rfl, rfl, rfl, rfl, rfl, rfl⟩

set_option maxRecDepth 100000 in
set_option maxHeartbeats 4000000 in
theorem owC_v {i k : Nat} (hf : OwM4 a p q (i : Int) (k : Int)) (hk : k < 65537) (rest : ∀ a', OwM4 a' p q (i : Int) ((k + 1 : Nat) : Int) → K a' w) : owCv.wp Tryd.prog (Exit.then K Q) a w := by
  refine wp_cut (fun a' w' => OwM4 a' p q (i : Int) ((k + 1 : Nat) : Int) ∧ w' = w) (fun a' w' ⟨h, e⟩ => by subst e; exact rest a' h) ?_
  clear rest
  intro J K' hJ hK
  refine wp_calm ?_
  obtain ⟨vv, rfl⟩ := hf.shape
  clear hf
  dsimp only [owCv, ncl, ncr, ncb, nco, nct, nce, ncx, Tryd.f8]
  have Hop := Lib.hid (go_step (wrap_small hk))
  clear hk
  go_wp2
  exact Met.intro (hJ _ _ ⟨⟨rfl, rfl, rfl, rfl, rfl, rfl, rfl, rfl, rfl, congrArg some Hop.out⟩, rfl⟩)

set_option maxRecDepth 100000 in
set_option maxHeartbeats 4000000 in
theorem owC_t {i : Nat} (hf : OwM3 a p q (i : Int)) (rest : ∀ a', i < q.no → OwM3 a' p q (i : Int) → K a' w) (out : ∀ a', q.no ≤ i → OwM3 a' p q (i : Int) → Q (.exit 6) a' w) : owCt.wp Tryd.prog (Exit.then K Q) a w := by
  obtain ⟨vv, rfl⟩ := hf.shape
  clear hf
  dsimp only [owCt, ncl, ncr, ncb, nco, nct, nce, ncx, Tryd.f8]
  by_cases hk : i < q.no
  · have Hr := Lib.hid (fun a' h => rest a' hk h)
    have b1 : (i : Int) < (q.no : Int) := by omega
    clear rest out hk
    go_wp2
    exact Hr.out _ ⟨rfl, rfl, rfl, rfl, rfl, rfl, rfl, rfl, rfl⟩
  · have Hr := Lib.hid (fun a' h => out a' (by omega) h)
    have b1 : (q.no : Int) ≤ (i : Int) := by omega
    clear rest out hk
    go_wp2
    exact Hr.out _ ⟨rfl, rfl, rfl, rfl, rfl, rfl, rfl, rfl, rfl⟩

set_option maxRecDepth 100000 in
set_option maxHeartbeats 4000000 in
theorem owC_s {i : Nat} (hf : OwM3 a p q (i : Int)) (hk : i < 65537) (rest : ∀ a', OwM3 a' p q ((i + 1 : Nat) : Int) → K a' w) : owCs.wp Tryd.prog (Exit.then K Q) a w := by
  refine wp_cut (fun a' w' => OwM3 a' p q ((i + 1 : Nat) : Int) ∧ w' = w) (fun a' w' ⟨h, e⟩ => by subst e; exact rest a' h) ?_
  clear rest
  intro J K' hJ hK
  refine wp_calm ?_
  obtain ⟨vv, rfl⟩ := hf.shape
  clear hf
  dsimp only [owCs, ncl, ncr, ncb, nco, nct, nce, ncx, Tryd.f8]
  have Hop := Lib.hid (go_step (wrap_small hk))
  clear hk
  go_wp2
  exact Met.intro (hJ _ _ ⟨⟨rfl, rfl, rfl, rfl, rfl, rfl, rfl, rfl, congrArg some Hop.out⟩, rfl⟩)

set_option maxRecDepth 100000 in
set_option maxHeartbeats 4000000 in
theorem owC_0 (hf : OwS a p q) (rest : ∀ a', OwM3 a' p q ((0 : Nat) : Int) → K a' w) : owC0.wp Tryd.prog (Exit.then K Q) a w := by
  refine wp_cut (fun a' w' => OwM3 a' p q ((0 : Nat) : Int) ∧ w' = w) (fun a' w' ⟨h, e⟩ => by subst e; exact rest a' h) ?_
  clear rest
  intro J K' hJ hK
  refine wp_calm ?_
  obtain ⟨vv, rfl⟩ := hf.shape
  clear hf
  dsimp only [owC0, ncl, ncr, ncb, nco, nct, nce, ncx, Tryd.f8]
  go_wp2
  exact Met.intro (hJ _ _ ⟨⟨rfl, rfl, rfl, rfl, rfl, rfl, rfl, rfl, rfl⟩, rfl⟩)

theorem owC_m {i : Nat} (hf : OwM4 a p q (i : Int) ((0 : Nat) : Int)) (h : OwBS w0 w It p q vl vc xs vals vos 6 0 i 0) (hi : i < 3)
    (rest : ∀ a' w' It', OwM3 a' p q (i : Int) → OwBS w0 w' It' p q vl vc xs vals vos 6 0 (i + 1) 0 → K a' w') : owCm.wp Tryd.prog (Exit.inBlock 8 (Exit.then K Q)) a w := by
  have hi2 : i < vos.length := by have h1 := h.lens.2; have h2 := h.na; have h3 := h.no; omega
  obtain ⟨v, hv⟩ : ∃ v, vos[i]? = some v := ⟨_, List.getElem?_eq_getElem hi2⟩
  obtain ⟨ao, n, c, rfl, hn, _⟩ := h.o.row h.m.bg hv
  show (Code.loop (Code.seq owCu (Code.seq owCc owCv))).wp Tryd.prog (Exit.inBlock 8 (Exit.then K Q)) a w
  refine wp_loop (fun a' w' => ∃ (k : Nat) (It : Nat → Item), k ≤ n ∧ OwM4 a' p q (i : Int) (k : Int) ∧ OwBS w0 w' It p q vl vc xs vals vos 6 0 i k) (fun a' _ => n - (intOf (a'.tmps.getD 18 undef)).toNat) ⟨0, _, Nat.zero_le _, hf, h⟩ ?_
  rintro a' w' ⟨k, It, hk, hf', h'⟩
  refine wp_seq (owC_u hf' (h'.cellO hv) (by have h1 := h.na; have h2 := h.no; omega) (fun a1 hlt hf1 => ?_) (fun a1 hge hf1 => ?_))
  · show (Code.seq (Code.block 9 owCw) owCv).wp Tryd.prog _ a1 w'
    refine wp_seq (in_block (owC_w hf1 h' hi hv hlt (fun a2 w2 It2 hf2 h2 => owC_v hf2 (by omega) (fun a3 hf3 => ⟨⟨k + 1, It2, hlt, hf3, h2⟩, ?_⟩))))
    show n - (intOf (a3.tmps.getD 18 undef)).toNat < n - (intOf (a'.tmps.getD 18 undef)).toNat
    rw [getD_of hf3.s18, getD_of hf'.s18]
    simp only [intOf]
    omega
  · exact out_loop (rest _ _ _ hf1.to3 { h' with o := h'.o.next hv hge })

theorem owC_b {i : Nat} (hf : OwM3 a p q (i : Int)) (h : OwBS w0 w It p q vl vc xs vals vos 6 0 i 0) (hi : i < 3)
    (rest : ∀ a' w' It', OwM3 a' p q (i : Int) → OwBS w0 w' It' p q vl vc xs vals vos 6 0 (i + 1) 0 → K a' w') : owCb.wp Tryd.prog (Exit.then K Q) a w := by
  show (Code.block 7 (Code.seq owCi (Code.block 8 owCm))).wp Tryd.prog (Exit.then K Q) a w
  refine in_block (wp_seq (owC_i hf (fun a1 f1 => wp_block (owC_m f1 h hi (fun a2 w2 It2 f2 h2 => rest a2 w2 It2 f2 h2)))))

theorem owC_l (hf : OwM3 a p q ((0 : Nat) : Int)) (h : OwBS w0 w It p q vl vc xs vals vos 6 0 0 0)
    (rest : ∀ a' w' It', OwS a' p q → OwBS w0 w' It' p q vl vc xs vals vos 6 0 3 0 → K a' w') : owCl.wp Tryd.prog (Exit.inBlock 6 (Exit.then K Q)) a w := by
  show (Code.loop (Code.seq owCt (Code.seq owCb owCs))).wp Tryd.prog (Exit.inBlock 6 (Exit.then K Q)) a w
  refine wp_loop (fun a' w' => ∃ (i : Nat) (It : Nat → Item), i ≤ 3 ∧ OwM3 a' p q (i : Int) ∧ OwBS w0 w' It p q vl vc xs vals vos 6 0 i 0) (fun a' _ => 3 - (intOf (a'.tmps.getD 17 undef)).toNat) ⟨0, _, Nat.zero_le _, hf, h⟩ ?_
  rintro a' w' ⟨i, It, hi, hf', h'⟩
  have hN : q.no = 3 := by have h1 := h.na; have h2 := h.no; omega
  refine wp_seq (owC_t hf' (fun a1 hlt hf1 => ?_) (fun a1 hge hf1 => ?_))
  · refine wp_seq (owC_b hf1 h' (by omega) (fun a2 w2 It2 hf2 h2 => owC_s hf2 (by omega) (fun a3 hf3 => ⟨⟨i + 1, It2, by omega, hf3, h2⟩, ?_⟩)))
    show 3 - (intOf (a3.tmps.getD 17 undef)).toNat < 3 - (intOf (a'.tmps.getD 17 undef)).toNat
    rw [getD_of hf3.s17, getD_of hf'.s17]
    simp only [intOf]
    omega
  · obtain rfl : i = 3 := by omega
    exact out_loop (rest _ _ _ hf1.toS h')

theorem owC_all (hf : OwS a p q) (h : OwBS w0 w It p q vl vc xs vals vos 6 0 0 0) (rest : ∀ a' w' It', OwS a' p q → OwBS w0 w' It' p q vl vc xs vals vos 6 0 3 0 → K a' w') : owC.wp Tryd.prog (Exit.then K Q) a w := by
  show (Code.seq owC0 (Code.block 6 owCl)).wp Tryd.prog (Exit.then K Q) a w
  exact wp_seq (owC_0 hf (fun a1 f1 => wp_block (owC_l f1 h rest)))

end

end Go.Proofs.YthpflfcgnaichaaDoor

set_option linter.unusedVariables false
set_option linter.unusedSimpArgs false
namespace Go.Proofs.YthpflfcgnaichaaDoor
open Go Go.RowKit

/-- The memory while the longer lists are made. -/
structure OwDS (w0 w : World) (It : Nat → Item) (p : OP) (q : OQ) (vl vc : Value) (xs : List Ent) (vals vos : List Value) (vL vW : Value) (longs lr wides wr : List Value) : Prop where
  m : OwL w0 w It p vl vc xs
  ra : It 0 = rowItem 25 1 (.slice (some ⟨q.ga, 0, none⟩) q.na q.ca) q.na vals
  ro : It 1 = rowItem 44 1 (.slice (some ⟨q.go, 0, none⟩) q.no q.co) q.no vos
  rl : It 6 = rowItem 25 1 vL lr.length lr
  rw : It 7 = rowItem 44 1 vW wr.length wr
  a : Lng It 10 38 15 mkE fiE vals longs
  o : Lng It 20 3 1 mkI fiI vos wides
  na : q.na = 6
  no : q.no = 3

section
variable {w0 w : World} {It : Nat → Item} {p : OP} {q : OQ} {vl vc : Value} {xs : List Ent} {vals vos : List Value} {vL vW : Value} {longs lr wides wr : List Value}

theorem OwDS.later (h : OwDS w0 w It p q vl vc xs vals vos vL vW longs lr wides wr) {w2 : World} (hb : Below w.heap.size w w2) : OwDS w0 w2 It p q vl vc xs vals vos vL vW longs lr wides wr := ⟨h.m.later hb, h.ra, h.ro, h.rl, h.rw, h.a, h.o, h.na, h.no⟩
theorem OwDS.alloc (h : OwDS w0 w It p q vl vc xs vals vos vL vW longs lr wides wr) (o : Obj) : OwDS w0 (w.alloc o) It p q vl vc xs vals vos vL vW longs lr wides wr := h.later ((Below.refl _ w).alloc (Nat.le_refl _) o)

theorem OwDS.rows (h : OwDS w0 w It p q vl vc xs vals vos vL vW longs lr wides wr) : w.ownsRow 0 25 1 (.slice (some ⟨q.ga, 0, none⟩) q.na q.ca) q.na vals ∧ w.ownsRow 0 44 1 (.slice (some ⟨q.go, 0, none⟩) q.no q.co) q.no vos ∧ w.ownsRow 0 25 1 vL lr.length lr ∧ w.ownsRow 0 44 1 vW wr.length wr := by
  have h1 := h.m.bg.bag.holds 0
  have h2 := h.m.bg.bag.holds 1
  have h3 := h.m.bg.bag.holds 6
  have h4 := h.m.bg.bag.holds 7
  rw [h.ra] at h1
  rw [h.ro] at h2
  rw [h.rl] at h3
  rw [h.rw] at h4
  exact ⟨h1, h2, h3, h4⟩

theorem OwDS.lens (h : OwDS w0 w It p q vl vc xs vals vos vL vW longs lr wides wr) : vals.length = 6 ∧ vos.length = 3 := by
  have h1 := h.rows.1.1
  have h2 := h.rows.2.1.1
  have := h.na
  have := h.no
  omega

theorem OwDS.cellA (h : OwDS w0 w It p q vl vc xs vals vos vL vW longs lr wides wr) {j : Nat} {v : Value} (hj : vals[j]? = some v) : w.cell? ⟨q.ga, j, none⟩ = some v := row_cell1 h.rows.1 hj
theorem OwDS.cellO (h : OwDS w0 w It p q vl vc xs vals vos vL vW longs lr wides wr) {j : Nat} {v : Value} (hj : vos[j]? = some v) : w.cell? ⟨q.go, j, none⟩ = some v := row_cell1 h.rows.2.1 hj

theorem OwBS.toD {i k i2 k2 : Nat} (h : OwBS w0 w It p q vl vc xs vals vos 6 0 3 0) : ∃ It', OwDS w0 w It' p q vl vc xs vals vos (.slice none 0 0) (.slice none 0 0) [] [] [] [] := by
  have hl := h.lens
  have h1 := h.na
  have h2 := h.no
  have p1 := h.m.put (h.m.bg.fresh 6 (Below.refl _ w) (World.ownsRow_nil w 0 25 1) nofun) (by omega) (by omega)
  have p2 := p1.put (p1.bg.fresh 7 (Below.refl _ w) (World.ownsRow_nil w 0 44 1) nofun) (by omega) (by omega)
  refine ⟨_, p2, ?_, ?_, ?_, ?_, ?_, ?_, h.na, h.no⟩
  · rw [upd_ne _ _ (by omega), upd_ne _ _ (by omega)]; exact h.ra
  · rw [upd_ne _ _ (by omega), upd_ne _ _ (by omega)]; exact h.ro
  · rw [upd_ne _ _ (by omega), upd_same]; rfl
  · rw [upd_same]; rfl
  · exact ((h.a.long (by omega) fiE).other _ _ (fun j _ => by omega)).other _ _ (fun j _ => by omega)
  · exact ((h.o.long (by omega) fiI).other _ _ (fun j _ => by omega)).other _ _ (fun j _ => by omega)

theorem OwDS.inA (h : OwDS w0 w It p q vl vc xs vals vos vL vW longs lr wides wr) {ao ao2 : Option Addr} {n c c2 : Nat} {w2 : World} {i : Nat} (hi : longs.length = i) (hj : vals[i]? = some (.slice ao n c))
    (h1 : w2.ownsRow 0 38 15 (.slice ao2 (n + 1) c2) (n + 1) ((List.replicate n (mkE i)).flatten ++ fiE i)) (h2 : w2.ownsRow 0 38 15 (.slice ao n c) n (List.replicate n (mkE i)).flatten)
    (hg : w.grownBy w2 (Value.slice ao n c).ownBlock) (hn : ∀ g, (Value.slice ao2 (n + 1) c2).ownBlock = some g → (Value.slice ao n c).ownBlock = some g ∨ w.heap.size ≤ g) :
    ∃ It', OwDS w0 w2 It' p q vl vc xs vals vos vL vW (longs ++ [.slice ao2 (n + 1) c2]) lr wides wr := by
  subst hi
  obtain ⟨x, hb, hl⟩ := h.a.app h.m.bg hj h1 h2 hg hn
  have h3 := h.lens
  have h4 := (List.getElem?_eq_some_iff.1 hj).1
  exact ⟨_, h.m.put hb (by omega) (by omega), by rw [upd_ne _ _ (by omega)]; exact h.ra, by rw [upd_ne _ _ (by omega)]; exact h.ro, by rw [upd_ne _ _ (by omega)]; exact h.rl, by rw [upd_ne _ _ (by omega)]; exact h.rw, hl, h.o.other _ _ (fun j _ => by omega), h.na, h.no⟩

theorem OwDS.inO (h : OwDS w0 w It p q vl vc xs vals vos vL vW longs lr wides wr) {ao ao2 : Option Addr} {n c c2 : Nat} {w2 : World} {i : Nat} (hi : wides.length = i) (hj : vos[i]? = some (.slice ao n c))
    (h1 : w2.ownsRow 0 3 1 (.slice ao2 (n + 1) c2) (n + 1) ((List.replicate n (mkI i)).flatten ++ fiI i)) (h2 : w2.ownsRow 0 3 1 (.slice ao n c) n (List.replicate n (mkI i)).flatten)
    (hg : w.grownBy w2 (Value.slice ao n c).ownBlock) (hn : ∀ g, (Value.slice ao2 (n + 1) c2).ownBlock = some g → (Value.slice ao n c).ownBlock = some g ∨ w.heap.size ≤ g) :
    ∃ It', OwDS w0 w2 It' p q vl vc xs vals vos vL vW longs lr (wides ++ [.slice ao2 (n + 1) c2]) wr := by
  subst hi
  obtain ⟨x, hb, hl⟩ := h.o.app h.m.bg hj h1 h2 hg hn
  have h3 := h.lens
  have h4 := (List.getElem?_eq_some_iff.1 hj).1
  exact ⟨_, h.m.put hb (by omega) (by omega), by rw [upd_ne _ _ (by omega)]; exact h.ra, by rw [upd_ne _ _ (by omega)]; exact h.ro, by rw [upd_ne _ _ (by omega)]; exact h.rl, by rw [upd_ne _ _ (by omega)]; exact h.rw, h.a.other _ _ (fun j _ => by omega), hl, h.na, h.no⟩

theorem OwDS.outA (h : OwDS w0 w It p q vl vc xs vals vos vL vW longs lr wides wr) {w2 : World} {o : Obj} {ar : Option Addr} {k cr : Nat} {x : Value}
    (hr : w2.ownsRow 0 25 1 (.slice ar k cr) k (lr ++ [x])) (hg : (w.alloc o).grownBy w2 vL.ownBlock) (hnew : ∀ g, (Value.slice ar k cr).ownBlock = some g → vL.ownBlock = some g ∨ (w.alloc o).heap.size ≤ g) :
    ∃ It', OwDS w0 w2 It' p q vl vc xs vals vos (.slice ar k cr) vW longs (lr ++ [x]) wides wr := by
  have hk : k = (lr ++ [x]).length := by have := hr.1; omega
  refine ⟨_, h.m.put (h.m.bg.grow 6 h.rl hg hr hnew) (by omega) (by omega), by rw [upd_ne _ _ (by omega)]; exact h.ra, by rw [upd_ne _ _ (by omega)]; exact h.ro, ?_, by rw [upd_ne _ _ (by omega)]; exact h.rw, h.a.other _ _ (fun j _ => by omega), h.o.other _ _ (fun j _ => by omega), h.na, h.no⟩
  rw [upd_same, ← hk]

theorem OwDS.outO (h : OwDS w0 w It p q vl vc xs vals vos vL vW longs lr wides wr) {w2 : World} {o : Obj} {ar : Option Addr} {k cr : Nat} {x : Value}
    (hr : w2.ownsRow 0 44 1 (.slice ar k cr) k (wr ++ [x])) (hg : (w.alloc o).grownBy w2 vW.ownBlock) (hnew : ∀ g, (Value.slice ar k cr).ownBlock = some g → vW.ownBlock = some g ∨ (w.alloc o).heap.size ≤ g) :
    ∃ It', OwDS w0 w2 It' p q vl vc xs vals vos vL (.slice ar k cr) longs lr wides (wr ++ [x]) := by
  have hk : k = (wr ++ [x]).length := by have := hr.1; omega
  refine ⟨_, h.m.put (h.m.bg.grow 7 h.rw hg hr hnew) (by omega) (by omega), by rw [upd_ne _ _ (by omega)]; exact h.ra, by rw [upd_ne _ _ (by omega)]; exact h.ro, by rw [upd_ne _ _ (by omega)]; exact h.rl, ?_, h.a.other _ _ (fun j _ => by omega), h.o.other _ _ (fun j _ => by omega), h.na, h.no⟩
  rw [upd_same, ← hk]

end

theorem fin_mark {i : Nat} (h : i < 65537) : IntKind.i64.wrap (100 + (i : Int)) = 100 + (i : Int) := by
  rw [IntKind.wrap_i64]
  omega

theorem intInfo0 : (Tryd.prog.info? 3).map (fun i => (i.zero, i.size, i.bytes)) = some (some (.int .i64 0), 1, 8) := by kernel_rfl

section
variable {w0 w : World} {It : Nat → Item} {p : OP} {q : OQ} {vl vc : Value} {xs : List Ent} {vals vos : List Value} {vL vW : Value} {longs wides : List Value} {K : Act → World → Prop} {Q : Exit → Act → World → Prop} {a : Act}

set_option maxRecDepth 100000 in
set_option maxHeartbeats 4000000 in
theorem ow_31 (hf : OwS a p q) (rest : ∀ a', OwT a' p q (.slice none 0 0) (.slice none 0 0) → K a' w) : (Code.seq ow31 ow32).wp Tryd.prog (Exit.then K Q) a w := by
  refine wp_cut (fun a' w' => OwT a' p q (.slice none 0 0) (.slice none 0 0) ∧ w' = w) (fun a' w' ⟨h, e⟩ => by subst e; exact rest a' h) ?_
  clear rest
  intro J K' hJ hK
  refine wp_calm ?_
  obtain ⟨vv, rfl⟩ := hf.shape
  clear hf
  dsimp only [ow31, ow32, ncl, ncr, ncb, nco, nct, nce, ncx, Tryd.f8]
  go_wp2
  exact Met.intro (hJ _ _ ⟨⟨rfl, rfl, rfl, rfl, rfl, rfl, rfl, rfl, rfl, rfl⟩, rfl⟩)


theorem one_new (w : World) (v : Value) (T : TypeId) : ∀ j u, [v][j]? = some u → (w.alloc (.cells #[v] T)).cell? ((⟨w.heap.size, 0, none⟩ : Addr).add j) = some u := by
  intro j u h
  rw [show ((⟨w.heap.size, 0, none⟩ : Addr).add j) = ⟨w.heap.size, j, none⟩ by unfold Addr.add; split <;> simp_all, World.cell?_alloc_new]
  simpa using h


/-! Stage D -/

set_option maxRecDepth 100000 in
set_option maxHeartbeats 4000000 in
theorem owD_w {i : Nat} (hf : OwL1 a p q vL vW (i : Int)) (h : OwDS w0 w It p q vl vc xs vals vos vL vW longs longs wides wides) (hi : longs.length = i) (hN : i < 6)
    (rest : ∀ a' w' It' V' x, OwL1 a' p q V' vW (i : Int) → OwDS w0 w' It' p q vl vc xs vals vos V' vW (longs ++ [x]) (longs ++ [x]) wides wides → K a' w') : (Code.block 11 owDw).wp Tryd.prog (Exit.then K Q) a w := by
  refine in_block ?_
  refine wp_cut (fun a' w' => ∃ It' V' x, OwL1 a' p q V' vW (i : Int) ∧ OwDS w0 w' It' p q vl vc xs vals vos V' vW (longs ++ [x]) (longs ++ [x]) wides wides) (fun a' w' ⟨It', V', x, h1, h2⟩ => rest a' w' It' V' x h1 h2) ?_
  clear rest
  intro J K' hJ hK
  refine wp_calm ?_
  obtain ⟨vv, rfl⟩ := hf.shape
  clear hf
  dsimp only [owDw, ncl, ncr, ncb, nco, nct, nce, ncx, Tryd.f8]
  have hi2 : i < vals.length := by have h1 := h.lens.1; omega
  obtain ⟨v, hv⟩ : ∃ v, vals[i]? = some v := ⟨_, List.getElem?_eq_getElem hi2⟩
  have hv2 := hv
  rw [← hi] at hv2
  obtain ⟨ao, n, c, rfl, hn, -, hrow⟩ := h.a.row h.m.bg hv2
  rw [hi] at hrow
  have y0 := h.cellA hv
  have b0 : (i : Int) < (q.na : Int) := by have h1 := h.na; have h2 := h.no; omega
  have Hng := Lib.hid (fin_mark (show i < 65537 by omega))
  have Hown := Lib.hid (show (w.alloc (.cells #[.int .i64 (100 + (i : Int)), .int .i64 0, .int .i64 0, .string ⟨#[]⟩, .string ⟨#[]⟩, .string ⟨#[]⟩, .int .u64 0, .int .u64 0, .int .i64 0, .int .i64 0, .string ⟨#[]⟩, .int .i64 0, .string ⟨#[]⟩, .string ⟨#[]⟩, .int .i64 0] 38)).ownsRow 0 38 15 (.slice ao n c) n (List.replicate n (mkE i)).flatten from World.ownsRow.alloc hrow _)
  have Hnews := Lib.hid (show ∀ j u, (fiE i)[j]? = some u → (w.alloc (.cells #[.int .i64 (100 + (i : Int)), .int .i64 0, .int .i64 0, .string ⟨#[]⟩, .string ⟨#[]⟩, .string ⟨#[]⟩, .int .u64 0, .int .u64 0, .int .i64 0, .int .i64 0, .string ⟨#[]⟩, .int .i64 0, .string ⟨#[]⟩, .string ⟨#[]⟩, .int .i64 0] 38)).cell? ((⟨w.heap.size, 0, none⟩ : Addr).add j) = some u from news_new w (markE (100 + (i : Int))) 38)
  have H1 := Lib.hid (show ∀ u ∈ fiE i, u.oneCell' = true from cells_one (markE (100 + (i : Int))))
  have H63 := Lib.hid (show n + 1 ≤ maxLen by unfold maxLen; omega)
  have H47 := Lib.hid (show (n + 1) * 168 ≤ 140737488355328 by omega)
  obtain ⟨nl, hnl⟩ : ∃ nl, nl = longs.length := ⟨_, rfl⟩
  have G63 := Lib.hid (show nl + 1 ≤ maxLen by unfold maxLen; omega)
  have G47 := Lib.hid (show (nl + 1) * 24 ≤ 140737488355328 by omega)
  have Hst := Lib.hid (fun (o : Obj) ao2 c2 w2 h1 h2 hg hn => (h.alloc o).inA (ao2 := ao2) (c2 := c2) (w2 := w2) hi hv h1 h2 hg hn)
  have Hnl := Lib.hid hnl
  clear h hv hv2 hrow hi2 hN hnl hn hi
  refine wp_region_lit ?_
  iterate 7 (refine wpList_plain rfl fun K1 hK1 => ?_; go_simp; refine hK1 _ _ ?_; clear hK1 K1)
  rw [Hng.out]
  go_wp2_with (at_builtin; first
    | (refine wpList_append_two rfl _ _ 25 rfl 38 Ent.zero.v 15 168 Tryd.underlying25 pinfo rfl (by decide) (.slice ao n c) n _ rfl Hown.out w.heap.size 1 (fiE i) rfl rfl Hnews.out H1.out H63.out H47.out (n + 1) rfl ?_; intro ao2 c2 w1 o1 o2 g2 n2; have Hin := Lib.hid (Hst.out _ ao2 c2 w1 o1 o2 g2 n2); clear o1 o2 g2 n2; obtain ⟨It1, hin⟩ := Hin.out; have Hrow := Lib.hid (show (w1.alloc (.cells #[.slice ao2 (n + 1) c2] 25)).ownsRow 0 25 1 vL nl longs from by rw [Hnl.out]; exact World.ownsRow.alloc hin.rows.2.2.1 _); have Hin2 := Lib.hid hin; clear hin Hin Hown Hnews H1 H63 H47 Hst)
    | (refine wpList_append_q rfl _ _ 81 rfl 25 (.slice none 0 0) 1 24 Tryd.underlying81 slinfo rfl (by decide) vL nl longs rfl Hrow.out (some ⟨w1.heap.size, 0, none⟩) 1 1 [.slice ao2 (n + 1) c2] rfl rfl (fun hn => by cases hn) (fun ad had => by obtain rfl := Option.some.inj had; exact one_new w1 _ _) (fun u hu => by obtain rfl := List.mem_singleton.1 hu; rfl) G63.out G47.out (nl + 1) rfl ?_; intro ao3 c3 w2 o3 g3 n3; have Hend := Lib.hid (Hin2.out.outA o3 g3 n3); clear o3 g3 n3))
  obtain ⟨It2, hend⟩ := Hend.out
  exact Met.intro (hJ _ _ ⟨_, _, _, ⟨rfl, rfl, rfl, rfl, rfl, rfl, rfl, rfl, rfl, rfl, rfl⟩, hend⟩)

set_option maxRecDepth 100000 in
set_option maxHeartbeats 4000000 in
theorem owD_0 (hf : OwT a p q vL vW) (rest : ∀ a', OwL1 a' p q vL vW ((0 : Nat) : Int) → K a' w) : owD0.wp Tryd.prog (Exit.then K Q) a w := by
  refine wp_cut (fun a' w' => OwL1 a' p q vL vW ((0 : Nat) : Int) ∧ w' = w) (fun a' w' ⟨h, e⟩ => by subst e; exact rest a' h) ?_
  clear rest
  intro J K' hJ hK
  refine wp_calm ?_
  obtain ⟨vv, rfl⟩ := hf.shape
  clear hf
  dsimp only [owD0, ncl, ncr, ncb, nco, nct, nce, ncx, Tryd.f8]
  go_wp2
  exact Met.intro (hJ _ _ ⟨⟨rfl, rfl, rfl, rfl, rfl, rfl, rfl, rfl, rfl, rfl, rfl⟩, rfl⟩)

set_option maxRecDepth 100000 in
set_option maxHeartbeats 4000000 in
theorem owD_t {i : Nat} (hf : OwL1 a p q vL vW (i : Int)) (rest : ∀ a', i < q.na → OwL1 a' p q vL vW (i : Int) → K a' w) (out : ∀ a', q.na ≤ i → OwL1 a' p q vL vW (i : Int) → Q (.exit 10) a' w) : owDt.wp Tryd.prog (Exit.then K Q) a w := by
  obtain ⟨vv, rfl⟩ := hf.shape
  clear hf
  dsimp only [owDt, ncl, ncr, ncb, nco, nct, nce, ncx, Tryd.f8]
  by_cases hk : i < q.na
  · have Hr := Lib.hid (fun a' h => rest a' hk h)
    have b1 : (i : Int) < (q.na : Int) := by omega
    clear rest out hk
    go_wp2
    exact Hr.out _ ⟨rfl, rfl, rfl, rfl, rfl, rfl, rfl, rfl, rfl, rfl, rfl⟩
  · have Hr := Lib.hid (fun a' h => out a' (by omega) h)
    have b1 : (q.na : Int) ≤ (i : Int) := by omega
    clear rest out hk
    go_wp2
    exact Hr.out _ ⟨rfl, rfl, rfl, rfl, rfl, rfl, rfl, rfl, rfl, rfl, rfl⟩

set_option maxRecDepth 100000 in
set_option maxHeartbeats 4000000 in
theorem owD_s {i : Nat} (hf : OwL1 a p q vL vW (i : Int)) (hk : i < 65537) (rest : ∀ a', OwL1 a' p q vL vW ((i + 1 : Nat) : Int) → K a' w) : owDs.wp Tryd.prog (Exit.then K Q) a w := by
  refine wp_cut (fun a' w' => OwL1 a' p q vL vW ((i + 1 : Nat) : Int) ∧ w' = w) (fun a' w' ⟨h, e⟩ => by subst e; exact rest a' h) ?_
  clear rest
  intro J K' hJ hK
  refine wp_calm ?_
  obtain ⟨vv, rfl⟩ := hf.shape
  clear hf
  dsimp only [owDs, ncl, ncr, ncb, nco, nct, nce, ncx, Tryd.f8]
  have Hop := Lib.hid (go_step (wrap_small hk))
  clear hk
  go_wp2
  exact Met.intro (hJ _ _ ⟨⟨rfl, rfl, rfl, rfl, rfl, rfl, rfl, rfl, rfl, rfl, congrArg some Hop.out⟩, rfl⟩)

theorem owD_l (hf : OwL1 a p q vL vW ((0 : Nat) : Int)) (h : OwDS w0 w It p q vl vc xs vals vos vL vW [] [] wides wides)
    (rest : ∀ a' w' It' V' ls, ls.length = 6 → OwT a' p q V' vW → OwDS w0 w' It' p q vl vc xs vals vos V' vW ls ls wides wides → K a' w') : owDl.wp Tryd.prog (Exit.inBlock 10 (Exit.then K Q)) a w := by
  show (Code.loop (Code.seq owDt (Code.seq owDb owDs))).wp Tryd.prog (Exit.inBlock 10 (Exit.then K Q)) a w
  refine wp_loop (fun a' w' => ∃ (i : Nat) (It : Nat → Item) (V : Value) (ls : List Value), i ≤ 6 ∧ ls.length = i ∧ OwL1 a' p q V vW (i : Int) ∧ OwDS w0 w' It p q vl vc xs vals vos V vW ls ls wides wides) (fun a' _ => 6 - (intOf (a'.tmps.getD 21 undef)).toNat) ⟨0, _, _, _, Nat.zero_le _, rfl, hf, h⟩ ?_
  rintro a' w' ⟨i, It, V, ls, hi, hl, hf', h'⟩
  have hN : q.na = 6 := by have h1 := h.na; have h2 := h.no; omega
  refine wp_seq (owD_t hf' (fun a1 hlt hf1 => ?_) (fun a1 hge hf1 => ?_))
  · refine wp_seq (owD_w hf1 h' hl (by omega) (fun a2 w2 It2 V2 x hf2 h2 => owD_s hf2 (by omega) (fun a3 hf3 => ⟨⟨i + 1, It2, V2, _, by omega, ?_, hf3, h2⟩, ?_⟩)))
    · rw [List.length_append, hl]
      rfl
    show 6 - (intOf (a3.tmps.getD 21 undef)).toNat < 6 - (intOf (a'.tmps.getD 21 undef)).toNat
    rw [getD_of hf3.s21, getD_of hf'.s21]
    simp only [intOf]
    omega
  · obtain rfl : i = 6 := by omega
    exact out_loop (rest _ _ _ _ _ hl hf1.toT h')

theorem owD_all (hf : OwT a p q vL vW) (h : OwDS w0 w It p q vl vc xs vals vos vL vW [] [] wides wides) (rest : ∀ a' w' It' V' ls, ls.length = 6 → OwT a' p q V' vW → OwDS w0 w' It' p q vl vc xs vals vos V' vW ls ls wides wides → K a' w') : owD.wp Tryd.prog (Exit.then K Q) a w := by
  show (Code.seq owD0 (Code.block 10 owDl)).wp Tryd.prog (Exit.then K Q) a w
  exact wp_seq (owD_0 hf (fun a1 f1 => wp_block (owD_l f1 h rest)))


/-! Stage E -/

set_option maxRecDepth 100000 in
set_option maxHeartbeats 4000000 in
theorem owE_w {i : Nat} (hf : OwL2 a p q vL vW (i : Int)) (h : OwDS w0 w It p q vl vc xs vals vos vL vW longs longs wides wides) (hi : wides.length = i) (hN : i < 3)
    (rest : ∀ a' w' It' V' x, OwL2 a' p q vL V' (i : Int) → OwDS w0 w' It' p q vl vc xs vals vos vL V' longs longs (wides ++ [x]) (wides ++ [x]) → K a' w') : (Code.block 13 owEw).wp Tryd.prog (Exit.then K Q) a w := by
  refine in_block ?_
  refine wp_cut (fun a' w' => ∃ It' V' x, OwL2 a' p q vL V' (i : Int) ∧ OwDS w0 w' It' p q vl vc xs vals vos vL V' longs longs (wides ++ [x]) (wides ++ [x])) (fun a' w' ⟨It', V', x, h1, h2⟩ => rest a' w' It' V' x h1 h2) ?_
  clear rest
  intro J K' hJ hK
  refine wp_calm ?_
  obtain ⟨vv, rfl⟩ := hf.shape
  clear hf
  dsimp only [owEw, ncl, ncr, ncb, nco, nct, nce, ncx, Tryd.f8]
  have hi2 : i < vos.length := by have h1 := h.lens.2; omega
  obtain ⟨v, hv⟩ : ∃ v, vos[i]? = some v := ⟨_, List.getElem?_eq_getElem hi2⟩
  have hv2 := hv
  rw [← hi] at hv2
  obtain ⟨ao, n, c, rfl, hn, -, hrow⟩ := h.o.row h.m.bg hv2
  rw [hi] at hrow
  have y0 := h.cellO hv
  have b0 : (i : Int) < (q.no : Int) := by have h1 := h.na; have h2 := h.no; omega
  have Hng := Lib.hid (fin_mark (show i < 65537 by omega))
  have Hown := Lib.hid (show (w.alloc (.cells #[.int .i64 (100 + (i : Int))] 3)).ownsRow 0 3 1 (.slice ao n c) n (List.replicate n (mkI i)).flatten from World.ownsRow.alloc hrow _)
  have Hnews := Lib.hid (show ∀ j u, (fiI i)[j]? = some u → (w.alloc (.cells #[.int .i64 (100 + (i : Int))] 3)).cell? ((⟨w.heap.size, 0, none⟩ : Addr).add j) = some u from one_new w (.int .i64 (100 + (i : Int))) 3)
  have H1 := Lib.hid (show ∀ u ∈ fiI i, u.oneCell' = true from (fun u hu => by obtain rfl := List.mem_singleton.1 hu; rfl))
  have H63 := Lib.hid (show n + 1 ≤ maxLen by unfold maxLen; omega)
  have H47 := Lib.hid (show (n + 1) * 8 ≤ 140737488355328 by omega)
  obtain ⟨nl, hnl⟩ : ∃ nl, nl = wides.length := ⟨_, rfl⟩
  have G63 := Lib.hid (show nl + 1 ≤ maxLen by unfold maxLen; omega)
  have G47 := Lib.hid (show (nl + 1) * 24 ≤ 140737488355328 by omega)
  have Hst := Lib.hid (fun (o : Obj) ao2 c2 w2 h1 h2 hg hn => (h.alloc o).inO (ao2 := ao2) (c2 := c2) (w2 := w2) hi hv h1 h2 hg hn)
  have Hnl := Lib.hid hnl
  clear h hv hv2 hrow hi2 hN hnl hn hi
  refine wp_region_lit ?_
  iterate 7 (refine wpList_plain rfl fun K1 hK1 => ?_; go_simp; refine hK1 _ _ ?_; clear hK1 K1)
  rw [Hng.out]
  go_wp2_with (at_builtin; first
    | (refine wpList_append_two rfl _ _ 44 rfl 3 (.int .i64 0) 1 8 Tryd.underlying44 intInfo0 rfl (by decide) (.slice ao n c) n _ rfl Hown.out w.heap.size 1 (fiI i) rfl rfl Hnews.out H1.out H63.out H47.out (n + 1) rfl ?_; intro ao2 c2 w1 o1 o2 g2 n2; have Hin := Lib.hid (Hst.out _ ao2 c2 w1 o1 o2 g2 n2); clear o1 o2 g2 n2; obtain ⟨It1, hin⟩ := Hin.out; have Hrow := Lib.hid (show (w1.alloc (.cells #[.slice ao2 (n + 1) c2] 44)).ownsRow 0 44 1 vW nl wides from by rw [Hnl.out]; exact World.ownsRow.alloc hin.rows.2.2.2 _); have Hin2 := Lib.hid hin; clear hin Hin Hown Hnews H1 H63 H47 Hst)
    | (refine wpList_append_q rfl _ _ 82 rfl 44 (.slice none 0 0) 1 24 Tryd.underlying82 iinfo rfl (by decide) vW nl wides rfl Hrow.out (some ⟨w1.heap.size, 0, none⟩) 1 1 [.slice ao2 (n + 1) c2] rfl rfl (fun hn => by cases hn) (fun ad had => by obtain rfl := Option.some.inj had; exact one_new w1 _ _) (fun u hu => by obtain rfl := List.mem_singleton.1 hu; rfl) G63.out G47.out (nl + 1) rfl ?_; intro ao3 c3 w2 o3 g3 n3; have Hend := Lib.hid (Hin2.out.outO o3 g3 n3); clear o3 g3 n3))
  obtain ⟨It2, hend⟩ := Hend.out
  exact Met.intro (hJ _ _ ⟨_, _, _, ⟨rfl, rfl, rfl, rfl, rfl, rfl, rfl, rfl, rfl, rfl, rfl⟩, hend⟩)

set_option maxRecDepth 100000 in
set_option maxHeartbeats 4000000 in
theorem owE_0 (hf : OwT a p q vL vW) (rest : ∀ a', OwL2 a' p q vL vW ((0 : Nat) : Int) → K a' w) : owE0.wp Tryd.prog (Exit.then K Q) a w := by
  refine wp_cut (fun a' w' => OwL2 a' p q vL vW ((0 : Nat) : Int) ∧ w' = w) (fun a' w' ⟨h, e⟩ => by subst e; exact rest a' h) ?_
  clear rest
  intro J K' hJ hK
  refine wp_calm ?_
  obtain ⟨vv, rfl⟩ := hf.shape
  clear hf
  dsimp only [owE0, ncl, ncr, ncb, nco, nct, nce, ncx, Tryd.f8]
  go_wp2
  exact Met.intro (hJ _ _ ⟨⟨rfl, rfl, rfl, rfl, rfl, rfl, rfl, rfl, rfl, rfl, rfl⟩, rfl⟩)

set_option maxRecDepth 100000 in
set_option maxHeartbeats 4000000 in
theorem owE_t {i : Nat} (hf : OwL2 a p q vL vW (i : Int)) (rest : ∀ a', i < q.no → OwL2 a' p q vL vW (i : Int) → K a' w) (out : ∀ a', q.no ≤ i → OwL2 a' p q vL vW (i : Int) → Q (.exit 12) a' w) : owEt.wp Tryd.prog (Exit.then K Q) a w := by
  obtain ⟨vv, rfl⟩ := hf.shape
  clear hf
  dsimp only [owEt, ncl, ncr, ncb, nco, nct, nce, ncx, Tryd.f8]
  by_cases hk : i < q.no
  · have Hr := Lib.hid (fun a' h => rest a' hk h)
    have b1 : (i : Int) < (q.no : Int) := by omega
    clear rest out hk
    go_wp2
    exact Hr.out _ ⟨rfl, rfl, rfl, rfl, rfl, rfl, rfl, rfl, rfl, rfl, rfl⟩
  · have Hr := Lib.hid (fun a' h => out a' (by omega) h)
    have b1 : (q.no : Int) ≤ (i : Int) := by omega
    clear rest out hk
    go_wp2
    exact Hr.out _ ⟨rfl, rfl, rfl, rfl, rfl, rfl, rfl, rfl, rfl, rfl, rfl⟩

set_option maxRecDepth 100000 in
set_option maxHeartbeats 4000000 in
theorem owE_s {i : Nat} (hf : OwL2 a p q vL vW (i : Int)) (hk : i < 65537) (rest : ∀ a', OwL2 a' p q vL vW ((i + 1 : Nat) : Int) → K a' w) : owEs.wp Tryd.prog (Exit.then K Q) a w := by
  refine wp_cut (fun a' w' => OwL2 a' p q vL vW ((i + 1 : Nat) : Int) ∧ w' = w) (fun a' w' ⟨h, e⟩ => by subst e; exact rest a' h) ?_
  clear rest
  intro J K' hJ hK
  refine wp_calm ?_
  obtain ⟨vv, rfl⟩ := hf.shape
  clear hf
  dsimp only [owEs, ncl, ncr, ncb, nco, nct, nce, ncx, Tryd.f8]
  have Hop := Lib.hid (go_step (wrap_small hk))
  clear hk
  go_wp2
  exact Met.intro (hJ _ _ ⟨⟨rfl, rfl, rfl, rfl, rfl, rfl, rfl, rfl, rfl, rfl, congrArg some Hop.out⟩, rfl⟩)

theorem owE_l (hf : OwL2 a p q vL vW ((0 : Nat) : Int)) (h : OwDS w0 w It p q vl vc xs vals vos vL vW longs longs [] [])
    (rest : ∀ a' w' It' V' ls, ls.length = 3 → OwT a' p q vL V' → OwDS w0 w' It' p q vl vc xs vals vos vL V' longs longs ls ls → K a' w') : owEl.wp Tryd.prog (Exit.inBlock 12 (Exit.then K Q)) a w := by
  show (Code.loop (Code.seq owEt (Code.seq owEb owEs))).wp Tryd.prog (Exit.inBlock 12 (Exit.then K Q)) a w
  refine wp_loop (fun a' w' => ∃ (i : Nat) (It : Nat → Item) (V : Value) (ls : List Value), i ≤ 3 ∧ ls.length = i ∧ OwL2 a' p q vL V (i : Int) ∧ OwDS w0 w' It p q vl vc xs vals vos vL V longs longs ls ls) (fun a' _ => 3 - (intOf (a'.tmps.getD 22 undef)).toNat) ⟨0, _, _, _, Nat.zero_le _, rfl, hf, h⟩ ?_
  rintro a' w' ⟨i, It, V, ls, hi, hl, hf', h'⟩
  have hN : q.no = 3 := by have h1 := h.na; have h2 := h.no; omega
  refine wp_seq (owE_t hf' (fun a1 hlt hf1 => ?_) (fun a1 hge hf1 => ?_))
  · refine wp_seq (owE_w hf1 h' hl (by omega) (fun a2 w2 It2 V2 x hf2 h2 => owE_s hf2 (by omega) (fun a3 hf3 => ⟨⟨i + 1, It2, V2, _, by omega, ?_, hf3, h2⟩, ?_⟩)))
    · rw [List.length_append, hl]
      rfl
    show 3 - (intOf (a3.tmps.getD 22 undef)).toNat < 3 - (intOf (a'.tmps.getD 22 undef)).toNat
    rw [getD_of hf3.s22, getD_of hf'.s22]
    simp only [intOf]
    omega
  · obtain rfl : i = 3 := by omega
    exact out_loop (rest _ _ _ _ _ hl hf1.toT h')

theorem owE_all (hf : OwT a p q vL vW) (h : OwDS w0 w It p q vl vc xs vals vos vL vW longs longs [] []) (rest : ∀ a' w' It' V' ls, ls.length = 3 → OwT a' p q vL V' → OwDS w0 w' It' p q vl vc xs vals vos vL V' longs longs ls ls → K a' w') : owE.wp Tryd.prog (Exit.then K Q) a w := by
  show (Code.seq owE0 (Code.block 12 owEl)).wp Tryd.prog (Exit.then K Q) a w
  exact wp_seq (owE_0 hf (fun a1 f1 => wp_block (owE_l f1 h rest)))

end

end Go.Proofs.YthpflfcgnaichaaDoor
