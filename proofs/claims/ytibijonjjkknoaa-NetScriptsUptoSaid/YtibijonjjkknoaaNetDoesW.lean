/-
A call at both nets: Read and Write.
-/
import Derived.Test.YtibijonjjkknoaaNetDoes
set_option linter.unusedVariables false
set_option linter.unusedSimpArgs false
namespace Go.Proofs.Ytibijonjjkknoaa
open Go Go.RowKit

section
variable {w0 w : World} {It : Nat → Item} {r N : Nat} {np rp : Value}

/-- The box, as it lies behind a change that does not touch it. -/
theorem box_kept {b : Nat} {o : Obj} {It0 : Nat → Item} {w1 w2 : World} (hr : r < 2) (h6 : It0 6 = objItem b o) (hB : Bg w0 w1 It0) (hm : Mod (fun g => (It0 r).own g) w1 w2) : w2.heap[b]? = some o := by
  have hb : w1.heap[b]? = some o := by
    have := hB.bag.holds 6
    rw [h6] at this
    exact this
  exact (hm.block b (lt_of_heap hb) (fun q => hB.bag.apart r 6 b (by omega) q (by rw [h6]; rfl))).trans hb

set_option maxRecDepth 20000 in
set_option maxHeartbeats 4000000 in
theorem does_Read (h : Duo w0 w It r np rp N) (hr : r < 2) (hN : N < 67108864) (name : ByteArray) (conn side n : Int) (ao : Option Addr) (len cp : Nat) :
    Calls Try.prog 17 #[np, rp, callV 6 name conn side n ao len cp] w fun e w' => e = .returned (.bool true) ∧ DoesP w0 It r np rp (N + 1) w' := by
  have hD := h.box (callO 6 name conn side n ao len cp)
  obtain ⟨le, ps, en, y, M, hlen, ha, hb⟩ := hD.read hN conn side
  have hblk : (w.alloc (callO 6 name conn side n ao len cp)).heap[w.heap.size]? = some (callO 6 name conn side n ao len cp) := alloc_new _
  have z0 : (w.alloc (callO 6 name conn side n ao len cp)).cell? ⟨w.heap.size, 0, none⟩ = some (.int .i64 6) := by rw [cell_blk hblk]; rfl
  have z2 : (w.alloc (callO 6 name conn side n ao len cp)).cell? ⟨w.heap.size, 2, none⟩ = some (.int .i64 conn) := by rw [cell_blk hblk]; rfl
  have z3 : (w.alloc (callO 6 name conn side n ao len cp)).cell? ⟨w.heap.size, 3, none⟩ = some (.int .i64 side) := by rw [cell_blk hblk]; rfl
  have HA := Lib.hid (ha.mono (R' := fun e w1 => ∃ a9 c9, e = .returned (.tuple #[.slice a9 le c9, .bool en, .int .i64 y]) ∧ M w1 a9 c9 ∧ w1.heap[w.heap.size]? = some (callO 6 name conn side n ao len cp)) fun e w1 ⟨ao1, c1, he, hM, hm⟩ => ⟨ao1, c1, he, hM, box_kept hr (It0 := upd It 6 (objItem w.heap.size (callO 6 name conn side n ao len cp))) (upd_same _ _ _) hD.bg hm⟩)
  have HB := Lib.hid hb
  have Hnum := Lib.hid (fun w1 => num_walk w1 y)
  have Hlen := Lib.hid hlen
  clear h hD ha hb hblk hN hlen
  unfold callV
  go_enter Try.func17, Try.ntmps17
  go_wp2_with fail
  refine HA.out.mono ?_
  rintro e w1 ⟨ao1, c1, rfl, hM, hbk⟩
  have HB1 := Lib.hid (HB.out w1 ao1 c1 hM)
  have u2 : w1.cell? ⟨w.heap.size, 2, none⟩ = some (.int .i64 conn) := by rw [cell_blk hbk]; rfl
  have u3 : w1.cell? ⟨w.heap.size, 3, none⟩ = some (.int .i64 side) := by rw [cell_blk hbk]; rfl
  clear hM HA HB hbk
  go_wp2_with fail
  refine HB1.out.mono ?_
  rintro e w2 ⟨ao2, c2, rfl, hr1, hr2, hP⟩
  have HS := Lib.hid (same_to w2 ao1 ao2 c1 c2 le le ps ps hr1 hr2 Hlen.out Hlen.out true (by simp))
  have HP := Lib.hid hP
  clear hP hr1 hr2 HB1
  go_wp2_with fail
  refine HS.out.mono ?_
  rintro e w3 ⟨rfl, nd, hw⟩
  obtain rfl := hw
  clear HS
  go_wp2_with fail
  refine (Hnum.out _).mono ?_
  rintro e w4 ⟨rfl, hw⟩
  obtain rfl := hw.symm
  clear hw Hnum
  go_wp2
  go_ret
  obtain ⟨It', hD', hO⟩ := HP.out
  exact ⟨rfl, It', hD'.later below_drew, othS_of hO⟩

theorem IsB.bytes {w : World} {ao : Option Addr} {len c : Nat} (h : IsB w (.slice ao len c) len) (hl : 0 < len) : ∃ g, ao = some ⟨g, 0, none⟩ ∧ IsBytes w g c len := by
  obtain ⟨vs, h1, h2⟩ := h
  obtain ⟨g, c2, e⟩ := row_at0 h1 hl
  simp only [Value.slice.injEq, true_and] at e
  obtain ⟨rfl, rfl⟩ := e
  exact ⟨g, rfl, vs, h1, h2⟩

/-- A byte of what was handed in is written over. -/
theorem Bg.byte {w : World} {It : Nat → Item} (h : Bg w0 w It) {ao : Option Addr} {len c g : Nat} (h5 : It 5 = InI (.slice ao len c) len) (hao : ao = some ⟨g, 0, none⟩) (hb : IsBytes w g c len) (k : Nat) (x : Int) : Bg w0 (w.setCell ⟨g, k, none⟩ (.int .u8 x)) It := by
  refine h.touch 5 ((Mod.refl _ w).setCell _ _ (fun _ => ?_)) ?_
  · rw [h5, hao]; rfl
  · rw [h5, hao]
    exact hb.stored k x

theorem box_at {w : World} {It : Nat → Item} {b : Nat} {o : Obj} (h : Bg w0 w It) (h6 : It 6 = objItem b o) : w.heap[b]? = some o := by
  have := h.bag.holds 6
  rw [h6] at this
  exact this

set_option maxRecDepth 20000 in
set_option maxHeartbeats 8000000 in
theorem does_Write (h : Duo w0 w It r np rp N) (hr : r < 2) (hN : N < 67108864) (name : ByteArray) (conn side n : Int) (ao : Option Addr) (cp : Nat) (ps : List UInt8) (hps : ps.length ≤ 1048576) (hrd : RdB w ao cp ps) (hlo : ∀ ad, ao = some ad → ps ≠ [] → ad.block < w0.heap.size) :
    Calls Try.prog 17 #[np, rp, callV 3 name conn side n ao ps.length cp] w fun e w' => e = .returned (.bool true) ∧ DoesP w0 It r np rp (N + 1) w' := by
  have hD := h.box (callO 3 name conn side n ao ps.length cp)
  have hB0 := h.bg.below
  have hblk : (w.alloc (callO 3 name conn side n ao ps.length cp)).heap[w.heap.size]? = some (callO 3 name conn side n ao ps.length cp) := alloc_new _
  have z0 : (w.alloc (callO 3 name conn side n ao ps.length cp)).cell? ⟨w.heap.size, 0, none⟩ = some (.int .i64 3) := by rw [cell_blk hblk]; rfl
  have hblk2 : ((w.alloc (callO 3 name conn side n ao ps.length cp)).alloc (.cells #[] 5)).heap[w.heap.size]? = some (callO 3 name conn side n ao ps.length cp) := (alloc_old _ (lt_of_heap hblk)).trans hblk
  have z5 : ((w.alloc (callO 3 name conn side n ao ps.length cp)).alloc (.cells #[] 5)).cell? ⟨w.heap.size, 5, none⟩ = some (.slice ao ps.length cp) := by rw [cell_blk hblk2]; rfl
  -- whatever happens, the bytes that came in are there
  have Hin := Lib.hid (show ∀ w2, Below w0.heap.size w0 w2 → RdB w2 ao cp ps from fun w2 hb => by
    have h1 : RdB w0 ao cp ps := ⟨hrd.isNil, fun ad had j u hu => by
      have hne : ps ≠ [] := fun e => by rw [e] at hu; cases hu
      have := hrd.cells ad had j u hu
      rwa [World.cell?_of_block (w := w0) (w' := w) (a := ad.add j) (hB0.block _ (by
        have e2 : (ad.add j).block = ad.block := by unfold Addr.add; split <;> rfl
        rw [e2]; exact hlo ad had hne))] at this, hrd.le, hrd.cap⟩
    exact h1.below hb hlo)
  have Hown := Lib.hid (show ((w.alloc (callO 3 name conn side n ao ps.length cp)).alloc (.cells #[] 5)).ownsRow 0 5 1 (.slice (some ⟨w.heap.size + 1, 0, none⟩) 0 0) ([] : List UInt8).length (bytes []) from by
    have := World.ownsRow_lit (base := 0) (e := 5) (size := 1) (w.alloc (callO 3 name conn side n ao ps.length cp)) #[] 0 (Nat.zero_le _) (Nat.zero_le _) rfl
    rw [World.size_alloc] at this
    exact this)
  have H47 := Lib.hid (show ([] : List UInt8).length + ps.length ≤ 140737488355328 by simp only [List.length_nil]; omega)
  have Hq := Lib.hid (show ps.length = ([] : List UInt8).length + ps.length by simp)
  have Hrd2 := Lib.hid (Hin.out _ ((hB0.alloc hB0.size (callO 3 name conn side n ao ps.length cp)).alloc (by have := hB0.size; simp; omega) (.cells #[] 5)))
  -- what is handed in, in its own row
  have Hst := Lib.hid (show ∀ ao' c' w2, w2.ownsRow 0 5 1 (.slice ao' ps.length c') ([] ++ ps).length (bytes ([] ++ ps)) → ((w.alloc (callO 3 name conn side n ao ps.length cp)).alloc (.cells #[] 5)).grownBy w2 (Value.slice (some ⟨w.heap.size + 1, 0, none⟩) 0 0).ownBlock →
      (∀ g, (Value.slice ao' ps.length c').ownBlock = some g → (Value.slice (some ⟨w.heap.size + 1, 0, none⟩) 0 0).ownBlock = some g ∨ ((w.alloc (callO 3 name conn side n ao ps.length cp)).alloc (.cells #[] 5)).heap.size ≤ g) →
      w2.ownsRow 0 5 1 (.slice ao' ps.length c') ps.length (bytes ps) ∧ ∃ It2, It2 6 = objItem w.heap.size (callO 3 name conn side n ao ps.length cp) ∧ It2 5 = InI (.slice ao' ps.length c') ps.length ∧ Duo w0 w2 It2 r np rp N ∧ (∀ It', Oth r It2 It' → OthS r It It') from by
    intro ao' c' w2 hro hg hn
    rw [List.nil_append] at hro
    have hbl : Below (w.heap.size + 1) (w.alloc (callO 3 name conn side n ao ps.length cp)) w2 := by
      have hm : Mod (fun g => g = w.heap.size + 1) (w.alloc (callO 3 name conn side n ao ps.length cp)) w2 := ((Mod.refl _ _).alloc _).grown hg (fun k hk _ => by
        have : w.heap.size + 1 = k := by simpa [Value.ownBlock] using hk
        exact this.symm)
      exact hm.below (by simp) (fun k hk => by omega)
    have hnew : ∀ g, (Value.slice ao' ps.length c').ownBlock = some g → w.heap.size + 1 ≤ g := fun g hg' => by
      rcases hn g hg' with q | q
      · have : w.heap.size + 1 = g := by simpa [Value.ownBlock] using q
        omega
      · simp at q; omega
    have hsz : (w.alloc (callO 3 name conn side n ao ps.length cp)).heap.size = w.heap.size + 1 := by simp
    have hB2 : Bg w0 w2 (upd (upd It 6 (objItem w.heap.size (callO 3 name conn side n ao ps.length cp))) 5 (InI (.slice ao' ps.length c') ps.length)) :=
      hD.bg.put 5 _ (Mod.ofBelow (by rw [← hsz] at hbl; exact hbl) fun k hk h2 => absurd hk (by omega)) ⟨bytes ps, hro, fun u hu => by
        obtain ⟨c, _, rfl⟩ := List.mem_map.1 hu
        exact ⟨_, rfl⟩⟩ (fun g hg' => (hro.lt g hg').2) (fun g hg' => .inr (by rw [hsz]; exact hnew g hg'))
    exact ⟨hro, _, by rw [upd_ne _ _ (by omega), upd_same], upd_same _ _ _, hD.put (by omega) (by omega) hB2, fun It' hO i a b c d => (hO i a d).trans (by rw [upd_ne _ _ b, upd_ne _ _ c])⟩)
  have Hps := Lib.hid hps
  have HN := Lib.hid hN
  have Hr := Lib.hid hr
  obtain ⟨le, hle⟩ : ∃ le, le = ps.length := ⟨_, rfl⟩
  have Hle := Lib.hid hle
  clear h hD hblk hblk2 hrd hlo hB0 hps hN hr
  unfold callV
  rw [← hle] at z5 z0 Hown Hst Hrd2 Hq ⊢
  clear hle
  go_enter Try.func17, Try.ntmps17
  go_wp2_with (at_builtin; first | (refine append_bytes rfl _ _ rfl (.slice (some ⟨w.heap.size + 1, 0, none⟩) 0 0) [] rfl Hown.out ao cp ps le rfl Hle.out le (by rw [Hle.out]; simp) Hrd2.out H47.out ?_; intro ao' c' w2 own2 gr2 new2; obtain ⟨hrow, It2, h6, h5, hD2, hO2⟩ := Hst.out ao' c' w2 own2 gr2 new2; have hbx2 := box_at hD2.bg h6; have u2 : w2.cell? ⟨w.heap.size, 2, none⟩ = some (.int .i64 conn) := (cell_blk hbx2 2).trans rfl; have u3 : w2.cell? ⟨w.heap.size, 3, none⟩ = some (.int .i64 side) := (cell_blk hbx2 3).trans rfl; have HD2 := Lib.hid (And.intro hD2 (And.intro h6 (And.intro h5 hO2))); have Hrow := Lib.hid hrow; clear own2 gr2 new2 hrow h6 h5 hD2 hO2 Hst Hown H47 Hq Hrd2 hbx2))
  have hw := HD2.out.1.write HN.out conn side ps Hps.out
  unfold WriteTwo at hw
  rw [← Hle.out] at hw
  obtain ⟨y, K, ha, hb⟩ := hw
  have HA := Lib.hid (ha ao' c' (rd_of_row Hrow.out Hle.out.symm))
  have HB := Lib.hid hb
  clear ha hb
  refine HA.out.mono ?_
  rintro e w3 ⟨rfl, hm, It3, hB3, h35, h36, hK⟩
  have hrow3 := ownsRow_frame Hrow.out (fun g hg => hm.block g (Hrow.out.lt g hg).2 (fun q => HD2.out.1.bg.bag.apart r 5 g (by have := Hr.out; omega) q (by rw [HD2.out.2.2.1]; exact hg)))
  have hbx := box_at hB3 (h36.trans HD2.out.2.1)
  have v5 : w3.cell? ⟨w.heap.size, 5, none⟩ = some (.slice ao le cp) := (cell_blk hbx 5).trans rfl
  have HS := Lib.hid (same_to w3 ao' ao c' cp le le ps ps (rd_of_row hrow3 Hle.out.symm) (Hin.out w3 hB3.below) Hle.out.symm Hle.out.symm true (by simp))
  have HB3 := Lib.hid (And.intro hB3 (And.intro (h35.trans HD2.out.2.2.1) (And.intro (h36.trans HD2.out.2.1) hK)))
  clear hm hB3 h35 h36 hK hrow3 hbx HA u2 u3
  go_wp2_with fail
  refine HS.out.mono ?_
  rintro e w4 ⟨rfl, nd, hw⟩
  obtain rfl := hw
  clear HS v5
  go_wp2_with fail
  go_loopw [17] (fun i wr => ∃ k : Nat, i = .int .i64 (k : Int) ∧ Hid (k ≤ le ∧ Bg w0 wr It3)) (fun i _ => le - (intOf i).toNat)
  case atStart => exact ⟨0, rfl, Lib.hid ⟨Nat.zero_le _, HB3.out.1.drewN nd⟩⟩
  case round =>
    obtain ⟨k, rfl, H⟩ := hrel
    by_cases hk : k < le
    · have b1 : (k : Int) < (le : Int) := by omega
      have hib : IsB wr (.slice ao' le c') le := by
        have := H.out.2.bag.holds 5
        rw [HB3.out.2.1] at this
        exact this
      obtain ⟨g, hao, hby⟩ := hib.bytes (by omega)
      obtain ⟨x, hx⟩ := hby.cell hk
      have hf := hby.frozen k
      have Hby := Lib.hid (fun z => H.out.2.byte HB3.out.2.1 hao hby k z)
      subst hao
      have wk := wrap_k (show k ≤ 1099511627776 by have h1 := Hps.out; have h2 := Hle.out; omega)
      have Hgo := Lib.hid (show Value.int .i64 (wrap64 ((k : Int) + 1)) = .int .i64 ((k + 1 : Nat) : Int) by rw [wk]; rfl)
      have Hk1 := Lib.hid (show k + 1 ≤ le by omega)
      have Hm := Lib.hid (show le - (intOf (.int .i64 (wrap64 ((k : Int) + 1)))).toNat < le - (intOf (.int .i64 (k : Int))).toNat by rw [wk]; show le - ((k : Int) + 1).toNat < le - (k : Int).toNat; omega)
      clear hib hby hk wk
      go_wp2
      go_roundw
      case rel => exact ⟨k + 1, Hgo.out, Lib.hid ⟨Hk1.out, Hby.out _⟩⟩
      case measure => exact Hm.out
    · have b1 : (le : Int) ≤ (k : Int) := by omega
      have hBd := H.out.2.later bd_drew
      have hbx := box_at hBd HB3.out.2.2.1
      have z2 : wr.drew.cell? ⟨w.heap.size, 2, none⟩ = some (.int .i64 conn) := (cell_blk hbx 2).trans rfl
      have z3 : wr.drew.cell? ⟨w.heap.size, 3, none⟩ = some (.int .i64 side) := (cell_blk hbx 3).trans rfl
      have z9 : wr.drew.cell? ⟨w.heap.size, 5, none⟩ = some (.slice ao le cp) := (cell_blk hbx 5).trans rfl
      have HRW := Lib.hid ((HB.out It3 wr.drew HB3.out.2.2.2 hBd ao cp (Hin.out _ hBd.below)).mono (R' := fun e w' => e = .returned (.int .i64 y) ∧ DoesP w0 It r np rp (N + 1) w' ∧ w'.cell? ⟨w.heap.size, 2, none⟩ = some (.int .i64 conn) ∧ w'.cell? ⟨w.heap.size, 3, none⟩ = some (.int .i64 side) ∧ w'.cell? ⟨w.heap.size, 5, none⟩ = some (.slice ao le cp)) fun e w' ⟨he, It', hD', hO⟩ => by
        have hbx' := box_at hD'.bg ((hO 6 (by have := Hr.out; omega) (fun j => by unfold ix; omega)).trans HD2.out.2.1)
        exact ⟨he, ⟨It', hD', HD2.out.2.2.2 It' hO⟩, (cell_blk hbx' 2).trans rfl, (cell_blk hbx' 3).trans rfl, (cell_blk hbx' 5).trans rfl⟩)
      have Hnum := Lib.hid (fun w1 => num_walk w1 y)
      clear hBd hbx H hk HB HB3 HD2 Hrow Hin
      go_wp2_with fail
      go_region_held3 (fun w' => w'.cell? ⟨w.heap.size, 2, none⟩ = some (.int .i64 conn) ∧ w'.cell? ⟨w.heap.size, 3, none⟩ = some (.int .i64 side) ∧ w'.cell? ⟨w.heap.size, 5, none⟩ = some (.slice ao le cp)) (first | exact ⟨z2, z3, z9⟩ | exact hs2 | assumption)
        (first
          | (go_at_call 21; (with_reducible refine (Hnum.out _).mono ?_); rintro e w' ⟨rfl, hw⟩; obtain rfl := hw.symm)
          | (go_at_call 27; (with_reducible refine HRW.out.mono ?_); rintro e w' ⟨rfl, h2, hs2⟩))
      all_goals go_wp2
      all_goals go_ret
      all_goals exact ⟨rfl, h2⟩

end

end Go.Proofs.Ytibijonjjkknoaa
