/-
What NetOrder keeps from round to round: the net, and the two rows of bytes of each direction.
-/
import Derived.Test.YtibijonjjkknoaaNetTot
set_option linter.unusedVariables false
set_option linter.unusedSimpArgs false
namespace Go.Proofs.Ytibijonjjkknoaa
open Go Go.RowKit

/-- The blocks of the law's own, each with its place: 0, 1: the two arrays; 2 to 5: the rows. -/
abbrev MLab := Nat → Option Nat

structure MRow (w : World) (M : MLab) (t : Nat) (v : Value) (xs : List UInt8) : Prop where
  own : w.ownsRow 0 5 1 v xs.length (bytes xs)
  lab : ∀ g, v.ownBlock = some g → M g = some t

structure MineAt (B : Nat) (w : World) (L : Lab) (M : MLab) (bw br : Nat) (W0 W1 R0 R1 : List UInt8) (a b c d : Value) : Prop where
  hbw : w.heap[bw]? = some (.cells #[a, b] 38 (0, 0))
  lw : M bw = some 0
  hbr : w.heap[br]? = some (.cells #[c, d] 38 (0, 0))
  lr : M br = some 1
  w0 : MRow w M 2 a W0
  w1 : MRow w M 3 b W1
  r0 : MRow w M 4 c R0
  r1 : MRow w M 5 d R1
  labs : ∀ x t, M x = some t → L x = none ∧ B ≤ x ∧ x < w.heap.size

theorem MRow.kept {w w' : World} {M M' : MLab} {t : Nat} {v : Value} {xs : List UInt8} (h : MRow w M t v xs) (hk : ∀ g, M g = some t → w'.heap[g]? = w.heap[g]? ∧ M' g = M g) : MRow w' M' t v xs :=
  ⟨ownsRow_frame h.own fun g hg => (hk g (h.lab g hg)).1, fun g hg => (hk g (h.lab g hg)).2.trans (h.lab g hg)⟩

/-- They stay what they are while nothing of them is written. -/
theorem MineAt.kept {B : Nat} {w w' : World} {L L' : Lab} {M : MLab} {bw br : Nat} {W0 W1 R0 R1 : List UInt8} {a b c d : Value} (h : MineAt B w L M bw br W0 W1 R0 R1 a b c d) {F : Nat → Prop} (hm : Mod F w w')
    (hF : ∀ x t, M x = some t → ¬ F x) (hL : ∀ x, x < w.heap.size → L' x = L x ∨ L' x = none) : MineAt B w' L' M bw br W0 W1 R0 R1 a b c d := by
  have q : ∀ x t, M x = some t → w'.heap[x]? = w.heap[x]? := fun x t hx => hm.block x (h.labs x t hx).2.2 (hF x t hx)
  exact ⟨(q _ _ h.lw).trans h.hbw, h.lw, (q _ _ h.lr).trans h.hbr, h.lr, h.w0.kept fun g hg => ⟨q _ _ hg, rfl⟩, h.w1.kept fun g hg => ⟨q _ _ hg, rfl⟩, h.r0.kept fun g hg => ⟨q _ _ hg, rfl⟩, h.r1.kept fun g hg => ⟨q _ _ hg, rfl⟩,
    fun x t hx => ⟨(hL x (h.labs x t hx).2.2).elim (fun e => e.trans (h.labs x t hx).1) id, (h.labs x t hx).2.1, Nat.lt_of_lt_of_le (h.labs x t hx).2.2 hm.size⟩⟩

theorem MineAt.net {B : Nat} {w w' : World} {L L' : Lab} {M : MLab} {bw br : Nat} {W0 W1 R0 R1 : List UInt8} {a b c d : Value} (h : MineAt B w L M bw br W0 W1 R0 R1 a b c d) (hf : Fr w L w' L') : MineAt B w' L' M bw br W0 W1 R0 R1 a b c d :=
  h.kept hf.2 (fun x t hx e => e (h.labs x t hx).1) hf.1

/-- What has been written and read of the connection looked at. -/
def Ord (cut : Bool) (c : Cn) (W0 W1 R0 R1 : List UInt8) : Prop :=
  c.cut = cut ∧ (∃ T, W0 = R0 ++ T) ∧ (∃ T, W1 = R1 ++ T) ∧ (cut = false → W0 = R0 ++ (c.s1.there ++ c.s0.under) ∧ W1 = R1 ++ (c.s0.there ++ c.s1.under))

theorem Ord.write0 {c : Cn} {W0 W1 R0 R1 ps : List UInt8} (h : Ord false c W0 W1 R0 R1) : Ord false (c.setSd 0 { c.sd 0 with under := (c.sd 0).under ++ ps }) (W0 ++ ps) W1 R0 R1 := by
  obtain ⟨h1, h2, h3, h4⟩ := h
  obtain ⟨e0, e1⟩ := h4 rfl
  refine ⟨h1, ⟨(c.s1.there ++ c.s0.under) ++ ps, by rw [e0]; simp⟩, h3, fun _ => ⟨?_, ?_⟩⟩
  · simp [Cn.setSd, Cn.sd, e0]
  · simpa [Cn.setSd, Cn.sd] using e1

theorem Ord.write1 {c : Cn} {W0 W1 R0 R1 ps : List UInt8} (h : Ord false c W0 W1 R0 R1) : Ord false (c.setSd 1 { c.sd 1 with under := (c.sd 1).under ++ ps }) W0 (W1 ++ ps) R0 R1 := by
  obtain ⟨h1, h2, h3, h4⟩ := h
  obtain ⟨e0, e1⟩ := h4 rfl
  refine ⟨h1, h2, ⟨(c.s0.there ++ c.s1.under) ++ ps, by rw [e1]; simp⟩, fun _ => ⟨?_, ?_⟩⟩
  · simpa [Cn.setSd, Cn.sd] using e0
  · simp [Cn.setSd, Cn.sd, e1]

theorem Ord.pass {c : Cn} {W0 W1 R0 R1 : List UInt8} (h : Ord false c W0 W1 R0 R1) (k : Int) (m : Nat) (hk : k = 0 ∨ k = 1) : Ord false (c.passed k m) W0 W1 R0 R1 := by
  obtain ⟨h1, h2, h3, h4⟩ := h
  obtain ⟨e0, e1⟩ := h4 rfl
  rcases hk with rfl | rfl
  · exact ⟨h1, h2, h3, fun _ => ⟨by simp [Cn.passed, e0], by simpa [Cn.passed] using e1⟩⟩
  · exact ⟨h1, h2, h3, fun _ => ⟨by simpa [Cn.passed] using e0, by simp [Cn.passed, e1]⟩⟩

theorem Ord.read1 {c : Cn} {W0 W1 R0 R1 : List UInt8} (h : Ord false c W0 W1 R0 R1) : Ord false (c.setSd 1 { c.sd 1 with there := [] }) W0 W1 (R0 ++ c.s1.there) R1 := by
  obtain ⟨h1, h2, h3, h4⟩ := h
  obtain ⟨e0, e1⟩ := h4 rfl
  exact ⟨h1, ⟨c.s0.under, by rw [e0]; simp⟩, h3, fun _ => ⟨by simp [Cn.setSd, Cn.sd, e0], by simpa [Cn.setSd, Cn.sd] using e1⟩⟩

theorem Ord.read0 {c : Cn} {W0 W1 R0 R1 : List UInt8} (h : Ord false c W0 W1 R0 R1) : Ord false (c.setSd 0 { c.sd 0 with there := [] }) W0 W1 R0 (R1 ++ c.s0.there) := by
  obtain ⟨h1, h2, h3, h4⟩ := h
  obtain ⟨e0, e1⟩ := h4 rfl
  exact ⟨h1, h2, ⟨c.s1.under, by rw [e1]; simp⟩, fun _ => ⟨by simpa [Cn.setSd, Cn.sd] using e0, by simp [Cn.setSd, Cn.sd, e1]⟩⟩

theorem Ord.close {cut : Bool} {c : Cn} {W0 W1 R0 R1 : List UInt8} (h : Ord cut c W0 W1 R0 R1) (k : Int) (hk : k = 0 ∨ k = 1) : Ord cut (c.setSd k { c.sd k with closed := true }) W0 W1 R0 R1 := by
  obtain ⟨h1, h2, h3, h4⟩ := h
  rcases hk with rfl | rfl
  · exact ⟨h1, h2, h3, fun hc => by simpa [Cn.setSd, Cn.sd] using h4 hc⟩
  · exact ⟨h1, h2, h3, fun hc => by simpa [Cn.setSd, Cn.sd] using h4 hc⟩

theorem Ord.cutOff {cut : Bool} {c : Cn} {W0 W1 R0 R1 : List UInt8} (h : Ord cut c W0 W1 R0 R1) : Ord true c.cutOff W0 W1 R0 R1 :=
  ⟨rfl, h.2.1, h.2.2.1, fun hc => by cases hc⟩

/-- The whole state between two statements of a round. -/
def Inv (B : Nat) (w0 w : World) (n bw br : Nat) (cut : Bool) (V : Nat) : Prop :=
  ∃ L S M W0 W1 R0 R1 va vb vc vd c, Net1 B w0 w L n S ∧ S.cs.length = 3 ∧ (∀ (j : Nat) (c : Cn), S.cs[j]? = some c → c.vol ≤ V) ∧ MineAt B w L M bw br W0 W1 R0 R1 va vb vc vd ∧ S.cs[1]? = some c ∧
    Ord cut c W0 W1 R0 R1 ∧ W0.length ≤ V ∧ W1.length ≤ V

theorem inv_start {B : Nat} {w0 w : World} {L : Lab} {n : Nat} {c0 c1 c2 : Cn} (h : Net1 B w0 w L n (St.mk [c0, c1, c2] (.map []) 0)) (h0 : c0.vol = 0) (h1 : c1 = Cn.new c1.name) (h2 : c2.vol = 0) :
    Inv B w0 ((w.alloc (.cells #[.slice none 0 0, .slice none 0 0] 38)).alloc (.cells #[.slice none 0 0, .slice none 0 0] 38)) n w.heap.size (w.heap.size + 1) false 0 := by
  have hm : Mod (fun _ => False) w ((w.alloc (.cells #[.slice none 0 0, .slice none 0 0] 38)).alloc (.cells #[.slice none 0 0, .slice none 0 0] 38)) := ((Mod.refl _ w).alloc _).alloc _
  have hn : ∀ (W : World) (M : MLab) (t : Nat), MRow W M t (.slice none 0 0) [] := fun W M t => ⟨World.ownsRow_nil _ _ _ _, fun g hg => by cases hg⟩
  have hB := h.le
  refine ⟨L, _, fun x => if x = w.heap.size then some 0 else if x = w.heap.size + 1 then some 1 else none, [], [], [], [], _, _, _, _, c1, h.frame hm (fun _ _ _ => id) (fun _ f => f.elim), rfl, ?_, ⟨?_, by simp, ?_, by simp, hn _ _ _, hn _ _ _, hn _ _ _, hn _ _ _, ?_⟩, rfl, ?_, by simp, by simp⟩
  · intro j c hc
    match j, hc with
    | 0, hc => simp at hc; subst hc; omega
    | 1, hc => simp at hc; subst hc; rw [h1]; simp [Cn.vol, Cn.new, Sd.zero]
    | 2, hc => simp at hc; subst hc; omega
    | j + 3, hc => simp at hc
  · rw [alloc_old _ (by simp)]; exact alloc_new _
  · have := alloc_new (w := w.alloc (.cells #[.slice none 0 0, .slice none 0 0] 38)) (.cells #[.slice none 0 0, .slice none 0 0] 38)
    simpa using this
  · intro x t hx
    have hx2 : w.heap.size ≤ x ∧ x < w.heap.size + 2 := by
      try dsimp only at hx
      split at hx
      · omega
      · split at hx
        · omega
        · cases hx
    exact ⟨h.lab_none hx2.1, by omega, by simp; omega⟩
  · rw [h1]
    exact ⟨rfl, ⟨[], rfl⟩, ⟨[], rfl⟩, fun _ => ⟨rfl, rfl⟩⟩

theorem Inv.net {B : Nat} {w0 w : World} {n bw br : Nat} {cut : Bool} {V : Nat} (h : Inv B w0 w n bw br cut V) : Below B w0 w ∧ B ≤ w.heap.size := by
  obtain ⟨L, S, M, W0, W1, R0, R1, va, vb, vc, vd, c, hn, _⟩ := h
  exact ⟨hn.below, hn.le⟩

/-- Nothing of it is written: new blocks, draws. -/
theorem Inv.kept {B : Nat} {w0 w w' : World} {n bw br : Nat} {cut : Bool} {V V' : Nat} (h : Inv B w0 w n bw br cut V) (hm : Mod (fun _ => False) w w') (hV : V ≤ V') : Inv B w0 w' n bw br cut V' := by
  obtain ⟨L, S, M, W0, W1, R0, R1, va, vb, vc, vd, c, hn, h3, hv, hM, hc, ho, l0, l1⟩ := h
  exact ⟨L, S, M, W0, W1, R0, R1, va, vb, vc, vd, c, hn.frame hm (fun _ _ _ => id) (fun _ f => f.elim), h3, fun j c hj => Nat.le_trans (hv j c hj) hV, hM.kept hm (fun _ _ _ => id) (fun _ _ => .inl rfl), hc, ho, by omega, by omega⟩

/-- The same, with one block more: the call that the round has copied. -/
def InvC (B : Nat) (w0 w : World) (n bw br cb : Nat) (o : Obj) (cut : Bool) (V : Nat) : Prop :=
  ∃ L S M W0 W1 R0 R1 va vb vc vd c, Net1 B w0 w L n S ∧ S.cs.length = 3 ∧ (∀ (j : Nat) (c : Cn), S.cs[j]? = some c → c.vol ≤ V) ∧ MineAt B w L M bw br W0 W1 R0 R1 va vb vc vd ∧ S.cs[1]? = some c ∧
    Ord cut c W0 W1 R0 R1 ∧ W0.length ≤ V ∧ W1.length ≤ V ∧ L cb = none ∧ M cb = none ∧ B ≤ cb ∧ w.heap[cb]? = some o

theorem Inv.withC {B : Nat} {w0 w : World} {n bw br : Nat} {cut : Bool} {V : Nat} (h : Inv B w0 w n bw br cut V) (o : Obj) : InvC B w0 (w.alloc o) n bw br w.heap.size o cut V := by
  have hm : Mod (fun _ => False) w (w.alloc o) := (Mod.refl _ w).alloc _
  obtain ⟨L, S, M, W0, W1, R0, R1, va, vb, vc, vd, c, hn, h3, hv, hM, hc, ho, l0, l1⟩ := h
  refine ⟨L, S, M, W0, W1, R0, R1, va, vb, vc, vd, c, hn.frame hm (fun _ _ _ => id) (fun _ f => f.elim), h3, hv, hM.kept hm (fun _ _ _ => id) (fun _ _ => .inl rfl), hc, ho, l0, l1, hn.lab_none (Nat.le_refl _), ?_, hn.le, alloc_new o⟩
  cases hMx : M w.heap.size with
  | none => rfl
  | some t => have := (hM.labs _ t hMx).2.2; omega

theorem InvC.inv {B : Nat} {w0 w : World} {n bw br cb : Nat} {o : Obj} {cut : Bool} {V : Nat} (h : InvC B w0 w n bw br cb o cut V) : Inv B w0 w n bw br cut V := by
  obtain ⟨L, S, M, W0, W1, R0, R1, va, vb, vc, vd, c, hn, h3, hv, hM, hc, ho, l0, l1, _⟩ := h
  exact ⟨L, S, M, W0, W1, R0, R1, va, vb, vc, vd, c, hn, h3, hv, hM, hc, ho, l0, l1⟩

theorem InvC.blk {B : Nat} {w0 w : World} {n bw br cb : Nat} {o : Obj} {cut : Bool} {V : Nat} (h : InvC B w0 w n bw br cb o cut V) : w.heap[cb]? = some o := by
  obtain ⟨L, S, M, W0, W1, R0, R1, va, vb, vc, vd, c, hn, h3, hv, hM, hc, ho, l0, l1, _, _, _, hb⟩ := h
  exact hb

theorem InvC.mono {B : Nat} {w0 w : World} {n bw br cb : Nat} {o : Obj} {cut : Bool} {V V' : Nat} (h : InvC B w0 w n bw br cb o cut V) (hV : V ≤ V') : InvC B w0 w n bw br cb o cut V' := by
  obtain ⟨L, S, M, W0, W1, R0, R1, va, vb, vc, vd, c, hn, h3, hv, hM, hc, ho, l0, l1, r⟩ := h
  exact ⟨L, S, M, W0, W1, R0, R1, va, vb, vc, vd, c, hn, h3, fun j c hj => Nat.le_trans (hv j c hj) hV, hM, hc, ho, by omega, by omega, r⟩

/-- Behind a Write to connection 1 that was taken, ahead of the law's own append. -/
def InvW (B : Nat) (w0 w : World) (n bw br cb : Nat) (o : Obj) (sd : Int) (ps : List UInt8) (V V' : Nat) : Prop :=
  ∃ L S M W0 W1 R0 R1 va vb vc vd c, Net1 B w0 w L n S ∧ S.cs.length = 3 ∧ (∀ (j : Nat) (c : Cn), S.cs[j]? = some c → c.vol ≤ V') ∧ MineAt B w L M bw br W0 W1 R0 R1 va vb vc vd ∧
    S.cs[1]? = some (c.setSd sd { c.sd sd with under := (c.sd sd).under ++ ps }) ∧
    Ord false c W0 W1 R0 R1 ∧ W0.length ≤ V ∧ W1.length ≤ V ∧ L cb = none ∧ M cb = none ∧ B ≤ cb ∧ w.heap[cb]? = some o

theorem vol_write (c : Cn) (sd : Int) (hk : sd = 0 ∨ sd = 1) (ps : List UInt8) : (c.setSd sd { c.sd sd with under := (c.sd sd).under ++ ps }).vol = c.vol + ps.length := by
  rcases hk with rfl | rfl <;> simp [Cn.setSd, Cn.sd, Cn.vol] <;> omega

theorem vol_close (c : Cn) (sd : Int) (hk : sd = 0 ∨ sd = 1) : (c.setSd sd { c.sd sd with closed := true }).vol = c.vol := by
  rcases hk with rfl | rfl <;> simp [Cn.setSd, Cn.sd, Cn.vol]

theorem vol_read (c : Cn) (sd : Int) (hk : sd = 0 ∨ sd = 1) : (c.setSd sd { c.sd sd with there := [] }).vol ≤ c.vol := by
  rcases hk with rfl | rfl <;> simp [Cn.setSd, Cn.sd, Cn.vol] <;> omega

theorem vol_cut (c : Cn) : c.cutOff.vol = 0 := rfl

theorem vol_pass (c : Cn) (sd : Int) (hk : sd = 0 ∨ sd = 1) (m : Nat) : (c.passed sd m).vol ≤ c.vol := by
  rcases hk with rfl | rfl <;> simp [Cn.passed, Cn.vol] <;> omega

theorem set_get {S : St} {j i : Nat} {c d : Cn} (h : (S.set j c).cs[i]? = some d) : (i = j ∧ d = c) ∨ (i ≠ j ∧ S.cs[i]? = some d) := by
  unfold St.set at h
  simp only [List.getElem?_set] at h
  split at h
  · rename_i e; subst e
    split at h
    · exact .inl ⟨rfl, (Option.some.inj h).symm⟩
    · cases h
  · rename_i e; exact .inr ⟨fun q => e q.symm, h⟩

theorem set_len (S : St) (j : Nat) (c : Cn) : (S.set j c).cs.length = S.cs.length := by simp [St.set]

theorem set_one {S : St} {j : Nat} {c c1 : Cn} (hj : j < S.cs.length) (h1 : S.cs[1]? = some c1) : (S.set j c).cs[1]? = some (if j = 1 then c else c1) := by
  unfold St.set
  by_cases e : j = 1
  · subst e; simp [hj]
  · rw [if_neg e]; simp only [List.getElem?_set, if_neg e]; exact h1

theorem invC_net {B : Nat} {w0 w w' : World} {n bw br cb : Nat} {o : Obj} {cut : Bool} {V : Nat} {L L' : Lab} {S' : St} {M : MLab} {W0 W1 R0 R1 : List UInt8} {va vb vc vd : Value} {c' : Cn}
    (hn : Net1 B w0 w' L' n S') (hf : Fr w L w' L') (h3 : S'.cs.length = 3) (hv : ∀ (j : Nat) (c : Cn), S'.cs[j]? = some c → c.vol ≤ V) (hM : MineAt B w L M bw br W0 W1 R0 R1 va vb vc vd) (hc : S'.cs[1]? = some c')
    (ho : Ord cut c' W0 W1 R0 R1) (l0 : W0.length ≤ V) (l1 : W1.length ≤ V) (hl : L cb = none) (hm : M cb = none) (hB : B ≤ cb) (hb : w.heap[cb]? = some o) : InvC B w0 w' n bw br cb o cut V :=
  ⟨L', S', M, W0, W1, R0, R1, va, vb, vc, vd, c', hn, h3, hv, hM.net hf, hc, ho, l0, l1, (hf.1 cb (lt_of_heap hb)).elim (fun e => e.trans hl) id, hm, hB, hf.2.heap hb (fun e => e hl)⟩

theorem invW_net {B : Nat} {w0 w w' : World} {n bw br cb : Nat} {o : Obj} {sd : Int} {ps : List UInt8} {V V' : Nat} {L L' : Lab} {S' : St} {M : MLab} {W0 W1 R0 R1 : List UInt8} {va vb vc vd : Value} {c : Cn}
    (hn : Net1 B w0 w' L' n S') (hf : Fr w L w' L') (h3 : S'.cs.length = 3) (hv : ∀ (j : Nat) (c : Cn), S'.cs[j]? = some c → c.vol ≤ V') (hM : MineAt B w L M bw br W0 W1 R0 R1 va vb vc vd)
    (hc : S'.cs[1]? = some (c.setSd sd { c.sd sd with under := (c.sd sd).under ++ ps }))
    (ho : Ord false c W0 W1 R0 R1) (l0 : W0.length ≤ V) (l1 : W1.length ≤ V) (hl : L cb = none) (hm : M cb = none) (hB : B ≤ cb) (hb : w.heap[cb]? = some o) : InvW B w0 w' n bw br cb o sd ps V V' :=
  ⟨L', S', M, W0, W1, R0, R1, va, vb, vc, vd, c, hn, h3, hv, hM.net hf, hc, ho, l0, l1, (hf.1 cb (lt_of_heap hb)).elim (fun e => e.trans hl) id, hm, hB, hf.2.heap hb (fun e => e hl)⟩

theorem set_vol {S : St} {j : Nat} {c : Cn} {V : Nat} (hv : ∀ (i : Nat) (d : Cn), S.cs[i]? = some d → d.vol ≤ V) {V' : Nat} (hV : V ≤ V') (hc : c.vol ≤ V') : ∀ (i : Nat) (d : Cn), (S.set j c).cs[i]? = some d → d.vol ≤ V' := by
  intro i d hd
  rcases set_get hd with ⟨_, rfl⟩ | ⟨_, h⟩
  · exact hc
  · exact Nat.le_trans (hv i d h) hV

theorem get_conn {S : St} (h3 : S.cs.length = 3) {cn : Int} (h0 : 0 ≤ cn) (h2 : cn ≤ 2) : ∃ c, S.cs[cn.toNat]? = some c := ⟨_, List.getElem?_eq_getElem (by omega)⟩

theorem three_le {S : St} (h3 : S.cs.length = 3) : S.cs.length ≤ maxLen := by rw [h3]; decide

end Go.Proofs.Ytibijonjjkknoaa
