/-
A net of the program and one of the reference, side by side: each call at both gives the same answer, and they go on alike.
-/
import Derived.Test.YtibijonjjkknoaaNetPair
set_option linter.unusedVariables false
set_option linter.unusedSimpArgs false
namespace Go.Proofs.Ytibijonjjkknoaa
open Go Go.RowKit

structure Both (w0 w : World) (It : Nat → Item) (r n rb : Nat) (L : Lab) (S : St) (R : RS) (N : Nat) : Prop where
  bg : Bg w0 w It
  net : It r = NI w0.heap.size n L S
  ref : RefIs It r rb R
  pair : Pair S R N
  rlt : r < 2

inductive Duo (w0 w : World) (It : Nat → Item) (r : Nat) : Value → Value → Nat → Prop
  | bare {N : Nat} : Bg w0 w It → Duo w0 w It r (.pointer none) (.pointer none) N
  | both {n rb N : Nat} {L : Lab} {S : St} {R : RS} : Both w0 w It r n rb L S R N → Duo w0 w It r (.pointer (some ⟨n, 0, none⟩)) (.pointer (some ⟨rb, 0, none⟩)) N

/-- Nothing else turned. -/
def Oth (r : Nat) (It It' : Nat → Item) : Prop := ∀ i, i ≠ r → (∀ j, i ≠ ix r j) → It' i = It i

theorem Oth.refl (r : Nat) (It : Nat → Item) : Oth r It It := fun _ _ _ => rfl
theorem Oth.trans {r : Nat} {I1 I2 I3 : Nat → Item} (h : Oth r I1 I2) (k : Oth r I2 I3) : Oth r I1 I3 := fun i a b => (k i a b).trans (h i a b)

def DuoP (w0 : World) (It : Nat → Item) (r : Nat) (np rp : Value) (N : Nat) (w' : World) : Prop := ∃ It', Duo w0 w' It' r np rp N ∧ Oth r It It'

/-- Two calls, one behind the other, with the same answer. -/
def Two (fp fr : FuncId) (pa ra : Array Value) (w : World) (F : Nat → Prop) (shape : Value → Prop) (Post : World → Prop) : Prop :=
  ∃ v, shape v ∧ ∃ M : World → Prop, Calls Try.prog fp pa w (fun e w1 => e = .returned v ∧ M w1 ∧ Mod F w w1) ∧ ∀ w1, M w1 → Calls Try.prog fr ra w1 (fun e w' => e = .returned v ∧ Post w')

def IsI (v : Value) : Prop := ∃ y, v = .int .i64 y
def IsII (v : Value) : Prop := ∃ a y, v = .tuple #[.int .i64 a, .int .i64 y]
def IsIB (v : Value) : Prop := ∃ a b, v = .tuple #[.int .i64 a, .bool b]

section
variable {w0 w : World} {It : Nat → Item} {r n rb N : Nat} {L : Lab} {S : St} {R : RS}

theorem RefIs.other {It' : Nat → Item} (h : RefIs It r rb R) (ho : ∀ j, It' (ix r j) = It (ix r j)) : RefIs It' r rb R := by
  obtain ⟨cv, nv, tv, bs, vs, h⟩ := h
  exact ⟨cv, nv, tv, bs, vs, by rw [ho]; exact h.hd, by rw [ho]; exact h.cs, by rw [ho]; exact h.ns, by rw [ho]; exact h.ts, h.len, fun i b c hb hc => by rw [ho, ho, ho]; exact h.cn i b c hb hc⟩

theorem Both.later (h : Both w0 w It r n rb L S R N) {w2 : World} (hb : Below w.heap.size w w2) : Both w0 w2 It r n rb L S R N := ⟨h.bg.later hb, h.net, h.ref, h.pair, h.rlt⟩
theorem Duo.later {np rp : Value} (h : Duo w0 w It r np rp N) {w2 : World} (hb : Below w.heap.size w w2) : Duo w0 w2 It r np rp N := by
  cases h with
  | bare h => exact .bare (h.later hb)
  | both h => exact .both (h.later hb)

theorem Duo.bg {np rp : Value} (h : Duo w0 w It r np rp N) : Bg w0 w It := by
  cases h with
  | bare h => exact h
  | both h => exact h.bg

theorem Both.netIs (h : Both w0 w It r n rb L S R N) : NetIs w0.heap.size w L n S := by
  have := h.bg.bag.holds r
  rw [h.net] at this
  exact this

theorem Both.le (h : Both w0 w It r n rb L S R N) : w0.heap.size ≤ w.heap.size := h.bg.below.size
theorem Both.net1 (h : Both w0 w It r n rb L S R N) : Net1 w0.heap.size w0 w L n S := ⟨h.netIs, h.bg.below, h.le⟩
theorem Both.max (h : Both w0 w It r n rb L S R N) : S.cs.length ≤ maxLen := by
  have h1 := h.pair.len
  have h2 := h.pair.nc
  unfold maxLen
  omega

theorem r_ne (h : r < 2) (j : Nat) : ix r j ≠ r := by unfold ix; omega

theorem Both.two (h : Both w0 w It r n rb L S R N) {fp fr : FuncId} {pa ra : Array Value} {v : Value} {shape : Value → Prop} (hv : shape v) {S' : St} {R' : RS}
    (hp : Calls Try.prog fp pa w fun e w1 => e = .returned v ∧ Left w0.heap.size w L n S' w1)
    (hr : ∀ w1 It1, Bg w0 w1 It1 → RefIs It1 r rb R → Calls Try.prog fr ra w1 fun e w' => e = .returned v ∧ RPost w0 w1 It1 r rb R' w') (hpair : Pair S' R' (N + 1)) :
    Two fp fr pa ra w (It r).own shape (DuoP w0 It r (.pointer (some ⟨n, 0, none⟩)) (.pointer (some ⟨rb, 0, none⟩)) (N + 1)) := by
  refine ⟨v, hv, fun w1 => ∃ L', Bg w0 w1 (upd It r (NI w0.heap.size n L' S')), hp.mono fun e w1 ⟨he, L', hl⟩ => ⟨he, ⟨L', h.bg.net r h.net hl⟩, by rw [h.net]; exact hl.2.2⟩, fun w1 ⟨L', hB⟩ => ?_⟩
  refine (hr w1 _ hB (h.ref.other fun j => upd_ne _ _ (r_ne h.rlt j))).mono fun e w' ⟨he, It', h1, h2, h3, h4⟩ => ⟨he, It', .both (L := L') ⟨h1, ?_, h2, hpair, h.rlt⟩, fun i hi hj => ?_⟩
  · rw [h3 r (fun j => (r_ne h.rlt j).symm), upd_same]
  · rw [h3 i hj, upd_ne _ _ hi]

theorem left_same {B : Nat} (h : NetIs B w L n S) {w1 : World} (hw : w1 = w) : Left B w L n S w1 := by
  subst hw
  exact Left.same h (Mod.refl _ _)

theorem left_drew {B : Nat} (h : NetIs B w L n S) {w1 : World} (hw : ∃ k, w.drewN k = w1) : Left B w L n S w1 := by
  obtain ⟨k, rfl⟩ := hw
  exact Left.same h ((Mod.refl _ _).drewN k)

theorem rpost_same {w1 : World} {It1 : Nat → Item} (hB : Bg w0 w1 It1) (h : RefIs It1 r rb R) {w' : World} (hw : w' = w1) : RPost w0 w1 It1 r rb R w' := by
  subst hw
  exact RPost.same hB h (Below.refl _ _)

/-- A pair of nil nets: nothing turns. -/
theorem nil_two {fp fr : FuncId} {pa ra : Array Value} {v : Value} {shape : Value → Prop} (hv : shape v) (hB : Bg w0 w It)
    (hp : Calls Try.prog fp pa w fun e w1 => e = .returned v ∧ w1 = w) (hr : ∀ w1, Calls Try.prog fr ra w1 fun e w' => e = .returned v ∧ w' = w1) :
    Two fp fr pa ra w (It r).own shape (DuoP w0 It r (.pointer none) (.pointer none) (N + 1)) :=
  ⟨v, hv, fun w1 => w1 = w, hp.mono fun e w1 ⟨he, h⟩ => ⟨he, h, by subst h; exact Mod.refl _ _⟩, fun w1 hw => (hr w1).mono fun e w' ⟨he, h2⟩ => ⟨he, It, .bare (by rw [h2, hw]; exact hB), Oth.refl _ _⟩⟩

/-! Refuse -/
theorem Duo.refuse {np rp : Value} (h : Duo w0 w It r np rp N) (hN : N < 67108864) (name : ByteArray) (hname : name.size ≤ maxLen) (t : Int) (ht : t ≤ 9223372036854775807) :
    Two 22 23 #[np, .string name, .int .i64 t] #[rp, .string name, .int .i64 t] w (It r).own IsI (DuoP w0 It r np rp (N + 1)) := by
  cases h with
  | bare hB => exact nil_two ⟨1, rfl⟩ hB (prefuse_nil w name t) (fun w1 => rrefuse_nil w1 name t)
  | @both n rb N L S R h =>
    by_cases h0 : t < 0
    · exact h.two ⟨2, rfl⟩ ((prefuse_arg w n name t h0).mono fun e w1 ⟨he, hw⟩ => ⟨he, left_same h.netIs hw⟩) (fun w1 It1 hB hR => (rrefuse_arg w1 rb name t h0).mono fun e w' ⟨he, hw⟩ => ⟨he, rpost_same hB hR hw⟩) h.pair.next
    · have hsm : R.names.length ≤ 1099511627776 := by have := h.pair.nn; omega
      have hp := prefuse_ok h.netIs name hname t (by omega) ht (by have := h.pair.m; unfold maxLen; omega)
      rcases hit_or_miss R name with ⟨k, hk⟩ | hm
      · exact h.two ⟨0, rfl⟩ (hp.mono fun e w1 ⟨he, hl⟩ => ⟨he, L, hl⟩) (fun w1 It1 hB hR => rrefuse_hit hB hR name t (by omega) hk h.pair.nt hsm) (h.pair.retime hk t (by omega) ht)
      · exact h.two ⟨0, rfl⟩ (hp.mono fun e w1 ⟨he, hl⟩ => ⟨he, L, hl⟩) (fun w1 It1 hB hR => rrefuse_new hB hR name t (by omega) hm h.pair.nt hsm) (h.pair.newname hm t (by omega) ht)

/-! Dial -/
theorem Duo.dial {np rp : Value} (h : Duo w0 w It r np rp N) (hN : N < 67108864) (name : ByteArray) (hname : name.size ≤ maxLen) :
    Two 9 24 #[np, .string name] #[rp, .string name] w (It r).own IsII (DuoP w0 It r np rp (N + 1)) := by
  cases h with
  | bare hB => exact nil_two ⟨-1, 1, rfl⟩ hB (pdial_nil w name) (fun w1 => rdial_nil w1 name)
  | @both n rb N L S R h =>
    have hlen := h.pair.len
    have hnc := h.pair.nc
    have hsm : R.names.length ≤ 1099511627776 := by have := h.pair.nn; omega
    by_cases hf : R.cs.length = 4096
    · exact h.two ⟨-1, 3, rfl⟩ ((pdial_full h.netIs (by omega) name).mono fun e w1 ⟨he, hw⟩ => ⟨he, left_same h.netIs hw⟩) (fun w1 It1 hB hR => (rdial_full hB hR (by omega) name).mono fun e w' ⟨he, hw⟩ => ⟨he, rpost_same hB hR hw⟩) h.pair.next
    · have hnew : ∀ (hz : ∀ c : Int, S.D.atKey (keyS name) zeroD = .lit (.int .i64 c) → c ≤ 0) (hno : ∀ (j : Nat) s t, R.names[j]? = some s → R.times[j]? = some t → s = name → t ≤ 0),
          Two 9 24 #[.pointer (some ⟨n, 0, none⟩), .string name] #[.pointer (some ⟨rb, 0, none⟩), .string name] w (It r).own IsII (DuoP w0 It r (.pointer (some ⟨n, 0, none⟩)) (.pointer (some ⟨rb, 0, none⟩)) (N + 1)) := fun hz hno =>
        h.two ⟨_, 0, rfl⟩ (dial_ok h.netIs h.le (by omega) name hname hz) (fun w1 It1 hB hR => by rw [hlen]; exact rdial_new hB hR (by omega) name hno h.pair.nt hsm) (h.pair.dialed (by omega) name)
      rcases h.pair.mp name with ⟨k, t, hk, hkt, hat⟩ | ⟨hm, hat⟩
      · have htm := h.pair.tm k t hkt
        by_cases hpos : 0 < t
        · exact h.two ⟨-1, 41, rfl⟩ ((pdial_refused h.netIs (by omega) name hname t hat hpos htm.2 (by have := h.pair.m; unfold maxLen; omega)).mono fun e w1 ⟨he, hl⟩ => ⟨he, L, hl⟩) (fun w1 It1 hB hR => rdial_refused hB hR (by omega) name hk hkt hpos htm.2 h.pair.nt hsm) (h.pair.retime hk (t - 1) (by omega) (by omega))
        · refine hnew (fun c hc => ?_) (fun j s x hs hx e => ?_)
          · rw [hat] at hc
            simp only [DataW.lit.injEq, Lit.int.injEq, true_and] at hc
            omega
          · subst e
            have := h.pair.uq j k s hs hk.1
            subst this
            rw [hkt] at hx
            cases hx
            omega
      · refine hnew (fun c hc => ?_) (fun j s x hs hx e => absurd e (hm j s hs))
        rw [hat] at hc
        simp only [DataW.lit.injEq, Lit.int.injEq, true_and] at hc
        omega

/-! Accept -/
theorem Duo.accept {np rp : Value} (h : Duo w0 w It r np rp N) (hN : N < 67108864) (name : ByteArray) :
    Two 25 26 #[np, .string name] #[rp, .string name] w (It r).own IsIB (DuoP w0 It r np rp (N + 1)) := by
  cases h with
  | bare hB => exact nil_two ⟨0, false, rfl⟩ hB (paccept_nil w name) (fun w1 => raccept_nil w1 name)
  | @both n rb N L S R h =>
    have hlen := h.pair.len
    have hnc := h.pair.nc
    have hiff : ∀ (j : Nat) c d, S.cs[j]? = some c → R.cs[j]? = some d → (c.waits name ↔ d.waits name) := fun j c d hc hd => by
      have q := h.pair.cn j c d hc hd
      unfold Cn.waits RC.waits
      rw [q.waiting, q.cut, q.name]
    by_cases hex : ∃ k : Nat, ∃ c, S.cs[k]? = some c ∧ c.waits name
    · obtain ⟨k, ⟨c, hc, hw⟩, hmin⟩ := least hex
      have hk := (List.getElem?_eq_some_iff.1 hc).1
      obtain ⟨d, hd⟩ : ∃ d, R.cs[k]? = some d := ⟨_, List.getElem?_eq_getElem (by omega)⟩
      refine h.two ⟨_, true, rfl⟩ ((paccept_hit h.netIs h.le name hc hw (fun j hj c2 hc2 hw2 => hmin j hj ⟨c2, hc2, hw2⟩) (by omega)).mono fun e w1 ⟨he, hl⟩ => ⟨he, L, hl⟩)
        (fun w1 It1 hB hR => raccept_hit hB hR name hd ((hiff k c d hc hd).1 hw) (fun j hj d2 hd2 hw2 => ?_) (by omega)) (h.pair.setConn (h.pair.cn k c d hc hd).accept)
      have hj2 := (List.getElem?_eq_some_iff.1 hd2).1
      obtain ⟨c2, hc2⟩ : ∃ c2, S.cs[j]? = some c2 := ⟨_, List.getElem?_eq_getElem (by omega)⟩
      exact hmin j hj ⟨c2, hc2, (hiff j c2 d2 hc2 hd2).2 hw2⟩
    · refine h.two ⟨0, false, rfl⟩ ((paccept_none h.netIs name (fun j c hc hw => hex ⟨j, c, hc, hw⟩) (by omega)).mono fun e w1 ⟨he, hw⟩ => ⟨he, left_same h.netIs hw⟩)
        (fun w1 It1 hB hR => (raccept_none hB hR name (fun j d hd hw => ?_) (by omega)).mono fun e w' ⟨he, hw⟩ => ⟨he, rpost_same hB hR hw⟩) h.pair.next
      have hj2 := (List.getElem?_eq_some_iff.1 hd).1
      obtain ⟨c, hc⟩ : ∃ c, S.cs[j]? = some c := ⟨_, List.getElem?_eq_getElem (by omega)⟩
      exact hex ⟨j, c, hc, (hiff j c d hc hd).2 hw⟩

/-- Where there is something to be done. -/
theorem Both.at (h : Both w0 w It r n rb L S R N) {i k : Int} (hw : S.why i k = 0) : ∃ (j : Nat) (c : Cn) (d : RC), i = (j : Int) ∧ S.cs[j]? = some c ∧ R.cs[j]? = some d ∧ c.cut = false ∧ d.cut = false ∧ CP c d N ∧ Live c d ∧ (k = 0 ∨ k = 1) := by
  obtain ⟨j, c, rfl, hc, hcut, hk⟩ := why_ok hw
  have hj := (List.getElem?_eq_some_iff.1 hc).1
  obtain ⟨d, hd⟩ : ∃ d, R.cs[j]? = some d := ⟨_, List.getElem?_eq_getElem (by have := h.pair.len; omega)⟩
  have q := h.pair.cn j c d hc hd
  exact ⟨j, c, d, rfl, hc, hd, hcut, by rw [← q.cut]; exact hcut, q, q.live hcut, hk⟩

theorem Both.rbad (h : Both w0 w It r n rb L S R N) {i k : Int} (hw : S.why i k ≠ 0) {w1 : World} {It1 : Nat → Item} (hB : Bg w0 w1 It1) (hR : RefIs It1 r rb R) : RBad (some ⟨rb, 0, none⟩) i k w1 (S.why i k) := by
  rw [h.pair.why] at hw ⊢
  exact rbad_ok hB hR hw

/-! Close -/
theorem Duo.close {np rp : Value} (h : Duo w0 w It r np rp N) (hN : N < 67108864) (i k : Int) :
    Two 14 28 #[np, .int .i64 i, .int .i64 k] #[rp, .int .i64 i, .int .i64 k] w (It r).own IsI (DuoP w0 It r np rp (N + 1)) := by
  cases h with
  | bare hB => exact nil_two ⟨1, rfl⟩ hB ((close_bad (ofBad_nil i k w)).mono fun e w1 ⟨he, hw⟩ => ⟨he, hw.symm⟩) (fun w1 => rclose_bad (rbad_nil w1 i k))
  | @both n rb N L S R h =>
    by_cases hw : S.why i k = 0
    · obtain ⟨j, c, d, rfl, hc, hd, hcut, hcut2, hcp, hl, hk⟩ := h.at hw
      rcases hk with rfl | rfl
      · cases hcl : d.C 0 with
        | true =>
          exact h.two ⟨42, rfl⟩ ((close_ended h.net1 h.max _ j rfl 0 c hc hcut (.inl rfl) (hl.c0.trans hcl)).mono fun e w1 ⟨he, hw⟩ => ⟨he, left_drew h.netIs hw⟩) (fun w1 It1 hB hR => (rclose_ended0 hB hR hd hcut2 hcl).mono fun e w' ⟨he, hw⟩ => ⟨he, rpost_same hB hR hw⟩) h.pair.next
        | false =>
          exact h.two ⟨0, rfl⟩ (close_ok h.netIs h.le h.max j 0 c hc hcut (.inl rfl) (hl.c0.trans hcl)) (fun w1 It1 hB hR => rclose_ok0 hB hR hd hcut2 hcl) (h.pair.setConn (hcp.closed0 hcut))
      · cases hcl : d.C 1 with
        | true =>
          exact h.two ⟨42, rfl⟩ ((close_ended h.net1 h.max _ j rfl 1 c hc hcut (.inr rfl) (hl.c1.trans hcl)).mono fun e w1 ⟨he, hw⟩ => ⟨he, left_drew h.netIs hw⟩) (fun w1 It1 hB hR => (rclose_ended1 hB hR hd hcut2 hcl).mono fun e w' ⟨he, hw⟩ => ⟨he, rpost_same hB hR hw⟩) h.pair.next
        | false =>
          exact h.two ⟨0, rfl⟩ (close_ok h.netIs h.le h.max j 1 c hc hcut (.inr rfl) (hl.c1.trans hcl)) (fun w1 It1 hB hR => rclose_ok1 hB hR hd hcut2 hcl) (h.pair.setConn (hcp.closed1 hcut))
    · exact h.two ⟨_, rfl⟩ ((close_bad (ofBad_why h.netIs h.max i k hw)).mono fun e w1 ⟨he, hw⟩ => ⟨he, left_same h.netIs hw.symm⟩) (fun w1 It1 hB hR => (rclose_bad (h.rbad hw hB hR)).mono fun e w' ⟨he, hw⟩ => ⟨he, rpost_same hB hR hw⟩) h.pair.next

/-! Cut -/
theorem Duo.cut {np rp : Value} (h : Duo w0 w It r np rp N) (hN : N < 67108864) (i : Int) :
    Two 15 31 #[np, .int .i64 i] #[rp, .int .i64 i] w (It r).own IsI (DuoP w0 It r np rp (N + 1)) := by
  cases h with
  | bare hB => exact nil_two ⟨1, rfl⟩ hB ((cut_bad (k := 0) (ofBad_nil i 0 w)).mono fun e w1 ⟨he, hw⟩ => ⟨he, hw.symm⟩) (fun w1 => rcut_bad (rbad_nil w1 i 0))
  | @both n rb N L S R h =>
    by_cases hw : S.why i 0 = 0
    · obtain ⟨j, c, d, rfl, hc, hd, hcut, hcut2, hcp, hl, hk⟩ := h.at hw
      exact h.two ⟨0, rfl⟩ (cut_ok h.netIs h.le h.max j c hc hcut) (fun w1 It1 hB hR => rcut_ok hB hR hd hcut2) (h.pair.setConn hcp.cutOff)
    · exact h.two ⟨_, rfl⟩ ((cut_bad (k := 0) (ofBad_why h.netIs h.max i 0 hw)).mono fun e w1 ⟨he, hw⟩ => ⟨he, left_same h.netIs hw.symm⟩) (fun w1 It1 hB hR => (rcut_bad (h.rbad hw hB hR)).mono fun e w' ⟨he, hw⟩ => ⟨he, rpost_same hB hR hw⟩) h.pair.next

/-! Pass -/
theorem ppass_nil (w : World) (i k most : Int) : Calls Try.prog 11 #[.pointer none, .int .i64 i, .int .i64 k, .int .i64 most] w fun e w' => e = .returned (.tuple #[.int .i64 0, .int .i64 1]) ∧ w' = w := by
  have H := Lib.hid (of_nil i k w)
  go_enter Try.func11, Try.ntmps11
  go_wp2_with fail
  refine H.out.mono ?_
  rintro e w1 ⟨rfl, hw⟩
  obtain rfl := hw
  clear H
  go_wp2
  go_ret2
  exact ⟨rfl, rfl⟩

theorem Duo.pass {np rp : Value} (h : Duo w0 w It r np rp N) (hN : N < 67108864) (i k most : Int) :
    Two 11 29 #[np, .int .i64 i, .int .i64 k, .int .i64 most] #[rp, .int .i64 i, .int .i64 k, .int .i64 most] w (It r).own IsII (DuoP w0 It r np rp (N + 1)) := by
  cases h with
  | bare hB => exact nil_two ⟨0, 1, rfl⟩ hB (ppass_nil w i k most) (fun w1 => rpass_bad (rbad_nil w1 i k) (.inl rfl))
  | @both n rb N L S R h =>
    by_cases hm : most < 0
    · exact h.two ⟨0, 2, rfl⟩ ((pass_arg w n i k most hm).mono fun e w1 ⟨he, hw⟩ => ⟨he, left_same h.netIs hw.symm⟩) (fun w1 It1 hB hR => (rpass_arg w1 rb i k most hm).mono fun e w' ⟨he, hw⟩ => ⟨he, rpost_same hB hR hw⟩) h.pair.next
    · obtain ⟨mm, rfl⟩ : ∃ mm : Nat, most = (mm : Int) := ⟨most.toNat, by omega⟩
      by_cases hw : S.why i k = 0
      · obtain ⟨j, c, d, rfl, hc, hd, hcut, hcut2, hcp, hl, hk⟩ := h.at hw
        have hok := hcp.ok (by omega)
        have hul := hl.under_len
        have hq0 := hok.q 0
        have hq1 := hok.q 1
        have hp0 := hok.p 0
        have hp1 := hok.p 1
        have hw0 := hok.w 0
        have hw1 := hok.w 1
        have ht0 : c.s0.there.length = d.P 1 - d.Q 1 := by rw [hl.t0]; exact (RC.left_len hok 1).symm
        have ht1 : c.s1.there.length = d.P 0 - d.Q 0 := by rw [hl.t1]; exact (RC.left_len hok 0).symm
        rcases hk with rfl | rfl
        · have hb : (c.sd (1 - 0)).there.length + (c.sd 0).under.length ≤ 140737488355328 := by
            show c.s1.there.length + c.s0.under.length ≤ _
            rw [ht1, hul.1]; omega
          have hp := pass_ok h.netIs h.le h.max j 0 c hc hcut (.inl rfl) (mm : Int) (by omega) hb
          have e1 : passLen c 0 (mm : Int) = min mm ((d.W 0).length - d.P 0) := by
            show min ((mm : Int)).toNat c.s0.under.length = _
            rw [hul.1]; rfl
          rw [e1] at hp
          by_cases hlt : mm < (d.W 0).length - d.P 0
          · rw [Nat.min_eq_left (Nat.le_of_lt hlt)] at hp
            cases hcl : d.C 0 with
            | false => exact h.two ⟨_, 0, rfl⟩ hp (fun w1 It1 hB hR => rpass_ok0A hB hR hd hcut2 hok hcl mm hlt) (h.pair.setConn (hcp.passed0 hcut (Nat.le_of_lt hlt)))
            | true => exact h.two ⟨_, 0, rfl⟩ hp (fun w1 It1 hB hR => rpass_ok0B hB hR hd hcut2 hok hcl mm hlt) (h.pair.setConn (hcp.passed0 hcut (Nat.le_of_lt hlt)))
          · rw [Nat.min_eq_right (by omega)] at hp
            cases hcl : d.C 0 with
            | false => exact h.two ⟨_, 0, rfl⟩ hp (fun w1 It1 hB hR => rpass_ok0C hB hR hd hcut2 hok hcl mm (by omega)) (h.pair.setConn (hcp.passed0 hcut (Nat.le_refl _)))
            | true => exact h.two ⟨_, 0, rfl⟩ hp (fun w1 It1 hB hR => rpass_ok0D hB hR hd hcut2 hok hcl mm (by omega)) (h.pair.setConn (hcp.passed0 hcut (Nat.le_refl _)))
        · have hb : (c.sd (1 - 1)).there.length + (c.sd 1).under.length ≤ 140737488355328 := by
            show c.s0.there.length + c.s1.under.length ≤ _
            rw [ht0, hul.2]; omega
          have hp := pass_ok h.netIs h.le h.max j 1 c hc hcut (.inr rfl) (mm : Int) (by omega) hb
          have e1 : passLen c 1 (mm : Int) = min mm ((d.W 1).length - d.P 1) := by
            show min ((mm : Int)).toNat c.s1.under.length = _
            rw [hul.2]; rfl
          rw [e1] at hp
          by_cases hlt : mm < (d.W 1).length - d.P 1
          · rw [Nat.min_eq_left (Nat.le_of_lt hlt)] at hp
            cases hcl : d.C 1 with
            | false => exact h.two ⟨_, 0, rfl⟩ hp (fun w1 It1 hB hR => rpass_ok1A hB hR hd hcut2 hok hcl mm hlt) (h.pair.setConn (hcp.passed1 hcut (Nat.le_of_lt hlt)))
            | true => exact h.two ⟨_, 0, rfl⟩ hp (fun w1 It1 hB hR => rpass_ok1B hB hR hd hcut2 hok hcl mm hlt) (h.pair.setConn (hcp.passed1 hcut (Nat.le_of_lt hlt)))
          · rw [Nat.min_eq_right (by omega)] at hp
            cases hcl : d.C 1 with
            | false => exact h.two ⟨_, 0, rfl⟩ hp (fun w1 It1 hB hR => rpass_ok1C hB hR hd hcut2 hok hcl mm (by omega)) (h.pair.setConn (hcp.passed1 hcut (Nat.le_refl _)))
            | true => exact h.two ⟨_, 0, rfl⟩ hp (fun w1 It1 hB hR => rpass_ok1D hB hR hd hcut2 hok hcl mm (by omega)) (h.pair.setConn (hcp.passed1 hcut (Nat.le_refl _)))
      · exact h.two ⟨0, _, rfl⟩ ((pass_bad (ofBad_why h.netIs h.max i k hw) (mm : Int) (by omega)).mono fun e w1 ⟨he, hw⟩ => ⟨he, left_same h.netIs hw.symm⟩) (fun w1 It1 hB hR => (rpass_bad (h.rbad hw hB hR) (.inr (by omega))).mono fun e w' ⟨he, hw⟩ => ⟨he, rpost_same hB hR hw⟩) h.pair.next

end

end Go.Proofs.Ytibijonjjkknoaa
