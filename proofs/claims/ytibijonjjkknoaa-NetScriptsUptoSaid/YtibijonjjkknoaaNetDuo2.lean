/-
A net of the program and one of the reference, side by side: Under, Read and Write.
-/
import Derived.Test.YtibijonjjkknoaaNetDuo
set_option linter.unusedVariables false
set_option linter.unusedSimpArgs false
namespace Go.Proofs.Ytibijonjjkknoaa
open Go Go.RowKit

section
variable {w0 w : World} {It : Nat → Item} {r n rb N : Nat} {L : Lab} {S : St} {R : RS}

theorem below_drew {k : Nat} : Below w.heap.size w (w.drewN k) := ⟨rfl, rfl, rfl, Nat.le_refl _, fun _ _ => rfl⟩
theorem below_eq {w1 : World} (h : w1 = w) : Below w.heap.size w w1 := by subst h; exact Below.refl _ _

theorem mod_eq {F : Nat → Prop} {w1 : World} (h : w1 = w) : Mod F w w1 := by subst h; exact Mod.refl _ _

/-! Under -/
theorem Duo.under {np rp : Value} (h : Duo w0 w It r np rp N) (hN : N < 67108864) (i k : Int) :
    ∃ y : Int, (Calls Try.prog 16 #[np, .int .i64 i, .int .i64 k] w fun e w1 => e = .returned (.int .i64 y) ∧ Below w.heap.size w w1) ∧
      ∀ w1, Below w.heap.size w w1 → Calls Try.prog 18 #[rp, .int .i64 i, .int .i64 k] w1 fun e w' => e = .returned (.int .i64 y) ∧ Below w1.heap.size w1 w' := by
  cases h with
  | bare hB => exact ⟨0, (under_bad (ofBad_nil i k w)).mono fun e w1 ⟨he, hw⟩ => ⟨he, below_eq hw.symm⟩, fun w1 _ => (runder_bad (rbad_nil w1 i k)).mono fun e w' ⟨he, hw⟩ => ⟨he, below_eq hw⟩⟩
  | @both n rb N L S R h =>
    by_cases hw : S.why i k = 0
    · obtain ⟨j, c, d, rfl, hc, hd, hcut, hcut2, hcp, hl, hk⟩ := h.at hw
      have hok := hcp.ok (by omega)
      have hul := hl.under_len
      have hp0 := hok.p 0
      have hp1 := hok.p 1
      rcases hk with rfl | rfl
      · refine ⟨_, (under_ok h.netIs h.max j 0 c hc hcut (.inl rfl)).mono fun e w1 ⟨he, nq, hw⟩ => ⟨he, by rw [← hw]; exact below_drew⟩, fun w1 hb => (runder_ok0 (h.bg.later hb) h.ref hd hcut2 hok).mono fun e w' ⟨he, hb2⟩ => ⟨?_, hb2⟩⟩
        rw [he]
        have : (((d.W 0).length : Int) - (d.P 0 : Int)) = ((c.sd 0).under.length : Int) := by
          show _ = (c.s0.under.length : Int)
          rw [hul.1]; omega
        rw [this]
      · refine ⟨_, (under_ok h.netIs h.max j 1 c hc hcut (.inr rfl)).mono fun e w1 ⟨he, nq, hw⟩ => ⟨he, by rw [← hw]; exact below_drew⟩, fun w1 hb => (runder_ok1 (h.bg.later hb) h.ref hd hcut2 hok).mono fun e w' ⟨he, hb2⟩ => ⟨?_, hb2⟩⟩
        rw [he]
        have : (((d.W 1).length : Int) - (d.P 1 : Int)) = ((c.sd 1).under.length : Int) := by
          show _ = (c.s1.under.length : Int)
          rw [hul.2]; omega
        rw [this]
    · exact ⟨0, (under_bad (ofBad_why h.netIs h.max i k hw)).mono fun e w1 ⟨he, hw⟩ => ⟨he, below_eq hw.symm⟩, fun w1 hb => (runder_bad (h.rbad hw (h.bg.later hb) h.ref)).mono fun e w' ⟨he, hw⟩ => ⟨he, below_eq hw⟩⟩

/-! Read -/
/-- What Read of both leaves. -/
def ReadTwo (w0 w : World) (It : Nat → Item) (r : Nat) (np rp : Value) (N : Nat) (i k : Int) : Prop :=
  ∃ (len : Nat) (ps : List UInt8) (en : Bool) (y : Int) (M : World → Option Addr → Nat → Prop), ps.length = len ∧
    (Calls Try.prog 12 #[np, .int .i64 i, .int .i64 k] w fun e w1 => ∃ ao c, e = .returned (.tuple #[.slice ao len c, .bool en, .int .i64 y]) ∧ M w1 ao c ∧ Mod (fun g => (It r).own g) w w1) ∧
    ∀ w1 ao c, M w1 ao c → Calls Try.prog 30 #[rp, .int .i64 i, .int .i64 k] w1 fun e w' => ∃ ao2 c2, e = .returned (.tuple #[.slice ao2 len c2, .bool en, .int .i64 y]) ∧ RdB w' ao c ps ∧ RdB w' ao2 c2 ps ∧ DuoP w0 It r np rp (N + 1) w'

theorem rdb_nil (w : World) : RdB w none 0 [] := ⟨(fun _ => ⟨rfl, rfl⟩), (fun ad h => by cases h), Nat.le_refl _, Nat.zero_le _⟩

theorem Both.read2 (h : Both w0 w It r n rb L S R N) {i k : Int} {ps : List UInt8} {en : Bool} {S' : St} {R' : RS} {len : Nat} (hlen : ps.length = len)
    (hp : Calls Try.prog 12 #[.pointer (some ⟨n, 0, none⟩), .int .i64 i, .int .i64 k] w fun e w1 => ∃ ao cap L', e = .returned (.tuple #[.slice ao len cap, .bool en, .int .i64 0]) ∧ LeftL w0.heap.size w L n S' w1 L' ∧
        w1.ownsRow 0 5 1 (.slice ao len cap) len (bytes ps) ∧ (∀ g, (Value.slice ao len cap).ownBlock = some g → L' g = none ∧ w0.heap.size ≤ g ∧ L g ≠ none))
    (hr : ∀ w1 It1, Bg w0 w1 It1 → RefIs It1 r rb R → Calls Try.prog 30 #[.pointer (some ⟨rb, 0, none⟩), .int .i64 i, .int .i64 k] w1 (RReadPost w0 w1 It1 r rb R' ps en)) (hpair : Pair S' R' (N + 1)) :
    ReadTwo w0 w It r (.pointer (some ⟨n, 0, none⟩)) (.pointer (some ⟨rb, 0, none⟩)) N i k := by
  subst hlen
  refine ⟨ps.length, ps, en, 0, fun w1 ao cap => ∃ L', Bg w0 w1 (upd It r (NI w0.heap.size n L' S')) ∧ w1.ownsRow 0 5 1 (.slice ao ps.length cap) ps.length (bytes ps) ∧ (∀ g, (Value.slice ao ps.length cap).ownBlock = some g → ∀ j, ¬ (upd It r (NI w0.heap.size n L' S') j).own g), rfl,
    hp.mono fun e w1 ⟨ao, cap, L', he, hl, hrow, hlab⟩ => ⟨ao, cap, he, ⟨L', h.bg.net r h.net hl, hrow, fun g hg j hj => ?_⟩, by rw [h.net]; exact hl.2.2⟩, fun w1 ao cap ⟨L', hB, hrow, hap⟩ => ?_⟩
  · obtain ⟨q1, q2, q3⟩ := hlab g hg
    by_cases e : j = r
    · subst e
      rw [upd_same] at hj
      exact hj q1
    · rw [upd_ne _ _ e] at hj
      exact h.bg.bag.apart r j g (fun q => e q.symm) (by rw [h.net]; exact q3) hj
  · refine (hr w1 _ hB (h.ref.other fun j => upd_ne _ _ (r_ne h.rlt j))).mono fun e w' ⟨ao2, c2, he, ⟨It', h1, h2, h3, h4⟩, hrow2, hnew⟩ => ⟨ao2, c2, he, rd_of_row (ownsRow_frame hrow fun g hg => h4.block g (hrow.lt g hg).2 (fun ⟨j, hj⟩ => hap g hg _ hj)) rfl, rd_of_row hrow2 rfl, It', .both (L := L') ⟨h1, ?_, h2, hpair, h.rlt⟩, fun i hi hj => ?_⟩
    · rw [h3 r (fun j => (r_ne h.rlt j).symm), upd_same]
    · rw [h3 i hj, upd_ne _ _ hi]

theorem Duo.read {np rp : Value} (h : Duo w0 w It r np rp N) (hN : N < 67108864) (i k : Int) : ReadTwo w0 w It r np rp N i k := by
  cases h with
  | bare hB =>
    refine ⟨0, [], false, 1, fun w1 ao c => w1 = w ∧ ao = none ∧ c = 0, rfl, (read_bad (ofBad_nil i k w)).mono fun e w1 ⟨he, hw⟩ => ⟨none, 0, he, ⟨hw.symm, rfl, rfl⟩, by subst hw; exact Mod.refl _ _⟩, fun w1 ao c ⟨hw, ha, hc⟩ => ?_⟩
    subst hw ha hc
    exact (rread_bad (rbad_nil w1 i k)).mono fun e w' ⟨he, hw⟩ => ⟨none, 0, he, rdb_nil _, rdb_nil _, It, .bare (by rw [hw]; exact hB), Oth.refl _ _⟩
  | @both n rb N L S R h =>
    by_cases hw : S.why i k = 0
    · obtain ⟨j, c, d, rfl, hc, hd, hcut, hcut2, hcp, hl, hk⟩ := h.at hw
      have hok := hcp.ok (by omega)
      rcases hk with rfl | rfl
      · have hp := read_ok h.netIs h.le h.max j 0 c hc hcut (.inl rfl)
        have e1 : (c.sd 0).there = d.left 1 := hl.t0
        have e2 : (c.sd 0).ended = d.E 1 := hl.e0
        rw [e1, e2] at hp
        exact h.read2 rfl hp (fun w1 It1 hB hR => rread_ok0 hB hR hd hcut2 hok) (h.pair.setConn (hcp.read0 hcut))
      · have hp := read_ok h.netIs h.le h.max j 1 c hc hcut (.inr rfl)
        have e1 : (c.sd 1).there = d.left 0 := hl.t1
        have e2 : (c.sd 1).ended = d.E 0 := hl.e1
        rw [e1, e2] at hp
        exact h.read2 rfl hp (fun w1 It1 hB hR => rread_ok1 hB hR hd hcut2 hok) (h.pair.setConn (hcp.read1 hcut))
    · refine ⟨0, [], false, S.why i k, fun w1 ao c => w1 = w ∧ ao = none ∧ c = 0, rfl, (read_bad (ofBad_why h.netIs h.max i k hw)).mono fun e w1 ⟨he, hw⟩ => ⟨none, 0, he, ⟨hw.symm, rfl, rfl⟩, by subst hw; exact Mod.refl _ _⟩, fun w1 ao c ⟨hw1, ha, hc⟩ => ?_⟩
      subst hw1 ha hc
      exact (rread_bad (h.rbad hw h.bg h.ref)).mono fun e w' ⟨he, hw⟩ => ⟨none, 0, he, rdb_nil _, rdb_nil _, It, .both (L := L) ⟨by rw [hw]; exact h.bg, h.net, h.ref, h.pair.next, h.rlt⟩, Oth.refl _ _⟩

/-! Write -/
/-- The bytes that are handed in: in a row of the call's own, whatever they are. -/
def InI (v : Value) (len : Nat) : Item := ⟨fun g => v.ownBlock = some g, fun w => IsB w v len, fun w w2 hk ⟨vs, h1, h2⟩ => ⟨vs, ownsRow_frame h1 hk, h2⟩⟩

theorem upd_self (It : Nat → Item) (k : Nat) : upd It k (It k) = It := by
  funext i
  unfold upd
  split
  · rename_i e; subst e; rfl
  · rfl

/-- An item is written to, and stays what it is. -/
theorem Bg.touch (h : Bg w0 w It) (k : Nat) {w2 : World} (hm : Mod (It k).own w w2) (hP : (It k).P w2) : Bg w0 w2 It := by
  have := h.put k (It k) hm hP (fun g hg => Nat.lt_of_lt_of_le (h.bag.lt k g hg) hm.size) (fun g hg => .inl hg)
  rwa [upd_self] at this

def WriteTwo (w0 w : World) (It : Nat → Item) (r : Nat) (np rp : Value) (N : Nat) (i k : Int) (ps : List UInt8) : Prop :=
  ∃ (y : Int) (K : (Nat → Item) → Prop), (∀ ao cp, RdB w ao cp ps → Calls Try.prog 10 #[np, .int .i64 i, .int .i64 k, .slice ao ps.length cp] w fun e w1 => e = .returned (.int .i64 y) ∧ Mod (fun g => (It r).own g) w w1 ∧ ∃ It1, Bg w0 w1 It1 ∧ It1 5 = It 5 ∧ It1 6 = It 6 ∧ K It1) ∧
    ∀ It1 w2, K It1 → Bg w0 w2 It1 → ∀ ao cp, RdB w2 ao cp ps → Calls Try.prog 27 #[rp, .int .i64 i, .int .i64 k, .slice ao ps.length cp] w2 fun e w' => e = .returned (.int .i64 y) ∧ DuoP w0 It r np rp (N + 1) w'

theorem Both.write2 (h : Both w0 w It r n rb L S R N) {i k y : Int} {ps : List UInt8} {S' : St} {R' : RS}
    (hp : ∀ ao cp, RdB w ao cp ps → Calls Try.prog 10 #[.pointer (some ⟨n, 0, none⟩), .int .i64 i, .int .i64 k, .slice ao ps.length cp] w fun e w1 => e = .returned (.int .i64 y) ∧ Left w0.heap.size w L n S' w1)
    (hr : ∀ w1 It1, Bg w0 w1 It1 → RefIs It1 r rb R → ∀ ao cp, RdB w1 ao cp ps → Calls Try.prog 27 #[.pointer (some ⟨rb, 0, none⟩), .int .i64 i, .int .i64 k, .slice ao ps.length cp] w1 fun e w' => e = .returned (.int .i64 y) ∧ RPost w0 w1 It1 r rb R' w') (hpair : Pair S' R' (N + 1)) :
    WriteTwo w0 w It r (.pointer (some ⟨n, 0, none⟩)) (.pointer (some ⟨rb, 0, none⟩)) N i k ps := by
  refine ⟨y, fun It1 => ∃ L', It1 = upd It r (NI w0.heap.size n L' S'), fun ao cp hrd => (hp ao cp hrd).mono fun e w1 ⟨he, L', hl⟩ => ⟨he, ?_, _, h.bg.net r h.net hl, upd_ne _ _ (by have := h.rlt; omega), upd_ne _ _ (by have := h.rlt; omega), L', rfl⟩, fun It1 w2 ⟨L', e1⟩ hB ao cp hrd => ?_⟩
  · rw [h.net]; exact hl.2.2
  · subst e1
    refine (hr w2 _ hB (h.ref.other fun j => upd_ne _ _ (r_ne h.rlt j)) ao cp hrd).mono fun e w' ⟨he, It', h1, h2, h3, h4⟩ => ⟨he, It', .both (L := L') ⟨h1, ?_, h2, hpair, h.rlt⟩, fun i hi hj => ?_⟩
    · rw [h3 r (fun j => (r_ne h.rlt j).symm), upd_same]
    · rw [h3 i hj, upd_ne _ _ hi]

theorem rpost_below {w1 : World} {It1 : Nat → Item} (hB : Bg w0 w1 It1) (h : RefIs It1 r rb R) {w' : World} (hw : Below w1.heap.size w1 w') : RPost w0 w1 It1 r rb R w' := RPost.same hB h hw

theorem Duo.write {np rp : Value} (h : Duo w0 w It r np rp N) (hN : N < 67108864) (i k : Int) (ps : List UInt8) (hps : ps.length ≤ 1048576) : WriteTwo w0 w It r np rp N i k ps := by
  cases h with
  | bare hB =>
    exact ⟨1, fun It1 => It1 = It, fun ao cp _ => (write_bad (ofBad_nil i k w) ao ps.length cp).mono fun e w1 ⟨he, hw⟩ => ⟨he, mod_eq hw.symm, It, by rw [← hw]; exact hB, rfl, rfl, rfl⟩, fun It1 w2 e hB2 ao cp _ => by
      subst e
      exact (rwrite_bad (rbad_nil w2 i k) ao ps.length cp).mono fun e w' ⟨he, hw⟩ => ⟨he, _, .bare (by rw [hw]; exact hB2), Oth.refl _ _⟩⟩
  | @both n rb N L S R h =>
    by_cases hw : S.why i k = 0
    · obtain ⟨j, c, d, rfl, hc, hd, hcut, hcut2, hcp, hl, hk⟩ := h.at hw
      have hok := hcp.ok (by omega)
      have hul := hl.under_len
      rcases hk with rfl | rfl
      · cases hcl : d.C 0 with
        | true => exact h.write2 (fun ao cp _ => (write_ended h.net1 h.max _ j rfl 0 c hc hcut (.inl rfl) (hl.c0.trans hcl) ao ps.length cp).mono fun e w1 ⟨he, hw⟩ => ⟨he, left_drew h.netIs hw⟩) (fun w1 It1 hB hR ao cp _ => (rwrite_ended0 hB hR hd hcut2 hcl ao ps.length cp).mono fun e w' ⟨he, hw⟩ => ⟨he, rpost_same hB hR hw⟩) h.pair.next
        | false =>
          by_cases hlong : c.s0.under.length + ps.length ≤ 1048576
          · exact h.write2 (fun ao cp hrd => write_ok h.netIs h.le h.max j 0 c hc hcut (.inl rfl) (hl.c0.trans hcl) ao cp ps hrd hlong) (fun w1 It1 hB hR ao cp hrd => rwrite_ok0 hB hR hd hcut2 hok hcl ao cp ps hrd (by omega)) (h.pair.setConn (hcp.wrote0 hcut hlong))
          · exact h.write2 (fun ao cp _ => (write_long h.net1 h.max _ j rfl 0 c hc hcut (.inl rfl) (hl.c0.trans hcl) hl.l0 ao cp ps.length (by omega) (by show 1048576 < c.s0.under.length + ps.length; omega)).mono fun e w1 ⟨he, hw⟩ => ⟨he, left_drew h.netIs hw⟩) (fun w1 It1 hB hR ao cp _ => (rwrite_long0 hB hR hd hcut2 hok hcl ao ps.length cp (by omega) (by have := hl.l0; omega)).mono fun e w' ⟨he, hw⟩ => ⟨he, rpost_below hB hR hw⟩) h.pair.next
      · cases hcl : d.C 1 with
        | true => exact h.write2 (fun ao cp _ => (write_ended h.net1 h.max _ j rfl 1 c hc hcut (.inr rfl) (hl.c1.trans hcl) ao ps.length cp).mono fun e w1 ⟨he, hw⟩ => ⟨he, left_drew h.netIs hw⟩) (fun w1 It1 hB hR ao cp _ => (rwrite_ended1 hB hR hd hcut2 hcl ao ps.length cp).mono fun e w' ⟨he, hw⟩ => ⟨he, rpost_same hB hR hw⟩) h.pair.next
        | false =>
          by_cases hlong : c.s1.under.length + ps.length ≤ 1048576
          · exact h.write2 (fun ao cp hrd => write_ok h.netIs h.le h.max j 1 c hc hcut (.inr rfl) (hl.c1.trans hcl) ao cp ps hrd hlong) (fun w1 It1 hB hR ao cp hrd => rwrite_ok1 hB hR hd hcut2 hok hcl ao cp ps hrd (by omega)) (h.pair.setConn (hcp.wrote1 hcut hlong))
          · exact h.write2 (fun ao cp _ => (write_long h.net1 h.max _ j rfl 1 c hc hcut (.inr rfl) (hl.c1.trans hcl) hl.l1 ao cp ps.length (by omega) (by show 1048576 < c.s1.under.length + ps.length; omega)).mono fun e w1 ⟨he, hw⟩ => ⟨he, left_drew h.netIs hw⟩) (fun w1 It1 hB hR ao cp _ => (rwrite_long1 hB hR hd hcut2 hok hcl ao ps.length cp (by omega) (by have := hl.l1; omega)).mono fun e w' ⟨he, hw⟩ => ⟨he, rpost_below hB hR hw⟩) h.pair.next
    · exact h.write2 (fun ao cp _ => (write_bad (ofBad_why h.netIs h.max i k hw) ao ps.length cp).mono fun e w1 ⟨he, hw⟩ => ⟨he, left_same h.netIs hw.symm⟩) (fun w1 It1 hB hR ao cp _ => (rwrite_bad (h.rbad hw hB hR) ao ps.length cp).mono fun e w' ⟨he, hw⟩ => ⟨he, rpost_same hB hR hw⟩) h.pair.next

end

end Go.Proofs.Ytibijonjjkknoaa
