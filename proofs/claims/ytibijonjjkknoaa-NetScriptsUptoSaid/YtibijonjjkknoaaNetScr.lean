/-
NetScripts: its rounds.
-/
import Derived.Test.YtibijonjjkknoaaNetDoesW
import Derived.Test.YtibijonjjkknoaaCode
set_option linter.unusedVariables false
set_option linter.unusedSimpArgs false
namespace Go.Proofs.Ytibijonjjkknoaa
open Go Go.RowKit

noncomputable def sc4 : Code := (ncl (ncr (ncr (ncr (ncx Try.f6.body)))))
noncomputable def sc5 : Code := (ncl (ncr (ncr (ncr (ncr (ncx Try.f6.body))))))
noncomputable def sc8 : Code := (ncl (ncl (ncr (ncr (ncr (ncr (ncr (ncx Try.f6.body))))))))
noncomputable def scL : Code := (ncb (ncr (ncl (ncr (ncr (ncr (ncr (ncr (ncx Try.f6.body)))))))))
noncomputable def scT : Code := (ncl (nco (ncb (ncr (ncl (ncr (ncr (ncr (ncr (ncr (ncx Try.f6.body)))))))))))
noncomputable def scA : Code := (ncl (ncb (ncl (ncr (nco (ncb (ncr (ncl (ncr (ncr (ncr (ncr (ncr (ncx Try.f6.body))))))))))))))
noncomputable def scB : Code := (ncr (ncb (ncl (ncr (nco (ncb (ncr (ncl (ncr (ncr (ncr (ncr (ncr (ncx Try.f6.body))))))))))))))
noncomputable def scStep : Code := (ncr (ncr (nco (ncb (ncr (ncl (ncr (ncr (ncr (ncr (ncr (ncx Try.f6.body))))))))))))
noncomputable def scR4 : Code := (ncr (ncr (ncr (ncx Try.f6.body))))
noncomputable def scR5 : Code := (ncr (ncr (ncr (ncr (ncx Try.f6.body)))))
noncomputable def scR8 : Code := (ncr (ncr (ncr (ncr (ncr (ncx Try.f6.body))))))
noncomputable def scR15 : Code := (ncr (ncr (ncr (ncr (ncr (ncr (ncx Try.f6.body)))))))
noncomputable def scK : Code := (ncl (ncr (ncr (ncr (ncr (ncr (ncx Try.f6.body)))))))

set_option maxRecDepth 20000 in
theorem sc_act (a : Act) (hs : a.tmps.size = 141) (hd : a.defers = []) : ∃ v : Nat → Value, (∀ (i : Nat) (x : Value), a.tmps[i]? = some x → v i = x) ∧ a = ⟨#[v 0, v 1, v 2, v 3, v 4, v 5, v 6, v 7, v 8, v 9, v 10, v 11, v 12, v 13, v 14, v 15, v 16, v 17, v 18, v 19, v 20, v 21, v 22, v 23, v 24, v 25, v 26, v 27, v 28, v 29, v 30, v 31, v 32, v 33, v 34, v 35, v 36, v 37, v 38, v 39, v 40, v 41, v 42, v 43, v 44, v 45, v 46, v 47, v 48, v 49, v 50, v 51, v 52, v 53, v 54, v 55, v 56, v 57, v 58, v 59, v 60, v 61, v 62, v 63, v 64, v 65, v 66, v 67, v 68, v 69, v 70, v 71, v 72, v 73, v 74, v 75, v 76, v 77, v 78, v 79, v 80, v 81, v 82, v 83, v 84, v 85, v 86, v 87, v 88, v 89, v 90, v 91, v 92, v 93, v 94, v 95, v 96, v 97, v 98, v 99, v 100, v 101, v 102, v 103, v 104, v 105, v 106, v 107, v 108, v 109, v 110, v 111, v 112, v 113, v 114, v 115, v 116, v 117, v 118, v 119, v 120, v 121, v 122, v 123, v 124, v 125, v 126, v 127, v 128, v 129, v 130, v 131, v 132, v 133, v 134, v 135, v 136, v 137, v 138, v 139, v 140], []⟩ := by
  obtain ⟨t, d⟩ := a
  obtain ⟨l⟩ := t
  obtain rfl : d = [] := hd
  have hl : l.length = 141 := hs
  refine ⟨fun i => l.getD i undef, fun i x hx => ?_, ?_⟩
  · have hx' : l[i]? = some x := by simpa using hx
    simp [List.getD, hx']
  · have e : l = (List.range 141).map (fun i => l.getD i undef) := by
      apply List.ext_getElem
      · simp [hl]
      · intro i h1 h2
        simp [List.getD, h1]
    generalize (fun i => l.getD i undef) = v at e ⊢
    subst e
    rfl

structure ScA (a : Act) (lv : Value) (mv : Value) (np : Value) (nq : Value) (rp : Value) (rq : Value) (i : Int) : Prop where
  size : a.tmps.size = 141
  dfr : a.defers = []
  s0 : a.tmps[0]? = some (lv)
  s1 : a.tmps[1]? = some (mv)
  s7 : a.tmps[7]? = some (np)
  s8 : a.tmps[8]? = some (nq)
  s9 : a.tmps[9]? = some (rp)
  s10 : a.tmps[10]? = some (rq)
  s11 : a.tmps[11]? = some (.int .i64 i)

set_option maxRecDepth 20000 in
theorem ScA.shape {a : Act} {lv : Value} {mv : Value} {np : Value} {nq : Value} {rp : Value} {rq : Value} {i : Int} (h : ScA a lv mv np nq rp rq i) : ∃ v : Nat → Value, a = ⟨#[lv, mv, v 2, v 3, v 4, v 5, v 6, np, nq, rp, rq, .int .i64 i, v 12, v 13, v 14, v 15, v 16, v 17, v 18, v 19, v 20, v 21, v 22, v 23, v 24, v 25, v 26, v 27, v 28, v 29, v 30, v 31, v 32, v 33, v 34, v 35, v 36, v 37, v 38, v 39, v 40, v 41, v 42, v 43, v 44, v 45, v 46, v 47, v 48, v 49, v 50, v 51, v 52, v 53, v 54, v 55, v 56, v 57, v 58, v 59, v 60, v 61, v 62, v 63, v 64, v 65, v 66, v 67, v 68, v 69, v 70, v 71, v 72, v 73, v 74, v 75, v 76, v 77, v 78, v 79, v 80, v 81, v 82, v 83, v 84, v 85, v 86, v 87, v 88, v 89, v 90, v 91, v 92, v 93, v 94, v 95, v 96, v 97, v 98, v 99, v 100, v 101, v 102, v 103, v 104, v 105, v 106, v 107, v 108, v 109, v 110, v 111, v 112, v 113, v 114, v 115, v 116, v 117, v 118, v 119, v 120, v 121, v 122, v 123, v 124, v 125, v 126, v 127, v 128, v 129, v 130, v 131, v 132, v 133, v 134, v 135, v 136, v 137, v 138, v 139, v 140], []⟩ := by
  obtain ⟨v, hv, hd⟩ := sc_act a h.size h.dfr
  have e0 := hv 0 _ h.s0
  have e1 := hv 1 _ h.s1
  have e7 := hv 7 _ h.s7
  have e8 := hv 8 _ h.s8
  have e9 := hv 9 _ h.s9
  have e10 := hv 10 _ h.s10
  have e11 := hv 11 _ h.s11
  refine ⟨v, ?_⟩
  rw [hd]
  simp only [e0, e1, e7, e8, e9, e10, e11]

structure ScB (a : Act) (lv : Value) (mv : Value) (np : Value) (nq : Value) (rp : Value) (rq : Value) : Prop where
  size : a.tmps.size = 141
  dfr : a.defers = []
  s0 : a.tmps[0]? = some (lv)
  s1 : a.tmps[1]? = some (mv)
  s7 : a.tmps[7]? = some (np)
  s8 : a.tmps[8]? = some (nq)
  s9 : a.tmps[9]? = some (rp)
  s10 : a.tmps[10]? = some (rq)

set_option maxRecDepth 20000 in
theorem ScB.shape {a : Act} {lv : Value} {mv : Value} {np : Value} {nq : Value} {rp : Value} {rq : Value} (h : ScB a lv mv np nq rp rq) : ∃ v : Nat → Value, a = ⟨#[lv, mv, v 2, v 3, v 4, v 5, v 6, np, nq, rp, rq, v 11, v 12, v 13, v 14, v 15, v 16, v 17, v 18, v 19, v 20, v 21, v 22, v 23, v 24, v 25, v 26, v 27, v 28, v 29, v 30, v 31, v 32, v 33, v 34, v 35, v 36, v 37, v 38, v 39, v 40, v 41, v 42, v 43, v 44, v 45, v 46, v 47, v 48, v 49, v 50, v 51, v 52, v 53, v 54, v 55, v 56, v 57, v 58, v 59, v 60, v 61, v 62, v 63, v 64, v 65, v 66, v 67, v 68, v 69, v 70, v 71, v 72, v 73, v 74, v 75, v 76, v 77, v 78, v 79, v 80, v 81, v 82, v 83, v 84, v 85, v 86, v 87, v 88, v 89, v 90, v 91, v 92, v 93, v 94, v 95, v 96, v 97, v 98, v 99, v 100, v 101, v 102, v 103, v 104, v 105, v 106, v 107, v 108, v 109, v 110, v 111, v 112, v 113, v 114, v 115, v 116, v 117, v 118, v 119, v 120, v 121, v 122, v 123, v 124, v 125, v 126, v 127, v 128, v 129, v 130, v 131, v 132, v 133, v 134, v 135, v 136, v 137, v 138, v 139, v 140], []⟩ := by
  obtain ⟨v, hv, hd⟩ := sc_act a h.size h.dfr
  have e0 := hv 0 _ h.s0
  have e1 := hv 1 _ h.s1
  have e7 := hv 7 _ h.s7
  have e8 := hv 8 _ h.s8
  have e9 := hv 9 _ h.s9
  have e10 := hv 10 _ h.s10
  refine ⟨v, ?_⟩
  rw [hd]
  simp only [e0, e1, e7, e8, e9, e10]

theorem ScA.toB {a : Act} {lv mv np nq rp rq : Value} {i : Int} (h : ScA a lv mv np nq rp rq i) : ScB a lv mv np nq rp rq := ⟨h.size, h.dfr, h.s0, h.s1, h.s7, h.s8, h.s9, h.s10⟩

/-- A call that came in. -/
structure ClD where
  kind : Int
  name : ByteArray
  conn : Int
  side : Int
  nn : Int
  ad : Option Addr
  dl : Nat
  dc : Nat
  ps : List UInt8

structure ClAt (w : World) (gl off : Nat) (c : ClD) : Prop where
  c0 : w.cell? ⟨gl, off, none⟩ = some (.int .i64 c.kind)
  c1 : w.cell? ⟨gl, off + 1, none⟩ = some (.string c.name)
  c2 : w.cell? ⟨gl, off + 2, none⟩ = some (.int .i64 c.conn)
  c3 : w.cell? ⟨gl, off + 3, none⟩ = some (.int .i64 c.side)
  c4 : w.cell? ⟨gl, off + 4, none⟩ = some (.int .i64 c.nn)
  c5 : w.cell? ⟨gl, off + 5, none⟩ = some (.slice c.ad c.dl c.dc)
  len : c.ps.length = c.dl
  rd : RdB w c.ad c.dc c.ps
  lo : ∀ ad, c.ad = some ad → c.ps ≠ [] → ad.block < w.heap.size

/-- What bounds such a call. -/
structure ClD.Sm (c : ClD) : Prop where
  name : c.name.size ≤ maxLen
  nn : c.nn ≤ 9223372036854775807
  ps : c.ps.length ≤ 1048576

theorem ClAt.six {w0 w : World} {gl off : Nat} {c : ClD} (h : ClAt w0 gl off c) (hg : gl < w0.heap.size) (hb : Below w0.heap.size w0 w) : w.cell? ⟨gl, off, none⟩ = some (.int .i64 c.kind) ∧ w.cell? ⟨gl, off + 1, none⟩ = some (.string c.name) ∧ w.cell? ⟨gl, off + 2, none⟩ = some (.int .i64 c.conn) ∧ w.cell? ⟨gl, off + 3, none⟩ = some (.int .i64 c.side) ∧ w.cell? ⟨gl, off + 4, none⟩ = some (.int .i64 c.nn) ∧ w.cell? ⟨gl, off + 5, none⟩ = some (.slice c.ad c.dl c.dc) :=
  ⟨(hb.cell hg).trans h.c0, (hb.cell hg).trans h.c1, (hb.cell hg).trans h.c2, (hb.cell hg).trans h.c3, (hb.cell hg).trans h.c4, (hb.cell hg).trans h.c5⟩

section
variable {w0 w : World} {It : Nat → Item} {r s N : Nat} {np rp nq rq : Value}

theorem Duo.next (h : Duo w0 w It r np rp N) : Duo w0 w It r np rp (N + 1) := by
  cases h with
  | bare h => exact .bare h
  | both h => exact .both ⟨h.bg, h.net, h.ref, h.pair.next, h.rlt⟩

/-- The other pair stays. -/
theorem Duo.keep (h : Duo w0 w It s np rp N) {w' : World} {It' : Nat → Item} (hB : Bg w0 w' It') (hO : OthS r It It') (hrs : r ≠ s) (hr : r < 2) (hs : s < 2) : Duo w0 w' It' s np rp N := by
  cases h with
  | bare _ => exact .bare hB
  | @both n rb N L S R h =>
    refine .both (L := L) (S := S) (R := R) ⟨hB, ?_, h.ref.other fun j => hO _ (by unfold ix; omega) (by unfold ix; omega) (by unfold ix; omega) (fun i => by unfold ix; omega), h.pair, h.rlt⟩
    rw [hO s (fun e => hrs e.symm) (by omega) (by omega) (fun j => by unfold ix; omega)]
    exact h.net

/-- Any call at both nets. -/
theorem does_all (h : Duo w0 w It r np rp N) (hr : r < 2) (hN : N < 67108864) {gl off : Nat} {c : ClD} (hc : ClAt w0 gl off c) (hs : c.Sm) :
    Calls Try.prog 17 #[np, rp, .agg #[.int .i64 c.kind, .string c.name, .int .i64 c.conn, .int .i64 c.side, .int .i64 c.nn, .slice c.ad c.dl c.dc]] w fun e w' => e = .returned (.bool true) ∧ DoesP w0 It r np rp (N + 1) w' := by
  obtain ⟨kind, name, conn, side, nn, ad, dl, dc, ps⟩ := c
  have hlen := hc.len
  have hrd : RdB w ad dc ps := hc.rd.below h.bg.below hc.lo
  have hlo := hc.lo
  dsimp only at hlen hrd hlo ⊢
  subst hlen
  by_cases h0 : kind = 0
  · subst h0; exact does_Refuse h hr hN name hs.name conn side nn hs.nn ad _ dc
  by_cases h1 : kind = 1
  · subst h1; exact does_Dial h hr hN name hs.name conn side nn ad _ dc
  by_cases h2 : kind = 2
  · subst h2; exact does_Accept h hr hN name hs.name conn side nn ad _ dc
  by_cases h3 : kind = 3
  · subst h3; exact does_Write h hr hN name conn side nn ad dc ps hs.ps hrd hlo
  by_cases h4 : kind = 4
  · subst h4; exact does_Close h hr hN name hs.name conn side nn hs.nn ad _ dc
  by_cases h5 : kind = 5
  · subst h5; exact does_Pass h hr hN name hs.name conn side nn ad _ dc
  by_cases h6 : kind = 6
  · subst h6; exact does_Read h hr hN name conn side nn ad _ dc
  by_cases h7 : kind = 7
  · subst h7; exact does_Cut h hr hN name hs.name conn side nn hs.nn ad _ dc
  exact (does_other h kind h0 h1 h2 h3 h4 h5 h6 h7 name conn side nn ad _ dc).mono fun e w' ⟨he, hb⟩ => ⟨he, It, (h.later hb).next, fun _ _ _ _ _ => rfl⟩

end

/-- Both pairs. -/
def ScSt (w0 w : World) (np rp nq rq : Value) (N M : Nat) : Prop := ∃ It, Duo w0 w It 0 np rp N ∧ Duo w0 w It 1 nq rq M

section
variable {w0 w : World} {lv mv np nq rp rq : Value} {i : Int} {N M : Nat} {K : Act → World → Prop} {Q : Exit → Act → World → Prop} {a : Act}

theorem ScSt.below (h : ScSt w0 w np rp nq rq N M) : Below w0.heap.size w0 w := by
  obtain ⟨It, h1, _⟩ := h
  exact h1.bg.below

/-- What a round does, of the first pair. -/
theorem sc_calls0 (h : ScSt w0 w np rp nq rq N M) (hN : N + 1 < 67108864) {gl off : Nat} {c : ClD} (hg : gl < w0.heap.size) (hc : ClAt w0 gl off c) (hs : c.Sm) :
    Calls Try.prog 17 #[np, rp, .agg #[.int .i64 c.kind, .string c.name, .int .i64 c.conn, .int .i64 c.side, .int .i64 c.nn, .slice c.ad c.dl c.dc]] w fun e w1 => e = .returned (.bool true) ∧
      ∃ y : Int, (Calls Try.prog 16 #[np, .int .i64 c.conn, .int .i64 c.side] w1 fun e w2 => e = .returned (.int .i64 y) ∧ Below w1.heap.size w1 w2) ∧
        (∀ w2, Below w1.heap.size w1 w2 → Calls Try.prog 18 #[rp, .int .i64 c.conn, .int .i64 c.side] w2 fun e w3 => e = .returned (.int .i64 y) ∧ Below w2.heap.size w2 w3) ∧
        ScSt w0 w1 np rp nq rq (N + 1) M := by
  obtain ⟨It, h1, h2⟩ := h
  refine (does_all h1 (by omega) (by omega) hc hs).mono fun e w1 ⟨he, It', hD, hO⟩ => ⟨he, ?_⟩
  obtain ⟨y, hp, hr⟩ := hD.under hN c.conn c.side
  exact ⟨y, hp, hr, It', hD, h2.keep hD.bg hO (by omega) (by omega) (by omega)⟩

theorem sc_calls1 (h : ScSt w0 w np rp nq rq N M) (hM : M + 1 < 67108864) {gl off : Nat} {c : ClD} (hg : gl < w0.heap.size) (hc : ClAt w0 gl off c) (hs : c.Sm) :
    Calls Try.prog 17 #[nq, rq, .agg #[.int .i64 c.kind, .string c.name, .int .i64 c.conn, .int .i64 c.side, .int .i64 c.nn, .slice c.ad c.dl c.dc]] w fun e w1 => e = .returned (.bool true) ∧
      ∃ y : Int, (Calls Try.prog 16 #[nq, .int .i64 c.conn, .int .i64 c.side] w1 fun e w2 => e = .returned (.int .i64 y) ∧ Below w1.heap.size w1 w2) ∧
        (∀ w2, Below w1.heap.size w1 w2 → Calls Try.prog 18 #[rq, .int .i64 c.conn, .int .i64 c.side] w2 fun e w3 => e = .returned (.int .i64 y) ∧ Below w2.heap.size w2 w3) ∧
        ScSt w0 w1 np rp nq rq N (M + 1) := by
  obtain ⟨It, h1, h2⟩ := h
  refine (does_all h2 (by omega) (by omega) hc hs).mono fun e w1 ⟨he, It', hD, hO⟩ => ⟨he, ?_⟩
  obtain ⟨y, hp, hr⟩ := hD.under hM c.conn c.side
  exact ⟨y, hp, hr, It', h1.keep hD.bg hO (by omega) (by omega) (by omega), hD⟩

theorem ScSt.later (h : ScSt w0 w np rp nq rq N M) {w2 : World} (hb : Below w.heap.size w w2) : ScSt w0 w2 np rp nq rq N M := by
  obtain ⟨It, h1, h2⟩ := h
  exact ⟨It, h1.later hb, h2.later hb⟩


set_option maxRecDepth 100000 in
set_option maxHeartbeats 8000000 in
theorem scA_go {gl ol len cl k : Nat} (hf : ScA a (.slice (some ⟨gl, ol, none⟩) len cl) mv np nq rp rq (k : Int)) (h : ScSt w0 w np rp nq rq N M) (hN : N + 1 < 67108864) (hk : k < len) (hg : gl < w0.heap.size) {c : ClD} (hc : ClAt w0 gl (ol + k * 6) c) (hs : c.Sm)
    (rest : ∀ a' w', ScA a' (.slice (some ⟨gl, ol, none⟩) len cl) mv np nq rp rq (k : Int) → ScSt w0 w' np rp nq rq (N + 1) M → K a' w') : scA.wp Try.prog (Exit.then K Q) a w := by
  refine wp_cut (fun a' w' => ScA a' (.slice (some ⟨gl, ol, none⟩) len cl) mv np nq rp rq (k : Int) ∧ ScSt w0 w' np rp nq rq (N + 1) M) (fun a' w' h => rest a' w' h.1 h.2) ?_
  clear rest
  intro J K' hJ hK
  refine wp_calm ?_
  obtain ⟨vv, rfl⟩ := hf.shape
  clear hf
  dsimp only [scA, ncl, ncr, ncb, nco, nct, nce, ncx, Try.f6]
  have hd := h.later bd_drew
  have z := hc.six hg hd.below
  obtain ⟨z0, z1, z2, z3, z4, z5⟩ := z
  have b1 : (k : Int) < (len : Int) := by omega
  have HD := Lib.hid (sc_calls0 hd (by omega) hg hc hs)
  have Hsix := Lib.hid (fun w' (hb : Below w0.heap.size w0 w') => hc.six hg hb)
  clear h hd hk hs hc
  go_wp2_with fail
  go_region_held3 (fun w' => w'.cell? ⟨gl, ol + k * 6, none⟩ = some (.int .i64 c.kind) ∧ w'.cell? ⟨gl, ol + k * 6 + 1, none⟩ = some (.string c.name) ∧ w'.cell? ⟨gl, ol + k * 6 + 2, none⟩ = some (.int .i64 c.conn) ∧ w'.cell? ⟨gl, ol + k * 6 + 3, none⟩ = some (.int .i64 c.side) ∧ w'.cell? ⟨gl, ol + k * 6 + 4, none⟩ = some (.int .i64 c.nn) ∧ w'.cell? ⟨gl, ol + k * 6 + 5, none⟩ = some (.slice c.ad c.dl c.dc)) (first | exact ⟨z0, z1, z2, z3, z4, z5⟩ | exact hs3 | exact hs2 | exact hs1 | assumption)
    (first
      | (go_at_call 17; (with_reducible refine HD.out.mono ?_); rintro e w1 ⟨rfl, y, hu, hv, hst⟩; have hs1 := Hsix.out w1 hst.below; have HU := Lib.hid hu; have HV := Lib.hid hv; have Hst := Lib.hid hst; clear hu hv hst)
      | (go_at_call 16; (with_reducible refine HU.out.mono ?_); rintro e w2 ⟨rfl, hb2⟩; have hst2 := Hst.out.later hb2; have hs2 := Hsix.out w2 hst2.below; have HV2 := Lib.hid (HV.out w2 hb2); have Hst2 := Lib.hid hst2; clear hb2 hst2)
      | (go_at_call 18; (with_reducible refine HV2.out.mono ?_); rintro e w3 ⟨rfl, hb3⟩; have hst3 := Hst2.out.later hb3; have hs3 := Hsix.out w3 hst3.below; have Hst3 := Lib.hid hst3; clear hb3 hst3))
  all_goals go_wp2
  all_goals exact Met.intro (hJ _ _ ⟨⟨rfl, rfl, rfl, rfl, rfl, rfl, rfl, rfl, rfl⟩, Hst3.out⟩)

set_option maxRecDepth 100000 in
set_option maxHeartbeats 8000000 in
theorem scA_not {ao : Option Addr} {len cl k : Nat} (hf : ScA a (.slice ao len cl) mv np nq rp rq (k : Int)) (h : ScSt w0 w np rp nq rq N M) (hk : len ≤ k)
    (rest : ∀ a' w', ScA a' (.slice ao len cl) mv np nq rp rq (k : Int) → ScSt w0 w' np rp nq rq N M → K a' w') : scA.wp Try.prog (Exit.then K Q) a w := by
  refine wp_cut (fun a' w' => ScA a' (.slice ao len cl) mv np nq rp rq (k : Int) ∧ ScSt w0 w' np rp nq rq N M) (fun a' w' h => rest a' w' h.1 h.2) ?_
  clear rest
  intro J K' hJ hK
  refine wp_calm ?_
  obtain ⟨vv, rfl⟩ := hf.shape
  clear hf
  dsimp only [scA, ncl, ncr, ncb, nco, nct, nce, ncx, Try.f6]
  have b1 : ¬ ((k : Int) < (len : Int)) := by omega
  have Hl := Lib.hid (fun n => h.later (below_drew (k := n)))
  clear h hk
  go_wp2_with fail
  have b2 : ¬ ((k : Int) < (len : Int)) := by omega
  have b3 : ¬ (k < len) := by omega
  go_quiet (fail)
  go_wp2
  exact Met.intro (hJ _ _ ⟨⟨rfl, rfl, rfl, rfl, rfl, rfl, rfl, rfl, rfl⟩, Hl.out _⟩)


set_option maxRecDepth 100000 in
set_option maxHeartbeats 8000000 in
theorem scB_go {gl ol len cl k : Nat} (hf : ScA a lv (.slice (some ⟨gl, ol, none⟩) len cl) np nq rp rq (k : Int)) (h : ScSt w0 w np rp nq rq N M) (hM : M + 1 < 67108864) (hk : k < len) (hg : gl < w0.heap.size) {c : ClD} (hc : ClAt w0 gl (ol + k * 6) c) (hs : c.Sm)
    (rest : ∀ a' w', ScA a' lv (.slice (some ⟨gl, ol, none⟩) len cl) np nq rp rq (k : Int) → ScSt w0 w' np rp nq rq N (M + 1) → K a' w') : scB.wp Try.prog (Exit.then K Q) a w := by
  refine wp_cut (fun a' w' => ScA a' lv (.slice (some ⟨gl, ol, none⟩) len cl) np nq rp rq (k : Int) ∧ ScSt w0 w' np rp nq rq N (M + 1)) (fun a' w' h => rest a' w' h.1 h.2) ?_
  clear rest
  intro J K' hJ hK
  refine wp_calm ?_
  obtain ⟨vv, rfl⟩ := hf.shape
  clear hf
  dsimp only [scB, ncl, ncr, ncb, nco, nct, nce, ncx, Try.f6]
  have hd := h.later bd_drew
  have z := hc.six hg hd.below
  obtain ⟨z0, z1, z2, z3, z4, z5⟩ := z
  have b1 : (k : Int) < (len : Int) := by omega
  have HD := Lib.hid (sc_calls1 hd (by omega) hg hc hs)
  have Hsix := Lib.hid (fun w' (hb : Below w0.heap.size w0 w') => hc.six hg hb)
  clear h hd hk hs hc
  go_wp2_with fail
  go_region_held3 (fun w' => w'.cell? ⟨gl, ol + k * 6, none⟩ = some (.int .i64 c.kind) ∧ w'.cell? ⟨gl, ol + k * 6 + 1, none⟩ = some (.string c.name) ∧ w'.cell? ⟨gl, ol + k * 6 + 2, none⟩ = some (.int .i64 c.conn) ∧ w'.cell? ⟨gl, ol + k * 6 + 3, none⟩ = some (.int .i64 c.side) ∧ w'.cell? ⟨gl, ol + k * 6 + 4, none⟩ = some (.int .i64 c.nn) ∧ w'.cell? ⟨gl, ol + k * 6 + 5, none⟩ = some (.slice c.ad c.dl c.dc)) (first | exact ⟨z0, z1, z2, z3, z4, z5⟩ | exact hs3 | exact hs2 | exact hs1 | assumption)
    (first
      | (go_at_call 17; (with_reducible refine HD.out.mono ?_); rintro e w1 ⟨rfl, y, hu, hv, hst⟩; have hs1 := Hsix.out w1 hst.below; have HU := Lib.hid hu; have HV := Lib.hid hv; have Hst := Lib.hid hst; clear hu hv hst)
      | (go_at_call 16; (with_reducible refine HU.out.mono ?_); rintro e w2 ⟨rfl, hb2⟩; have hst2 := Hst.out.later hb2; have hs2 := Hsix.out w2 hst2.below; have HV2 := Lib.hid (HV.out w2 hb2); have Hst2 := Lib.hid hst2; clear hb2 hst2)
      | (go_at_call 18; (with_reducible refine HV2.out.mono ?_); rintro e w3 ⟨rfl, hb3⟩; have hst3 := Hst2.out.later hb3; have hs3 := Hsix.out w3 hst3.below; have Hst3 := Lib.hid hst3; clear hb3 hst3))
  all_goals go_wp2
  all_goals exact Met.intro (hJ _ _ ⟨⟨rfl, rfl, rfl, rfl, rfl, rfl, rfl, rfl, rfl⟩, Hst3.out⟩)

set_option maxRecDepth 100000 in
set_option maxHeartbeats 8000000 in
theorem scB_not {ao : Option Addr} {len cl k : Nat} (hf : ScA a lv (.slice ao len cl) np nq rp rq (k : Int)) (h : ScSt w0 w np rp nq rq N M) (hk : len ≤ k)
    (rest : ∀ a' w', ScA a' lv (.slice ao len cl) np nq rp rq (k : Int) → ScSt w0 w' np rp nq rq N M → K a' w') : scB.wp Try.prog (Exit.then K Q) a w := by
  refine wp_cut (fun a' w' => ScA a' lv (.slice ao len cl) np nq rp rq (k : Int) ∧ ScSt w0 w' np rp nq rq N M) (fun a' w' h => rest a' w' h.1 h.2) ?_
  clear rest
  intro J K' hJ hK
  refine wp_calm ?_
  obtain ⟨vv, rfl⟩ := hf.shape
  clear hf
  dsimp only [scB, ncl, ncr, ncb, nco, nct, nce, ncx, Try.f6]
  have b1 : ¬ ((k : Int) < (len : Int)) := by omega
  have Hl := Lib.hid (fun n => h.later (below_drew (k := n)))
  clear h hk
  go_wp2_with fail
  have b2 : ¬ ((k : Int) < (len : Int)) := by omega
  have b3 : ¬ (k < len) := by omega
  go_quiet (fail)
  go_wp2
  exact Met.intro (hJ _ _ ⟨⟨rfl, rfl, rfl, rfl, rfl, rfl, rfl, rfl, rfl⟩, Hl.out _⟩)


set_option maxRecDepth 100000 in
set_option maxHeartbeats 8000000 in
theorem sc_step {k : Nat} (hf : ScA a lv mv np nq rp rq (k : Int)) (hk : k ≤ 1099511627776) (rest : ∀ a', ScA a' lv mv np nq rp rq ((k + 1 : Nat) : Int) → K a' w) : scStep.wp Try.prog (Exit.then K Q) a w := by
  refine wp_cut (fun a' w' => ScA a' lv mv np nq rp rq ((k + 1 : Nat) : Int) ∧ w' = w) (fun a' w' ⟨h, e⟩ => by subst e; exact rest a' h) ?_
  clear rest
  intro J K' hJ hK
  refine wp_calm ?_
  obtain ⟨vv, rfl⟩ := hf.shape
  clear hf
  dsimp only [scStep, ncl, ncr, ncb, nco, nct, nce, ncx, Try.f6]
  have wk := wrap_k hk
  have Hgo := Lib.hid (show Value.int .i64 (wrap64 ((k : Int) + 1)) = .int .i64 ((k + 1 : Nat) : Int) by rw [wk]; rfl)
  clear hk wk
  go_wp2
  exact Met.intro (hJ _ _ ⟨⟨rfl, rfl, rfl, rfl, rfl, rfl, rfl, rfl, congrArg some Hgo.out⟩, rfl⟩)

set_option maxRecDepth 100000 in
set_option maxHeartbeats 8000000 in
theorem sc_test {al am : Option Addr} {len len2 cl cm k : Nat} (hf : ScA a (.slice al len cl) (.slice am len2 cm) np nq rp rq (k : Int))
    (rest : ∀ a', k < len ∨ k < len2 → ScA a' (.slice al len cl) (.slice am len2 cm) np nq rp rq (k : Int) → K a' w) (out : ∀ a', ScA a' (.slice al len cl) (.slice am len2 cm) np nq rp rq (k : Int) → Q (.exit 0) a' w) : scT.wp Try.prog (Exit.then K Q) a w := by
  obtain ⟨vv, rfl⟩ := hf.shape
  clear hf
  dsimp only [scT, ncl, ncr, ncb, nco, nct, nce, ncx, Try.f6]
  by_cases hk : k < len
  · have Hr := Lib.hid (fun a' h => rest a' (.inl hk) h)
    have b1 : (k : Int) < (len : Int) := by omega
    clear rest out hk
    go_wp2
    exact Hr.out _ ⟨rfl, rfl, rfl, rfl, rfl, rfl, rfl, rfl, rfl⟩
  · by_cases hk2 : k < len2
    · have Hr := Lib.hid (fun a' h => rest a' (.inr hk2) h)
      have b1 : (len : Int) ≤ (k : Int) := by omega
      have b2 : (k : Int) < (len2 : Int) := by omega
      clear rest out hk hk2
      go_wp2
      exact Hr.out _ ⟨rfl, rfl, rfl, rfl, rfl, rfl, rfl, rfl, rfl⟩
    · have Hr := Lib.hid (fun a' h => out a' h)
      have b1 : (len : Int) ≤ (k : Int) := by omega
      have b2 : (len2 : Int) ≤ (k : Int) := by omega
      clear rest out hk hk2
      go_wp2
      exact Hr.out _ ⟨rfl, rfl, rfl, rfl, rfl, rfl, rfl, rfl, rfl⟩

theorem sc_loop {al am : Option Addr} {len len2 cl cm gl ol gm om : Nat} {C E : Nat → ClD} (hf : ScA a (.slice al len cl) (.slice am len2 cm) np nq rp rq ((0 : Nat) : Int)) (h : ScSt w0 w np rp nq rq 0 0)
    (hal : 0 < len → al = some ⟨gl, ol, none⟩ ∧ gl < w0.heap.size) (hc : ∀ i, i < len → ClAt w0 gl (ol + i * 6) (C i) ∧ (C i).Sm) (ham : 0 < len2 → am = some ⟨gm, om, none⟩ ∧ gm < w0.heap.size) (he : ∀ i, i < len2 → ClAt w0 gm (om + i * 6) (E i) ∧ (E i).Sm)
    (hlen : len ≤ 1048576) (hlen2 : len2 ≤ 1048576) (rest : ∀ a' w' N, N ≤ 1048576 → ScB a' (.slice al len cl) (.slice am len2 cm) np nq rp rq → ScSt w0 w' np rp nq rq N N → K a' w') : scL.wp Try.prog (Exit.inBlock 0 (Exit.then K Q)) a w := by
  show (Code.loop (Code.seq scT (Code.seq (Code.block 1 (Code.seq scA scB)) scStep))).wp Try.prog (Exit.inBlock 0 (Exit.then K Q)) a w
  refine wp_loop (fun a' w' => ∃ k : Nat, k ≤ max len len2 ∧ ScA a' (.slice al len cl) (.slice am len2 cm) np nq rp rq (k : Int) ∧ ScSt w0 w' np rp nq rq k k) (fun a' _ => max len len2 - (intOf (a'.tmps.getD 11 undef)).toNat) ⟨0, Nat.zero_le _, hf, h⟩ ?_
  rintro a' w' ⟨k, hk, hf', h'⟩
  have hmx : max len len2 ≤ 1048576 := Nat.max_le.2 ⟨hlen, hlen2⟩
  refine wp_seq (sc_test hf' (fun a1 hlt hf1 => ?_) (fun a1 hf1 => ?_))
  · have hkm : k < max len len2 := by
      rcases hlt with q | q
      · exact Nat.lt_of_lt_of_le q (Nat.le_max_left _ _)
      · exact Nat.lt_of_lt_of_le q (Nat.le_max_right _ _)
    have hstep : ∀ a3 w3, ScA a3 (.slice al len cl) (.slice am len2 cm) np nq rp rq (k : Int) → ScSt w0 w3 np rp nq rq (k + 1) (k + 1) → scStep.wp Try.prog (Exit.then (fun a4 w4 => (∃ k : Nat, k ≤ max len len2 ∧ ScA a4 (.slice al len cl) (.slice am len2 cm) np nq rp rq (k : Int) ∧ ScSt w0 w4 np rp nq rq k k) ∧ max len len2 - (intOf (a4.tmps.getD 11 undef)).toNat < max len len2 - (intOf (a'.tmps.getD 11 undef)).toNat) (Exit.inBlock 0 (Exit.then K Q))) a3 w3 := fun a3 w3 f3 h3 => by
      refine sc_step f3 (by omega) (fun a4 f4 => ⟨⟨k + 1, by omega, f4, h3⟩, ?_⟩)
      rw [getD_of f4.s11, getD_of hf'.s11]
      simp only [intOf]
      omega
    have hB : ∀ a2 w2, ScA a2 (.slice al len cl) (.slice am len2 cm) np nq rp rq (k : Int) → ScSt w0 w2 np rp nq rq (k + 1) k → scB.wp Try.prog (Exit.then (fun a3 w3 => scStep.wp Try.prog (Exit.then (fun a4 w4 => (∃ k : Nat, k ≤ max len len2 ∧ ScA a4 (.slice al len cl) (.slice am len2 cm) np nq rp rq (k : Int) ∧ ScSt w0 w4 np rp nq rq k k) ∧ max len len2 - (intOf (a4.tmps.getD 11 undef)).toNat < max len len2 - (intOf (a'.tmps.getD 11 undef)).toNat) (Exit.inBlock 0 (Exit.then K Q))) a3 w3) (fun _ _ _ => False)) a2 w2 := fun a2 w2 f2 h2 => by
      by_cases q : k < len2
      · obtain ⟨rfl, hgm⟩ := ham (by omega)
        exact scB_go f2 h2 (by omega) q hgm (he k q).1 (he k q).2 hstep
      · refine scB_not f2 h2 (by omega) (fun a3 w3 f3 h3 => hstep a3 w3 f3 ?_)
        obtain ⟨It, d1, d2⟩ := h3
        exact ⟨It, d1, d2.next⟩
    refine wp_seq (in_block (wp_seq ?_))
    by_cases q : k < len
    · obtain ⟨rfl, hgl⟩ := hal (by omega)
      exact scA_go hf1 h' (by omega) q hgl (hc k q).1 (hc k q).2 hB
    · refine scA_not hf1 h' (by omega) (fun a2 w2 f2 h2 => hB a2 w2 f2 ?_)
      obtain ⟨It, d1, d2⟩ := h2
      exact ⟨It, d1.next, d2⟩
  · exact out_loop (rest _ _ k (by omega) hf1.toB h')

end

end Go.Proofs.Ytibijonjjkknoaa
