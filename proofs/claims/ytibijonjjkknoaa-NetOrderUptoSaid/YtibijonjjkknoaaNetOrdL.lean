/-
NetOrder's loops, out of their statements.
-/
import Derived.Test.YtibijonjjkknoaaNetOrdE
import Derived.Test.YtibijonjjkknoaaNetOrdR
import Derived.Test.YtibijonjjkknoaaNetOrdS
import Derived.Test.YtibijonjjkknoaaNetOrdW
set_option linter.unusedVariables false
set_option linter.unusedSimpArgs false
namespace Go.Proofs.Ytibijonjjkknoaa
open Go Go.RowKit

theorem getD_of {t : Array Value} {i : Nat} {v : Value} (h : t[i]? = some v) : t.getD i undef = v := by
  rw [Array.getD_eq_getD_getElem?, h]; rfl

theorem out_block {id : Nat} {K : Act → World → Prop} {Q : Exit → Act → World → Prop} {a : Act} {w : World} (h : K a w) : Exit.inBlock id (Exit.then K Q) (.exit id) a w := by
  show (if id = id then K a w else Exit.then K Q (.exit id) a w)
  rw [if_pos rfl]
  exact h

theorem out_loop {id : Nat} {I K : Act → World → Prop} {Q : Exit → Act → World → Prop} {a : Act} {w : World} (h : K a w) : Exit.then I (Exit.inBlock id (Exit.then K Q)) (.exit id) a w := out_block h

theorem in_block {P : Program} {id : Nat} {c : Code} {K : Act → World → Prop} {Q : Exit → Act → World → Prop} {a : Act} {w : World} (h : c.wp P (Exit.then K fun _ _ _ => False) a w) : (Code.block id c).wp P (Exit.then K Q) a w := by
  refine wp_block (wp_mono h ?_)
  intro e a w he
  cases e <;> first | exact he | exact he.elim

section
variable {B n bw cb : Nat} {w0 w : World} {cut : Bool} {V : Nat} {al : Value} {i : Int} {K : Act → World → Prop} {Q : Exit → Act → World → Prop} {a : Act}

theorem sIn {o : Obj} (hf : FrI a al n bw (bw + 1) cut i cb 0) (h : InvC B w0 w n bw (bw + 1) cb o cut V)
    (rest : ∀ a' w', FrC a' al n bw (bw + 1) cut i cb → InvC B w0 w' n bw (bw + 1) cb o cut V → K a' w') : codeIn.wp Try.prog (Exit.then K Q) a w := by
  show (Code.block 2 (Code.loop (Code.seq codeInTest (Code.seq (Code.block 3 codeInRound) codeInStep)))).wp Try.prog (Exit.then K Q) a w
  refine wp_block (wp_loop (fun a' w' => ∃ k : Nat, k ≤ 2 ∧ FrI a' al n bw (bw + 1) cut i cb (k : Int) ∧ InvC B w0 w' n bw (bw + 1) cb o cut V) (fun a' _ => 2 - (intOf (a'.tmps.getD 16 undef)).toNat) ⟨0, by omega, hf, h⟩ ?_)
  rintro a' w' ⟨k, hk, hf', h'⟩
  refine wp_seq (sInTest hf' hk (fun a1 hlt hf1 => wp_seq (in_block (sInRound hf1 hlt h' (fun a2 w2 hf2 h2 => sInStep hf2 hlt (fun a3 hf3 => ⟨⟨k + 1, by omega, hf3, h2⟩, ?_⟩))))) (fun a1 hf1 => ?_))
  · show 2 - (intOf (a3.tmps.getD 16 undef)).toNat < 2 - (intOf (a'.tmps.getD 16 undef)).toNat
    rw [getD_of hf3.s16, getD_of hf'.s16]
    simp only [intOf]
    omega
  · refine out_loop ?_
    exact rest _ _ hf1.toC h'

/-- One round: one call of the script. -/
theorem sRound {gl ol len cl kk V' : Nat} {kd cn sd nk : Int} {nm : ByteArray} {adk : Option Addr} {dlk dck : Nat} {ps : List UInt8}
    (hf : FrO a (.slice (some ⟨gl, ol, none⟩) len cl) n bw (bw + 1) cut (kk : Int)) (h : Inv B w0 w n bw (bw + 1) cut V) (hB : B ≤ w0.heap.size) (hgl : gl < B) (hkk : kk < len) (hlen : len ≤ 1048576)
    (hc : CallAt w0 gl (ol + kk * 6) kd nm cn sd nk adk dlk dck ps) (hold : ∀ a, adk = some a → ps ≠ [] → a.block < B) (hV' : V' ≤ 1048576) (hsm : V + dlk ≤ V')
    (rest : ∀ a' w' cut', FrO a' (.slice (some ⟨gl, ol, none⟩) len cl) n bw (bw + 1) cut' (kk : Int) → Inv B w0 w' n bw (bw + 1) cut' V' → K a' w') : codeRound.wp Try.prog (Exit.then K Q) a w := by
  show (Code.block 1 (Code.seq code14 (Code.seq code15 (Code.seq code16 (Code.seq code18 (Code.seq code22 (Code.seq code26 (Code.seq code28 (Code.seq code31 codeIn))))))))).wp Try.prog (Exit.then K Q) a w
  have hbl := h.net.1
  have hmono : ∀ {w' : World} {cut' : Bool} , Inv B w0 w' n bw (bw + 1) cut' V → Inv B w0 w' n bw (bw + 1) cut' V' := fun {w' cut'} h => h.kept (Mod.refl _ _) (by omega)
  have q0 := (hbl.cell (p := ⟨gl, ol + kk * 6, none⟩) hgl).trans hc.c0
  have q1 := (hbl.cell (p := ⟨gl, ol + kk * 6 + 1, none⟩) hgl).trans hc.c1
  have q2 := (hbl.cell (p := ⟨gl, ol + kk * 6 + 2, none⟩) hgl).trans hc.c2
  have q3 := (hbl.cell (p := ⟨gl, ol + kk * 6 + 3, none⟩) hgl).trans hc.c3
  have q4 := (hbl.cell (p := ⟨gl, ol + kk * 6 + 4, none⟩) hgl).trans hc.c4
  have q5 := (hbl.cell (p := ⟨gl, ol + kk * 6 + 5, none⟩) hgl).trans hc.c5
  refine wp_block (wp_seq (s14 hf h hkk hlen q0 q1 q2 q3 q4 q5 (fun a1 w1 cb f1 h1 => wp_seq (s15 f1 h1 (fun a2 w2 hsd v0 v2 f2 h2 => ?_) (fun a2 w2 f2 h2 => ?_)))))
  · refine wp_seq (s16 f2 h2 v0 v2 hsd hV' hsm hc.len (fun w' hb => hc.rd.below hb hold) (fun a3 w3 f3 h3 => ?_))
    refine wp_seq (s18 f3 h3 v0 v2 hsd hV' (fun a4 w4 f4 h4 => ?_))
    refine wp_seq (s22 f4 h4 v0 v2 hsd hV' (fun a5 w5 f5 h5 => ?_))
    refine wp_seq (s26 f5 h5 v0 v2 hsd (fun a6 w6 f6 h6 => ?_))
    refine wp_seq (s28 f6 h6 v0 v2 (fun a7 w7 cut7 f7 h7 => ?_))
    refine wp_seq (s31 f7 (fun a8 f8 => ?_))
    exact wp_mono (sIn f8 h7 (K := K) (Q := fun _ _ _ => False) (fun a9 w9 f9 h9 => rest a9 w9 cut7 f9.toO h9.inv)) (by
      intro e a w he
      cases e <;> first | exact he | exact he.elim)
  · refine out_block ?_
    exact rest a2 w2 cut f2.toO (hmono h2.inv)

theorem sLoop {ao : Option Addr} {gl ol len cl : Nat} {kind conn side nn : Nat → Int} {name : Nat → ByteArray} {ad : Nat → Option Addr} {dl dc : Nat → Nat} {ps : Nat → List UInt8} {sum : Nat → Nat}
    (hf : FrO a (.slice ao len cl) n bw (bw + 1) false 0) (h : Inv B w0 w n bw (bw + 1) false (sum 0)) (hB : B ≤ w0.heap.size)
    (hal : 0 < len → ao = some ⟨gl, ol, none⟩ ∧ gl < B)
    (hc : ∀ i, i < len → CallAt w0 gl (ol + i * 6) (kind i) (name i) (conn i) (side i) (nn i) (ad i) (dl i) (dc i) (ps i)) (hold : ∀ i, i < len → ∀ a, ad i = some a → ps i ≠ [] → a.block < B)
    (hs0 : ∀ i, i < len → sum i + dl i ≤ sum (i + 1)) (hsum : ∀ i, i ≤ len → sum i ≤ 1048576) (hlen : len ≤ 1048576)
    (rest : ∀ a' w' cut, FrO a' (.slice ao len cl) n bw (bw + 1) cut (len : Int) → Inv B w0 w' n bw (bw + 1) cut (sum len) → K a' w') : (ncb codeLoop).wp Try.prog (Exit.inBlock 0 (Exit.then K Q)) a w := by
  show (Code.loop (Code.seq codeTest (Code.seq codeRound codeStep))).wp Try.prog (Exit.inBlock 0 (Exit.then K Q)) a w
  refine (wp_loop (fun a' w' => ∃ (k : Nat) (cut : Bool), k ≤ len ∧ FrO a' (.slice ao len cl) n bw (bw + 1) cut (k : Int) ∧ Inv B w0 w' n bw (bw + 1) cut (sum k)) (fun a' _ => len - (intOf (a'.tmps.getD 9 undef)).toNat) ⟨0, false, by omega, hf, h⟩ ?_)
  rintro a' w' ⟨k, cut, hk, hf', h'⟩
  refine wp_seq (sTest hf' hk hlen (fun a1 hlt hf1 => ?_) (fun a1 hkl hf1 => ?_))
  · obtain ⟨rfl, hgl⟩ := hal (by omega)
    refine wp_seq (sRound hf1 h' hB hgl hlt hlen (hc k hlt) (hold k hlt) (hsum (k + 1) (by omega)) (hs0 k hlt) (fun a2 w2 cut2 hf2 h2 => sStep hf2 (by omega) (fun a3 hf3 => ⟨⟨k + 1, cut2, by omega, hf3, h2⟩, ?_⟩)))
    show len - (intOf (a3.tmps.getD 9 undef)).toNat < len - (intOf (a'.tmps.getD 9 undef)).toNat
    rw [getD_of hf3.s9, getD_of hf'.s9]
    simp only [intOf]
    omega
  · refine out_loop ?_
    subst hkl
    exact rest _ _ _ hf1 h'

theorem sEnd (hf : FrE a n bw (bw + 1) 0) (h : Inv B w0 w n bw (bw + 1) false V) (hV : V ≤ 1048576)
    (rest : ∀ a' w', FrE a' n bw (bw + 1) 2 → Inv B w0 w' n bw (bw + 1) false V → K a' w') : codeEnd.wp Try.prog (Exit.then K Q) a w := by
  show (Code.block 4 (Code.loop (Code.seq codeEndTest (Code.seq (Code.block 5 codeEndRound) codeEndStep)))).wp Try.prog (Exit.then K Q) a w
  refine wp_block (wp_loop (fun a' w' => ∃ k : Nat, k ≤ 2 ∧ FrE a' n bw (bw + 1) (k : Int) ∧ Inv B w0 w' n bw (bw + 1) false V) (fun a' _ => 2 - (intOf (a'.tmps.getD 20 undef)).toNat) ⟨0, by omega, hf, h⟩ ?_)
  rintro a' w' ⟨k, hk, hf', h'⟩
  refine wp_seq (sEndTest hf' hk (fun a1 hlt hf1 => wp_seq (in_block (sEndRound hf1 hlt h' hV (fun a2 w2 hf2 h2 => sEndStep hf2 hlt (fun a3 hf3 => ⟨⟨k + 1, by omega, hf3, h2⟩, ?_⟩))))) (fun a1 hk2 hf1 => ?_))
  · show 2 - (intOf (a3.tmps.getD 20 undef)).toNat < 2 - (intOf (a'.tmps.getD 20 undef)).toNat
    rw [getD_of hf3.s20, getD_of hf'.s20]
    simp only [intOf]
    omega
  · refine out_loop ?_
    subst hk2
    exact rest _ _ hf1 h'

set_option maxRecDepth 100000 in
set_option maxHeartbeats 1600000 in
theorem sTrue {k : Int} (hf : FrE a n bw (bw + 1) k)
    (fin : ∀ a', a'.tmps.size = 261 → a'.defers = [] → a'.tmps[2]? = some (.bool true) → Q .ret a' w) : codeTrue.wp Try.prog Q a w := by
  obtain ⟨v, rfl⟩ := hf.shape
  clear hf
  dsimp only [codeTrue, ncl, ncr, ncb, nco, ncx, Try.f5]
  have Hfin := Lib.hid fin
  clear fin
  go_wp2
  exact Hfin.out _ rfl rfl rfl

/-- All behind the loop. -/
theorem sAfter (hf : FrO a al n bw (bw + 1) cut i) (h : Inv B w0 w n bw (bw + 1) cut V) (hV : V ≤ 1048576)
    (fin : ∀ a' w', a'.tmps.size = 261 → a'.defers = [] → a'.tmps[2]? = some (.bool true) → Inv B w0 w' n bw (bw + 1) cut V → Q .ret a' w') : codeAfter.wp Try.prog Q a w := by
  show (Code.seq codeCut (Code.seq (Code.seq code39 codeEnd) codeTrue)).wp Try.prog Q a w
  refine wp_seq (sCut hf h (fun a1 hcut f1 => ?_) (fun a1 z1 z2 z3 => fin _ _ z1 z2 z3 h))
  subst hcut
  refine wp_seq (wp_seq (s39 f1 (fun a2 f2 => ?_)))
  refine wp_mono (sEnd f2 h hV (K := fun a w => codeTrue.wp Try.prog Q a w) (Q := fun _ _ _ => False) (fun a3 w3 f3 h3 => sTrue f3 (fun a4 z1 z2 z3 => fin _ _ z1 z2 z3 h3))) ?_
  intro e a w he
  cases e <;> first | exact he | exact he.elim

end

end Go.Proofs.Ytibijonjjkknoaa
