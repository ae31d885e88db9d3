/-
The walks of Add, of both sides.
-/
import Derived.Test.YthpflfcgnaichaaDoorTraLog
import Derived.Outline
set_option linter.unusedVariables false
set_option linter.unusedSimpArgs false
namespace Go.Proofs.YthpflfcgnaichaaDoor
open Go Go.RowKit

/-- An entry with a number of its own. -/
def Ent.num (e : Ent) (n : Nat) : Ent := { e with number := (n : Int) }

theorem grown_blk {w w' : World} {row : Option Nat} {k : Nat} {o : Obj} (hg : w.grownBy w' row) (hk : w.heap[k]? = some o) (hne : row ≠ some k) : w'.heap[k]? = some o :=
  (hg.block k (lt_of_heap hk) (fun e => hne e.symm)).trans hk

theorem alloc_blk {w : World} {k : Nat} {o : Obj} (hk : w.heap[k]? = some o) (o' : Obj) : (w.drew.alloc o').heap[k]? = some o :=
  (alloc_old (w := w.drew) o' (lt_of_heap hk)).trans hk

/-- What Add leaves. -/
def AddPost (w : World) (S T : TypeId) (lb : Nat) (v : Value) (xs : List Ent) (e : Ent) (r : Ending) (w' : World) : Prop :=
  ∃ v', r = .returned (.tuple #[.int .i64 (xs.length : Int), .int .i64 0]) ∧ LogAt w' S T lb v' (xs ++ [e.num xs.length]) ∧ Mod (fun k => k = lb ∨ v.ownBlock = some k) w w' ∧ (∀ g, v'.ownBlock = some g → v.ownBlock = some g ∨ w.heap.size ≤ g)

theorem add_done {w W2 w2 : World} {S T : TypeId} {lb n : Nat} {v : Value} {xs : List Ent} {e : Ent} {ao : Option Addr} {c : Nat} {o : Obj} (hnx : n = xs.length) (hlog : LogAt w S T lb v xs) (h2 : Below w.heap.size w W2) (hl2 : W2.heap[lb]? = some (.cells #[v] S (0, 0)))
    (hown : EntRow w2 T (.slice ao (n + 1) c) (xs ++ [e.num n])) (hg : (W2.drew.alloc o).grownBy w2 v.ownBlock) (hn : ∀ g, (Value.slice ao (n + 1) c).ownBlock = some g → v.ownBlock = some g ∨ (W2.drew.alloc o).heap.size ≤ g) :
    AddPost w S T lb v xs e (.returned (.tuple #[.int .i64 (n : Int), .int .i64 0])) (w2.setCell ⟨lb, 0, none⟩ (.slice ao (n + 1) c)) := by
  subst hnx
  have hm0 : Mod (fun k => v.ownBlock = some k) w W2 := Mod.ofBelow h2 (fun k hk hb => by omega)
  have hm1 : Mod (fun k => v.ownBlock = some k) w w2 := ((hm0.drew).alloc o).grown hg (fun k e _ => e)
  have hlt := lt_of_heap hl2
  have hb2 : w2.heap[lb]? = some (.cells #[v] S (0, 0)) := grown_blk hg (alloc_blk hl2 o) hlog.ne
  have hsz : (W2.drew.alloc o).heap.size = W2.heap.size + 1 := by
    show (W2.heap.push o).size = _
    simp
  have hne : (Value.slice ao (xs.length + 1) c).ownBlock ≠ some lb := by
    intro q
    rcases hn lb q with q2 | q2
    · exact hlog.ne q2
    · omega
  refine ⟨_, rfl, ⟨?_, ?_, hne⟩, ?_, ?_⟩
  · have := set_blk hb2 0 (.slice ao (xs.length + 1) c)
    simpa using this
  · refine ownsRow_frame hown fun g hg2 => ?_
    exact set_other _ _ (fun q => hne (hg2.trans (congrArg some q)))
  · exact (hm1.mono fun k _ h => .inr h).setCell _ _ (fun _ => .inl rfl)
  · intro g hg2
    rcases hn g hg2 with q | q
    · exact .inl q
    · exact .inr (by have := h2.size; omega)

theorem cell1 {w : World} {b : Nat} {v : Value} {T : TypeId} (h : w.heap[b]? = some (.cells #[v] T (0, 0))) : w.cell? ⟨b, 0, none⟩ = some v := cell_blk h 0

theorem row_below {w w' : World} {T : TypeId} {v : Value} {xs : List Ent} (h : EntRow w T v xs) (hb : Below w.heap.size w w') : EntRow w' T v xs :=
  ownsRow_frame h fun g hg => hb.block g (h.lt g hg).2

theorem row_alloc {w : World} {T : TypeId} {v : Value} {xs : List Ent} (h : EntRow w T v xs) (o : Obj) : EntRow (w.drew.alloc o) T v xs :=
  ownsRow_frame h fun g hg => (alloc_old (w := w.drew) o (h.lt g hg).2)

set_option maxHeartbeats 4000000 in
set_option maxRecDepth 100000 in
set_option maxRecDepth 100000 in
theorem padd_walk (w : World) (lb : Nat) (v : Value) (xs : List Ent) (e : Ent) (hlog : LogAt w 27 38 lb v xs) (hlen : xs.length < 65536) (hmay : e.may = true) :
    Calls Tryd.prog 10 #[.pointer (some ⟨lb, 0, none⟩), e.v] w fun r w' => AddPost w 27 38 lb v xs e r w' := by
  have Hm := Lib.hid (fun w => may_walk w e)
  rw [hmay] at Hm
  obtain ⟨ao, c, hv⟩ := hlog.form
  obtain ⟨n, hn⟩ : ∃ n, n = xs.length := ⟨_, rfl⟩
  rw [← hn] at hv
  subst hv
  have hge : decide ((65536 : Int) ≤ (n : Int)) = false := decide_eq_false (by omega)
  have Hn := Lib.hid hn
  have Hne := Lib.hid (show (Value.slice ao n c).ownBlock ≠ some w.heap.size from fun q => absurd (hlog.row.lt _ q).2 (Nat.lt_irrefl _))
  have Hlog := Lib.hid hlog
  have hlb := lt_of_heap hlog.blk
  have hne1 : w.heap.size ≠ lb := by omega
  have hne2 : lb ≠ w.heap.size := by omega
  have hB0 : (w.alloc (Obj15 e 38)).heap[w.heap.size]? = some (Obj15 e 38) := alloc_new _
  have hL0 : (w.alloc (Obj15 e 38)).heap[lb]? = some (.cells #[.slice ao n c] 27 (0, 0)) := (alloc_old _ hlb).trans hlog.blk
  have Hb0 := Lib.hid (show Below w.heap.size w (w.alloc (Obj15 e 38)) from (Below.refl _ w).alloc (Nat.le_refl _) _)
  have hlen2 : xs.length < 65536 := hlen
  have Hlen2 := Lib.hid hlen2
  clear hlen hlen2
  have HB0 := Lib.hid hB0
  have HL0 := Lib.hid hL0
  clear hmay hB0 hL0 hlog hn
  have Hnews := Lib.hid (fun w => news_new w (e.num n) 38)
  obtain ⟨number, ver, epo, method, host, path, ea, eb, kind, status, route, rule, service, endp, fin⟩ := e
  unfold Ent.v Obj15 at *
  unfold Ent.num at Hnews
  dsimp only at Hm Hb0 HB0 HL0 Hnews
  go_enter Tryd.func10, Tryd.ntmps10
  go_wp2_with fail
  refine (Hm.out _).mono ?_
  rintro r w1 ⟨rfl, hb⟩
  have Hb1 := Lib.hid (Hb0.out.trans (hb.mono Hb0.out.size))
  have HB1 := Lib.hid ((hb.block _ (lt_of_heap HB0.out)).trans HB0.out)
  have HL1 := Lib.hid ((hb.block _ (lt_of_heap HL0.out)).trans HL0.out)
  clear hb Hm Hb0 HB0 HL0
  have c0 : w1.cell? ⟨lb, 0, none⟩ = some (.slice ao n c) := cell_blk HL1.out 0
  have b0 : w1.cell? ⟨w.heap.size, 0, none⟩ = some (.int .i64 number) := cell_blk HB1.out 0
  have f0 := frozen_blk HB1.out 0
  go_upto_region 8 with (fail)
  have hB2 : (w1.setCell ⟨w.heap.size, 0, none⟩ (.int .i64 (n : Int))).heap[w.heap.size]? = some (Obj15 ⟨(n : Int), ver, epo, method, host, path, ea, eb, kind, status, route, rule, service, endp, fin⟩ 38) := by
    have := set_blk HB1.out 0 (.int .i64 (n : Int))
    simpa [Obj15] using this
  have hL2 : (w1.setCell ⟨w.heap.size, 0, none⟩ (.int .i64 (n : Int))).heap[lb]? = some (.cells #[.slice ao n c] 27 (0, 0)) := (set_other _ _ hne2).trans HL1.out
  have h2 : Below w.heap.size w (w1.setCell ⟨w.heap.size, 0, none⟩ (.int .i64 (n : Int))) := Hb1.out.setCell (Nat.le_refl _) _
  clear HB1 HL1 Hb1 c0 b0 f0
  generalize w1.setCell ⟨w.heap.size, 0, none⟩ (.int .i64 (n : Int)) = W2 at *
  obtain ⟨d0, d1, d2, d3, d4, d5, d6, d7, d8, d9, d10, d11, d12, d13, d14⟩ := cells15 hB2
  dsimp only at d0 d1 d2 d3 d4 d5 d6 d7 d8 d9 d10 d11 d12 d13 d14
  have c0 := cell1 hL2
  have f0 := frozen_blk hL2 0
  have HB2 := Lib.hid hB2
  have HL2 := Lib.hid hL2
  have H2 := Lib.hid h2
  have Hown := Lib.hid (fun o => row_alloc (row_below Hlog.out.row h2) o)
  have Hle := Lib.hid (show xs.length ≤ 100000000 by have := Hlen2.out; omega)
  have Hq := Lib.hid (show n + 1 = xs.length + 1 by rw [Hn.out])
  have c0a : ∀ o, (W2.alloc o).cell? ⟨lb, 0, none⟩ = some (.slice ao n c) := fun o => cell1 ((alloc_old o (lt_of_heap hL2)).trans hL2)
  clear hB2 hL2 h2
  go_region_law (refine pstep rfl _ _ rfl (.slice ao n c) xs rfl (Hown.out _) W2.heap.size ⟨(n : Int), ver, epo, method, host, path, ea, eb, kind, status, route, rule, service, endp, fin⟩ rfl (Hnews.out W2.drew) Hle.out (n + 1) Hq.out ?_; intro ao' c' w2 own2 gr2 new2; have Hend := Lib.hid (add_done (e := ⟨number, ver, epo, method, host, path, ea, eb, kind, status, route, rule, service, endp, fin⟩) Hn.out Hlog.out H2.out HL2.out own2 gr2 new2); have bl2 := grown_blk gr2 (alloc_blk HL2.out _) Hlog.out.ne; have bb2 := grown_blk gr2 (alloc_blk HB2.out _) Hne.out; have t2 := cell1 bl2; have tf2 := frozen_blk bl2 0; have t3 := (cells15 bb2).1; clear own2 gr2 new2 bl2 bb2)
  all_goals go_wp2
  all_goals go_ret2
  all_goals exact Hend.out

set_option maxHeartbeats 4000000 in
set_option maxRecDepth 100000 in
set_option maxRecDepth 100000 in
theorem radd_walk (w : World) (lb : Nat) (v : Value) (xs : List Ent) (e : Ent) (hlog : LogAt w 50 32 lb v xs) (hlen : xs.length < 65536) (hmay : e.may = true) :
    Calls Tryd.prog 17 #[.pointer (some ⟨lb, 0, none⟩), e.v] w fun r w' => AddPost w 50 32 lb v xs e r w' := by
  have Hm := Lib.hid (fun w => refMay_walk w e)
  rw [hmay] at Hm
  obtain ⟨ao, c, hv⟩ := hlog.form
  obtain ⟨n, hn⟩ : ∃ n, n = xs.length := ⟨_, rfl⟩
  rw [← hn] at hv
  subst hv
  have hge : decide ((65536 : Int) ≤ (n : Int)) = false := decide_eq_false (by omega)
  have Hn := Lib.hid hn
  have Hne := Lib.hid (show (Value.slice ao n c).ownBlock ≠ some w.heap.size from fun q => absurd (hlog.row.lt _ q).2 (Nat.lt_irrefl _))
  have Hlog := Lib.hid hlog
  have hlb := lt_of_heap hlog.blk
  have hne1 : w.heap.size ≠ lb := by omega
  have hne2 : lb ≠ w.heap.size := by omega
  have hB0 : (w.alloc (Obj15 e 32)).heap[w.heap.size]? = some (Obj15 e 32) := alloc_new _
  have hL0 : (w.alloc (Obj15 e 32)).heap[lb]? = some (.cells #[.slice ao n c] 50 (0, 0)) := (alloc_old _ hlb).trans hlog.blk
  have Hb0 := Lib.hid (show Below w.heap.size w (w.alloc (Obj15 e 32)) from (Below.refl _ w).alloc (Nat.le_refl _) _)
  have hlen2 : xs.length < 65536 := hlen
  have Hlen2 := Lib.hid hlen2
  clear hlen hlen2
  have HB0 := Lib.hid hB0
  have HL0 := Lib.hid hL0
  clear hmay hB0 hL0 hlog hn
  have Hnews := Lib.hid (fun w => news_new w (e.num n) 32)
  obtain ⟨number, ver, epo, method, host, path, ea, eb, kind, status, route, rule, service, endp, fin⟩ := e
  unfold Ent.v Obj15 at *
  unfold Ent.num at Hnews
  dsimp only at Hm Hb0 HB0 HL0 Hnews
  go_enter Tryd.func17, Tryd.ntmps17
  go_wp2_with fail
  refine (Hm.out _).mono ?_
  rintro r w1 ⟨rfl, hb⟩
  have Hb1 := Lib.hid (Hb0.out.trans (hb.mono Hb0.out.size))
  have HB1 := Lib.hid ((hb.block _ (lt_of_heap HB0.out)).trans HB0.out)
  have HL1 := Lib.hid ((hb.block _ (lt_of_heap HL0.out)).trans HL0.out)
  clear hb Hm Hb0 HB0 HL0
  have c0 : w1.cell? ⟨lb, 0, none⟩ = some (.slice ao n c) := cell_blk HL1.out 0
  have b0 : w1.cell? ⟨w.heap.size, 0, none⟩ = some (.int .i64 number) := cell_blk HB1.out 0
  have f0 := frozen_blk HB1.out 0
  go_upto_region 9 with (fail)
  have hB2 : (w1.setCell ⟨w.heap.size, 0, none⟩ (.int .i64 (n : Int))).heap[w.heap.size]? = some (Obj15 ⟨(n : Int), ver, epo, method, host, path, ea, eb, kind, status, route, rule, service, endp, fin⟩ 32) := by
    have := set_blk HB1.out 0 (.int .i64 (n : Int))
    simpa [Obj15] using this
  have hL2 : (w1.setCell ⟨w.heap.size, 0, none⟩ (.int .i64 (n : Int))).heap[lb]? = some (.cells #[.slice ao n c] 50 (0, 0)) := (set_other _ _ hne2).trans HL1.out
  have h2 : Below w.heap.size w (w1.setCell ⟨w.heap.size, 0, none⟩ (.int .i64 (n : Int))) := Hb1.out.setCell (Nat.le_refl _) _
  clear HB1 HL1 Hb1 c0 b0 f0
  generalize w1.setCell ⟨w.heap.size, 0, none⟩ (.int .i64 (n : Int)) = W2 at *
  obtain ⟨d0, d1, d2, d3, d4, d5, d6, d7, d8, d9, d10, d11, d12, d13, d14⟩ := cells15 hB2
  dsimp only at d0 d1 d2 d3 d4 d5 d6 d7 d8 d9 d10 d11 d12 d13 d14
  have c0 := cell1 hL2
  have f0 := frozen_blk hL2 0
  have HB2 := Lib.hid hB2
  have HL2 := Lib.hid hL2
  have H2 := Lib.hid h2
  have Hown := Lib.hid (fun o => row_alloc (row_below Hlog.out.row h2) o)
  have Hle := Lib.hid (show xs.length ≤ 100000000 by have := Hlen2.out; omega)
  have Hq := Lib.hid (show n + 1 = xs.length + 1 by rw [Hn.out])
  have c0a : ∀ o, (W2.alloc o).cell? ⟨lb, 0, none⟩ = some (.slice ao n c) := fun o => cell1 ((alloc_old o (lt_of_heap hL2)).trans hL2)
  clear hB2 hL2 h2
  go_region_law (refine rstep rfl _ _ rfl (.slice ao n c) xs rfl (Hown.out _) W2.heap.size ⟨(n : Int), ver, epo, method, host, path, ea, eb, kind, status, route, rule, service, endp, fin⟩ rfl (Hnews.out W2.drew) Hle.out (n + 1) Hq.out ?_; intro ao' c' w2 own2 gr2 new2; have Hend := Lib.hid (add_done (e := ⟨number, ver, epo, method, host, path, ea, eb, kind, status, route, rule, service, endp, fin⟩) Hn.out Hlog.out H2.out HL2.out own2 gr2 new2); have bl2 := grown_blk gr2 (alloc_blk HL2.out _) Hlog.out.ne; have bb2 := grown_blk gr2 (alloc_blk HB2.out _) Hne.out; have t2 := cell1 bl2; have tf2 := frozen_blk bl2 0; have t3 := (cells15 bb2).1; clear own2 gr2 new2 bl2 bb2)
  all_goals go_wp2
  all_goals go_ret2
  all_goals exact Hend.out

end Go.Proofs.YthpflfcgnaichaaDoor
