/-
The functions New and Dial of package net.
-/
import Derived.Test.YtibijonjjkknoaaNetOf
import Derived.Carry
set_option linter.unusedVariables false
set_option linter.unusedSimpArgs false
namespace Go.Proofs.Ytibijonjjkknoaa
open Go Go.RowKit

theorem info56 : (Try.prog.info? 56).map (fun i => (i.zero, i.size, i.bytes)) = some (some (.pointer none), 1, 8) := by kernel_rfl

def St.new : St := ⟨[], .map [], 0⟩

set_option maxHeartbeats 400000 in
theorem new_any (w : World) (B : Nat) (hB : B ≤ w.heap.size) :
    Calls Try.prog 8 #[] w fun e w' => ∃ n L, e = .returned (.pointer (some ⟨n, 0, none⟩)) ∧ NetIs B w' L n St.new ∧ Mod (fun _ => False) w w' ∧ (∀ x t, L x = some t → w.heap.size ≤ x) := by
  have hmm := @run_makeMap Try.prog
  go_enter Try.func8, Try.ntmps8
  go_wp2
  go_ret
  refine ⟨w.heap.size + 1, fun x => if x = w.heap.size then some (0, 12) else if x = w.heap.size + 1 then some (0, 10) else none, rfl, ⟨.slice none 0 0, w.heap.size, [], ?_⟩, ((Mod.refl _ w).alloc _).alloc _, ?_⟩
  · have hmap := (World.ownsMap_made w Try.prog 9 (plainElem (H := Unit) Try.prog 3))
    refine ⟨?_, by simp, World.ownsRow_nil _ _ _ _, (fun g h => by cases h), ?_, ⟨[], rfl⟩, by simp, rfl, (fun i b c h => by simp at h), ?_⟩
    · have := alloc_new (w := w.alloc (.map #[] 0)) (.cells #[.slice none 0 0, .map (some w.heap.size)] 55)
      simpa using this
    · exact hmap.alloc _
    · intro x t hx
      split at hx
      · simp; omega
      · split at hx
        · simp; omega
        · cases hx
  · intro x t hx
    dsimp only at hx
    split at hx
    · omega
    · split at hx
      · omega
      · cases hx

theorem Left.belowL {B : Nat} {w w' : World} {L L' : Lab} {n : Nat} {S S' : St} (h : LeftL B w L n S' w' L') (hN : NetIs B w L n S) (hB : B ≤ w.heap.size) : Below B w w' := by
  obtain ⟨cv, mb, bs, hN⟩ := hN
  refine h.2.2.below hB (fun k hk => ?_)
  cases hL : L k with
  | none => exact absurd hL hk
  | some t => exact (hN.labs k t hL).1

theorem Left.below {B : Nat} {w w' : World} {L : Lab} {n : Nat} {S S' : St} (h : Left B w L n S' w') (hN : NetIs B w L n S) (hB : B ≤ w.heap.size) : Below B w w' := by
  obtain ⟨L', h⟩ := h
  exact Left.belowL h hN hB

/-- A slice that is read stays what it is while nothing below its blocks' bound is written. -/
theorem RdB.below {B : Nat} {w w' : World} {ao : Option Addr} {c : Nat} {ps : List UInt8} (h : RdB w ao c ps) (hb : Below B w w') (hl : ∀ ad, ao = some ad → ps ≠ [] → ad.block < B) : RdB w' ao c ps := by
  refine ⟨h.isNil, fun ad had j u hu => ?_, h.le, h.cap⟩
  have hne : ps ≠ [] := by rintro rfl; simp [bytes] at hu
  have hblk : (ad.add j).block = ad.block := by unfold Addr.add; split <;> rfl
  exact (hb.cell (p := ad.add j) (by rw [hblk]; exact hl ad had hne)).trans (h.cells ad had j u hu)

theorem NetIs.drewN {B : Nat} {w : World} {L : Lab} {n : Nat} {S : St} (h : NetIs B w L n S) (k : Nat) : NetIs B (w.drewN k) L n S :=
  h.frame (F := fun _ => False) ((Mod.refl _ w).trans ⟨rfl, rfl, rfl, Nat.le_refl _, fun _ _ _ => rfl⟩) (fun _ _ _ => id)

def Cn.new (name : ByteArray) : Cn := ⟨name, true, false, Sd.zero, Sd.zero⟩

theorem law9 : Maps.Keyed Try.prog 9 := Maps.string_keyed Try.underlying9
theorem zero3 (w : World) : (zeroValue 3).run Try.prog w = .ok (.int .i64 0) w := by kernel_rfl

/-- The labels behind Dial. -/
def Lab.dial (L : Lab) (z k : Nat) (v : Value) : Lab := fun x => if x < z then L x else if x = z then some (k, 0) else if v.ownBlock = some x then some (0, 11) else none

set_option maxHeartbeats 1000000 in
theorem dial_ok {B : Nat} {w : World} {L : Lab} {n : Nat} {S : St} (h : NetIs B w L n S) (hB : B ≤ w.heap.size) (hs : S.cs.length < 4096) (name : ByteArray) (hname : name.size ≤ maxLen)
    (hz : ∀ c : Int, S.D.atKey (.string name.data.toList) (.lit (.int .i64 0)) = .lit (.int .i64 c) → c ≤ 0) :
    Calls Try.prog 9 #[.pointer (some ⟨n, 0, none⟩), .string name] w fun e w' =>
      e = .returned (.tuple #[.int .i64 S.cs.length, .int .i64 0]) ∧ Left B w L n { S with cs := S.cs ++ [Cn.new name] } w' := by
  obtain ⟨cv, mb, bs, h⟩ := h
  have Hh := Lib.hid h
  have e0 := cell_blk h.blk 0
  have e1 := cell_blk h.blk 1
  have f0 := frozen_blk h.blk 0
  have hl := h.len
  obtain ⟨ao0, c0, hcv⟩ : ∃ ao c, cv = .slice ao bs.length c := by
    rcases row_form h.row with ⟨h1, h2, _⟩ | ⟨g, cap, h1, _⟩
    · exact ⟨none, 0, by rw [h1, h2]⟩
    · exact ⟨_, _, h1⟩
  simp at e0 e1
  rw [hcv] at e0
  have Hcv := Lib.hid hcv
  have Hl := Lib.hid hl
  have hlt : bs.length < 4096 := by omega
  have hne : ((bs.length : Int) == 4096) = false := by simp; omega
  have Hz := Lib.hid hz
  have hkey : keyOf Try.prog 9 (.string name) = some (.string name.data.toList) := Go.WideMaps.keyOf_string_mk Try.underlying9 hname
  have Hkey := Lib.hid hkey
  have Hmap := Lib.hid h.map
  clear h hl hcv hz hkey
  go_enter Try.func9, Try.ntmps9
  go_wp2_with (first | (at_lookup; refine wpList_lookup_own_int _ rfl _ _ 52 rfl 9 3 .i64 law9 Try.underlying52 Try.underlying3 (zero3 _) mb S.m S.D rfl Hmap.out _ _ rfl Hkey.out ?_; intro c hat hwc; have hc0 := Hz.out c hat; have Hat := Lib.hid hat; clear hat hwc) | (at_builtin; go_loud (refine wpList_append_q rfl _ _ 53 rfl 56 (.pointer none) 1 8 Try.underlying53 info56 rfl (by decide) (.slice ao0 bs.length c0) bs.length (ptrs bs) rfl ?_ (some ⟨w.heap.size + 1, 0, none⟩) 1 1 [.pointer (some ⟨w.heap.size, 0, none⟩)] rfl rfl ?_ ?_ ?_ ?_ ?_ (bs.length + 1) rfl ?_)))
  case refine_1 => exact ownsRow_frame (by rw [← Hcv.out]; exact Hh.out.row) (fun g hg => by
      have hlt := (Hh.out.row.lt g (by rw [Hcv.out]; exact hg)).2
      rw [alloc_old _ (by simp; omega), alloc_old _ hlt])
  case refine_2 => intro h; cases h
  case refine_3 =>
    intro ad had j u hu
    obtain rfl := Option.some.inj had
    rcases j with _ | j
    · simp at hu; subst hu
      have := alloc_new (w := w.alloc (.cells #[.string name, .bool true, .bool false, .slice none 0 0, .slice none 0 0, .bool false, .bool false, .slice none 0 0, .slice none 0 0, .bool false, .bool false] 61)) (.cells #[.pointer (some ⟨w.heap.size, 0, none⟩)] 56)
      have t2 := cell_blk this 0
      rw [World.size_alloc] at t2
      exact t2
    · simp at hu
  case refine_4 => intro u hu; simp at hu; subst hu; rfl
  case refine_5 => unfold maxLen; omega
  case refine_6 => omega
  intro ao' c' w2 own2 gr2 new2
  have hnb : n < w.heap.size := lt_of_heap Hh.out.blk
  rw [← Hcv.out] at gr2 new2
  have hnr : some n ≠ cv.ownBlock := by
    intro e
    have := Hh.out.rlab n e.symm
    rw [Hh.out.lab] at this; cases this
  have blk2 := ((gr2.block n (by simp; omega) hnr).trans ((alloc_old _ (by simp; omega)).trans (alloc_old _ hnb))).trans Hh.out.blk
  have blkb := ((gr2.block w.heap.size (by simp only [World.size_alloc]; omega) (by
    intro e
    have := (Hh.out.row.lt w.heap.size e.symm).2
    omega)).trans (alloc_old _ (by simp only [World.size_alloc]; omega))).trans (alloc_new _)
  have e2 := cell_blk blk2 0
  have f2 := frozen_blk blk2 0
  simp at e2
  have Own2 := Lib.hid own2
  have Gr2 := Lib.hid gr2
  have New2 := Lib.hid new2
  have Blk2 := Lib.hid blk2
  have Blkb := Lib.hid blkb
  clear own2 gr2 new2 blk2 blkb hnr
  go_wp2
  go_ret2
  refine ⟨by rw [← Hl.out]; first | rfl | (congr; omega) | (simp; done), ?_⟩
  have h := Hh.out
  have hnl : S.cs.length = bs.length := Hl.out.symm
  have new2 := New2.out
  have own2 := Own2.out
  have hz2 : w.heap.size + 2 ≤ w2.heap.size := by have := Gr2.out.size; simp at this; omega
  have hd : ∀ x, x < w.heap.size → L.dial w.heap.size S.cs.length (.slice ao' (bs.length + 1) c') x = L x := fun x hx => by simp [Lab.dial, hx]
  have hm : Mod (fun x => x = n ∨ cv.ownBlock = some x) w (w2.setCell ⟨n, 0, none⟩ (.slice ao' (bs.length + 1) c')) :=
    ((((Mod.refl _ w).alloc _).alloc _).grown Gr2.out (fun k hk _ => .inr hk)).setCell _ _ (fun _ => .inl rfl)
  have q : ∀ x t, L x = some t → x ≠ n → cv.ownBlock ≠ some x → (w2.setCell ⟨n, 0, none⟩ (.slice ao' (bs.length + 1) c')).heap[x]? = w.heap[x]? := fun x t hx h1 h2 =>
    hm.block x (h.labs x t hx).2 (by rintro (e | e); exact h1 e; exact h2 e)
  have nn : ∀ x t, L x = some t → t ≠ (0, 10) → x ≠ n := fun x t hx ht e => by subst e; rw [h.lab] at hx; exact ht (Option.some.inj hx).symm
  have nr : ∀ x t, L x = some t → t ≠ (0, 11) → cv.ownBlock ≠ some x := fun x t hx ht e => by have := h.rlab x e; rw [hx] at this; exact ht (Option.some.inj this)
  refine ⟨L.dial w.heap.size S.cs.length (.slice ao' (bs.length + 1) c'), ⟨.slice ao' (bs.length + 1) c', mb, bs ++ [w.heap.size], ?_, ?_, ?_, ?_, ?_, h.isMap, ?_, ?_, ?_, ?_⟩, fun x hx => .inl (hd x hx), hm.mono (fun x _ hx => ?_)⟩
  · have := set_blk Blk2.out 0 (.slice ao' (bs.length + 1) c')
    simpa using this
  · rw [hd n hnb]; exact h.lab
  · have : w2.ownsRow 0 56 1 (.slice ao' (bs.length + 1) c') (bs ++ [w.heap.size]).length (ptrs (bs ++ [w.heap.size])) := by
      simpa [ptrs] using own2
    exact ownsRow_frame this (fun g hg => set_other _ _ (by
      intro e
      simp only at e
      subst e
      rcases new2 g hg with e | e
      · have := h.rlab g e; rw [h.lab] at this; cases this
      · omega))
  · intro g hg
    have hg2 := (own2.lt g hg).2
    rcases new2 g hg with e | e
    · rw [hd g (h.row.lt g e).2]; exact h.rlab g e
    · unfold Lab.dial; rw [if_neg (by omega), if_neg (by omega), if_pos hg]
  · exact ownsMap_frame h.map (q mb _ h.mlab (nn mb _ h.mlab (by decide)) (nr mb _ h.mlab (by decide)))
  · rw [hd mb (h.labs mb _ h.mlab).2]; exact h.mlab
  · simp [hnl]
  · intro i b c hb hc
    rcases Nat.lt_or_ge i bs.length with hi | hi
    · rw [List.getElem?_append_left hi] at hb
      rw [List.getElem?_append_left (by omega)] at hc
      exact (h.conns i b c hb hc).frame fun g k hk hg hgs =>
        ⟨q g _ hg (nn g _ hg (by intro e; simp only [Prod.mk.injEq] at e; omega)) (nr g _ hg (by intro e; simp only [Prod.mk.injEq] at e; omega)), hd g hgs⟩
    · have hi2 : i = bs.length := by
        have := (List.getElem?_eq_some_iff.1 hb).1
        simp at this; omega
      subst hi2
      simp at hb
      rw [List.getElem?_append_right (by omega)] at hc
      simp [hnl] at hc
      subst hb; subst hc
      refine ⟨.slice none 0 0, .slice none 0 0, .slice none 0 0, .slice none 0 0, ?_, ?_, ⟨RowAt.nil _ _ _, RowAt.nil _ _ _, RowAt.nil _ _ _, RowAt.nil _ _ _⟩⟩
      · rw [set_other _ _ (by simp only; omega)]
        exact Blkb.out
      · unfold Lab.dial; rw [if_neg (by omega), if_pos rfl, hnl]
  · intro x t hx
    refine ⟨?_, ?_⟩
    · unfold Lab.dial at hx
      split at hx
      · exact (h.labs x t hx).1
      · omega
    · unfold Lab.dial at hx
      simp only [World.size_setCell]
      split at hx
      · omega
      · split at hx
        · omega
        · split at hx
          · rename_i e; exact (own2.lt x e).2
          · cases hx
  · rcases hx with e | e
    · rw [e, h.lab]; simp
    · rw [h.rlab x e]; simp

end Go.Proofs.Ytibijonjjkknoaa
