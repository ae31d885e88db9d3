/-
The program's Refuse, Dial where it is refused or full, and Accept.
-/
import Derived.Test.YtibijonjjkknoaaNetRefD
set_option linter.unusedVariables false
set_option linter.unusedSimpArgs false
namespace Go.Proofs.Ytibijonjjkknoaa
open Go Go.RowKit

section
variable {B : Nat} {w : World} {L : Lab} {n : Nat} {S : St}

/-- The map is turned. -/
theorem NetAt.mapped {cv : Value} {mb : Nat} {bs : List Nat} (h : NetAt B w L n S cv mb bs) {w' : World} {D' : MapD} {m' : Nat} (hmap : w'.ownsMap Try.prog 9 (plainElem Try.prog 3) mb m' D') (hIs : Maps.IsMap D') (hg : w.grownBy w' (some mb)) : LeftL B w L n { S with D := D', m := m' } w' L := by
  have q : ∀ x t, L x = some t → t ≠ (0, 12) → w'.heap[x]? = w.heap[x]? := fun x t hx ht => hg.block x (h.labs x t hx).2 (fun e => by
    obtain rfl := Option.some.inj e
    rw [h.mlab] at hx
    exact ht (Option.some.inj hx).symm)
  refine ⟨⟨cv, mb, bs, (q n _ h.lab (by decide)).trans h.blk, h.lab, ownsRow_frame h.row fun g hg => q g _ (h.rlab g hg) (by decide), h.rlab, hmap, hIs, h.mlab, h.len,
    fun i b c hb hc => (h.conns i b c hb hc).frame fun g k hk hg _ => ⟨q g _ hg (by intro e; simp only [Prod.mk.injEq] at e; omega), rfl⟩, fun x t hx => ⟨(h.labs x t hx).1, Nat.lt_of_lt_of_le (h.labs x t hx).2 hg.size⟩⟩, fun _ _ => .inl rfl, ?_⟩
  exact (Mod.refl _ w).grown hg (fun k hk _ => by
    obtain rfl := Option.some.inj hk
    rw [h.mlab]
    simp)

theorem prefuse_nil (w : World) (name : ByteArray) (t : Int) : Calls Try.prog 22 #[.pointer none, .string name, .int .i64 t] w fun e w' => e = .returned (.int .i64 1) ∧ w' = w := by
  go_enter Try.func22, Try.ntmps22
  go_wp2
  go_ret
  exact ⟨rfl, rfl⟩

theorem prefuse_arg (w : World) (n : Nat) (name : ByteArray) (t : Int) (ht : t < 0) : Calls Try.prog 22 #[.pointer (some ⟨n, 0, none⟩), .string name, .int .i64 t] w fun e w' => e = .returned (.int .i64 2) ∧ w' = w := by
  go_enter Try.func22, Try.ntmps22
  go_wp2
  go_ret
  exact ⟨rfl, rfl⟩

set_option maxHeartbeats 1000000 in
theorem prefuse_ok (h : NetIs B w L n S) (name : ByteArray) (hname : name.size ≤ maxLen) (t : Int) (ht : 0 ≤ t) (ht2 : t ≤ 9223372036854775807) (hm : S.m < maxLen) :
    Calls Try.prog 22 #[.pointer (some ⟨n, 0, none⟩), .string name, .int .i64 t] w fun e w' => e = .returned (.int .i64 0) ∧ LeftL B w L n { S with D := S.D.put (.string name.data.toList) (.lit (.int .i64 t)), m := S.m + 1 } w' L := by
  obtain ⟨cv, mb, bs, h⟩ := h
  have Hh := Lib.hid h
  have e1 := cell_blk h.blk 1
  simp at e1
  have hkey : keyOf Try.prog 9 (.string name) = some (.string name.data.toList) := Go.WideMaps.keyOf_string_mk Try.underlying9 hname
  have Hkey := Lib.hid hkey
  have Hmap := Lib.hid h.map
  have Hm := Lib.hid hm
  have Hval := Lib.hid (show plainElem (H := Unit) Try.prog 3 (.int .i64 t) = some (.lit (.int .i64 t), []) from plainElem_int Try.underlying3 (by simp [Lit.wf, IntKind.min, IntKind.max, IntKind.signed, IntKind.bits]; omega))
  have Hput := Lib.hid (h.isMap.put (.string name.data.toList) (.lit (.int .i64 t)))
  clear h hkey hm
  go_enter Try.func22, Try.ntmps22
  go_wp2_with (first | (at_mapUpdate; refine wpList_mapUpdate_own _ rfl _ _ _ 52 rfl 9 3 law9 Try.underlying52 _ mb S.m S.D rfl Hmap.out Hm.out _ _ (.string name.data.toList) rfl rfl Hkey.out (.lit (.int .i64 t)) [] Hval.out ?_; intro w2 hown2 hgr2; have Hend := Lib.hid (Hh.out.mapped hown2 Hput.out hgr2); clear hown2 hgr2))
  go_ret
  exact ⟨rfl, Hend.out⟩

theorem pdial_nil (w : World) (name : ByteArray) : Calls Try.prog 9 #[.pointer none, .string name] w fun e w' => e = .returned (.tuple #[.int .i64 (-1), .int .i64 1]) ∧ w' = w := by
  go_enter Try.func9, Try.ntmps9
  go_wp2
  go_ret2
  exact ⟨rfl, rfl⟩

theorem pdial_full (h : NetIs B w L n S) (hfull : S.cs.length = 4096) (name : ByteArray) : Calls Try.prog 9 #[.pointer (some ⟨n, 0, none⟩), .string name] w fun e w' => e = .returned (.tuple #[.int .i64 (-1), .int .i64 3]) ∧ w' = w := by
  obtain ⟨cv, mb, bs, h⟩ := h
  obtain ⟨ac, cc, hcv⟩ := row_slice h.row
  have e0 := cell_blk h.blk 0
  simp [hcv] at e0
  have b0 : ((bs.length : Int) == 4096) = true := by have := h.len; simp; omega
  clear h hcv hfull
  go_enter Try.func9, Try.ntmps9
  go_wp2
  go_ret2
  exact ⟨rfl, rfl⟩

set_option maxHeartbeats 1000000 in
theorem pdial_refused (h : NetIs B w L n S) (hs : S.cs.length < 4096) (name : ByteArray) (hname : name.size ≤ maxLen) (t0 : Int) (hz : S.D.atKey (.string name.data.toList) (.lit (.int .i64 0)) = .lit (.int .i64 t0)) (hpos : 0 < t0) (ht2 : t0 ≤ 9223372036854775807) (hm : S.m < maxLen) :
    Calls Try.prog 9 #[.pointer (some ⟨n, 0, none⟩), .string name] w fun e w' => e = .returned (.tuple #[.int .i64 (-1), .int .i64 41]) ∧ LeftL B w L n { S with D := S.D.put (.string name.data.toList) (.lit (.int .i64 (t0 - 1))), m := S.m + 1 } w' L := by
  obtain ⟨cv, mb, bs, h⟩ := h
  have Hh := Lib.hid h
  have e1 := cell_blk h.blk 1
  simp at e1
  obtain ⟨ac, cc, hcv⟩ := row_slice h.row
  have e0 := cell_blk h.blk 0
  simp [hcv] at e0
  have b0 : ((bs.length : Int) == 4096) = false := by have := h.len; simp; omega
  have hkey : keyOf Try.prog 9 (.string name) = some (.string name.data.toList) := Go.WideMaps.keyOf_string_mk Try.underlying9 hname
  have Hkey := Lib.hid hkey
  have Hmap := Lib.hid h.map
  have Hm := Lib.hid hm
  have Hz := Lib.hid (show ∀ c : Int, S.D.atKey (.string name.data.toList) (.lit (.int .i64 0)) = .lit (.int .i64 c) → c = t0 from fun c hc => by
    rw [hz] at hc
    simp only [DataW.lit.injEq, Lit.int.injEq] at hc
    exact hc.2.symm)
  have w1 : wrap64 (t0 - 1) = t0 - 1 := by unfold wrap64; omega
  have Hval := Lib.hid (show plainElem (H := Unit) Try.prog 3 (.int .i64 (t0 - 1)) = some (.lit (.int .i64 (t0 - 1)), []) from plainElem_int Try.underlying3 (by simp [Lit.wf, IntKind.min, IntKind.max, IntKind.signed, IntKind.bits]; omega))
  have Hput := Lib.hid (h.isMap.put (.string name.data.toList) (.lit (.int .i64 (t0 - 1))))
  clear h hkey hm hcv hz
  go_enter Try.func9, Try.ntmps9
  go_wp2_with (first | (at_lookup; refine wpList_lookup_own_int _ rfl _ _ 52 rfl 9 3 .i64 law9 Try.underlying52 Try.underlying3 (zero3 _) mb S.m S.D rfl Hmap.out _ _ rfl Hkey.out ?_; intro c hat hwc; have hcz := (Hz.out c hat).symm; subst hcz; clear hat hwc) | (at_mapUpdate; refine wpList_mapUpdate_own _ rfl _ _ _ 52 rfl 9 3 law9 Try.underlying52 _ mb S.m S.D rfl Hmap.out Hm.out _ _ (.string name.data.toList) rfl rfl Hkey.out (.lit (.int .i64 (t0 - 1))) [] Hval.out ?_; intro w2 hown2 hgr2; have Hend := Lib.hid (Hh.out.mapped hown2 Hput.out hgr2); clear hown2 hgr2))
  go_ret2
  exact ⟨rfl, Hend.out⟩

def Cn.waits (c : Cn) (name : ByteArray) : Prop := c.waiting = true ∧ c.cut = false ∧ c.name = name

theorem NetAt.at {cv : Value} {mb : Nat} {bs : List Nat} (h : NetAt B w L n S cv mb bs) {ac : Option Addr} {nb cc : Nat} (hn : nb = bs.length) (hcv : cv = .slice ac nb cc) {k : Nat} (hk : k < nb) :
    ∃ c b g, S.cs[k]? = some c ∧ bs[k]? = some b ∧ ac = some ⟨g, 0, none⟩ ∧ w.cell? ⟨g, k, none⟩ = some (.pointer (some ⟨b, 0, none⟩)) ∧ ∃ u0 t0 u1 t1, ConnAt w L k b c u0 t0 u1 t1 := by
  obtain ⟨c, hc⟩ : ∃ c, S.cs[k]? = some c := ⟨_, List.getElem?_eq_getElem (by have := h.len; omega)⟩
  obtain ⟨b, hb⟩ : ∃ b, bs[k]? = some b := ⟨_, List.getElem?_eq_getElem (by omega)⟩
  have hr := h.row
  rw [hcv, ← hn] at hr
  obtain ⟨g, c2, e⟩ := row_at0 hr (by omega)
  simp only [Value.slice.injEq, true_and] at e
  obtain ⟨rfl, rfl⟩ := e
  exact ⟨c, b, g, hc, hb, rfl, row_cell1 hr (by unfold ptrs; rw [List.getElem?_map, hb]; rfl), h.conns k b c hb hc⟩

theorem paccept_nil (w : World) (name : ByteArray) : Calls Try.prog 25 #[.pointer none, .string name] w fun e w' => e = .returned (.tuple #[.int .i64 0, .bool false]) ∧ w' = w := by
  go_enter Try.func25, Try.ntmps25
  go_wp2
  go_ret2
  exact ⟨rfl, rfl⟩

set_option maxRecDepth 20000 in
set_option maxHeartbeats 4000000 in
theorem paccept_none (h : NetIs B w L n S) (name : ByteArray) (hno : ∀ (j : Nat) c, S.cs[j]? = some c → ¬ c.waits name) (hsm : S.cs.length ≤ 1099511627776) :
    Calls Try.prog 25 #[.pointer (some ⟨n, 0, none⟩), .string name] w fun e w' => e = .returned (.tuple #[.int .i64 0, .bool false]) ∧ w' = w := by
  obtain ⟨cv, mb, bs, h⟩ := h
  obtain ⟨ac, cc, hcv⟩ := row_slice h.row
  obtain ⟨nb, hn⟩ : ∃ nb, nb = bs.length := ⟨_, rfl⟩
  rw [← hn] at hcv
  have y0 : w.cell? ⟨n, 0, none⟩ = some (.slice ac nb cc) := by rw [cell_blk h.blk, hcv]; rfl
  have Hn := Lib.hid (fun k (hk : k < nb) => h.at hn hcv hk)
  have Hno := Lib.hid hno
  have Hk := Lib.hid (show nb ≤ 1099511627776 by have := h.len; omega)
  clear h hcv hn hno hsm
  go_enter Try.func25, Try.ntmps25
  go_wp2
  go_loop [15] (fun i => ∃ k : Nat, i = .int .i64 (k : Int) ∧ Hid (k ≤ nb)) (fun i => nb - (intOf i).toNat)
  case atStart => exact ⟨0, rfl, Lib.hid (Nat.zero_le _)⟩
  case round =>
    obtain ⟨k, rfl, H⟩ := hrel
    by_cases hk : k < nb
    · have b1 : (k : Int) < (nb : Int) := by omega
      obtain ⟨c, b, g, hc, hb, rfl, y1, u0, t0, u1, t1, q⟩ := Hn.out k hk
      have hw := Hno.out k c hc
      have t0 : w.cell? ⟨b, 0, none⟩ = some (.string c.name) := by rw [cell_blk q.blk]; rfl
      have t1 : w.cell? ⟨b, 1, none⟩ = some (.bool c.waiting) := by rw [cell_blk q.blk]; rfl
      have t2 : w.cell? ⟨b, 2, none⟩ = some (.bool c.cut) := by rw [cell_blk q.blk]; rfl
      have wk := wrap_k (show k ≤ 1099511627776 by have h1 := Hk.out; omega)
      have Hgo := Lib.hid (show Value.int .i64 (wrap64 ((k : Int) + 1)) = .int .i64 ((k + 1 : Nat) : Int) by rw [wk]; rfl)
      have Hle := Lib.hid (show k + 1 ≤ nb by have h2 := H.out; omega)
      have Hm := Lib.hid (show nb - (intOf (.int .i64 (wrap64 ((k : Int) + 1)))).toNat < nb - (intOf (.int .i64 (k : Int))).toNat by rw [wk]; show nb - ((k : Int) + 1).toNat < nb - (k : Int).toNat; have h2 := H.out; omega)
      clear hk wk Hn Hno q hb hc
      by_cases hnm : c.name = name
      · rw [hnm] at t0
        have b2 : (name.toList == name.toList) = true := beq_self_eq_true _
        cases h1 : c.waiting with
        | false =>
          rw [h1] at t1
          go_wp2
          go_round
          case rel => exact ⟨k + 1, Hgo.out, Hle⟩
          case measure => exact Hm.out
        | true =>
          rw [h1] at t1
          cases h2 : c.cut with
          | true =>
            rw [h2] at t2
            go_wp2
            go_round
            case rel => exact ⟨k + 1, Hgo.out, Hle⟩
            case measure => exact Hm.out
          | false => exact absurd ⟨h1, h2, hnm⟩ hw
      · have b2 := str_ne hnm
        go_wp2
        go_round
        case rel => exact ⟨k + 1, Hgo.out, Hle⟩
        case measure => exact Hm.out
    · have b1 : (nb : Int) ≤ (k : Int) := by omega
      clear Hn Hno H hk
      go_wp2
      go_ret2
      exact ⟨rfl, rfl⟩

set_option maxRecDepth 20000 in
set_option maxHeartbeats 4000000 in
theorem paccept_hit (h : NetIs B w L n S) (hBs : B ≤ w.heap.size) (name : ByteArray) {k0 : Nat} {c0 : Cn} (hc0 : S.cs[k0]? = some c0) (hw0 : c0.waits name) (hno : ∀ j, j < k0 → ∀ c, S.cs[j]? = some c → ¬ c.waits name) (hsm : S.cs.length ≤ 1099511627776) :
    Calls Try.prog 25 #[.pointer (some ⟨n, 0, none⟩), .string name] w fun e w' => e = .returned (.tuple #[.int .i64 (k0 : Int), .bool true]) ∧ LeftL B w L n { S with cs := S.cs.set k0 { c0 with waiting := false } } w' L := by
  obtain ⟨cv, mb, bs, h⟩ := h
  obtain ⟨ac, cc, hcv⟩ := row_slice h.row
  obtain ⟨nb, hn⟩ : ∃ nb, nb = bs.length := ⟨_, rfl⟩
  rw [← hn] at hcv
  have hk0 := (List.getElem?_eq_some_iff.1 hc0).1
  have y0 : w.cell? ⟨n, 0, none⟩ = some (.slice ac nb cc) := by rw [cell_blk h.blk, hcv]; rfl
  have Hn := Lib.hid (fun k (hk : k < nb) => h.at hn hcv hk)
  have Hno := Lib.hid hno
  have Hk := Lib.hid (show nb ≤ 1099511627776 ∧ k0 < nb by have := h.len; omega)
  have Hc0 := Lib.hid hc0
  have Hw0 := Lib.hid hw0
  have Hfin := Lib.hid (show ∀ b u0 t0 u1 t1, bs[k0]? = some b → ConnAt w L k0 b c0 u0 t0 u1 t1 → LeftL B w L n { S with cs := S.cs.set k0 { c0 with waiting := false } } (w.setCell ⟨b, 1, none⟩ (.bool false)) L from fun b u0 t0 u1 t1 hb q => by
    have hm : Mod (fun x => L x = some (k0, 0)) w (w.setCell ⟨b, 1, none⟩ (.bool false)) := (Mod.refl _ w).setCell _ _ (fun _ => q.lab)
    refine h.setConn hb _ (fun x _ => .inl rfl) hBs (fun x t hx => Nat.lt_of_lt_of_le (h.labs x t hx).2 hm.size) (hm.mono fun x _ hx => ⟨0, by omega, hx⟩) ⟨u0, t0, u1, t1, ?_, q.lab, ?_⟩
    · rw [set_blk q.blk 1 (.bool false)]; rfl
    · exact ⟨q.rows.u0.kept (fun _ _ => rfl) hm (by intro x hx hF; rw [hx] at hF; simp at hF), q.rows.t0.kept (fun _ _ => rfl) hm (by intro x hx hF; rw [hx] at hF; simp at hF), q.rows.u1.kept (fun _ _ => rfl) hm (by intro x hx hF; rw [hx] at hF; simp at hF), q.rows.t1.kept (fun _ _ => rfl) hm (by intro x hx hF; rw [hx] at hF; simp at hF)⟩)
  clear h hcv hn hno hsm hc0 hw0 hk0
  go_enter Try.func25, Try.ntmps25
  go_wp2
  go_loop [15] (fun i => ∃ k : Nat, i = .int .i64 (k : Int) ∧ Hid (k ≤ k0)) (fun i => k0 - (intOf i).toNat)
  case atStart => exact ⟨0, rfl, Lib.hid (Nat.zero_le _)⟩
  case round =>
    obtain ⟨k, rfl, H⟩ := hrel
    have b1 : (k : Int) < (nb : Int) := by have h1 := H.out; have h2 := Hk.out; omega
    obtain ⟨c, b, g, hc, hb, rfl, y1, u0, v0, u1, v1, q⟩ := Hn.out k (by omega)
    have t0 : w.cell? ⟨b, 0, none⟩ = some (.string c.name) := by rw [cell_blk q.blk]; rfl
    have t1 : w.cell? ⟨b, 1, none⟩ = some (.bool c.waiting) := by rw [cell_blk q.blk]; rfl
    have t2 : w.cell? ⟨b, 2, none⟩ = some (.bool c.cut) := by rw [cell_blk q.blk]; rfl
    by_cases hk : k = k0
    · subst hk
      obtain rfl : c0 = c := Option.some.inj (Hc0.out.symm.trans hc)
      obtain ⟨h1, h2, h3⟩ := Hw0.out
      rw [h1] at t1
      rw [h2] at t2
      rw [h3] at t0
      have b2 : (name.toList == name.toList) = true := beq_self_eq_true _
      have f1 := frozen_blk q.blk 1
      have Hend := Lib.hid (Hfin.out b u0 v0 u1 v1 hb q)
      clear hc hb q Hfin Hn Hno h1 h2 h3
      go_wp2
      go_ret2
      exact ⟨rfl, Hend.out⟩
    · have hw := Hno.out k (by have := H.out; omega) c hc
      have wk := wrap_k (show k ≤ 1099511627776 by have h1 := Hk.out; omega)
      have Hgo := Lib.hid (show Value.int .i64 (wrap64 ((k : Int) + 1)) = .int .i64 ((k + 1 : Nat) : Int) by rw [wk]; rfl)
      have Hle := Lib.hid (show k + 1 ≤ k0 by have h2 := H.out; omega)
      have Hm := Lib.hid (show k0 - (intOf (.int .i64 (wrap64 ((k : Int) + 1)))).toNat < k0 - (intOf (.int .i64 (k : Int))).toNat by rw [wk]; show k0 - ((k : Int) + 1).toNat < k0 - (k : Int).toNat; have h2 := H.out; omega)
      clear hk wk Hn Hno q hb hc Hfin
      by_cases hnm : c.name = name
      · rw [hnm] at t0
        have b2 : (name.toList == name.toList) = true := beq_self_eq_true _
        cases h1 : c.waiting with
        | false =>
          rw [h1] at t1
          go_wp2
          go_round
          case rel => exact ⟨k + 1, Hgo.out, Hle⟩
          case measure => exact Hm.out
        | true =>
          rw [h1] at t1
          cases h2 : c.cut with
          | true =>
            rw [h2] at t2
            go_wp2
            go_round
            case rel => exact ⟨k + 1, Hgo.out, Hle⟩
            case measure => exact Hm.out
          | false => exact absurd ⟨h1, h2, hnm⟩ hw
      · have b2 := str_ne hnm
        go_wp2
        go_round
        case rel => exact ⟨k + 1, Hgo.out, Hle⟩
        case measure => exact Hm.out

end

end Go.Proofs.Ytibijonjjkknoaa
