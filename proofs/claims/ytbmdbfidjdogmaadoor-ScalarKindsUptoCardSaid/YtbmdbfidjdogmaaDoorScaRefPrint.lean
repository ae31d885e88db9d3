/-
The walks of the reference's Print, and of own.
-/
import Derived.Test.YtbmdbfidjdogmaaDoorScaRefReal
set_option linter.unusedVariables false
set_option linter.unusedSimpArgs false
namespace Go.Proofs.YtbmdbfidjdogmaaDoor
open Go Go.RowKit

set_option maxHeartbeats 1000000 in
theorem own_walk (w : World) (v : Val) :
    Calls Tryd.prog 17 #[v.v] w fun e w' => e = .returned v.v ∧ Below w.heap.size w w' := by
  obtain ⟨kd, b, i, x, t⟩ := v
  unfold Val.v valV
  dsimp only
  have hst := @store_float
  go_enter Tryd.func17, Tryd.ntmps17
  go_wp2
  refine bodyPost_ret (v := .agg #[.int .i64 kd, .bool b, .int .i64 i, .float .f64 x, .string t]) (by simp [results, Tryd.results17, go_sem]) rfl ⟨rfl, ?_⟩
  exact two_new _ _ _

set_option maxHeartbeats 4000000 in
set_option maxRecDepth 20000 in
theorem refPrint_walk (w : World) (v : Val) (hv : v.Ok) (hl : RangeLaid w) :
    Calls Tryd.prog 18 #[v.v] w fun e w' => PrintPost v w e w' := by
  obtain ⟨kd, b, i, x, t⟩ := v
  obtain ⟨i1, i2, hr, ht⟩ := hv
  have hres : ∀ (s : ByteArray) q er w', Below w.heap.size w w' → PrintS ⟨kd, b, i, x, t⟩ s.data.toList q er → PrintPost ⟨kd, b, i, x, t⟩ w (.returned (.tuple #[.string s, .bool q, .int .i64 er])) w' := fun s q er w' h1 h2 => ⟨s, q, er, rfl, h1, h2⟩
  have Hres := Lib.hid hres
  clear hres
  unfold Val.v valV
  dsimp only at i1 i2 hr ht ⊢
  have hB1 := (Below.refl w.heap.size w).alloc (Nat.le_refl _) (.cells #[.int .i64 kd, .bool b, .int .i64 i, .float .f64 x, .string t] 27)
  have HB1 := Lib.hid hB1
  clear hB1
  have Hl := Lib.hid (rangeLaid_alloc hl (.cells #[.int .i64 kd, .bool b, .int .i64 i, .float .f64 x, .string t] 27))
  clear hl
  by_cases k1 : kd = 1
  · subst k1
    go_enter Tryd.func18, Tryd.ntmps18
    go_wp2
    go_ret3
    exact Hres.out _ _ _ _ HB1.out (.inl ⟨rfl, rfl, rfl, rfl⟩)
  by_cases k2 : kd = 2
  · subst k2
    clear k1
    cases b with
    | true =>
      go_enter Tryd.func18, Tryd.ntmps18
      go_wp2
      go_ret3
      exact Hres.out _ _ _ _ HB1.out (.inr (.inl ⟨rfl, rfl, rfl, rfl⟩))
    | false =>
      go_enter Tryd.func18, Tryd.ntmps18
      go_wp2
      go_ret3
      exact Hres.out _ _ _ _ HB1.out (.inr (.inl ⟨rfl, rfl, rfl, rfl⟩))
  by_cases k3 : kd = 3
  · subst k3
    clear k1 k2
    by_cases hneg : i < 0
    · obtain ⟨n, hn⟩ : ∃ n : Nat, n = i.natAbs := ⟨_, rfl⟩
      have hni : (n : Int) = -(i + 1) + 1 := by omega
      have Hf := Lib.hid (fun w => told_walk n (by omega) w)
      rw [hni] at Hf
      obtain ⟨ds, hds⟩ : ∃ ds : ByteArray, ds = ⟨(Lib.decDigits n).toArray⟩ := ⟨_, rfl⟩
      rw [← hds] at Hf
      have hit : Lib.itoa i = 45 :: Lib.decDigits n := by unfold Lib.itoa; rw [if_pos hneg, hn]
      have hfin : (⟨#[45]⟩ ++ ds : ByteArray).data.toList = Lib.itoa i := by rw [cat_list, hds, hit]; rfl
      have hc := cat_ok (a := ⟨#[45]⟩) (b := ds) (by decide) (by rw [← size_list, hds]; show (Lib.decDigits n).length ≤ 1000; rw [Lib.decDigits_length]; have := nDigits_le 19 n (by omega); omega)
      have Hfin := Lib.hid hfin
      clear hn hni hds hit hfin
      go_enter Tryd.func18, Tryd.ntmps18
      go_wp2_with fail
      (with_reducible refine (Hf.out _).mono ?_)
      rintro e w1 ⟨rfl, hb2⟩
      have HB2 := Lib.hid hb2
      clear Hf hb2
      go_wp2
      go_ret3
      exact Hres.out _ _ _ _ (HB1.out.trans (HB2.out.mono HB1.out.size)) (.inr (.inr (.inl ⟨rfl, Hfin.out, rfl, rfl⟩)))
    · obtain ⟨n, rfl⟩ : ∃ n : Nat, i = (n : Int) := ⟨i.toNat, by omega⟩
      have Hf := Lib.hid (fun w => told_walk n (by omega) w)
      obtain ⟨ds, hds⟩ : ∃ ds : ByteArray, ds = ⟨(Lib.decDigits n).toArray⟩ := ⟨_, rfl⟩
      rw [← hds] at Hf
      have hit : Lib.itoa (n : Int) = Lib.decDigits n := by unfold Lib.itoa; rw [if_neg hneg]; rfl
      have hfin : ds.data.toList = Lib.itoa (n : Int) := by rw [hds, hit]
      have Hfin := Lib.hid hfin
      clear hds hit hfin
      go_enter Tryd.func18, Tryd.ntmps18
      go_wp2_with fail
      (with_reducible refine (Hf.out _).mono ?_)
      rintro e w1 ⟨rfl, hb2⟩
      have HB2 := Lib.hid hb2
      clear Hf hb2
      go_wp2
      go_ret3
      exact Hres.out _ _ _ _ (HB1.out.trans (HB2.out.mono HB1.out.size)) (.inr (.inr (.inl ⟨rfl, Hfin.out, rfl, rfl⟩)))
  by_cases k4 : kd = 4
  · subst k4
    clear k1 k2 k3
    have Hf := Lib.hid (fun w => refReal_walk w x hr)
    go_enter Tryd.func18, Tryd.ntmps18
    go_wp2_with fail
    refine (Hf.out _).mono ?_
    rintro e w1 ⟨s, er, rfl, hb2, hs⟩
    have HB2 := Lib.hid hb2
    have Hs := Lib.hid hs
    clear Hf hs hb2
    go_wp2
    go_ret3
    exact Hres.out _ _ _ _ (HB1.out.trans (HB2.out.mono HB1.out.size)) (.inr (.inr (.inr (.inl ⟨rfl, Hs.out, rfl⟩))))
  by_cases k5 : kd = 5
  · subst k5
    clear k1 k2 k3 k4
    have hf := fun w1 => refRead_walk w1 t ht false
    unfold ReadPost at hf
    have Hk : Hid (∀ q, q = ((readS t false).kind != 5) → ∀ w', Below w.heap.size w w' → PrintPost ⟨5, b, i, x, t⟩ w (.returned (.tuple #[.string t, .bool q, .int .i64 0])) w') := Lib.hid fun q hq w' h => Hres.out t q 0 w' h (.inr (.inr (.inr (.inr (.inl ⟨rfl, rfl, hq, rfl⟩)))))
    generalize readS t false = rv at hf Hk
    obtain ⟨kk, bb, ii, xx, tt⟩ := rv
    unfold Val.v valV at hf
    dsimp only at hf Hk
    have hfield : ∀ w', (Instr.field 27 (.agg #[.int .i64 kk, .bool bb, .int .i64 ii, .float .f64 xx, .string tt]) 0).run Tryd.prog w' = .ok (.int .i64 kk) w' := fun _ => by kernel_rfl
    have Hf := Lib.hid hf
    clear hf
    go_enter Tryd.func18, Tryd.ntmps18
    go_wp2_with fail
    have hK0 := PW.first HB1.out Hl.out (by simp)
    have ht0 : (w.alloc (.cells #[.int .i64 5, .bool b, .int .i64 i, .float .f64 x, .string t] 27)).cell? ⟨w.heap.size, 4, none⟩ = some (.string t) := by simp
    go_region_held3 (fun w' => w'.cell? ⟨w.heap.size, 4, none⟩ = some (.string t) ∧ PW w w') (first | exact s_first ht0 hK0 | (refine s_step ?_ hb; assumption) | (constructor <;> assumption))
      (first | (go_at_call 10; refine (Hf.out _).mono ?_; rintro e w' ⟨rfl, hb⟩))
    all_goals go_wp2
    all_goals go_ret3
    all_goals exact Hk.out _ rfl _ (by first | exact (show _ ∧ PW w _ from by assumption).2.below | exact PW.below (by assumption))
  · have q1 : (kd == 1) = false := beq_eq_false_iff_ne.2 k1
    have q2 : (kd == 2) = false := beq_eq_false_iff_ne.2 k2
    have q3 : (kd == 3) = false := beq_eq_false_iff_ne.2 k3
    have q4 : (kd == 4) = false := beq_eq_false_iff_ne.2 k4
    have q5 : (kd == 5) = false := beq_eq_false_iff_ne.2 k5
    have ho : kd < 1 ∨ 5 < kd := by omega
    have Ho := Lib.hid ho
    clear k1 k2 k3 k4 k5 ho
    go_enter Tryd.func18, Tryd.ntmps18
    go_wp2
    go_ret3
    exact Hres.out _ _ _ _ HB1.out (.inr (.inr (.inr (.inr (.inr ⟨Ho.out, rfl, rfl, rfl⟩)))))

end Go.Proofs.YtbmdbfidjdogmaaDoor
