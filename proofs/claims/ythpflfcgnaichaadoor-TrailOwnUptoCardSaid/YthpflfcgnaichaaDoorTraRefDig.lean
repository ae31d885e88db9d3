/-
The walks of the reference's digits and number.
-/
import Derived.Test.YthpflfcgnaichaaDoorTraLine
import Derived.Deep.RegionWith
set_option linter.unusedVariables false
set_option linter.unusedSimpArgs false
namespace Go.Proofs.YthpflfcgnaichaaDoor
open Go Go.RowKit Go.Sort Go.Lib

theorem toNat_dig {d : Nat} (hd : d < 10) : ((UInt8.ofNat (48 + d)).toNat : Int) = 48 + (d : Int) := by
  have h : (UInt8.ofNat (48 + d)).toNat = 48 + d := UInt8.toNat_ofNat_of_lt (by show 48 + d < 256; omega)
  rw [h]
  omega

theorem size_list (s : ByteArray) : s.data.toList.length = s.size := by rw [Array.length_toList]; rfl

theorem cat_list (a b : ByteArray) : (a ++ b).data.toList = a.data.toList ++ b.data.toList := ByteArray.toList_data_append

theorem conv_one (d : Nat) (hd : d < 10) (W : World) (b : Nat) (h : W.cell? ⟨b, 0, none⟩ = some (.int .u8 (48 + (d : Int)))) :
    (convert 79 9 (.slice (some ⟨b, 0, none⟩) 1 1)).run Tryd.prog W = .ok (.string ⟨[UInt8.ofNat (48 + d)].toArray⟩) W := by
  have h2 := run_convert_bytes_back (P := Tryd.prog) W 79 9 5 ⟨b, 0, none⟩ 1 [UInt8.ofNat (48 + d)] Tryd.underlying79 Tryd.underlying5 Tryd.underlying9 (fun j hj => by
    have hj0 : j = 0 := by simpa using hj
    subst hj0
    show W.cell? _ = some (.int .u8 ((UInt8.ofNat (48 + d)).toNat : Int))
    rw [toNat_dig hd]
    exact h)
  exact h2

theorem endA {w w' : World} {o : Obj} (hb : Below w.heap.size w.drew w') : Below w.heap.size w (w'.alloc o) :=
  (show Below w.heap.size w w' from ⟨hb.os, hb.tape, hb.output, hb.size, hb.block⟩).alloc hb.size _

theorem endB {w w' : World} {o : Obj} (hb : Below (w.alloc o).heap.size (w.alloc o).drew w') : Below w.heap.size w w' :=
  ((Below.refl _ w).alloc (Nat.le_refl _) o).trans ((show Below (w.alloc o).heap.size (w.alloc o) w' from ⟨hb.os, hb.tape, hb.output, hb.size, hb.block⟩).mono (by simp))

theorem bcell {W w1 : World} (hb : Below W.heap.size W w1) : ∀ b o, b < W.heap.size → w1.cell? ⟨b, o, none⟩ = W.cell? ⟨b, o, none⟩ :=
  fun b o h => hb.cell (p := ⟨b, o, none⟩) h

set_option maxRecDepth 20000 in
set_option maxHeartbeats 4000000 in
theorem digits_walk (u : Nat) : ∀ (hu : u < 18446744073709551616) (w : World),
    Calls Tryd.prog 41 #[.int .u64 u] w fun e w' => e = .returned (.string (decB u)) ∧ Below w.heap.size w w' := by
  induction u using Nat.strongRecOn with
  | _ u ih =>
    intro hu w
    obtain ⟨ds, hds⟩ : ∃ ds : ByteArray, ds = decB u := ⟨_, rfl⟩
    rw [← hds]
    by_cases hs : u < 10
    · have n1 : (u : Int) < 10 := by omega
      have hd : Lib.decDigits u = [UInt8.ofNat (48 + u)] := Lib.decDigits_one hs
      have hcv := fun W b h => conv_one u hs W b h
      unfold decB at hds
      rw [← hd, ← hds] at hcv
      clear ih hu hd hs hds
      go_enter Tryd.func41, Tryd.ntmps41
      go_wp2
      go_ret
      exact ⟨rfl, (Below.refl _ w).alloc (Nat.le_refl _) _⟩
    · have n1 : ¬ (u : Int) < 10 := by omega
      obtain ⟨q, hq⟩ : ∃ q, q = u / 10 := ⟨_, rfl⟩
      obtain ⟨d, hd⟩ : ∃ d, d = u % 10 := ⟨_, rfl⟩
      have hd10 : d < 10 := by omega
      have hqi : (u : Int) / 10 = (q : Int) := by omega
      have hqi2 : (u : Int).tdiv 10 = (q : Int) := by rw [Int.tdiv_eq_ediv_of_nonneg (by omega)]; exact hqi
      have hdi : (u : Int) % 10 = (d : Int) := by omega
      have hdi2 : (u : Int).tmod 10 = (d : Int) := by rw [Int.tmod_eq_emod_of_nonneg (by omega)]; exact hdi
      have hdw : IntKind.u64.wrap (48 + (d : Int)) = 48 + (d : Int) := by rw [IntKind.wrap_u64]; omega
      have hqw : IntKind.u64.wrap (q : Int) = (q : Int) := by rw [IntKind.wrap_u64]; omega
      have hdw8 : IntKind.u8.wrap (48 + (d : Int)) = 48 + (d : Int) := by rw [IntKind.wrap_u8]; omega
      have hdd : Lib.decDigits u = Lib.decDigits q ++ [UInt8.ofNat (48 + d)] := by rw [hq, hd]; conv => lhs; rw [Lib.decDigits]; rw [dif_neg hs]
      have hcv := fun W b h => conv_one d hd10 W b h
      have Ih := Lib.hid (fun w => ih q (by omega) (by omega) w)
      obtain ⟨qs, hqs⟩ : ∃ qs : ByteArray, qs = decB q := ⟨_, rfl⟩
      obtain ⟨ts, hts⟩ : ∃ ts : ByteArray, ts = ⟨[UInt8.ofNat (48 + d)].toArray⟩ := ⟨_, rfl⟩
      rw [← hts] at hcv
      rw [← hqs] at Ih
      have hsum : qs ++ ts = ds := by
        have : (qs ++ ts).data.toList = ds.data.toList := by rw [cat_list, hqs, hts, hds]; exact hdd.symm
        exact ByteArray.ext (Array.toList_inj.1 this)
      have hsz : qs.size + ts.size ≤ 9223372036854775807 := by
        have h1 : qs.size ≤ 20 := by rw [← size_list, hqs]; exact decB_len (by omega)
        have h2 : ts.size = 1 := by rw [hts]; rfl
        omega
      clear ih hu hq hd hds hdd hqs hts hs
      go_enter Tryd.func41, Tryd.ntmps41
      go_wp2
      go_region_with (go_at_call 41; (with_reducible refine (Ih.out _).mono ?_); rintro e w' ⟨rfl, hb⟩; have hc := bcell hb)
      all_goals go_wp2
      all_goals go_ret
      · exact ⟨rfl, endA hb⟩
      · exact ⟨rfl, endB hb⟩
      · exact ⟨rfl, endB hb⟩

theorem itoa_m1 : itoaB (-1) = ⟨#[45, 49]⟩ := by decide +kernel

theorem itoa_nn (k : Nat) : itoaB (k : Int) = decB k := by
  unfold itoaB decB
  rw [Lib.itoa_nonneg]

set_option maxHeartbeats 1000000 in
theorem number_walk (n : Int) (h0 : -1 ≤ n) (h1 : n ≤ 9223372036854775807) (w : World) :
    Calls Tryd.prog 39 #[.int .i64 n] w fun e w' => e = .returned (.string (itoaB n)) ∧ Below w.heap.size w w' := by
  by_cases hm : n = -1
  · subst hm
    rw [itoa_m1]
    go_enter Tryd.func39, Tryd.ntmps39
    go_wp2
    go_ret
    exact ⟨rfl, Below.refl _ _⟩
  · obtain ⟨k, rfl⟩ : ∃ k : Nat, n = (k : Int) := ⟨n.toNat, by omega⟩
    have t1 : ((k : Int) == -1) = false := beq_eq_false_iff_ne.2 hm
    have hw : IntKind.u64.wrap (k : Int) = (k : Int) := by rw [IntKind.wrap_u64]; omega
    have Hd := Lib.hid (digits_walk k (by omega) w)
    rw [itoa_nn]
    clear h0 h1 hm
    go_enter Tryd.func39, Tryd.ntmps39
    go_wp2_with fail
    refine Hd.out.mono ?_
    rintro e w1 ⟨rfl, hb⟩
    have Hb := Lib.hid hb
    clear hb Hd
    go_wp2
    go_ret
    exact ⟨rfl, Hb.out⟩

end Go.Proofs.YthpflfcgnaichaaDoor
