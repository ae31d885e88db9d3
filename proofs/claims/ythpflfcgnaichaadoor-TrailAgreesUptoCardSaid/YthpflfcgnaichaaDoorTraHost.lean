/-
paths.host, paths.Host, decide.takes: functions of their texts.
-/
import Derived.Test.YthpflfcgnaichaaDoorTraFold
import Derived.Test.YthpflfcgnaichaaDoorTraPath2
set_option linter.unusedVariables false
set_option linter.unusedSimpArgs false
namespace Go.Proofs.YthpflfcgnaichaaDoor
open Go Go.RowKit

theorem fold_size (s : ByteArray) : (foldV s).1.size ≤ 64 := by
  unfold foldV
  split
  · rename_i h
    show (List.map foldC s.data.toList).toArray.size ≤ 64
    rw [List.size_toArray, List.length_map, size_list]
    exact h.2.1
  · exact Nat.zero_le _

/-- A pattern's sort and the host within it, its rest folded. -/
def hostR (s rest : ByteArray) (k : Int) : Int × ByteArray := if (foldV rest).2 = true then (k, (foldV rest).1) else (3, s)
def hostV (s : ByteArray) : Int × ByteArray := if (s.toList == [42]) = true then (2, ⟨#[]⟩) else if Lib.hasPrefix s.data.toList [42, 46] = true then hostR s (s.extract 2 s.size) 1 else hostR s s 0

def HostPost (w : World) (s : ByteArray) (r : Ending) (w' : World) : Prop := r = .returned (.tuple #[.int .i64 (hostV s).1, .string (hostV s).2]) ∧ Below w.heap.size w w'

theorem bdH {B : Nat} {a w : World} (h : Below B a w) (n : Nat) : Below B a (w.drewN n) := ⟨h.os, h.tape, h.output, h.size, h.block⟩

theorem prefix_len {s : ByteArray} (h : Lib.hasPrefix s.data.toList [42, 46] = true) : 2 ≤ s.size := by
  have h1 := List.IsPrefix.length_le (by simpa [Lib.hasPrefix] using h : [42, 46] <+: s.data.toList)
  rw [size_list] at h1
  exact h1

set_option maxHeartbeats 2000000 in
theorem host_c (w : World) (s : ByteArray) : Calls Tryd.prog 93 #[.string s] w (HostPost w s) := by
  have Hh := Lib.hid (show Calls Tryd.prog 117 #[.string s, .string ⟨#[42, 46]⟩] w fun e w' => e = .returned (.bool (Lib.hasPrefix s.data.toList [42, 46])) ∧ w' = w from Tryd.strings_HasPrefix s ⟨#[42, 46]⟩ w)
  cases hst : (s.toList == [42]) with
  | true =>
    have Hend := Lib.hid (show HostPost w s (.returned (.tuple #[.int .i64 2, .string ⟨#[]⟩])) w from by unfold HostPost hostV; rw [if_pos hst]; exact ⟨rfl, Below.refl _ _⟩)
    clear Hh
    go_enter Tryd.func93, Tryd.ntmps93
    go_wp2
    go_ret2
    exact Hend.out
  | false =>
    cases hp : Lib.hasPrefix s.data.toList [42, 46] with
    | true =>
      have h2 := prefix_len hp
      have b1 : (2 : Int) ≤ (s.size : Int) := by omega
      have b2 : (0 : Int) ≤ (s.size : Int) := by omega
      rw [hp] at Hh
      have Hf := Lib.hid (fun k => fold_c (w.drewN k) (s.extract 2 s.size))
      have Hv := Lib.hid (show hostV s = hostR s (s.extract 2 s.size) 1 from by unfold hostV; rw [if_neg (by rw [hst]; decide), if_pos hp])
      cases hok : (foldV (s.extract 2 s.size)).2 with
      | true =>
        have Hend := Lib.hid (fun w2 (hb : Below w.heap.size w w2) => show HostPost w s (.returned (.tuple #[.int .i64 1, .string (foldV (s.extract 2 s.size)).1])) w2 from by unfold HostPost; rw [Hv.out]; unfold hostR; rw [if_pos hok]; exact ⟨rfl, hb⟩)
        unfold FoldPost at Hf
        rw [hok] at Hf
        have HT := Lib.hid hst
        generalize (foldV (s.extract 2 s.size)).1 = fv at *
        clear hp h2 hok Hv
        go_enter Tryd.func93, Tryd.ntmps93
        go_wp2_with fail
        refine Hh.out.mono ?_
        rintro r w1 ⟨rfl, hw⟩
        obtain rfl := hw.symm
        clear hw Hh
        go_wp2_with fail
        go_quiet (fail)
        go_wp2_with fail
        refine (Hf.out _).mono ?_
        rintro r w2 ⟨rfl, hb⟩
        have He := Lib.hid (Hend.out w2 ((bdH (Below.refl _ w) _).trans hb))
        clear hb Hf Hend
        go_wp2
        go_ret2
        exact He.out
      | false =>
        have Hend := Lib.hid (fun w2 (hb : Below w.heap.size w w2) => show HostPost w s (.returned (.tuple #[.int .i64 3, .string s])) w2 from by unfold HostPost; rw [Hv.out]; unfold hostR; rw [if_neg (by rw [hok]; decide)]; exact ⟨rfl, hb⟩)
        unfold FoldPost at Hf
        rw [hok] at Hf
        have HT := Lib.hid hst
        generalize (foldV (s.extract 2 s.size)).1 = fv at *
        clear hp h2 hok Hv
        go_enter Tryd.func93, Tryd.ntmps93
        go_wp2_with fail
        refine Hh.out.mono ?_
        rintro r w1 ⟨rfl, hw⟩
        obtain rfl := hw.symm
        clear hw Hh
        go_wp2_with fail
        go_quiet (fail)
        go_wp2_with fail
        refine (Hf.out _).mono ?_
        rintro r w2 ⟨rfl, hb⟩
        have He := Lib.hid (Hend.out w2 ((bdH (Below.refl _ w) _).trans hb))
        clear hb Hf Hend
        go_wp2
        go_ret2
        exact He.out
    | false =>
      rw [hp] at Hh
      have Hf := Lib.hid (fold_c w s)
      have Hv := Lib.hid (show hostV s = hostR s s 0 from by unfold hostV; rw [if_neg (by rw [hst]; decide), if_neg (by rw [hp]; decide)])
      cases hok : (foldV s).2 with
      | true =>
        have Hend := Lib.hid (fun w2 (hb : Below w.heap.size w w2) => show HostPost w s (.returned (.tuple #[.int .i64 0, .string (foldV s).1])) w2 from by unfold HostPost; rw [Hv.out]; unfold hostR; rw [if_pos hok]; exact ⟨rfl, hb⟩)
        unfold FoldPost at Hf
        rw [hok] at Hf
        have HT := Lib.hid hst
        generalize (foldV s).1 = fv at *
        clear hp hok Hv
        go_enter Tryd.func93, Tryd.ntmps93
        go_wp2_with fail
        refine Hh.out.mono ?_
        rintro r w1 ⟨rfl, hw⟩
        obtain rfl := hw.symm
        clear hw Hh
        go_wp2_with fail
        refine Hf.out.mono ?_
        rintro r w2 ⟨rfl, hb⟩
        have He := Lib.hid (Hend.out w2 hb)
        clear hb Hf Hend
        go_wp2
        go_ret2
        exact He.out
      | false =>
        have Hend := Lib.hid (fun w2 (hb : Below w.heap.size w w2) => show HostPost w s (.returned (.tuple #[.int .i64 3, .string s])) w2 from by unfold HostPost; rw [Hv.out]; unfold hostR; rw [if_neg (by rw [hok]; decide)]; exact ⟨rfl, hb⟩)
        unfold FoldPost at Hf
        rw [hok] at Hf
        have HT := Lib.hid hst
        generalize (foldV s).1 = fv at *
        clear hp hok Hv
        go_enter Tryd.func93, Tryd.ntmps93
        go_wp2_with fail
        refine Hh.out.mono ?_
        rintro r w1 ⟨rfl, hw⟩
        obtain rfl := hw.symm
        clear hw Hh
        go_wp2_with fail
        refine Hf.out.mono ?_
        rintro r w2 ⟨rfl, hb⟩
        have He := Lib.hid (Hend.out w2 hb)
        clear hb Hf Hend
        go_wp2
        go_ret2
        exact He.out

theorem host_size {s : ByteArray} : (hostV s).1 ≠ 3 → (hostV s).2.size ≤ 64 := fun h => by
  unfold hostV hostR at h ⊢
  split
  · exact Nat.zero_le _
  · rename_i h1
    rw [if_neg h1] at h
    split
    · rename_i h2
      rw [if_pos h2] at h
      split
      · exact fold_size _
      · rename_i h3
        rw [if_neg h3] at h
        exact absurd rfl h
    · rename_i h2
      rw [if_neg h2] at h
      split
      · exact fold_size _
      · rename_i h3
        rw [if_neg h3] at h
        exact absurd rfl h

theorem host_sort (s : ByteArray) : (hostV s).1 = 0 ∨ (hostV s).1 = 1 ∨ (hostV s).1 = 2 ∨ (hostV s).1 = 3 := by
  unfold hostV hostR
  split
  · simp
  · split <;> (split <;> simp)

def hostM (p n : ByteArray) : Bool := (foldV n).2 && (if (hostV p).1 = 0 then (hostV p).2.toList == (foldV n).1.toList else if (hostV p).1 = 1 then Lib.hasSuffix (foldV n).1.data.toList ((⟨#[46]⟩ : ByteArray) ++ (hostV p).2).data.toList else decide ((hostV p).1 = 2))

set_option maxHeartbeats 2000000 in
theorem hostm_c (w : World) (p n : ByteArray) : Calls Tryd.prog 71 #[.string p, .string n] w fun r w' => r = .returned (.bool (hostM p n)) ∧ Below w.heap.size w w' := by
  have Hf := Lib.hid (fold_c w n)
  have Hh := Lib.hid (fun w1 => host_c w1 p)
  have Hv := Lib.hid (show hostM p n = ((foldV n).2 && (if (hostV p).1 = 0 then (hostV p).2.toList == (foldV n).1.toList else if (hostV p).1 = 1 then Lib.hasSuffix (foldV n).1.data.toList ((⟨#[46]⟩ : ByteArray) ++ (hostV p).2).data.toList else decide ((hostV p).1 = 2))) from rfl)
  have hfs := fold_size n
  have hhs := host_size (s := p)
  have hso := host_sort p
  unfold FoldPost at Hf
  unfold HostPost at Hh
  generalize hostM p n = v at *
  generalize foldV n = f at *
  generalize hostV p = h at *
  obtain ⟨fv, fok⟩ := f
  obtain ⟨k, hv⟩ := h
  dsimp only at *
  cases fok with
  | false =>
    have e : v = false := by rw [Hv.out]; rfl
    subst e
    clear Hv hfs hhs hso Hh
    go_enter Tryd.func71, Tryd.ntmps71
    go_wp2_with fail
    refine Hf.out.mono ?_
    rintro r w1 ⟨rfl, hb⟩
    have Hb := Lib.hid hb
    clear hb Hf
    go_wp2
    go_ret
    exact ⟨rfl, Hb.out⟩
  | true =>
    rw [Bool.true_and] at Hv
    rcases hso with rfl | rfl | rfl | rfl
    · have e : v = (hv.toList == fv.toList) := by rw [Hv.out, if_pos rfl]
      subst e
      clear Hv hfs hhs
      go_enter Tryd.func71, Tryd.ntmps71
      go_wp2_with fail
      refine Hf.out.mono ?_
      rintro r w1 ⟨rfl, hb⟩
      have Hb := Lib.hid hb
      clear hb Hf
      go_wp2_with fail
      refine (Hh.out _).mono ?_
      rintro r w2 ⟨rfl, hb⟩
      have Hb2 := Lib.hid (Hb.out.trans (hb.mono Hb.out.size))
      clear hb Hb Hh
      go_wp2
      go_ret
      exact ⟨rfl, Hb2.out⟩
    · have e : v = Lib.hasSuffix fv.data.toList ((⟨#[46]⟩ : ByteArray) ++ hv).data.toList := by rw [Hv.out, if_neg (by decide), if_pos rfl]
      have hsz := hhs (by decide)
      obtain ⟨T, hT⟩ : ∃ T : ByteArray, T = (⟨#[46]⟩ : ByteArray) ++ hv := ⟨_, rfl⟩
      have hadd : ∀ w1, (Op.stringOp .add ⟨#[46]⟩ hv).run Tryd.prog w1 = .ok (.string T) w1 := fun w1 => sum_run (m := 1) hT (by decide) (by omega) (by decide) w1
      rw [← hT] at e
      have Hs := Lib.hid (fun w1 => Tryd.strings_HasSuffix fv T w1 (by omega))
      rw [← e] at Hs
      clear Hv hfs hhs hsz hT e
      go_enter Tryd.func71, Tryd.ntmps71
      go_wp2_with fail
      refine Hf.out.mono ?_
      rintro r w1 ⟨rfl, hb⟩
      have Hb := Lib.hid hb
      clear hb Hf
      go_wp2_with fail
      refine (Hh.out _).mono ?_
      rintro r w2 ⟨rfl, hb⟩
      have Hb2 := Lib.hid (Hb.out.trans (hb.mono Hb.out.size))
      clear hb Hb Hh
      go_wp2_with fail
      refine (Hs.out _).mono ?_
      rintro r w3 ⟨rfl, hw⟩
      obtain rfl := hw.symm
      clear hw Hs
      go_wp2
      go_ret
      exact ⟨rfl, Hb2.out⟩
    · have e : v = true := by rw [Hv.out, if_neg (by decide), if_neg (by decide)]; rfl
      subst e
      clear Hv hfs hhs
      go_enter Tryd.func71, Tryd.ntmps71
      go_wp2_with fail
      refine Hf.out.mono ?_
      rintro r w1 ⟨rfl, hb⟩
      have Hb := Lib.hid hb
      clear hb Hf
      go_wp2_with fail
      refine (Hh.out _).mono ?_
      rintro r w2 ⟨rfl, hb⟩
      have Hb2 := Lib.hid (Hb.out.trans (hb.mono Hb.out.size))
      clear hb Hb Hh
      go_wp2
      go_ret
      exact ⟨rfl, Hb2.out⟩
    · have e : v = false := by rw [Hv.out, if_neg (by decide), if_neg (by decide)]; rfl
      subst e
      clear Hv hfs hhs
      go_enter Tryd.func71, Tryd.ntmps71
      go_wp2_with fail
      refine Hf.out.mono ?_
      rintro r w1 ⟨rfl, hb⟩
      have Hb := Lib.hid hb
      clear hb Hf
      go_wp2_with fail
      refine (Hh.out _).mono ?_
      rintro r w2 ⟨rfl, hb⟩
      have Hb2 := Lib.hid (Hb.out.trans (hb.mono Hb.out.size))
      clear hb Hb Hh
      go_wp2
      go_ret
      exact ⟨rfl, Hb2.out⟩

def takesB (p want m n : ByteArray) : Bool := ((want.toList == [42]) || (want.toList == m.toList)) && pathM p n

set_option maxHeartbeats 2000000 in
theorem takes_c (w : World) (p want m n : ByteArray) (hs : p.size ≤ 40000000) : Calls Tryd.prog 74 #[.string p, .string want, .string m, .string n] w fun r w' => r = .returned (.bool (takesB p want m n)) ∧ w' = w := by
  have Hp := Lib.hid (pathm_c w p n hs)
  have Hv := Lib.hid (show takesB p want m n = (((want.toList == [42]) || (want.toList == m.toList)) && pathM p n) from rfl)
  clear hs
  generalize takesB p want m n = v at *
  generalize pathM p n = pm at *
  cases h1 : (want.toList == [42]) with
  | true =>
    have e : v = pm := by rw [Hv.out, h1]; rfl
    subst e
    clear Hv
    go_enter Tryd.func74, Tryd.ntmps74
    go_wp2_with fail
    refine Hp.out.mono ?_
    rintro r w1 ⟨rfl, hw⟩
    obtain rfl := hw.symm
    clear hw Hp
    go_wp2
    go_ret
    exact ⟨rfl, rfl⟩
  | false =>
    cases h2 : (want.toList == m.toList) with
    | true =>
      have e : v = pm := by rw [Hv.out, h1, h2]; rfl
      subst e
      clear Hv
      go_enter Tryd.func74, Tryd.ntmps74
      go_wp2_with fail
      refine Hp.out.mono ?_
      rintro r w1 ⟨rfl, hw⟩
      obtain rfl := hw.symm
      clear hw Hp
      go_wp2
      go_ret
      exact ⟨rfl, rfl⟩
    | false =>
      have e : v = false := by rw [Hv.out, h1, h2]; rfl
      subst e
      clear Hv Hp
      go_enter Tryd.func74, Tryd.ntmps74
      go_wp2
      go_ret
      exact ⟨rfl, rfl⟩

end Go.Proofs.YthpflfcgnaichaaDoor
