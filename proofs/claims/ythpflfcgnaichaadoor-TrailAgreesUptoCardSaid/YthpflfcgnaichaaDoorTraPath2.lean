/-
paths.PathPattern, Path, decide.takes: functions of their texts.
-/
import Derived.Test.YthpflfcgnaichaaDoorTraPath
set_option linter.unusedVariables false
set_option linter.unusedSimpArgs false
namespace Go.Proofs.YthpflfcgnaichaaDoor
open Go Go.RowKit

def begP (s : ByteArray) : ByteArray := ⟨(Lib.trimSuffix s.data.toList [42]).toArray⟩
def begB (s : ByteArray) : Bool := Lib.hasSuffix s.data.toList [42]

set_option maxHeartbeats 1000000 in
theorem begins_c (w : World) (s : ByteArray) (hs : s.size ≤ 40000000) : Calls Tryd.prog 119 #[.string s] w fun r w' => r = .returned (.tuple #[.string (begP s), .bool (begB s)]) ∧ w' = w := by
  have Hc := Lib.hid (show Calls Tryd.prog 136 #[.string s, .string ⟨#[42]⟩] w fun e w' => e = .returned (.tuple #[.string (begP s), .bool (begB s)]) ∧ w' = w from Tryd.strings_CutSuffix s ⟨#[42]⟩ w (by omega))
  clear hs
  generalize begP s = p at *
  generalize begB s = b at *
  go_enter Tryd.func119, Tryd.ntmps119
  go_wp2_with fail
  refine Hc.out.mono ?_
  rintro r w1 ⟨rfl, hw⟩
  obtain rfl := hw.symm
  clear hw Hc
  go_wp2
  go_ret2
  exact ⟨rfl, rfl⟩

def patB (s : ByteArray) : Bool := (begB s && (begP s).toList == []) || pathB (begP s).data.toList

set_option maxHeartbeats 1000000 in
theorem pattern_c (w : World) (s : ByteArray) (hs : s.size ≤ 40000000) : Calls Tryd.prog 120 #[.string s] w fun r w' => r = .returned (.bool (patB s)) ∧ w' = w := by
  have Hb := Lib.hid (begins_c w s hs)
  have Hp := Lib.hid (path_c w (begP s))
  have Hv := Lib.hid (show patB s = ((begB s && (begP s).toList == []) || pathB (begP s).data.toList) from rfl)
  clear hs
  generalize patB s = v at *
  generalize pathB (begP s).data.toList = pv at *
  generalize begP s = p at *
  generalize begB s = b at *
  cases b with
  | false =>
    have hv : v = pv := by rw [Hv.out]; rfl
    subst hv
    go_enter Tryd.func120, Tryd.ntmps120
    go_wp2_with fail
    refine Hb.out.mono ?_
    rintro r w1 ⟨rfl, hw⟩
    obtain rfl := hw.symm
    clear hw Hb
    go_wp2_with fail
    refine Hp.out.mono ?_
    rintro r w1 ⟨rfl, hw⟩
    obtain rfl := hw.symm
    clear hw Hp
    go_wp2
    go_ret
    exact ⟨rfl, rfl⟩
  | true =>
    cases he : (p.toList == []) with
    | true =>
      have t2 : p.toList = [] := by simpa using he
      have t3 : p.toList.isEmpty = true := by rw [t2]; rfl
      have hv : v = true := by rw [Hv.out, he]; rfl
      subst hv
      have T2 := Lib.hid t2
      clear t2
      go_enter Tryd.func120, Tryd.ntmps120
      go_wp2_with fail
      refine Hb.out.mono ?_
      rintro r w1 ⟨rfl, hw⟩
      obtain rfl := hw.symm
      clear hw Hb
      go_wp2
      go_ret
      exact ⟨rfl, rfl⟩
    | false =>
      have t3 : p.toList.isEmpty = false := by
        cases hq : p.toList with
        | nil => rw [hq] at he; cases he
        | cons a b => rfl
      have hv : v = pv := by rw [Hv.out, he]; rfl
      subst hv
      go_enter Tryd.func120, Tryd.ntmps120
      go_wp2_with fail
      refine Hb.out.mono ?_
      rintro r w1 ⟨rfl, hw⟩
      obtain rfl := hw.symm
      clear hw Hb
      go_wp2_with fail
      refine Hp.out.mono ?_
      rintro r w1 ⟨rfl, hw⟩
      obtain rfl := hw.symm
      clear hw Hp
      go_wp2
      go_ret
      exact ⟨rfl, rfl⟩

def pathM (p n : ByteArray) : Bool := if (begB p && patB p) = true then pathB n.data.toList && Lib.hasPrefix n.data.toList (begP p).data.toList else pathB n.data.toList && (n.toList == p.toList)

set_option maxHeartbeats 1000000 in
theorem pathm_c (w : World) (p n : ByteArray) (hs : p.size ≤ 40000000) : Calls Tryd.prog 95 #[.string p, .string n] w fun r w' => r = .returned (.bool (pathM p n)) ∧ w' = w := by
  have Hb := Lib.hid (begins_c w p hs)
  have Hq := Lib.hid (pattern_c w p hs)
  have Hp := Lib.hid (path_c w n)
  have Hh := Lib.hid (Tryd.strings_HasPrefix n (begP p) w)
  have Hv := Lib.hid (show pathM p n = if (begB p && patB p) = true then pathB n.data.toList && Lib.hasPrefix n.data.toList (begP p).data.toList else pathB n.data.toList && (n.toList == p.toList) from rfl)
  clear hs
  generalize pathM p n = v at *
  generalize Lib.hasPrefix n.data.toList (begP p).data.toList = hp at *
  generalize pathB n.data.toList = pn at *
  generalize begP p = q at *
  generalize begB p = b at *
  generalize patB p = m at *
  cases b with
  | false =>
    have hv : v = (pn && (n.toList == p.toList)) := by rw [Hv.out, if_neg (by simp)]
    clear Hv Hq Hh
    cases pn with
    | false =>
      have hv2 : v = false := by rw [hv]; rfl
      subst hv2
      clear hv
      go_enter Tryd.func95, Tryd.ntmps95
      go_wp2_with fail
      refine Hb.out.mono ?_
      rintro r w1 ⟨rfl, hw⟩
      obtain rfl := hw.symm
      clear hw Hb
      go_wp2_with fail
      refine Hp.out.mono ?_
      rintro r w1 ⟨rfl, hw⟩
      obtain rfl := hw.symm
      clear hw Hp
      go_wp2
      go_ret
      exact ⟨rfl, rfl⟩
    | true =>
      have hv2 : v = (n.toList == p.toList) := by rw [hv]; rfl
      subst hv2
      clear hv
      go_enter Tryd.func95, Tryd.ntmps95
      go_wp2_with fail
      refine Hb.out.mono ?_
      rintro r w1 ⟨rfl, hw⟩
      obtain rfl := hw.symm
      clear hw Hb
      go_wp2_with fail
      refine Hp.out.mono ?_
      rintro r w1 ⟨rfl, hw⟩
      obtain rfl := hw.symm
      clear hw Hp
      go_wp2
      go_ret
      exact ⟨rfl, rfl⟩
  | true =>
    cases m with
    | false =>
      have hv : v = (pn && (n.toList == p.toList)) := by rw [Hv.out, if_neg (by decide)]
      clear Hv Hh
      cases pn with
      | false =>
        have hv2 : v = false := by rw [hv]; rfl
        subst hv2
        clear hv
        go_enter Tryd.func95, Tryd.ntmps95
        go_wp2_with fail
        refine Hb.out.mono ?_
        rintro r w1 ⟨rfl, hw⟩
        obtain rfl := hw.symm
        clear hw Hb
        go_wp2_with fail
        refine Hq.out.mono ?_
        rintro r w1 ⟨rfl, hw⟩
        obtain rfl := hw.symm
        clear hw Hq
        go_wp2_with fail
        refine Hp.out.mono ?_
        rintro r w1 ⟨rfl, hw⟩
        obtain rfl := hw.symm
        clear hw Hp
        go_wp2
        go_ret
        exact ⟨rfl, rfl⟩
      | true =>
        have hv2 : v = (n.toList == p.toList) := by rw [hv]; rfl
        subst hv2
        clear hv
        go_enter Tryd.func95, Tryd.ntmps95
        go_wp2_with fail
        refine Hb.out.mono ?_
        rintro r w1 ⟨rfl, hw⟩
        obtain rfl := hw.symm
        clear hw Hb
        go_wp2_with fail
        refine Hq.out.mono ?_
        rintro r w1 ⟨rfl, hw⟩
        obtain rfl := hw.symm
        clear hw Hq
        go_wp2_with fail
        refine Hp.out.mono ?_
        rintro r w1 ⟨rfl, hw⟩
        obtain rfl := hw.symm
        clear hw Hp
        go_wp2
        go_ret
        exact ⟨rfl, rfl⟩
    | true =>
      have hv : v = (pn && hp) := by rw [Hv.out, if_pos (by decide)]
      clear Hv
      cases pn with
      | false =>
        have hv2 : v = false := by rw [hv]; rfl
        subst hv2
        clear hv Hh
        go_enter Tryd.func95, Tryd.ntmps95
        go_wp2_with fail
        refine Hb.out.mono ?_
        rintro r w1 ⟨rfl, hw⟩
        obtain rfl := hw.symm
        clear hw Hb
        go_wp2_with fail
        refine Hq.out.mono ?_
        rintro r w1 ⟨rfl, hw⟩
        obtain rfl := hw.symm
        clear hw Hq
        go_wp2_with fail
        refine Hp.out.mono ?_
        rintro r w1 ⟨rfl, hw⟩
        obtain rfl := hw.symm
        clear hw Hp
        go_wp2
        go_ret
        exact ⟨rfl, rfl⟩
      | true =>
        have hv2 : v = hp := by rw [hv]; rfl
        subst hv2
        clear hv
        go_enter Tryd.func95, Tryd.ntmps95
        go_wp2_with fail
        refine Hb.out.mono ?_
        rintro r w1 ⟨rfl, hw⟩
        obtain rfl := hw.symm
        clear hw Hb
        go_wp2_with fail
        refine Hq.out.mono ?_
        rintro r w1 ⟨rfl, hw⟩
        obtain rfl := hw.symm
        clear hw Hq
        go_wp2_with fail
        refine Hp.out.mono ?_
        rintro r w1 ⟨rfl, hw⟩
        obtain rfl := hw.symm
        clear hw Hp
        go_wp2_with fail
        refine Hh.out.mono ?_
        rintro r w1 ⟨rfl, hw⟩
        obtain rfl := hw.symm
        clear hw Hh
        go_wp2
        go_ret
        exact ⟨rfl, rfl⟩

end Go.Proofs.YthpflfcgnaichaaDoor
