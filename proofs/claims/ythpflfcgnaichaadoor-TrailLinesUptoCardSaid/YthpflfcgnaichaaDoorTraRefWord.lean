/-
The walks of the reference's digit, word, whole.
-/
import Derived.Test.YthpflfcgnaichaaDoorTraTxt
import Derived.Test.YthpflfcgnaichaaDoorTraRefTold
set_option linter.unusedVariables false
set_option linter.unusedSimpArgs false
namespace Go.Proofs.YthpflfcgnaichaaDoor
open Go Go.RowKit

/-- A digit's value in base ten, or -1. -/
def dig10 (c : UInt8) : Int := if 48 ≤ c.toNat ∧ c.toNat ≤ 57 then (c.toNat : Int) - 48 else -1

set_option maxHeartbeats 1000000 in
theorem digit10 (w : World) (c : UInt8) : Calls Tryd.prog 116 #[.int .u8 (c.toNat : Int), .int .i64 10] w fun r w' => r = .returned (.int .i64 (dig10 c)) ∧ w' = w := by
  have hlt := c.toNat_lt
  unfold dig10
  by_cases h1 : c.toNat < 48
  · rw [if_neg (by omega)]
    have p1 : (c.toNat : Int) < 48 := by omega
    have p2 : (c.toNat : Int) < 97 := by omega
    clear hlt h1
    go_enter Tryd.func116, Tryd.ntmps116
    go_wp2
    go_ret
    exact ⟨rfl, rfl⟩
  · by_cases h2 : c.toNat ≤ 57
    · rw [if_pos ⟨by omega, h2⟩]
      have p1 : (48 : Int) ≤ (c.toNat : Int) := by omega
      have p2 : (c.toNat : Int) ≤ 57 := by omega
      have p3 : (c.toNat : Int) < 97 := by omega
      have w1 : IntKind.u8.wrap ((c.toNat : Int) - 48) = (c.toNat : Int) - 48 := by rw [IntKind.wrap_u8]; omega
      have w2 : IntKind.i64.wrap ((c.toNat : Int) - 48) = (c.toNat : Int) - 48 := by rw [IntKind.wrap_i64]; omega
      have p4 : ¬ 10 ≤ (c.toNat : Int) - 48 := by omega
      clear hlt h1 h2
      go_enter Tryd.func116, Tryd.ntmps116
      go_wp2
      go_ret
      exact ⟨rfl, rfl⟩
    · rw [if_neg (by omega)]
      have p1 : (48 : Int) ≤ (c.toNat : Int) := by omega
      have p2 : (57 : Int) < (c.toNat : Int) := by omega
      by_cases h3 : 97 ≤ c.toNat ∧ c.toNat ≤ 102
      · have p3 : (97 : Int) ≤ (c.toNat : Int) := by omega
        have p4 : (c.toNat : Int) ≤ 102 := by omega
        have w1 : IntKind.u8.wrap ((c.toNat : Int) - 97) = (c.toNat : Int) - 97 := by rw [IntKind.wrap_u8]; omega
        have w2 : IntKind.i64.wrap ((c.toNat : Int) - 97) = (c.toNat : Int) - 97 := by rw [IntKind.wrap_i64]; omega
        have w3 : wrap64 ((c.toNat : Int) - 97 + 10) = (c.toNat : Int) - 97 + 10 := by unfold wrap64; omega
        have p5 : 10 ≤ (c.toNat : Int) - 97 + 10 := by omega
        clear hlt h1 h2 h3
        go_enter Tryd.func116, Tryd.ntmps116
        go_wp2
        go_ret
        exact ⟨rfl, rfl⟩
      · have hcase : (c.toNat : Int) < 97 ∨ (97 ≤ (c.toNat : Int) ∧ 102 < (c.toNat : Int)) := by omega
        clear hlt h1 h2 h3
        rcases hcase with p3 | ⟨p3, p4⟩
        all_goals
          go_enter Tryd.func116, Tryd.ntmps116
          go_wp2
          go_ret
          exact ⟨rfl, rfl⟩

theorem num_snoc (p : List UInt8) (c : UInt8) : numF 0 (p ++ [c]) = 10 * numF 0 p + (c.toNat - 48) := by
  unfold numF
  rw [List.foldl_append]
  rfl

theorem num_pre (p q : List UInt8) : numF 0 p ≤ numF 0 (p ++ q) := by
  have h := num_ge q (numF 0 p)
  unfold numF at h ⊢
  rw [List.foldl_append]
  exact h

theorem take_snoc {l : List UInt8} {k : Nat} {c : UInt8} (h : l[k]? = some c) : l.take (k + 1) = l.take k ++ [c] := by
  rw [List.take_add_one, h]
  rfl

/-- What word answers. -/
def WordPost (w : World) (s : ByteArray) (r : Ending) (w' : World) : Prop :=
  ∃ (n : Nat) (ok : Bool), r = .returned (.tuple #[.int .u64 (n : Int), .bool ok]) ∧ n < 18446744073709551616 ∧ (ok = true → decB n = s) ∧ (∀ m, m < 18446744073709551616 → s.data.toList = Lib.decDigits m → ok = true ∧ n = m) ∧ Below w.heap.size w w'

theorem word_bad {w : World} {s : ByteArray} (h : ∀ m, m < 18446744073709551616 → s.data.toList = Lib.decDigits m → False) : WordPost w s (.returned (.tuple #[.int .u64 0, .bool false])) w :=
  ⟨0, false, rfl, by decide, nofun, fun m hm he => (h m hm he).elim, Below.refl _ _⟩

theorem word_end {w w' : World} {s : ByteArray} {n : Nat} (hn : n = numF 0 s.data.toList) (hlt : n < 18446744073709551616) (hb : Below w.heap.size w w') : WordPost w s (.returned (.tuple #[.int .u64 (n : Int), .bool ((decB n).toList == s.toList)])) w' := by
  refine ⟨n, _, rfl, hlt, fun h => bytes_eq h, fun m hm he => ?_, hb⟩
  have e : n = m := by rw [hn, he, dec_num]
  subst e
  refine ⟨?_, rfl⟩
  have e2 : decB n = s := ByteArray.ext (Array.ext' he.symm)
  rw [e2]
  simp

set_option maxHeartbeats 2000000 in
set_option maxRecDepth 20000 in
theorem word_c (w : World) (s : ByteArray) (hs : s.size ≤ 40000000) :
    Calls Tryd.prog 90 #[.string s] w fun r w' => WordPost w s r w' := by
  obtain ⟨n, hn⟩ : ∃ n, n = s.size := ⟨_, rfl⟩
  have Hn := Lib.hid hn
  have Hs := Lib.hid hs
  have Hd := Lib.hid (fun c => digit10 w c)
  clear hs hn
  go_enter Tryd.func90, Tryd.ntmps90
  go_wp2
  go_loopw [4, 5] (fun vs i wr => ∃ (k v : Nat), vs = .int .u64 (v : Int) ∧ i = .int .i64 (k : Int) ∧ w = wr ∧ Hid (k ≤ n ∧ v < 18446744073709551616 ∧ (s.data.toList.take k).all isDg = true ∧ v = numF 0 (s.data.toList.take k))) (fun _ i _ => n - (intOf i).toNat)
  case atStart => exact ⟨0, 0, rfl, rfl, rfl, Lib.hid ⟨Nat.zero_le _, by decide, rfl, rfl⟩⟩
  case round =>
    obtain ⟨k, v, rfl, rfl, rfl, H⟩ := hrel
    have hn := Hn.out
    by_cases hkn : k < n
    · obtain ⟨c, hc⟩ : ∃ c, s.data.toList[k]? = some c := ⟨s.data.toList[k]'(by rw [size_list]; omega), List.getElem?_eq_getElem _⟩
      have k1 := idx_run .i64 hc
      have b1 : (k : Int) < (n : Int) := by omega
      have c1 : (k : Int) < (s.size : Int) := by omega
      have hs := Hs.out
      have wk : wrap64 ((k : Int) + 1) = (k : Int) + 1 := wrap_small2 (show k < 40000000000001 by omega)
      have Hms := Lib.hid (meas_step hkn wk)
      have Hgo := Lib.hid (go_step wk)
      have Hdc := Lib.hid (Hd.out c)
      have hin : c ∈ s.data.toList := List.mem_of_getElem? hc
      obtain ⟨hk, hv, hall, hnum⟩ := H.out
      by_cases hd : 48 ≤ c.toNat ∧ c.toNat ≤ 57
      · obtain ⟨d, hdd⟩ : ∃ d, d = c.toNat - 48 := ⟨_, rfl⟩
        have hd9 : d ≤ 9 := by omega
        have hdi : dig10 c = (d : Int) := by unfold dig10; rw [if_pos hd]; omega
        rw [hdi] at Hdc
        have hnx : numF 0 (s.data.toList.take (k + 1)) = 10 * v + d := by rw [take_snoc hc, num_snoc, ← hnum, hdd]
        have hall2 : (s.data.toList.take (k + 1)).all isDg = true := by
          rw [take_snoc hc, List.all_append, hall, List.all_cons, List.all_nil, isDg_iff.2 hd]
          rfl
        obtain ⟨r, hr⟩ : ∃ r, r = 18446744073709551615 - d := ⟨_, rfl⟩
        obtain ⟨q, hq⟩ : ∃ q, q = r / 10 := ⟨_, rfl⟩
        have w1 : IntKind.u64.wrap (d : Int) = (d : Int) := by rw [IntKind.wrap_u64]; omega
        have w2 : IntKind.u64.wrap (18446744073709551615 - (d : Int)) = (r : Int) := by rw [IntKind.wrap_u64]; omega
        have w3 : (r : Int).tdiv 10 = (q : Int) := by rw [Int.tdiv_eq_ediv_of_nonneg (by omega)]; omega
        have w4 : (r : Int) / 10 = (q : Int) := by omega
        have w5 : IntKind.u64.wrap (q : Int) = (q : Int) := by rw [IntKind.wrap_u64]; omega
        have d0 : decide ((d : Int) < 0) = false := decide_eq_false (by omega)
        by_cases hov : q < v
        · have Hbad := Lib.hid (word_bad (w := w) (s := s) fun m hm he => by
            have h1 := num_pre (s.data.toList.take (k + 1)) (s.data.toList.drop (k + 1))
            rw [List.take_append_drop, he, dec_num, ← he, hnx] at h1
            omega)
          have p1 : (q : Int) < (v : Int) := by omega
          clear hn hkn hs hc hin hk hv hall hnum hd hdd hd9 hdi hnx hall2 hr hq hov H w4 wk
          go_wp2_with fail
          refine Hdc.out.mono ?_
          rintro e w1 ⟨rfl, hw⟩
          obtain rfl := hw.symm
          clear hw
          go_wp2
          go_ret2
          exact Hbad.out
        · have w6 : IntKind.u64.wrap (10 * (v : Int)) = 10 * (v : Int) := by rw [IntKind.wrap_u64]; omega
          have w7 : IntKind.u64.wrap (10 * (v : Int) + (d : Int)) = ((10 * v + d : Nat) : Int) := by rw [IntKind.wrap_u64]; omega
          have p1 : ¬ (q : Int) < (v : Int) := by omega
          have Hend := Lib.hid (show k + 1 ≤ n ∧ 10 * v + d < 18446744073709551616 ∧ (s.data.toList.take (k + 1)).all isDg = true ∧ 10 * v + d = numF 0 (s.data.toList.take (k + 1)) from ⟨hkn, by omega, hall2, hnx.symm⟩)
          clear hn hkn hs hc hin hk hv hall hnum hd hdd hd9 hdi hnx hall2 hr hq hov H w4 wk
          go_wp2_with fail
          refine Hdc.out.mono ?_
          rintro e w1 ⟨rfl, hw⟩
          obtain rfl := hw.symm
          clear hw
          go_wp2
          go_roundw
          case rel => exact ⟨k + 1, 10 * v + d, rfl, Hgo.out, trivial, Hend⟩
          case measure => exact Hms.out
      · have hdi : dig10 c = -1 := by unfold dig10; rw [if_neg hd]
        rw [hdi] at Hdc
        have Hbad := Lib.hid (word_bad (w := w) (s := s) fun m hm he => by
          have h1 := dec_dg m
          rw [← he, List.all_eq_true] at h1
          exact hd (isDg_iff.1 (h1 c hin)))
        clear hn hkn hs hc hin hk hv hall hnum hd hdi H wk
        go_wp2_with fail
        refine Hdc.out.mono ?_
        rintro e w1 ⟨rfl, hw⟩
        obtain rfl := hw.symm
        clear hw
        go_wp2
        go_ret2
        exact Hbad.out
    · obtain ⟨hk, hv, hall, hnum⟩ := H.out
      have b2 : (s.size : Int) ≤ (k : Int) := by omega
      rw [List.take_of_length_le (by rw [size_list]; omega)] at hnum
      have Hg := Lib.hid (digits_walk v hv w)
      have Hend := Lib.hid (fun w' hb => word_end (w := w) (w' := w') hnum hv hb)
      clear hn hkn hk hv hall hnum H
      generalize decB v = dv at *
      go_wp2_with fail
      refine Hg.out.mono ?_
      rintro e w1 ⟨rfl, hb⟩
      have Hf := Lib.hid (Hend.out w1 hb)
      clear hb Hg Hend
      go_wp2
      go_ret2
      exact Hf.out

/-- What whole answers. -/
def WholePost (w : World) (s : ByteArray) (r : Ending) (w' : World) : Prop :=
  ∃ (n : Int) (ok : Bool), r = .returned (.tuple #[.int .i64 n, .bool ok]) ∧ I64 n ∧ (ok = true → itoaB n = s ∧ -1 ≤ n) ∧ (∀ m : Int, -1 ≤ m → m ≤ 9223372036854775807 → s.data.toList = Lib.itoa m → ok = true ∧ n = m) ∧ Below w.heap.size w w'

theorem whole_end {w w' : World} {s : ByteArray} {n : Nat} {ok : Bool} (hs : ¬ s = ⟨#[45, 49]⟩) (h1 : ok = true → decB n = s) (h2 : ∀ m, m < 18446744073709551616 → s.data.toList = Lib.decDigits m → ok = true ∧ n = m) (hb : Below w.heap.size w w') :
    (n < 9223372036854775808 → WholePost w s (.returned (.tuple #[.int .i64 (n : Int), .bool ok])) w') ∧ (9223372036854775808 ≤ n → ∀ z, I64 z → WholePost w s (.returned (.tuple #[.int .i64 z, .bool false])) w') := by
  have key : ∀ m : Int, -1 ≤ m → m ≤ 9223372036854775807 → s.data.toList = Lib.itoa m → ok = true ∧ (n : Int) = m := fun m m0 m1 he => by
    by_cases hm : m = -1
    · exact absurd (by rw [hm] at he; exact (ba_of he).trans itoa_m1) hs
    · obtain ⟨k, rfl⟩ : ∃ k : Nat, m = (k : Int) := ⟨m.toNat, by omega⟩
      rw [Lib.itoa_nonneg] at he
      obtain ⟨q1, q2⟩ := h2 k (by omega) he
      exact ⟨q1, by rw [q2]⟩
  constructor
  · intro hn
    refine ⟨n, ok, rfl, ⟨by omega, by omega⟩, fun h => ⟨by rw [itoa_nn]; exact h1 h, by omega⟩, key, hb⟩
  · intro hn z hz
    refine ⟨z, false, rfl, hz, nofun, fun m m0 m1 he => ?_, hb⟩
    have := (key m m0 m1 he).2
    omega

set_option maxHeartbeats 1000000 in
theorem whole_c (w : World) (s : ByteArray) (hs : s.size ≤ 40000000) :
    Calls Tryd.prog 87 #[.string s] w fun r w' => WholePost w s r w' := by
  by_cases h1 : s = ⟨#[45, 49]⟩
  · subst h1
    have Hend := Lib.hid (show WholePost w ⟨#[45, 49]⟩ (.returned (.tuple #[.int .i64 (-1), .bool true])) w from
      ⟨-1, true, rfl, by decide, fun _ => ⟨itoa_m1, by decide⟩, fun m m0 m1 he => ⟨rfl, itoa_inj (by decide) (by decide) m0 m1 (by rw [← he]; decide +kernel)⟩, Below.refl _ _⟩)
    clear hs
    go_enter Tryd.func87, Tryd.ntmps87
    go_wp2
    go_ret2
    exact Hend.out
  · have t1 := beq_no (l := [45, 49]) (fun h => h1 (ByteArray.ext (Array.ext' h)))
    have Hw := Lib.hid (word_c w s hs)
    have H1 := Lib.hid h1
    clear hs h1
    go_enter Tryd.func87, Tryd.ntmps87
    go_wp2_with fail
    refine Hw.out.mono ?_
    rintro r w1 ⟨n, ok, rfl, hlt, q1, q2, hb⟩
    obtain ⟨e1, e2⟩ := whole_end H1.out q1 q2 hb
    clear q1 q2 hb Hw
    by_cases hn : n < 9223372036854775808
    · have Hend := Lib.hid (e1 hn)
      have wn : IntKind.i64.wrap (n : Int) = (n : Int) := by rw [IntKind.wrap_i64]; omega
      have p1 : (n : Int) < 9223372036854775808 := by omega
      clear e1 e2 hn hlt
      cases ok
      all_goals
        go_wp2
        go_ret2
        exact Hend.out
    · obtain ⟨z, hz⟩ : ∃ z, z = IntKind.i64.wrap (n : Int) := ⟨_, rfl⟩
      have Hend := Lib.hid (e2 (by omega) z (by rw [hz, IntKind.wrap_i64]; constructor <;> omega))
      have wn : IntKind.i64.wrap (n : Int) = z := hz.symm
      have p1 : decide ((n : Int) < 9223372036854775808) = false := decide_eq_false (by omega)
      clear e1 e2 hn hlt hz
      cases ok
      all_goals
        go_wp2
        go_ret2
        exact Hend.out

end Go.Proofs.YthpflfcgnaichaaDoor
