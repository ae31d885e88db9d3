/-
The walk of the reference's decimal.
-/
import Derived.Test.YtbmdbfidjdogmaaDoorScaRefInt
import Derived.Deep.Cut
set_option linter.unusedVariables false
set_option linter.unusedSimpArgs false
namespace Go.Proofs.YtbmdbfidjdogmaaDoor
open Go Go.RowKit

/-- The power that stands behind an 'e'; none: there is a fault. -/
def powR (powered : Bool) (tail : List UInt8) : Option Int :=
  if powered = true then
    if allD (minusL tail).1 = true ∧ (minusL tail).1.length ≤ 2 then some (if (minusL tail).2 = true then -(numN (minusL tail).1 : Int) else (numN (minusL tail).1 : Int)) else none
  else some 0

/-- The real that a text says: its number, its power of ten, its sign. -/
def decR (l : List UInt8) : Option (Nat × Int × Bool) :=
  let m := minusL l
  let c := cutL m.1 101
  let d := cutL c.1 46
  if d.2.2 = true ∧ wholeL d.1 = true ∧ allD d.2.1 = true then
    match powR c.2.2 c.2.1 with
    | some k => if numN (d.1 ++ d.2.1) ≤ 999999999999999 ∧ d.2.1.length ≤ 200 ∧ ¬ Bad (numN (d.1 ++ d.2.1)) (k - (d.2.1.length : Int)) then some (numN (d.1 ++ d.2.1), k - (d.2.1.length : Int), m.2) else none
    | none => none
  else none

theorem cutL_len {l a b : List UInt8} {c : UInt8} {ok : Bool} (h : cutL l c = (a, b, ok)) : a.length + b.length ≤ l.length := by
  unfold cutL at h
  split at h
  · simp only [Prod.mk.injEq] at h
    obtain ⟨rfl, rfl, _⟩ := h
    simp
  · simp only [Prod.mk.injEq] at h
    obtain ⟨rfl, rfl, _⟩ := h
    have e := List.takeWhile_append_dropWhile (p := fun x => x != c) (l := l)
    have := congrArg List.length e
    rw [List.length_append] at this
    rw [List.length_drop]
    omega

theorem numN_lt_acc : ∀ (l : List UInt8) (acc : Nat), l.all isD = true → l.foldl (fun n c => 10 * n + (c.toNat - 48)) acc < (acc + 1) * 10 ^ l.length := by
  intro l
  induction l with
  | nil => intro acc _; simp
  | cons c r ih =>
    intro acc h
    rw [List.all_cons] at h
    simp only [Bool.and_eq_true] at h
    have h2 := (isD_iff c).1 h.1
    have h1 := ih (10 * acc + (c.toNat - 48)) h.2
    rw [List.foldl_cons, List.length_cons, Nat.pow_succ]
    refine Nat.lt_of_lt_of_le h1 ?_
    have h3 : 10 * acc + (c.toNat - 48) + 1 ≤ (acc + 1) * 10 := by omega
    generalize 10 * acc + (c.toNat - 48) + 1 = z at *
    have := Nat.mul_le_mul_right (10 ^ r.length) h3
    rw [Nat.mul_assoc, Nat.mul_comm 10 (10 ^ r.length)] at this
    exact this

theorem numN_lt {l : List UInt8} (h : l.all isD = true) : numN l < 10 ^ l.length := by
  have := numN_lt_acc l 0 h
  simpa [numN] using this

theorem allD_all {l : List UInt8} (h : allD l = true) : l.all isD = true := by
  unfold allD at h
  simp only [Bool.and_eq_true] at h
  exact h.2

/-- A double with the other sign. -/
def negW (x : Nat) : Nat := Op.negFloat .f64 x

theorem neg_run (x : Nat) : ∀ w, (Op.unary .neg (.float .f64 x)).run Tryd.prog w = .ok (.float .f64 (negW x)) w := fun _ => rfl

def DecPostR (s : ByteArray) (w : World) (e : Ending) (w' : World) : Prop :=
  ∃ (x : Nat) (ok : Bool), e = .returned (.tuple #[.float .f64 x, .bool ok]) ∧ (∃ n, w' = w.drewN n) ∧
    (ok = false ∧ decR s.data.toList = none ∨ ok = true ∧ ∃ m k b, decR s.data.toList = some (m, k, b) ∧ x = if b = true then negW (scW m k) else scW m k)

set_option maxHeartbeats 1000000 in
theorem refDecimalText_walk (w : World) (s : ByteArray) (hmax : s.size ≤ maxLen) : Calls Tryd.prog 25 #[.string s] w fun e w' => DecPostR s w e w' := by
  have Hm := Lib.hid (minus_walk w s hmax)
  go_enter Tryd.func25, Tryd.ntmps25
  go_wp2_with fail
  refine Hm.out.mono ?_
  rintro e w1 ⟨r, below, rfl, hw, hmin, hsz⟩
  obtain rfl := hw.symm
  clear Hm
  have hrmax : r.size ≤ maxLen := Nat.le_trans hsz hmax
  have Hc := Lib.hid (cut_walk w r hrmax 101)
  go_wp2_with fail
  refine Hc.out.mono ?_
  rintro e w1 ⟨mant, tail, powered, rfl, ⟨n1, hw⟩, hcut, hs1, hs2⟩
  subst hw
  clear Hc
  have Hc := Lib.hid (cut_walk (w.drewN n1) mant (Nat.le_trans hs1 hrmax) 46)
  go_wp2_with fail
  refine Hc.out.mono ?_
  rintro e w1 ⟨a, b, dot, rfl, ⟨n2, hw⟩, hcut2, hs3, hs4⟩
  subst hw
  clear Hc
  rw [World.drewN_drewN]
  generalize n1 + n2 = n3
  have hamax : a.size ≤ maxLen := Nat.le_trans hs3 (Nat.le_trans hs1 hrmax)
  have hbmax : b.size ≤ maxLen := Nat.le_trans hs4 (Nat.le_trans hs1 hrmax)
  have htmax : tail.size ≤ maxLen := Nat.le_trans hs2 hrmax
  have hab : a.size + b.size ≤ maxLen := by
    have := cutL_len hcut2
    rw [size_list, size_list, size_list] at this
    exact Nat.le_trans this (Nat.le_trans hs1 hrmax)
  have hab2 : a.size + b.size ≤ 9223372036854775807 := by unfold maxLen at hab; omega
  have hnone : ∀ w', (∃ n, w' = w.drewN n) → decR s.data.toList = none → DecPostR s w (.returned (.tuple #[.float .f64 0, .bool false])) w' := fun w' hw h => ⟨0, false, rfl, hw, .inl ⟨rfl, h⟩⟩
  cases dot with
  | false =>
    have hres := hnone _ ⟨n3, rfl⟩ (by unfold decR; simp only [hmin, hcut, hcut2]; simp)
    clear hnone hmin hcut hcut2
    go_wp2
    go_ret2
    exact hres
  | true =>
    have Hwa := Lib.hid (whole_walk (w.drewN n3) a hamax _ rfl)
    cases hwa : wholeL a.data.toList with
    | false =>
      have hres := hnone _ ⟨n3, rfl⟩ (by unfold decR; simp only [hmin, hcut, hcut2, hwa]; simp)
      rw [hwa] at Hwa
      clear hnone hmin hcut hcut2 hwa
      go_wp2_with fail
      refine Hwa.out.mono ?_
      rintro e w1 ⟨rfl, hw⟩
      subst hw
      go_wp2
      go_ret2
      exact hres
    | true =>
      have Hdb := Lib.hid (refDigits_walk (w.drewN n3) b hbmax _ rfl)
      rw [hwa] at Hwa
      cases hdb : allD b.data.toList with
      | false =>
        have hres := hnone _ ⟨n3, rfl⟩ (by unfold decR; simp only [hmin, hcut, hcut2, hwa, hdb]; simp)
        rw [hdb] at Hdb
        clear hnone hmin hcut hcut2 hwa hdb
        go_wp2_with fail
        refine Hwa.out.mono ?_
        rintro e w1 ⟨rfl, hw⟩
        subst hw
        go_wp2_with fail
        refine Hdb.out.mono ?_
        rintro e w1 ⟨rfl, hw⟩
        subst hw
        go_wp2
        go_ret2
        exact hres
      | true =>
        rw [hdb] at Hdb
        have Hall := Lib.hid (And.intro hmin (And.intro hcut (And.intro hcut2 (And.intro hwa hdb))))
        have Hnone := Lib.hid hnone
        clear hnone hmin hcut hcut2 hwa hdb
        go_wp2_with fail
        refine Hwa.out.mono ?_
        rintro e w1 ⟨rfl, hw⟩
        subst hw
        go_wp2_with fail
        refine Hdb.out.mono ?_
        rintro e w1 ⟨rfl, hw⟩
        subst hw
        clear Hwa Hdb
        go_upto_if 50 with (fail)
        go_cut [12] from 50 (fun s12 wc' => ∃ k : Int, s12 = .int .i64 k ∧ wc' = w.drewN n3 ∧ -99 ≤ k ∧ k ≤ 99 ∧ Hid (powR powered tail.data.toList = some k))
        case first =>
          cases powered with
          | false =>
            go_wp2
            go_meet
            case rel => exact ⟨0, (by first | rfl | trivial), (by first | rfl | trivial), by omega, by omega, rfl⟩
          | true =>
            have Hm := Lib.hid (minus_walk (w.drewN n3) tail htmax)
            go_wp2_with fail
            refine Hm.out.mono ?_
            rintro e w1 ⟨p, down, rfl, hw, hmin2, hsz2⟩
            subst hw
            clear Hm
            have hpmax : p.size ≤ maxLen := Nat.le_trans hsz2 htmax
            have Hdp := Lib.hid (refDigits_walk (w.drewN n3) p hpmax _ rfl)
            cases hdp : allD p.data.toList with
            | false =>
              rw [hdp] at Hdp
              have hres := Hnone.out _ ⟨n3, rfl⟩ (by obtain ⟨q1, q2, q3, q4, q5⟩ := Hall.out; unfold decR powR; simp only [q1, q2, q3, q4, q5, hmin2, hdp]; simp)
              clear hmin2 hdp
              go_wp2_with fail
              refine Hdp.out.mono ?_
              rintro e w1 ⟨rfl, hw⟩
              subst hw
              go_wp2
              go_ret2
              exact hres
            | true =>
              rw [hdp] at Hdp
              by_cases hl2 : p.size ≤ 2
              · have hl2i : ¬ (2 : Int) < (p.size : Int) := by omega
                have hnum := numN_lt (allD_all hdp)
                rw [size_list] at hnum
                have hn100 : numN p.data.toList < 100 := Nat.lt_of_lt_of_le hnum (Nat.pow_le_pow_right (by decide) hl2)
                obtain ⟨n, hn⟩ : ∃ n, n = numN p.data.toList := ⟨_, rfl⟩
                have Hn := Lib.hid (number_walk (w.drewN n3) p hpmax 99 (by decide) (by decide) (allD_all hdp) n true (decide_eq_true (by omega)) (by rw [if_pos rfl, hn]))
                have hpow : ∀ k : Int, k = (if down = true then -(n : Int) else (n : Int)) → powR true tail.data.toList = some k := by
                  intro k hk
                  unfold powR
                  rw [if_pos rfl]
                  simp only [hmin2, hdp, size_list]
                  rw [if_pos ⟨by first | rfl | trivial, hl2⟩, ← hn, hk]
                have Hpow := Lib.hid hpow
                have hn2 : n < 100 := by omega
                clear hmin2 hdp hnum hn100 hn hpow
                go_wp2_with fail
                refine Hdp.out.mono ?_
                rintro e w1 ⟨rfl, hw⟩
                subst hw
                go_wp2_with fail
                refine Hn.out.mono ?_
                rintro e w1 ⟨rfl, hw⟩
                subst hw
                clear Hdp Hn
                cases down with
                | false =>
                  go_wp2
                  go_meet
                  case rel => exact ⟨(n : Int), by first | rfl | (congr 1), (by first | rfl | trivial), by omega, by omega, Hpow.out _ (by simp)⟩
                | true =>
                  go_wp2
                  go_meet
                  case rel => exact ⟨-(n : Int), by first | rfl | (congr 1), (by first | rfl | trivial), by omega, by omega, Hpow.out _ (by simp)⟩
              · have hl2i : (2 : Int) < (p.size : Int) := by omega
                have hres := Hnone.out _ ⟨n3, rfl⟩ (by obtain ⟨q1, q2, q3, q4, q5⟩ := Hall.out; unfold decR powR; simp only [q1, q2, q3, q4, q5, hmin2, hdp, size_list]; simp [hl2])
                clear hmin2 hdp
                go_wp2_with fail
                refine Hdp.out.mono ?_
                rintro e w1 ⟨rfl, hw⟩
                subst hw
                go_wp2
                go_ret2
                exact hres
        case rest =>
          obtain ⟨k, rfl, rfl, hk1, hk2, hpow⟩ := hcut
          have hablist : (a ++ b).data.toList = a.data.toList ++ b.data.toList := ByteArray.toList_data_append
          have habsize : (a ++ b).size = a.size + b.size := by rw [← size_list, hablist, List.length_append, size_list, size_list]
          have haball : (a ++ b).data.toList.all isD = true := by
            obtain ⟨_, _, _, q4, q5⟩ := Hall.out
            rw [hablist, List.all_append, whole_all q4, allD_all q5]; rfl
          have habmax : (a ++ b).size ≤ maxLen := by rw [habsize]; exact hab
          have Hdec := Lib.hid (show ∀ P : Prop, True → True from fun _ _ => trivial)
          clear Hdec
          cases hok : decide (numN (a ++ b).data.toList ≤ 999999999999999) with
          | false =>
            have Hn := Lib.hid (number_walk (w.drewN n3) (a ++ b) habmax 999999999999999 (by decide) (by decide) haball 0 false hok rfl)
            have hres := Hnone.out _ ⟨n3, rfl⟩ (by
              obtain ⟨q1, q2, q3, q4, q5⟩ := Hall.out
              have q6 := of_decide_eq_false hok
              rw [hablist] at q6
              unfold decR
              simp only [q1, q2, q3, q4, q5, hpow.out]
              rw [if_pos (by simp), if_neg (fun h => q6 h.1)])
            clear hok haball hpow
            go_wp2_with fail
            refine Hn.out.mono ?_
            rintro e w1 ⟨rfl, hw⟩
            subst hw
            go_wp2
            go_ret2
            exact hres
          | true =>
            obtain ⟨m, hm⟩ : ∃ m, m = numN (a ++ b).data.toList := ⟨_, rfl⟩
            have hmle := of_decide_eq_true hok
            rw [← hm] at hmle
            have Hn := Lib.hid (number_walk (w.drewN n3) (a ++ b) habmax 999999999999999 (by decide) (by decide) haball m true hok (by rw [if_pos rfl, hm]))
            by_cases hl2 : b.size ≤ 200
            · have hl2i : ¬ (200 : Int) < (b.size : Int) := by omega
              obtain ⟨kb, hkb⟩ : ∃ kb : Int, kb = k - (b.size : Int) := ⟨_, rfl⟩
              have hdec : decR s.data.toList = if ¬ Bad m kb then some (m, kb, below) else none := by
                obtain ⟨q1, q2, q3, q4, q5⟩ := Hall.out
                unfold decR
                simp only [q1, q2, q3, q4, q5, hpow.out]
                rw [if_pos (by simp), ← hablist, ← hm, size_list, ← hkb]
                by_cases hbd : Bad m kb
                · rw [if_neg (fun h => h.2.2 hbd), if_neg (fun h => h hbd)]
                · rw [if_pos ⟨hmle, hl2, hbd⟩, if_pos hbd]
              have Hs := Lib.hid (refScaled_walk (w.drewN n3) m (k - (b.size : Int)))
              rw [hkb] at hdec
              by_cases hbd : Bad m (k - (b.size : Int))
              · rw [if_neg (fun h => h hbd)] at hdec
                have hE : (scE m (k - (b.size : Int)) != 0) = true := by unfold scE; rw [if_pos hbd]; rfl
                have hres := Hnone.out _ ⟨n3, rfl⟩ hdec
                clear hok haball hpow hm hmle hdec hkb hbd
                go_wp2_with fail
                refine Hn.out.mono ?_
                rintro e w1 ⟨rfl, hw⟩
                subst hw
                go_wp2_with fail
                refine Hs.out.mono ?_
                rintro e w1 ⟨rfl, hw⟩
                subst hw
                go_wp2
                go_ret2
                exact hres
              · rw [if_pos hbd] at hdec
                have hE : (scE m (k - (b.size : Int)) != 0) = false := by unfold scE; rw [if_neg hbd]; rfl
                have hR : scR m (k - (b.size : Int)) = scW m (k - (b.size : Int)) := if_neg hbd
                have Hd := Lib.hid (And.intro hdec hR)
                clear hok haball hpow hm hmle hdec hkb hbd hR
                go_wp2_with fail
                refine Hn.out.mono ?_
                rintro e w1 ⟨rfl, hw⟩
                subst hw
                go_wp2_with fail
                refine Hs.out.mono ?_
                rintro e w1 ⟨rfl, hw⟩
                subst hw
                clear Hn Hs
                cases below with
                | false =>
                  go_wp2
                  go_ret2
                  exact ⟨_, true, rfl, ⟨n3, rfl⟩, .inr ⟨rfl, _, _, _, Hd.out.1, Hd.out.2⟩⟩
                | true =>
                  have hng := neg_run (scR m (k - (b.size : Int)))
                  go_wp2
                  go_ret2
                  exact ⟨_, true, rfl, ⟨n3, rfl⟩, .inr ⟨rfl, _, _, _, Hd.out.1, by rw [if_pos rfl, Hd.out.2]⟩⟩
            · have hl2i : (200 : Int) < (b.size : Int) := by omega
              have hres := Hnone.out _ ⟨n3, rfl⟩ (by
                obtain ⟨q1, q2, q3, q4, q5⟩ := Hall.out
                unfold decR
                simp only [q1, q2, q3, q4, q5, hpow.out]
                rw [if_pos (by simp), if_neg (fun h => hl2 (by rw [← size_list]; exact h.2.1))])
              clear hok haball hpow hm hmle
              go_wp2_with fail
              refine Hn.out.mono ?_
              rintro e w1 ⟨rfl, hw⟩
              subst hw
              go_wp2
              go_ret2
              exact hres

end Go.Proofs.YtbmdbfidjdogmaaDoor
