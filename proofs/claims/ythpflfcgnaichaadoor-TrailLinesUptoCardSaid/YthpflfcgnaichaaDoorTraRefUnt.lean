/-
The reference's untold: plain laws, digit at base sixteen.
-/
import Derived.Test.YthpflfcgnaichaaDoorTraRefWord
import Derived.Test.YthpflfcgnaichaaDoorTraTxtW
set_option linter.unusedVariables false
set_option linter.unusedSimpArgs false
namespace Go.Proofs.YthpflfcgnaichaaDoor
open Go Go.RowKit

def dig16 (c : UInt8) : Int := if 48 ≤ c.toNat ∧ c.toNat ≤ 57 then (c.toNat : Int) - 48 else if 97 ≤ c.toNat ∧ c.toNat ≤ 102 then (c.toNat : Int) - 87 else -1

theorem dig16_bnd (c : UInt8) : -1 ≤ dig16 c ∧ dig16 c ≤ 15 := by
  unfold dig16
  split
  · omega
  · split <;> omega

theorem dig16_hex : ∀ q : Nat, q < 16 → dig16 (hexC q) = (q : Int) := by decide +kernel

set_option maxHeartbeats 1000000 in
theorem digit16 (w : World) (c : UInt8) : Calls Tryd.prog 116 #[.int .u8 (c.toNat : Int), .int .i64 16] w fun r w' => r = .returned (.int .i64 (dig16 c)) ∧ w' = w := by
  have hlt := c.toNat_lt
  unfold dig16
  by_cases h1 : c.toNat < 48
  · rw [if_neg (by omega), if_neg (by omega)]
    have p1 : (c.toNat : Int) < 48 := by omega
    have p2 : (c.toNat : Int) < 97 := by omega
    clear hlt h1
    go_enter Tryd.func116, Tryd.ntmps116
    go_wp2
    go_ret
    exact ⟨rfl, rfl⟩
  · by_cases h2 : c.toNat ≤ 57
    · rw [if_pos ⟨by omega, h2⟩]
      have p1 : (48 : Int) ≤ (c.toNat : Int) := by omega
      have p2 : (c.toNat : Int) ≤ 57 := by omega
      have p3 : (c.toNat : Int) < 97 := by omega
      have w1 : IntKind.u8.wrap ((c.toNat : Int) - 48) = (c.toNat : Int) - 48 := by rw [IntKind.wrap_u8]; omega
      have w2 : IntKind.i64.wrap ((c.toNat : Int) - 48) = (c.toNat : Int) - 48 := by rw [IntKind.wrap_i64]; omega
      have p4 : ¬ 16 ≤ (c.toNat : Int) - 48 := by omega
      clear hlt h1 h2
      go_enter Tryd.func116, Tryd.ntmps116
      go_wp2
      go_ret
      exact ⟨rfl, rfl⟩
    · rw [if_neg (by omega)]
      have p1 : (48 : Int) ≤ (c.toNat : Int) := by omega
      have p2 : (57 : Int) < (c.toNat : Int) := by omega
      by_cases h3 : 97 ≤ c.toNat ∧ c.toNat ≤ 102
      · rw [if_pos h3]
        have p3 : (97 : Int) ≤ (c.toNat : Int) := by omega
        have p4 : (c.toNat : Int) ≤ 102 := by omega
        have w1 : IntKind.u8.wrap ((c.toNat : Int) - 97) = (c.toNat : Int) - 97 := by rw [IntKind.wrap_u8]; omega
        have w2 : IntKind.i64.wrap ((c.toNat : Int) - 97) = (c.toNat : Int) - 97 := by rw [IntKind.wrap_i64]; omega
        have w3 : wrap64 ((c.toNat : Int) - 97 + 10) = (c.toNat : Int) - 97 + 10 := by unfold wrap64; omega
        have p5 : ¬ 16 ≤ (c.toNat : Int) - 97 + 10 := by omega
        clear hlt h1 h2 h3
        go_enter Tryd.func116, Tryd.ntmps116
        go_wp2
        go_ret
        exact ⟨congrArg (fun z => Ending.returned (.int .i64 z)) (show (c.toNat : Int) - 97 + 10 = (c.toNat : Int) - 87 by omega), rfl⟩
      · rw [if_neg h3]
        have hcase : (c.toNat : Int) < 97 ∨ (97 ≤ (c.toNat : Int) ∧ 102 < (c.toNat : Int)) := by omega
        clear hlt h1 h2 h3
        rcases hcase with p3 | ⟨p3, p4⟩
        all_goals
          go_enter Tryd.func116, Tryd.ntmps116
          go_wp2
          go_ret
          exact ⟨rfl, rfl⟩

/-- So far l has been read out of s, k bytes of it: wherever s is a told form. -/
def UntA (s l : List UInt8) (k : Nat) : Prop := ∀ b t0, s = encSL b t0 → ∃ t2, s.drop k = encSL b t2 ∧ t0 = l ++ t2

theorem unt_first (s : List UInt8) : UntA s [] 0 := fun b t0 h => ⟨t0, h, rfl⟩

theorem encS_cases (b : Bool) (y : UInt8) : (encS b y = [y] ∧ y.toNat ≠ 37) ∨ encS b y = [37, hexC (y.toNat / 16), hexC (y.toNat % 16)] := by
  unfold encS
  split
  · rename_i h
    exact .inl ⟨rfl, h.2.2.2⟩
  · exact .inr rfl

theorem unt_head {s l : List UInt8} {k : Nat} {c : UInt8} (h : UntA s l k) (hc : s[k]? = some c) (b : Bool) (t0 : List UInt8) (hs : s = encSL b t0) : ∃ y t3, c :: s.drop (k + 1) = encS b y ++ encSL b t3 ∧ t0 = l ++ y :: t3 := by
  obtain ⟨t2, h1, h2⟩ := h b t0 hs
  rw [drop_at hc] at h1
  cases t2 with
  | nil => cases h1
  | cons y t3 => exact ⟨y, t3, h1, h2⟩

theorem unt_plain {s l : List UInt8} {k : Nat} {c : UInt8} (h : UntA s l k) (hc : s[k]? = some c) (hp : c.toNat ≠ 37) : UntA s (l ++ [c]) (k + 1) := fun b t0 hs => by
  obtain ⟨y, t3, h1, h2⟩ := unt_head h hc b t0 hs
  rcases encS_cases b y with ⟨e, _⟩ | e
  · rw [e] at h1
    injection h1 with h3 h4
    exact ⟨t3, h4, by rw [h2, h3]; simp⟩
  · rw [e] at h1
    injection h1 with h3 _
    exact absurd (by rw [h3]; rfl) hp

/-- What stands behind a stroke in a told form. -/
theorem unt_stroke {s l : List UInt8} {k : Nat} {c : UInt8} (h : UntA s l k) (hc : s[k]? = some c) (hp : c.toNat = 37) (b : Bool) (t0 : List UInt8) (hs : s = encSL b t0) : ∃ (y : UInt8) (t3 : List UInt8), s[k + 1]? = some (hexC (y.toNat / 16)) ∧ s[k + 2]? = some (hexC (y.toNat % 16)) ∧ s.drop (k + 3) = encSL b t3 ∧ t0 = l ++ y :: t3 := by
  obtain ⟨y, t3, h1, h2⟩ := unt_head h hc b t0 hs
  rcases encS_cases b y with ⟨e, he⟩ | e
  · rw [e] at h1
    injection h1 with h3 _
    exact absurd (by rw [← h3]; exact hp) he
  · rw [e] at h1
    injection h1 with _ h4
    have e1 : s[k + 1]? = some (hexC (y.toNat / 16)) := by
      have : (s.drop (k + 1))[0]? = some (hexC (y.toNat / 16)) := by rw [h4]; rfl
      simpa using this
    have e2 : s[k + 2]? = some (hexC (y.toNat % 16)) := by
      have : (s.drop (k + 1))[1]? = some (hexC (y.toNat % 16)) := by rw [h4]; rfl
      simpa using this
    refine ⟨y, t3, e1, e2, ?_, h2⟩
    have e3 : s.drop (k + 3) = (s.drop (k + 1)).drop 2 := by rw [List.drop_drop]
    rw [e3, h4]
    rfl

def packB (h x : UInt8) : UInt8 := UInt8.ofNat (16 * dig16 h + dig16 x).toNat

theorem unt_hex {s l : List UInt8} {k : Nat} {c h x : UInt8} (hA : UntA s l k) (hc : s[k]? = some c) (hp : c.toNat = 37) (hh : s[k + 1]? = some h) (hx : s[k + 2]? = some x) : UntA s (l ++ [packB h x]) (k + 3) := fun b t0 hs => by
  obtain ⟨y, t3, e1, e2, e3, e4⟩ := unt_stroke hA hc hp b t0 hs
  rw [hh] at e1
  rw [hx] at e2
  obtain rfl := Option.some.inj e1
  obtain rfl := Option.some.inj e2
  have hlt := y.toNat_lt
  refine ⟨t3, e3, ?_⟩
  rw [e4]
  have : packB (hexC (y.toNat / 16)) (hexC (y.toNat % 16)) = y := by
    unfold packB
    rw [dig16_hex _ (by omega), dig16_hex _ (by omega)]
    have e : (16 * ((y.toNat / 16 : Nat) : Int) + ((y.toNat % 16 : Nat) : Int)).toNat = y.toNat := by omega
    rw [e, UInt8.ofNat_toNat]
  rw [this]
  simp

theorem unt_none {s l : List UInt8} {k : Nat} {c : UInt8} (hA : UntA s l k) (hc : s[k]? = some c) (hp : c.toNat = 37) (hbad : s.length ≤ k + 2 ∨ ∃ h x, s[k + 1]? = some h ∧ s[k + 2]? = some x ∧ (dig16 h < 0 ∨ dig16 x < 0)) : ∀ b t0, s ≠ encSL b t0 := fun b t0 hs => by
  obtain ⟨y, t3, e1, e2, e3, e4⟩ := unt_stroke hA hc hp b t0 hs
  have hlt := y.toNat_lt
  rcases hbad with h | ⟨h, x, hh, hx, hd⟩
  · have := (List.getElem?_eq_some_iff.1 e2).1
    omega
  · rw [hh] at e1
    rw [hx] at e2
    obtain rfl := Option.some.inj e1
    obtain rfl := Option.some.inj e2
    rw [dig16_hex _ (by omega), dig16_hex _ (by omega)] at hd
    omega

/-- What untold answers. -/
def UntPost (w : World) (s : ByteArray) (r : Ending) (w' : World) : Prop :=
  ∃ (t : ByteArray) (ok : Bool), r = .returned (.tuple #[.string t, .bool ok]) ∧ t.size ≤ s.size ∧ (ok = true → toldB t = s) ∧ (∀ t0, s = toldB t0 → ok = true ∧ t = t0) ∧ Below w.heap.size w w'

theorem told_encS {s : ByteArray} (h1 : ¬ s = ⟨#[45]⟩) {t0 : ByteArray} (h : s = toldB t0) : ∃ b, s.data.toList = encSL b t0.data.toList := by
  by_cases h0 : t0 = ⟨#[]⟩
  · subst h0
    exact absurd h h1
  · refine ⟨!(t0.toList == [45]), ?_⟩
    rw [h]
    show toldL t0.data.toList = _
    exact (toldR h0 (by simp)).symm

theorem unt_bad {w w' : World} {s : ByteArray} (h1 : ¬ s = ⟨#[45]⟩) (h : ∀ b t0, s.data.toList ≠ encSL b t0) (hb : Below w.heap.size w w') : UntPost w s (.returned (.tuple #[.string ⟨#[]⟩, .bool false])) w' :=
  ⟨⟨#[]⟩, false, rfl, Nat.zero_le _, nofun, fun t0 ht => by
    obtain ⟨b, hb⟩ := told_encS h1 ht
    exact absurd hb (h b _), hb⟩

theorem unt_end {w w' : World} {s : ByteArray} {l : List UInt8} (h1 : ¬ s = ⟨#[45]⟩) (hA : UntA s.data.toList l s.size) (hl : l.length ≤ s.size) (hb : Below w.heap.size w w') : UntPost w s (.returned (.tuple #[.string ⟨l.toArray⟩, .bool ((toldB ⟨l.toArray⟩).toList == s.toList)])) w' := by
  refine ⟨_, _, rfl, by show l.toArray.size ≤ _; simpa using hl, fun h => bytes_eq h, fun t0 ht => ?_, hb⟩
  obtain ⟨b, hs⟩ := told_encS h1 ht
  obtain ⟨t2, e1, e2⟩ := hA b _ hs
  rw [List.drop_of_length_le (by rw [size_list]; exact Nat.le_refl _)] at e1
  have e3 : t2 = [] := by
    cases t2 with
    | nil => rfl
    | cons y t3 =>
      rcases encS_cases b y with ⟨e, _⟩ | e
      · rw [show encSL b (y :: t3) = encS b y ++ encSL b t3 from rfl, e] at e1; cases e1
      · rw [show encSL b (y :: t3) = encS b y ++ encSL b t3 from rfl, e] at e1; cases e1
  rw [e3, List.append_nil] at e2
  have e4 : (⟨l.toArray⟩ : ByteArray) = t0 := (ba_of e2).symm
  rw [e4, ht]
  exact ⟨by simp, rfl⟩

theorem pack_val {h x : UInt8} (h0 : 0 ≤ dig16 h) (x0 : 0 ≤ dig16 x) : 16 * dig16 h + dig16 x = ((packB h x).toNat : Int) ∧ 16 * dig16 h + dig16 x ≤ 255 := by
  have a := (dig16_bnd h).2
  have b := (dig16_bnd x).2
  have e : (packB h x).toNat = (16 * dig16 h + dig16 x).toNat := UInt8.toNat_ofNat_of_lt (by show _ < 256; omega)
  omega

end Go.Proofs.YthpflfcgnaichaaDoor
