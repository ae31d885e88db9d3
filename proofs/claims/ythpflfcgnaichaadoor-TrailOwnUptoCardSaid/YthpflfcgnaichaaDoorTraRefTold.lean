/-
The walk of the reference's Told.
-/
import Derived.Test.YthpflfcgnaichaaDoorTraRefDig
import Derived.Deep.QuietTactic
import Derived.BigQuiet
import Derived.Laws.DeepStrings4
set_option linter.unusedVariables false
set_option linter.unusedSimpArgs false
namespace Go.Proofs.YthpflfcgnaichaaDoor
open Go Go.RowKit

/-- One byte's form, of a text that is no lone stroke, or of one that is. -/
def encS (b : Bool) (c : UInt8) : List UInt8 := if b = true ∧ 32 < c.toNat ∧ c.toNat < 127 ∧ c.toNat ≠ 37 then [c] else [37, hexC (c.toNat / 16), hexC (c.toNat % 16)]

def encSL (b : Bool) (l : List UInt8) : List UInt8 := l.flatMap (encS b)

theorem encSL_true (l : List UInt8) : encSL true l = encL l := by
  unfold encSL encL
  congr
  funext c
  unfold encS encC
  simp

theorem encSL_next {b : Bool} {l : List UInt8} {k : Nat} {c : UInt8} (h : l[k]? = some c) : encSL b (l.take (k + 1)) = encSL b (l.take k) ++ encS b c := by
  rw [List.take_add_one, h]
  simp [encSL]

theorem encS_len (b : Bool) (c : UInt8) : (encS b c).length ≤ 3 := by
  unfold encS
  split <;> simp

theorem encSL_len (b : Bool) (l : List UInt8) : (encSL b l).length ≤ 3 * l.length := by
  induction l with
  | nil => exact Nat.le_refl _
  | cons c r ih =>
    show (encS b c ++ encSL b r).length ≤ _
    rw [List.length_append, List.length_cons]
    have := encS_len b c
    omega

theorem ext_one {s : ByteArray} {k : Nat} {c : UInt8} (h : s.data.toList[k]? = some c) : (s.extract k (k + 1)).data.toList = [c] := by
  obtain ⟨hk, he⟩ := List.getElem?_eq_some_iff.1 h
  rw [ByteArray.data_extract, Array.toList_extract, List.extract_eq_take_drop]
  rw [show k + 1 - k = 1 by omega, List.drop_eq_getElem_cons hk, he]
  rfl

theorem hex_ext : ∀ q : Nat, q < 16 → ((⟨#[48, 49, 50, 51, 52, 53, 54, 55, 56, 57, 97, 98, 99, 100, 101, 102]⟩ : ByteArray).extract q (q + 1)).data.toList = [hexC q] := by
  decide +kernel

theorem toldR {s : ByteArray} {b : Bool} (h0 : ¬ s = ⟨#[]⟩) (hb : (s.toList == [45]) = !b) : encSL b s.data.toList = toldL s.data.toList := by
  unfold toldL
  rw [if_neg (fun h => h0 (ByteArray.ext (Array.ext' h)))]
  cases b with
  | true =>
    rw [if_neg (fun h => by rw [ByteArray.toList_eq, h] at hb; exact absurd hb (by decide)), encSL_true]
  | false =>
    have h1 : s.data.toList = [45] := by
      rw [ByteArray.toList_eq] at hb
      exact eq_of_beq hb
    rw [if_pos h1, h1]
    decide +kernel

theorem list_size {s : ByteArray} {l : List UInt8} (h : s.data.toList = l) : s.size = l.length := by rw [← h, size_list]

theorem ba_of {s : ByteArray} {l : List UInt8} (h : s.data.toList = l) : s = ⟨l.toArray⟩ := ByteArray.ext (Array.ext' h)

theorem slice_at (s : ByteArray) (i : Nat) (h : i < s.size) (kd : IntKind) : ∀ w, (Instr.slice 9 (.string s) (some (.int kd (i : Int))) (some (.int kd ((i : Int) + 1))) none).run Tryd.prog w = .ok (.string (s.extract i (i + 1))) w := by
  intro w
  rw [run_slice_string_if (P := Tryd.prog) (w := w) _ s kd kd _ _ Tryd.underlying9, if_pos ⟨by omega, by omega⟩, if_pos ⟨by omega, by omega⟩]
  rfl

set_option maxHeartbeats 2000000 in
set_option maxRecDepth 20000 in
theorem rtold_walk (w : World) (s : ByteArray) (hs : s.size ≤ 40000000) :
    Calls Tryd.prog 40 #[.string s] w fun r w' => r = .returned (.string (toldB s)) ∧ Below w.heap.size w w' := by
  by_cases h0 : s = ⟨#[]⟩
  · subst h0
    go_enter Tryd.func40, Tryd.ntmps40
    go_wp2
    go_ret
    exact ⟨rfl, Below.refl _ _⟩
  have t0 := beq_no (l := []) (fun h => h0 (ByteArray.ext (Array.ext' h)))
  obtain ⟨b, hb⟩ : ∃ b : Bool, (s.toList == [45]) = !b := ⟨!(s.toList == [45]), by rw [Bool.not_not]⟩
  have Hb := Lib.hid hb
  have Hres := Lib.hid (toldR h0 hb)
  obtain ⟨n, hn⟩ : ∃ n, n = s.size := ⟨_, rfl⟩
  have Hn := Lib.hid hn
  have Hs := Lib.hid hs
  clear h0 hn hs hb
  go_enter Tryd.func40, Tryd.ntmps40
  go_wp2
  clear t0
  go_loopw [4, 5] (fun out i wr => ∃ (k nd : Nat) (L : ByteArray), out = .string L ∧ i = .int .i64 (k : Int) ∧ wr = w.drewN nd ∧ Hid (k ≤ n ∧ L.data.toList = encSL b (s.data.toList.take k))) (fun _ i _ => n - (intOf i).toNat)
  case atStart => exact ⟨0, 0, ⟨#[]⟩, rfl, rfl, rfl, Lib.hid ⟨Nat.zero_le _, rfl⟩⟩
  case round =>
    obtain ⟨k, nd, L, rfl, rfl, rfl, H⟩ := hrel
    have hn := Hn.out
    by_cases hkn : k < n
    · obtain ⟨c, hc⟩ : ∃ c, s.data.toList[k]? = some c := ⟨s.data.toList[k]'(by rw [Array.length_toList, ByteArray.size_data]; omega), List.getElem?_eq_getElem _⟩
      have k1 := idx_run .i64 hc
      have b1 : (k : Int) < (n : Int) := by omega
      have c1 : (k : Int) < (s.size : Int) := by omega
      have hs := Hs.out
      have wk : wrap64 ((k : Int) + 1) = (k : Int) + 1 := wrap_small2 (show k < 40000000000001 by omega)
      have Hms := Lib.hid (meas_step hkn wk)
      have Hgo := Lib.hid (go_step wk)
      have Hkn := Lib.hid hkn
      have hLl := H.out.2
      have hLs : L.size ≤ 120000000 := by
        rw [list_size hLl]
        have q1 := encSL_len b (s.data.toList.take k)
        have q2 : (s.data.toList.take k).length ≤ s.data.toList.length := by rw [List.length_take]; omega
        rw [size_list] at q2
        omega
      by_cases hp : b = true ∧ 32 < c.toNat ∧ c.toNat < 127 ∧ c.toNat ≠ 37
      · obtain ⟨rfl, hp1, hp2, hp3⟩ := hp
        have Hend := Lib.hid (show k + 1 ≤ n ∧ (L ++ s.extract k (k + 1)).data.toList = encSL true (s.data.toList.take (k + 1)) from ⟨hkn, by rw [cat_list, hLl, ext_one hc, encSL_next hc]; unfold encS; rw [if_pos ⟨rfl, hp1, hp2, hp3⟩]⟩)
        have a1 : ∀ w1, (Op.stringOp .add L (s.extract k (k + 1))).run Tryd.prog w1 = .ok (.string (L ++ s.extract k (k + 1))) w1 := fun w1 => run_string_add_sum w1 _ _ (by rw [list_size (ext_one hc)]; show L.size + 1 ≤ _; omega)
        have p1 : (33 : Int) ≤ (c.toNat : Int) := by omega
        have p2 : (c.toNat : Int) ≤ 126 := by omega
        have p3 : ((c.toNat : Int) != 37) = true := by simp; omega
        have p4 : (s.toList == [45]) = false := Hb.out
        have k3 := slice_at s k (by omega) .i64
        clear hn hc hkn hs hLl hLs hp1 hp2 hp3 H
        go_wp2
        go_roundw
        case rel => exact ⟨k + 1, nd, _, rfl, Hgo.out, rfl, Hend⟩
        case measure => exact Hms.out
      · obtain ⟨q, hq⟩ : ∃ q, q = c.toNat / 16 := ⟨_, rfl⟩
        obtain ⟨d, hd⟩ : ∃ d, d = c.toNat % 16 := ⟨_, rfl⟩
        have hc256 := c.toNat_lt
        have hq16 : q < 16 := by omega
        have hd16 : d < 16 := by omega
        have hqi : (c.toNat : Int) / 16 = (q : Int) := by omega
        have hqi2 : (c.toNat : Int).tdiv 16 = (q : Int) := by rw [Int.tdiv_eq_ediv_of_nonneg (by omega)]; exact hqi
        have hdi : (c.toNat : Int) % 16 = (d : Int) := by omega
        have hdi2 : (c.toNat : Int).tmod 16 = (d : Int) := by rw [Int.tmod_eq_emod_of_nonneg (by omega)]; exact hdi
        have hqw : IntKind.u8.wrap (q : Int) = (q : Int) := by rw [IntKind.wrap_u8]; omega
        have hqw1 : IntKind.u8.wrap ((q : Int) + 1) = (q : Int) + 1 := by rw [IntKind.wrap_u8]; omega
        have hdw : IntKind.u8.wrap (d : Int) = (d : Int) := by rw [IntKind.wrap_u8]; omega
        have hdw1 : IntKind.u8.wrap ((d : Int) + 1) = (d : Int) + 1 := by rw [IntKind.wrap_u8]; omega
        have eq1 : ((q : Int) + 1).toNat = q + 1 := by omega
        have ed1 : ((d : Int) + 1).toNat = d + 1 := by omega
        have gq1 : (q : Int) ≤ (q : Int) + 1 := by omega
        have gq2 : (q : Int) + 1 ≤ 16 := by omega
        have gd1 : (d : Int) ≤ (d : Int) + 1 := by omega
        have gd2 : (d : Int) + 1 ≤ 16 := by omega
        obtain ⟨hx, hhx⟩ : ∃ hx : ByteArray, hx = (⟨#[48, 49, 50, 51, 52, 53, 54, 55, 56, 57, 97, 98, 99, 100, 101, 102]⟩ : ByteArray).extract q (q + 1) := ⟨_, rfl⟩
        obtain ⟨hy, hhy⟩ : ∃ hy : ByteArray, hy = (⟨#[48, 49, 50, 51, 52, 53, 54, 55, 56, 57, 97, 98, 99, 100, 101, 102]⟩ : ByteArray).extract d (d + 1) := ⟨_, rfl⟩
        have lx := hex_ext q hq16
        have ly := hex_ext d hd16
        rw [← hhx] at lx
        rw [← hhy] at ly
        have a1 : ∀ w1, (Op.stringOp .add L ⟨#[37]⟩).run Tryd.prog w1 = .ok (.string (L ++ ⟨#[37]⟩)) w1 := fun w1 => run_string_add_sum w1 _ _ (by show L.size + 1 ≤ _; omega)
        have s1 : (L ++ (⟨#[37]⟩ : ByteArray)).size ≤ 120000001 := by rw [list_size (cat_list _ _), List.length_append, size_list]; show L.size + 1 ≤ _; omega
        have a2 : ∀ w1, (Op.stringOp .add (L ++ ⟨#[37]⟩) hx).run Tryd.prog w1 = .ok (.string (L ++ ⟨#[37]⟩ ++ hx)) w1 := fun w1 => run_string_add_sum w1 _ _ (by rw [list_size lx]; show _ + 1 ≤ _; omega)
        have s2 : (L ++ (⟨#[37]⟩ : ByteArray) ++ hx).size ≤ 120000002 := by rw [list_size (cat_list _ _), List.length_append, size_list, lx]; show _ + 1 ≤ _; omega
        have a3 : ∀ w1, (Op.stringOp .add (L ++ ⟨#[37]⟩ ++ hx) hy).run Tryd.prog w1 = .ok (.string (L ++ ⟨#[37]⟩ ++ hx ++ hy)) w1 := fun w1 => run_string_add_sum w1 _ _ (by rw [list_size ly]; show _ + 1 ≤ _; omega)
        have Hend := Lib.hid (show k + 1 ≤ n ∧ (L ++ ⟨#[37]⟩ ++ hx ++ hy).data.toList = encSL b (s.data.toList.take (k + 1)) from ⟨hkn, by
          rw [cat_list, cat_list, cat_list, lx, ly, hLl, encSL_next hc]
          unfold encS
          rw [if_neg hp, ← hq, ← hd]
          simp⟩)
        have k4 : ∀ w1, (Instr.slice 9 (.string ⟨#[48, 49, 50, 51, 52, 53, 54, 55, 56, 57, 97, 98, 99, 100, 101, 102]⟩) (some (.int .u8 (q : Int))) (some (.int .u8 ((q : Int) + 1))) none).run Tryd.prog w1 = .ok (.string hx) w1 := fun w1 => by rw [hhx]; exact slice_at ⟨#[48, 49, 50, 51, 52, 53, 54, 55, 56, 57, 97, 98, 99, 100, 101, 102]⟩ q hq16 .u8 w1
        have k5 : ∀ w1, (Instr.slice 9 (.string ⟨#[48, 49, 50, 51, 52, 53, 54, 55, 56, 57, 97, 98, 99, 100, 101, 102]⟩) (some (.int .u8 (d : Int))) (some (.int .u8 ((d : Int) + 1))) none).run Tryd.prog w1 = .ok (.string hy) w1 := fun w1 => by rw [hhy]; exact slice_at ⟨#[48, 49, 50, 51, 52, 53, 54, 55, 56, 57, 97, 98, 99, 100, 101, 102]⟩ d hd16 .u8 w1
        have hcase : (c.toNat : Int) < 33 ∨ (33 ≤ (c.toNat : Int) ∧ 126 < (c.toNat : Int)) ∨ (33 ≤ (c.toNat : Int) ∧ (c.toNat : Int) ≤ 126 ∧ ((c.toNat : Int) != 37) = false) ∨ (33 ≤ (c.toNat : Int) ∧ (c.toNat : Int) ≤ 126 ∧ ((c.toNat : Int) != 37) = true ∧ (s.toList == [45]) = true) := by
          by_cases q1 : c.toNat < 33
          · exact .inl (by omega)
          by_cases q2 : 126 < c.toNat
          · exact .inr (.inl ⟨by omega, by omega⟩)
          by_cases q3 : c.toNat = 37
          · exact .inr (.inr (.inl ⟨by omega, by omega, by rw [q3]; rfl⟩))
          · refine .inr (.inr (.inr ⟨by omega, by omega, by simp; omega, ?_⟩))
            cases hb : b with
            | true => exact absurd ⟨hb, by omega, by omega, q3⟩ hp
            | false => rw [Hb.out, hb]; rfl
        clear hn hc hkn hs hLl hLs hp H hq hd hc256 hq16 hd16 hqi hdi hhx hhy lx ly s1 s2
        rcases hcase with p1 | ⟨p1, p2⟩ | ⟨p1, p2, p3⟩ | ⟨p1, p2, p3, p4⟩
        all_goals
          go_wp2
          go_quiet (fail)
          go_wp2
          go_roundw
          case rel => exact ⟨k + 1, nd + nq, _, rfl, Hgo.out, by simp [World.drewN, Nat.add_assoc], Hend⟩
          case measure => exact Hms.out
    · have hL := H.out.2
      rw [List.take_of_length_le (by rw [Array.length_toList, ByteArray.size_data]; omega), Hres.out] at hL
      have HL := Lib.hid (ba_of hL)
      have b2 : (s.size : Int) ≤ (k : Int) := by omega
      clear hL hn H hkn
      go_wp2
      go_ret
      refine ⟨by rw [HL.out]; rfl, rfl, rfl, rfl, Nat.le_refl _, fun _ _ => rfl⟩

end Go.Proofs.YthpflfcgnaichaaDoor
