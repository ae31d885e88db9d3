/-
The program's Parse: the entries that the text says, or where it says none.
-/
import Derived.Test.YthpflfcgnaichaaDoorTraEntB
import Derived.Test.YthpflfcgnaichaaDoorTraPR
import Derived.Test.YthpflfcgnaichaaDoorTraLog
set_option linter.unusedVariables false
set_option linter.unusedSimpArgs false
namespace Go.Proofs.YthpflfcgnaichaaDoor
open Go Go.RowKit

abbrev PT : TypeId := 38

def ParsePost (w : World) (l : List UInt8) (r : Ending) (w' : World) : Prop :=
  ∃ es b, PR l es b ∧ Below w.heap.size w w' ∧
    ((b = true ∧ ∃ ao c, r = .returned (.tuple #[.slice ao es.length c, .int .i64 0, .int .i64 0]) ∧ EntRow w' 38 (.slice ao es.length c) es ∧ (∀ g, (Value.slice ao es.length c).ownBlock = some g → w.heap.size ≤ g)) ∨
     (b = false ∧ r = .returned (.tuple #[.slice none 0 0, .int .i64 (es.length : Int), .int .i64 2])))

/-- Ahead of a round: es are read, r is left. -/
structure PW2 (w wr : World) (l : List UInt8) (r : ByteArray) (ao : Option Addr) (n c : Nat) (es : List Ent) : Prop where
  below : Below w.heap.size w wr
  len : n = es.length
  row : EntRow wr 38 (.slice ao n c) es
  new : ∀ g, (Value.slice ao n c).ownBlock = some g → w.heap.size ≤ g
  left : PRest l es r.data.toList
  room : 15 * n + r.size ≤ 1200000000
  seg : Seg 40000000 r.data.toList

theorem PW2.later {w wr w2 : World} {l : List UInt8} {r : ByteArray} {ao : Option Addr} {n c : Nat} {es : List Ent} (h : PW2 w wr l r ao n c es) (hb : Below wr.heap.size wr w2) : PW2 w w2 l r ao n c es :=
  ⟨h.below.trans (hb.mono h.below.size), h.len, below_row h.row hb, h.new, h.left, h.room, h.seg⟩

theorem PW2.app {w wr w2 : World} {l : List UInt8} {r y : ByteArray} {x : List UInt8} {ao ao' : Option Addr} {n c c' : Nat} {es : List Ent} {e : Ent} {o : Obj} (h : PW2 w wr l r ao n c es)
    (hr : EntRow w2 38 (.slice ao' (n + 1) c') (es ++ [e])) (hg : (wr.alloc o).grownBy w2 (Value.slice ao n c).ownBlock) (hn : ∀ g, (Value.slice ao' (n + 1) c').ownBlock = some g → (Value.slice ao n c).ownBlock = some g ∨ (wr.alloc o).heap.size ≤ g)
    (hx : ¬ (10 : UInt8) ∈ x) (hi : IsL x e) (hl : r.data.toList = x ++ 10 :: y.data.toList) : PW2 w w2 l y ao' (n + 1) c' (es ++ [e]) := by
  have hm : Mod (fun k => w.heap.size ≤ k) w w2 := ((Mod.ofBelow (h.below.alloc h.below.size o) (fun k _ hk => hk)).grown hg (fun k hk _ => h.new k hk))
  refine ⟨hm.below (Nat.le_refl _) (fun k hk => hk), by rw [List.length_append, ← h.len]; rfl, hr, fun g hg' => ?_, (hl ▸ h.left).next hx hi, ?_, ?_⟩
  · rcases hn g hg' with h1 | h1
    · exact h.new g h1
    · have := h.below.size
      simp at h1
      omega
  · have h1 : r.size = r.data.toList.length := (size_list r).symm
    have h2 : y.size = y.data.toList.length := (size_list y).symm
    rw [hl, List.length_append, List.length_cons] at h1
    have := h.room
    have := hi.len
    omega
  · exact ((hl ▸ h.seg).front hx).2

theorem parse_ok_end {w wr : World} {l : List UInt8} {r : ByteArray} {ao : Option Addr} {n c : Nat} {es : List Ent} (h : PW2 w wr l r ao n c es) (hr : r = ⟨#[]⟩) : ParsePost w l (.returned (.tuple #[.slice ao n c, .int .i64 0, .int .i64 0])) wr := by
  subst hr
  have h1 := h.left [] true .done
  rw [List.append_nil] at h1
  have hl := h.len
  subst hl
  exact ⟨es, true, h1, h.below, .inl ⟨rfl, ao, c, rfl, h.row, h.new⟩⟩

theorem parse_bad_end {w wr w2 : World} {l : List UInt8} {r : ByteArray} {ao : Option Addr} {n c : Nat} {es : List Ent} (h : PW2 w wr l r ao n c es) (hb : Below wr.heap.size wr w2) (hr : PR r.data.toList [] false) : ParsePost w l (.returned (.tuple #[.slice none 0 0, .int .i64 (n : Int), .int .i64 2])) w2 := by
  have h1 := h.left [] false hr
  rw [List.append_nil] at h1
  exact ⟨es, false, h1, h.below.trans (hb.mono h.below.size), .inr ⟨rfl, by rw [h.len]⟩⟩

theorem bdN {B : Nat} {a w : World} (h : Below B a w) (n : Nat) : Below B a (w.drewN n) := ⟨h.os, h.tape, h.output, h.size, h.block⟩

def MeasP (t : Value) : Nat := match t with
  | .string r => r.size
  | _ => 0

theorem meas_cut {r y : ByteArray} {x : List UInt8} (hl : r.data.toList = x ++ 10 :: y.data.toList) : MeasP (.string y) < MeasP (.string r) := by
  show y.size < r.size
  rw [← size_list r, ← size_list y, hl]
  simp
  omega

set_option maxHeartbeats 2000000 in
set_option maxRecDepth 20000 in
theorem parse_c (w : World) (s : ByteArray) (hs : s.size ≤ 1200000000) (hseg : Seg 40000000 s.data.toList) (hg : Glob w) (htab : Tab w) : Calls Tryd.prog 27 #[.string s] w (ParsePost w s.data.toList) := by
  have Hg := Lib.hid hg
  have Ht := Lib.hid htab
  have H0 := Lib.hid (show PW2 w w s.data.toList s none 0 0 [] from ⟨Below.refl _ _, rfl, World.ownsRow_nil _ _ _ _, nofun, PRest.first _, by omega, hseg⟩)
  clear hg htab hs hseg
  go_enter Tryd.func27, Tryd.ntmps27
  go_wp2
  go_loopw [0, 5] (fun t v wr => ∃ (r : ByteArray) (ao : Option Addr) (n c : Nat) (es : List Ent), t = .string r ∧ v = .slice ao n c ∧ Hid (PW2 w wr s.data.toList r ao n c es)) (fun t _ _ => MeasP t)
  case atStart => exact ⟨s, none, 0, 0, [], rfl, rfl, H0⟩
  case round =>
    obtain ⟨r, ao, n, c, es, rfl, rfl, H⟩ := hrel
    clear H0
    by_cases hr : r = ⟨#[]⟩
    · have Hend := Lib.hid (parse_ok_end H.out hr)
      have t1 : r.toList = [] := by rw [hr, Lib.toList_data]
      have t2 : (!r.toList.isEmpty) = false := by rw [t1]; rfl
      clear hr H
      go_wp2
      go_ret3
      exact Hend.out
    · have t1 : (!r.toList.isEmpty) = true := by
        rw [Lib.toList_data]
        cases hq : r.data.toList with
        | nil => exact absurd (ByteArray.ext (Array.ext' hq)) hr
        | cons a b => rfl
      obtain ⟨m, hm⟩ := (glob_later Hg.out H.out.below).max
      have hrs : r.size ≤ 1200000000 := by have := H.out.room; omega
      rcases cut_nl r.data.toList with ⟨x, y, hl, hx, hc⟩ | ⟨hn, hc⟩
      · obtain ⟨yb, hyb⟩ : ∃ yb : ByteArray, yb = ⟨y.toArray⟩ := ⟨_, rfl⟩
        obtain ⟨xb, hxb⟩ : ∃ xb : ByteArray, xb = ⟨x.toArray⟩ := ⟨_, rfl⟩
        have ey : yb.data.toList = y := by rw [hyb]
        have ex : xb.data.toList = x := by rw [hxb]
        have hcut : Calls Tryd.prog 42 #[.string r, .string ⟨#[10]⟩] wr fun e w' => e = .returned (.tuple #[.string xb, .string yb, .bool true]) ∧ ∃ n, w' = wr.drewN n :=
          (Tryd.strings_Cut r ⟨#[10]⟩ m wr (by omega) hm).mono fun e w' ⟨he, hw⟩ => ⟨by rw [he]; show Ending.returned (.tuple #[.string ⟨(Lib.cut r.data.toList [10]).1.toArray⟩, .string ⟨(Lib.cut r.data.toList [10]).2.1.toArray⟩, .bool (Lib.cut r.data.toList [10]).2.2]) = _; rw [hc, hxb, hyb], hw⟩
        have Hcut := Lib.hid hcut
        have hxs : xb.size ≤ 40000000 := by
          rw [← size_list, ex]
          exact ((hl ▸ H.out.seg).front hx).1
        have He := Lib.hid (fun k => entry_c (wr.drewN k) xb hxs (glob_later Hg.out (bdN H.out.below k)) (tab_later Ht.out (bdN H.out.below k)))
        have hl2 : r.data.toList = x ++ 10 :: yb.data.toList := by rw [ey]; exact hl
        have Hbad := Lib.hid (fun k w2 (hb : Below (wr.drewN k).heap.size (wr.drewN k) w2) (h2 : ∀ e0, ¬ IsL xb.data.toList e0) => parse_bad_end (H.out.later ((bdN (Below.refl _ wr) k).trans hb)) (Below.refl _ w2) (hl ▸ PR.bad hx (ex ▸ h2)))
        have Hlat := Lib.hid (fun k w2 (hb : Below (wr.drewN k).heap.size (wr.drewN k) w2) => H.out.later ((bdN (Below.refl _ wr) k).trans hb))
        have Hms := Lib.hid (meas_cut hl2)
        have Hx := Lib.hid hx
        have Hex := Lib.hid ex
        have Hl2 := Lib.hid hl2
        clear hcut hc hl hx hxs hl2 ey ex hyb hxb hm hrs H hr Hg Ht
        go_wp2_with fail
        refine Hcut.out.mono ?_
        rintro r0 w1 ⟨rfl, k, rfl⟩
        go_wp2_with fail
        refine (He.out k).mono ?_
        rintro r1 w2 ⟨e, ok, rfl, hb, h1, h2⟩
        cases ok
        · have Hend := Lib.hid (Hbad.out k _ (hb.alloc hb.size (Obj15 e 38)) (h2 rfl))
          clear h1 h2 hb Hbad Hlat Hms Hx Hex Hl2 He Hcut
          go_wp2
          go_ret3
          exact Hend.out
        · have Hi := Lib.hid (h1 rfl)
          have HL := Lib.hid (Hlat.out k _ (hb.alloc hb.size (Obj15 e 38)))
          have Hrow := Lib.hid (fun o => (HL.out.later ((Below.refl _ _).alloc (Nat.le_refl _) o)).row)
          have Hlen := Lib.hid (show es.length ≤ 100000000 ∧ n + 1 = es.length + 1 from by have h3 := HL.out.len; have h4 := HL.out.room; omega)
          have Happ := Lib.hid (fun ao' c' w3 o hr hg hn => HL.out.app (y := yb) (x := x) (ao' := ao') (c' := c') (w2 := w3) (e := e) (o := o) hr hg hn Hx.out (Hex.out ▸ Hi.out) Hl2.out)
          have Hnews := Lib.hid (show ∀ j u, e.cells[j]? = some u → ((w2.alloc (Obj.cells #[.int .i64 e.number, .int .i64 e.version, .int .i64 e.epoch, .string e.method, .string e.host, .string e.path, .int .u64 (e.a : Int), .int .u64 (e.b : Int), .int .i64 e.kind, .int .i64 e.status, .string e.route, .int .i64 e.rule, .string e.service, .string e.endp, .int .i64 e.fin] 38)).alloc (Obj.cells #[.int .i64 e.number, .int .i64 e.version, .int .i64 e.epoch, .string e.method, .string e.host, .string e.path, .int .u64 (e.a : Int), .int .u64 (e.b : Int), .int .i64 e.kind, .int .i64 e.status, .string e.route, .int .i64 e.rule, .string e.service, .string e.endp, .int .i64 e.fin] 38)).cell? ((⟨w2.heap.size + 1, 0, none⟩ : Addr).add j) = some u from by
            have h5 := news_new (w2.alloc (Obj.cells #[.int .i64 e.number, .int .i64 e.version, .int .i64 e.epoch, .string e.method, .string e.host, .string e.path, .int .u64 (e.a : Int), .int .u64 (e.b : Int), .int .i64 e.kind, .int .i64 e.status, .string e.route, .int .i64 e.rule, .string e.service, .string e.endp, .int .i64 e.fin] 38)) e 38
            have e5 : (w2.alloc (Obj.cells #[.int .i64 e.number, .int .i64 e.version, .int .i64 e.epoch, .string e.method, .string e.host, .string e.path, .int .u64 (e.a : Int), .int .u64 (e.b : Int), .int .i64 e.kind, .int .i64 e.status, .string e.route, .int .i64 e.rule, .string e.service, .string e.endp, .int .i64 e.fin] 38)).heap.size = w2.heap.size + 1 := by simp
            rw [e5] at h5
            exact h5)
          clear h1 h2 hb Hbad Hlat He Hcut Hx Hex Hi Hl2 HL
          unfold Obj15 at Hrow Happ
          go_wp2_with (at_builtin; refine pappend rfl _ _ rfl (.slice ao n c) es rfl (Hrow.out _) (w2.heap.size + 1) e rfl Hnews.out Hlen.out.1 (n + 1) Hlen.out.2 ?_; intro ao' c' w3 hr3 hg3 hn3; have HN := Lib.hid (Happ.out ao' c' w3 _ hr3 hg3 hn3); clear hr3 hg3 hn3)
          go_roundw
          case rel => exact ⟨yb, ao', n + 1, c', es ++ [e], rfl, rfl, HN⟩
          case measure => exact Hms.out
      · have hcut : Calls Tryd.prog 42 #[.string r, .string ⟨#[10]⟩] wr fun e w' => e = .returned (.tuple #[.string r, .string ⟨#[]⟩, .bool false]) ∧ ∃ n, w' = wr.drewN n :=
          (Tryd.strings_Cut r ⟨#[10]⟩ m wr (by omega) hm).mono fun e w' ⟨he, hw⟩ => ⟨by rw [he]; show Ending.returned (.tuple #[.string ⟨(Lib.cut r.data.toList [10]).1.toArray⟩, .string ⟨(Lib.cut r.data.toList [10]).2.1.toArray⟩, .bool (Lib.cut r.data.toList [10]).2.2]) = _; rw [hc], hw⟩
        have Hcut := Lib.hid hcut
        have hrl : r.size ≤ 40000000 := by
          rw [← size_list]
          exact H.out.seg.only hn
        have He := Lib.hid (fun k => entry_c (wr.drewN k) r hrl (glob_later Hg.out (bdN H.out.below k)) (tab_later Ht.out (bdN H.out.below k)))
        have Hbad := Lib.hid (fun k w2 (hb : Below (wr.drewN k).heap.size (wr.drewN k) w2) => parse_bad_end (H.out.later ((bdN (Below.refl _ wr) k).trans hb)) (Below.refl _ w2) (PR.cut (fun e => hr (ByteArray.ext (Array.ext' e))) hn))
        clear hcut hc hn hm hrs hrl H hr Hg Ht
        go_wp2_with fail
        refine Hcut.out.mono ?_
        rintro r0 w1 ⟨rfl, k, rfl⟩
        go_wp2_with fail
        refine (He.out k).mono ?_
        rintro r1 w2 ⟨e, ok, rfl, hb, h1, h2⟩
        have Hend := Lib.hid (Hbad.out k _ (hb.alloc hb.size (Obj15 e 38)))
        clear h1 h2 hb Hbad He Hcut
        cases ok
        all_goals
          go_wp2
          go_ret3
          exact Hend.out

end Go.Proofs.YthpflfcgnaichaaDoor
