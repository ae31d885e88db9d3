/-
The walk of Text: every entry's line into one builder.
-/
import Derived.Test.YthpflfcgnaichaaDoorTraLine
set_option linter.unusedVariables false
set_option linter.unusedSimpArgs false
namespace Go.Proofs.YthpflfcgnaichaaDoor
open Go Go.RowKit

/-- A log's text. -/
def textL (xs : List Ent) : List UInt8 := xs.flatMap lineL

theorem text_next {xs : List Ent} {k : Nat} {e : Ent} (h : xs[k]? = some e) : textL (xs.take (k + 1)) = textL (xs.take k) ++ lineL e := by
  rw [List.take_add_one, h]
  simp [textL]

theorem line_len {x : Ent} (h : x.Fit) : (lineL x).length ≤ 2000000001 := by
  unfold lineL
  rw [List.length_append]
  have := join_len h
  simp only [List.length_cons, List.length_nil]
  omega

theorem text_len : ∀ xs : List Ent, (∀ x ∈ xs, x.Fit) → (textL xs).length ≤ 2000000001 * xs.length
  | [], _ => Nat.zero_le _
  | x :: r, h => by
    have h1 := text_len r fun y hy => h y (List.mem_cons_of_mem _ hy)
    have h2 := line_len (h x (List.mem_cons_self ..))
    show (lineL x ++ textL r).length ≤ _
    rw [List.length_append, List.length_cons]
    omega

theorem builderAt_later {T e : TypeId} {B b : Nat} {p : Value} {bs : List Value} {w w2 : World} (h : Lib.BuilderAtF T e B b p bs w) (hb : Below w.heap.size w w2) : Lib.BuilderAtF T e B b p bs w2 := by
  have hlt := h.lt
  obtain ⟨hB, v, hv, hown, hne⟩ := h
  refine ⟨hB, v, (hb.block b hlt).trans hv, ⟨hown.1, ?_⟩, hne⟩
  rcases hown.2 with hn | ⟨g, cap, cur, fz, hv2, hbg, hg, rest⟩
  · exact .inl hn
  · exact .inr ⟨g, cap, cur, fz, hv2, hbg, (hb.block g (lt_of_heap hg)).trans hg, rest⟩

theorem PW.later {w wr w2 : World} {l : List UInt8} (h : PW w wr l) (hb : Below wr.heap.size wr w2) : PW w w2 l :=
  ⟨h.build.elim (fun x => .inl (builderAt_later x hb)) (fun x => .inr (builderAt_later x hb)), h.below.trans (hb.mono h.below.size)⟩

/-- The memory while lines are gathered. -/
structure TW (w wr : World) (ev : Value) (xs : List Ent) (l : List UInt8) : Prop where
  pw : PW w wr l
  row : EntRow wr 38 ev xs

theorem TW.later {w wr w2 : World} {ev : Value} {xs : List Ent} {l : List UInt8} (h : TW w wr ev xs l) (hb : Below wr.heap.size wr w2) : TW w w2 ev xs l :=
  ⟨h.pw.later hb, ownsRow_frame h.row fun g hg => hb.block g (h.row.lt g hg).2⟩

theorem TW.alloc {w wr : World} {ev : Value} {xs : List Ent} {l : List UInt8} (h : TW w wr ev xs l) (o : Obj) : TW w (wr.alloc o) ev xs l :=
  h.later ((Below.refl _ wr).alloc (Nat.le_refl _) o)

theorem row_kind {w : World} {T : TypeId} {v : Value} {xs : List Ent} (h : EntRow w T v xs) : ∀ g, v.ownBlock = some g → ∃ c fz, w.heap[g]? = some (.cells c T fz) := by
  intro g hg
  rcases h.2 with ⟨rfl, _⟩ | ⟨g', cap, cur, rfl, _, hgg, _⟩
  · simp [Value.ownBlock] at hg
  · simp [Value.ownBlock] at hg
    subst hg
    exact ⟨cur, _, hgg⟩

theorem strCells_list (l : List UInt8) : Lib.strCells ⟨l.toArray⟩ = Lib.byteCells l := rfl

theorem TW.write {w wr : World} {ev : Value} {xs : List Ent} {l m : List UInt8} (h : TW w wr ev xs l) (hl : l.length + m.length ≤ 140737488355328) :
    Calls Tryd.prog 45 #[.pointer (some ⟨w.heap.size, 0, none⟩), .string ⟨m.toArray⟩] wr fun e w' => (∃ n : Nat, e = .returned (.tuple #[.int .i64 (n : Int), .nilIface])) ∧ TW w w' ev xs (l ++ m) := by
  refine (Tryd.Builder_WriteString_k w.heap.size w.heap.size _ ⟨m.toArray⟩ wr h.pw.build (by
    rw [Lib.byteCells_length]
    have e : (⟨m.toArray⟩ : ByteArray).size = m.length := List.size_toArray
    rw [e]
    exact hl) h.pw.below.size).mono ?_
  rintro e w' ⟨he, h1, h2, h3⟩
  refine ⟨⟨_, he⟩, ⟨.inr ?_, h.pw.below.trans h2⟩, ownsRow_frame h.row fun g hg => ?_⟩
  · rw [strCells_list] at h1
    have e2 : Lib.byteCells (l ++ m) = Lib.byteCells l ++ Lib.byteCells m := by simp [Lib.byteCells]
    rw [e2]
    exact h1
  · obtain ⟨c, fz, hc⟩ := row_kind h.row g hg
    rw [hc]
    refine h3 g _ hc (fun e => ?_) (fun c2 fz2 e => ?_)
    · obtain rfl := Option.some.inj e
      rcases h.pw.build with ⟨_, v, hv, _⟩ | ⟨_, v, hv, _⟩ <;>
      · rw [hc] at hv
        injection hv with hv
        injection hv with _ hT _
        exact absurd hT (by decide)
    · injection e with _ hT _
      exact absurd hT (by decide)

theorem text_room {xs : List Ent} (h : ∀ x ∈ xs, x.Fit) (hn : xs.length ≤ 60000) {k : Nat} {e : Ent} (he : xs[k]? = some e) : (textL (xs.take k)).length + (lineL e).length ≤ 140737488355328 := by
  have h1 := text_len (xs.take k) fun x hx => h x (List.mem_of_mem_take hx)
  have h2 := line_len (h e (List.mem_of_getElem? he))
  have h3 : (xs.take k).length < xs.length := by
    obtain ⟨hk, _⟩ := List.getElem?_eq_some_iff.1 he
    rw [List.length_take]; omega
  omega

theorem tw_first {w w1 : World} {ao : Option Addr} {n c : Nat} {xs : List Ent} (o : Obj) (ho : o = .cells #[.pointer none, .slice none 0 0] 102) (h : EntRow w1 38 (.slice ao n c) xs) (hb : Below (w.alloc o).heap.size (w.alloc o) w1) : TW w w1 (.slice ao n c) xs (textL (xs.take 0)) := by
  subst ho
  exact ⟨(PW.start w).later hb, h⟩

set_option maxHeartbeats 4000000 in
set_option maxRecDepth 20000 in
theorem text_from (w : World) (lv : Value) (xs : List Ent) (htab : Tab w) (hfit : ∀ x ∈ xs, x.Fit) (hlen : xs.length ≤ 60000)
    (hc : Calls Tryd.prog 14 #[lv] (w.alloc (.cells #[.pointer none, .slice none 0 0] 102)) fun r w' => NewPost (w.alloc (.cells #[.pointer none, .slice none 0 0] 102)) 38 xs r w') :
    Calls Tryd.prog 31 #[lv] w fun r w' => r = .returned (.string ⟨(textL xs).toArray⟩) ∧ Below w.heap.size w w' := by
  have He := Lib.hid hc
  have Hlen := Lib.hid hlen
  have Hfit := Lib.hid hfit
  have Htab := Lib.hid htab
  clear hc hlen hfit htab
  go_enter Tryd.func31, Tryd.ntmps31
  go_wp2_with fail
  refine He.out.mono ?_
  rintro r w1 ⟨ao, c, rfl, h1, h2, h3⟩
  have HT := Lib.hid (tw_first _ rfl h1 h2)
  obtain ⟨n, hn⟩ : ∃ n, n = xs.length := ⟨_, rfl⟩
  rw [← hn] at HT ⊢
  have Hn := Lib.hid hn
  clear h1 h2 h3 hn He
  go_wp2
  go_loopw [9] (fun i wr => ∃ k : Nat, i = .int .i64 (k : Int) ∧ Hid (k ≤ n ∧ TW w wr (.slice ao n c) xs (textL (xs.take k)))) (fun i _ => n - (intOf i).toNat)
  case atStart => exact ⟨0, rfl, Lib.hid ⟨Nat.zero_le _, HT.out⟩⟩
  case round =>
    obtain ⟨k, rfl, H⟩ := hrel
    have hn : n = xs.length := Hn.out
    obtain ⟨hk, hT⟩ := H.out
    clear HT
    by_cases hkn : k < n
    · obtain ⟨e, he⟩ : ∃ e, xs[k]? = some e := ⟨xs[k]'(by omega), List.getElem?_eq_getElem _⟩
      obtain ⟨g, c2, hv⟩ := row_some hT.row (by omega)
      rw [← hn] at hv
      simp only [Value.slice.injEq, true_and] at hv
      obtain ⟨rfl, rfl⟩ := hv
      have t1 : decide ((k : Int) < (n : Int)) = true := decide_eq_true (by omega)
      have b1 : (k : Int) < (n : Int) := by omega
      have c0 : wr.cell? ⟨g, k * 15, none⟩ = some (.int .i64 e.number) := row_cell hn hT.row he 0 (by decide)
      have c1 : wr.cell? ⟨g, k * 15 + 1, none⟩ = some (.int .i64 e.version) := row_cell hn hT.row he 1 (by decide)
      have c2 : wr.cell? ⟨g, k * 15 + 2, none⟩ = some (.int .i64 e.epoch) := row_cell hn hT.row he 2 (by decide)
      have c3 : wr.cell? ⟨g, k * 15 + 3, none⟩ = some (.string e.method) := row_cell hn hT.row he 3 (by decide)
      have c4 : wr.cell? ⟨g, k * 15 + 4, none⟩ = some (.string e.host) := row_cell hn hT.row he 4 (by decide)
      have c5 : wr.cell? ⟨g, k * 15 + 5, none⟩ = some (.string e.path) := row_cell hn hT.row he 5 (by decide)
      have c6 : wr.cell? ⟨g, k * 15 + 6, none⟩ = some (.int .u64 (e.a : Int)) := row_cell hn hT.row he 6 (by decide)
      have c7 : wr.cell? ⟨g, k * 15 + 7, none⟩ = some (.int .u64 (e.b : Int)) := row_cell hn hT.row he 7 (by decide)
      have c8 : wr.cell? ⟨g, k * 15 + 8, none⟩ = some (.int .i64 e.kind) := row_cell hn hT.row he 8 (by decide)
      have c9 : wr.cell? ⟨g, k * 15 + 9, none⟩ = some (.int .i64 e.status) := row_cell hn hT.row he 9 (by decide)
      have c10 : wr.cell? ⟨g, k * 15 + 10, none⟩ = some (.string e.route) := row_cell hn hT.row he 10 (by decide)
      have c11 : wr.cell? ⟨g, k * 15 + 11, none⟩ = some (.int .i64 e.rule) := row_cell hn hT.row he 11 (by decide)
      have c12 : wr.cell? ⟨g, k * 15 + 12, none⟩ = some (.string e.service) := row_cell hn hT.row he 12 (by decide)
      have c13 : wr.cell? ⟨g, k * 15 + 13, none⟩ = some (.string e.endp) := row_cell hn hT.row he 13 (by decide)
      have c14 : wr.cell? ⟨g, k * 15 + 14, none⟩ = some (.int .i64 e.fin) := row_cell hn hT.row he 14 (by decide)
      obtain ⟨O1, hO1⟩ : ∃ O1, O1 = Obj.cells #[.int .i64 e.number, .int .i64 e.version, .int .i64 e.epoch, .string e.method, .string e.host, .string e.path, .int .u64 (e.a : Int), .int .u64 (e.b : Int), .int .i64 e.kind, .int .i64 e.status, .string e.route, .int .i64 e.rule, .string e.service, .string e.endp, .int .i64 e.fin] 38 := ⟨_, rfl⟩
      have HA := Lib.hid (hT.alloc O1)
      have Hl := Lib.hid (line_walk (wr.alloc O1) e (Hfit.out e (List.mem_of_getElem? he)) (tab_later Htab.out (hT.alloc O1).pw.below))
      have Hw := Lib.hid (fun (w2 : World) (h : TW w w2 (.slice (some ⟨g, 0, none⟩) n c) xs (textL (xs.take k))) => h.write (m := lineL e) (text_room Hfit.out Hlen.out he))
      have Hnx := Lib.hid (text_next he)
      have wk := wrap_small (show k < 65537 by have := Hlen.out; omega)
      have Hms := Lib.hid (meas_step hkn wk)
      have Hgo := Lib.hid (go_step wk)
      have Hkn := Lib.hid hkn
      subst hO1
      clear hn hk hT H hkn he Hn Hlen wk
      go_wp2_with fail
      refine Hl.out.mono ?_
      rintro r w2 ⟨rfl, hb⟩
      have Hw2 := Lib.hid (Hw.out w2 (HA.out.later hb))
      clear hb Hl Hw
      go_wp2_with fail
      refine Hw2.out.mono ?_
      rintro r w3 ⟨⟨m, rfl⟩, hT3⟩
      rw [← Hnx.out] at hT3
      have Hend := Lib.hid (show k + 1 ≤ n ∧ TW w w3 (.slice (some ⟨g, 0, none⟩) n c) xs (textL (xs.take (k + 1))) from ⟨Hkn.out, hT3⟩)
      clear hT3 Hw2 Hnx HA
      go_wp2
      go_roundw
      case rel => exact ⟨k + 1, Hgo.out, Hend⟩
      case measure => exact Hms.out
    · have b1 : (n : Int) ≤ (k : Int) := by omega
      rw [List.take_of_length_le (by omega)] at hT
      have Hs := Lib.hid hT.pw.string
      clear hn hk hT H hkn Hn Hlen
      go_wp2_with fail
      refine Hs.out.mono ?_
      rintro r w2 ⟨rfl, hp⟩
      have Hend := Lib.hid hp.below
      clear hp Hs
      go_wp2
      go_ret
      exact ⟨rfl, Hend.out⟩

theorem log_alloc {w : World} {S T : TypeId} {lb : Nat} {v : Value} {xs : List Ent} (h : LogAt w S T lb v xs) (o : Obj) : LogAt (w.alloc o) S T lb v xs :=
  ⟨(alloc_old o (lt_of_heap h.blk)).trans h.blk, h.row.alloc o, h.ne⟩

theorem text_walk (w : World) (lb : Nat) (v : Value) (xs : List Ent) (hlog : LogAt w 27 38 lb v xs) (htab : Tab w) (hfit : ∀ x ∈ xs, x.Fit) (hlen : xs.length ≤ 60000) :
    Calls Tryd.prog 31 #[.pointer (some ⟨lb, 0, none⟩)] w fun r w' => r = .returned (.string ⟨(textL xs).toArray⟩) ∧ Below w.heap.size w w' :=
  text_from w _ xs htab hfit hlen (entries_walk _ lb v xs (log_alloc hlog _) (by omega))

theorem textNil_walk (w : World) (htab : Tab w) :
    Calls Tryd.prog 31 #[.pointer none] w fun r w' => r = .returned (.string ⟨#[]⟩) ∧ Below w.heap.size w w' :=
  text_from w _ [] htab nofun (by decide) ((entriesNil_walk _).mono fun r w' ⟨hr, hw⟩ => by
    obtain rfl := hw.symm
    exact ⟨none, 0, hr, World.ownsRow_nil _ _ _ _, Below.refl _ _, nofun⟩)

end Go.Proofs.YthpflfcgnaichaaDoor
