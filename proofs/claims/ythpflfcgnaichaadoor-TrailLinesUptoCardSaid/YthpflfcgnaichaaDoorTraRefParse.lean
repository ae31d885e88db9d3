/-
The reference's Parse: the entries that the text says, or where it says none.
-/
import Derived.Test.YthpflfcgnaichaaDoorTraRefEnW
import Derived.Test.YthpflfcgnaichaaDoorTraParse
set_option linter.unusedVariables false
set_option linter.unusedSimpArgs false
namespace Go.Proofs.YthpflfcgnaichaaDoor
open Go Go.RowKit

def RParsePost (w : World) (l : List UInt8) (r : Ending) (w' : World) : Prop :=
  ∃ es b, PR l es b ∧ Below w.heap.size w w' ∧
    ((b = true ∧ ∃ ao c, r = .returned (.tuple #[.slice ao es.length c, .int .i64 0, .int .i64 0]) ∧ EntRow w' 32 (.slice ao es.length c) es) ∨
     (b = false ∧ r = .returned (.tuple #[.slice none 0 0, .int .i64 (es.length : Int), .int .i64 2])))

/-- Ahead of the byte k: es are read, the line begins at f. -/
structure RP (w wr : World) (s : ByteArray) (ao : Option Addr) (n c : Nat) (es : List Ent) (f k : Nat) : Prop where
  below : Below w.heap.size w wr
  len : n = es.length
  row : EntRow wr 32 (.slice ao n c) es
  new : ∀ g, (Value.slice ao n c).ownBlock = some g → w.heap.size ≤ g
  left : PRest s.data.toList es (s.data.toList.drop f)
  room : n ≤ f
  fk : f ≤ k
  kn : k ≤ s.size
  no : ∀ j : Nat, f ≤ j → j < k → s.data.toList[j]? ≠ some 10

section
variable {w wr w2 : World} {s : ByteArray} {ao : Option Addr} {n c : Nat} {es : List Ent} {f k : Nat}

theorem RP.later (h : RP w wr s ao n c es f k) (hb : Below wr.heap.size wr w2) : RP w w2 s ao n c es f k :=
  ⟨h.below.trans (hb.mono h.below.size), h.len, below_row h.row hb, h.new, h.left, h.room, h.fk, h.kn, h.no⟩

theorem RP.next (h : RP w wr s ao n c es f k) {ch : UInt8} (hc : s.data.toList[k]? = some ch) (hp : ¬ ch.toNat = 10) : RP w wr s ao n c es f (k + 1) := by
  have hk : k < s.data.toList.length := (List.getElem?_eq_some_iff.1 hc).1
  rw [size_list] at hk
  refine ⟨h.below, h.len, h.row, h.new, h.left, h.room, Nat.le_succ_of_le h.fk, hk, fun j h1 h2 => ?_⟩
  by_cases e : j = k
  · subst e
    rw [hc]
    intro q
    obtain rfl := Option.some.inj q
    exact hp rfl
  · exact h.no j h1 (by omega)

theorem RP.front (h : RP w wr s ao n c es f k) : ¬ (10 : UInt8) ∈ (s.extract f k).data.toList := fun hm => by
  rw [Lib.extract_data] at hm
  obtain ⟨i, hi, e⟩ := List.getElem_of_mem hm
  have h1 : ((s.data.toList.drop f).take (k - f))[i]? = some 10 := by rw [List.getElem?_eq_getElem hi, e]
  rw [List.length_take] at hi
  rw [List.getElem?_take, if_pos (by omega), List.getElem?_drop] at h1
  exact h.no (f + i) (by omega) (by omega) h1

theorem RP.at_nl (h : RP w wr s ao n c es f k) {ch : UInt8} (hc : s.data.toList[k]? = some ch) (hp : ch.toNat = 10) : s.data.toList.drop f = (s.extract f k).data.toList ++ 10 :: s.data.toList.drop (k + 1) := by
  have hc32 : ch = 10 := by apply UInt8.toNat_inj.1; rw [hp]; rfl
  subst hc32
  rw [Lib.extract_data, ← drop_at hc]
  have h1 : s.data.toList.drop k = (s.data.toList.drop f).drop (k - f) := by rw [List.drop_drop]; congr 1; have := h.fk; omega
  rw [h1, List.take_append_drop]

theorem RP.app {ao' : Option Addr} {c' : Nat} {e : Ent} {o : Obj} {ch : UInt8} (h : RP w wr s ao n c es f k) (hc : s.data.toList[k]? = some ch) (hp : ch.toNat = 10)
    (hr : EntRow w2 32 (.slice ao' (n + 1) c') (es ++ [e])) (hg : (wr.alloc o).grownBy w2 (Value.slice ao n c).ownBlock) (hn : ∀ g, (Value.slice ao' (n + 1) c').ownBlock = some g → (Value.slice ao n c).ownBlock = some g ∨ (wr.alloc o).heap.size ≤ g)
    (hi : IsL (s.extract f k).data.toList e) : RP w w2 s ao' (n + 1) c' (es ++ [e]) (k + 1) (k + 1) := by
  have hk : k < s.data.toList.length := (List.getElem?_eq_some_iff.1 hc).1
  rw [size_list] at hk
  have hm : Mod (fun k => w.heap.size ≤ k) w w2 := ((Mod.ofBelow (h.below.alloc h.below.size o) (fun k _ hk => hk)).grown hg (fun k hk _ => h.new k hk))
  have hfr := h.front
  refine ⟨hm.below (Nat.le_refl _) (fun k hk => hk), by rw [List.length_append, ← h.len]; rfl, hr, fun g hg' => ?_, (h.at_nl hc hp ▸ h.left).next hfr hi, by have := h.room; have := h.fk; omega, Nat.le_refl _, hk, fun j h1 h2 => by omega⟩
  rcases hn g hg' with h1 | h1
  · exact h.new g h1
  · have := h.below.size
    simp at h1
    omega

theorem RP.bad (h : RP w wr s ao n c es f k) {ch : UInt8} (hc : s.data.toList[k]? = some ch) (hp : ch.toNat = 10) (hb : Below wr.heap.size wr w2) (hi : ∀ e, ¬ IsL (s.extract f k).data.toList e) : RParsePost w s.data.toList (.returned (.tuple #[.slice none 0 0, .int .i64 (n : Int), .int .i64 2])) w2 := by
  have h1 := h.left [] false (h.at_nl hc hp ▸ PR.bad h.front hi)
  rw [List.append_nil] at h1
  exact ⟨es, false, h1, h.below.trans (hb.mono h.below.size), .inr ⟨rfl, by rw [h.len]⟩⟩

theorem RP.fin_bad (h : RP w wr s ao n c es f s.size) (hf : f < s.size) : RParsePost w s.data.toList (.returned (.tuple #[.slice none 0 0, .int .i64 (n : Int), .int .i64 2])) wr := by
  have e1 : s.data.toList.drop f = (s.extract f s.size).data.toList := (Lib.extract_to_end s f).symm
  have h1 := h.left [] false (e1 ▸ PR.cut (fun q => by
    have := congrArg List.length q
    rw [Lib.extract_to_end, List.length_drop, size_list] at this
    simp at this
    omega) h.front)
  rw [List.append_nil] at h1
  exact ⟨es, false, h1, h.below, .inr ⟨rfl, by rw [h.len]⟩⟩

theorem RP.fin_ok (h : RP w wr s ao n c es f s.size) (hf : ¬ f < s.size) : RParsePost w s.data.toList (.returned (.tuple #[.slice ao n c, .int .i64 0, .int .i64 0])) wr := by
  have e1 : s.data.toList.drop f = [] := List.drop_eq_nil_of_le (by rw [size_list]; omega)
  have h1 := h.left [] true (e1 ▸ PR.done)
  rw [List.append_nil] at h1
  have hl := h.len
  subst hl
  exact ⟨es, true, h1, h.below, .inl ⟨rfl, ao, c, rfl, h.row⟩⟩

end

set_option maxHeartbeats 4000000 in
set_option maxRecDepth 20000 in
theorem rparse_c (w : World) (s : ByteArray) (hs : s.size ≤ 10000000) : Calls Tryd.prog 28 #[.string s] w (RParsePost w s.data.toList) := by
  have Hs := Lib.hid hs
  have H0 := Lib.hid (show RP w w s none 0 0 [] 0 0 from ⟨Below.refl _ _, rfl, World.ownsRow_nil _ _ _ _, nofun, PRest.first _, Nat.le_refl _, Nat.le_refl _, Nat.zero_le _, fun _ _ h => absurd h (Nat.not_lt_zero _)⟩)
  clear hs
  go_enter Tryd.func28, Tryd.ntmps28
  go_wp2
  go_loopw [5, 6, 7] (fun pv fv kv wr => ∃ (ao : Option Addr) (n c f k : Nat) (es : List Ent), pv = .slice ao n c ∧ fv = .int .i64 (f : Int) ∧ kv = .int .i64 (k : Int) ∧ Hid (RP w wr s ao n c es f k)) (fun _ _ kv _ => s.size - (intOf kv).toNat)
  case atStart => exact ⟨none, 0, 0, 0, 0, [], rfl, rfl, rfl, H0⟩
  case round =>
    obtain ⟨ao, n, c, f, k, es, rfl, rfl, rfl, H⟩ := hrel
    clear H0
    by_cases hks : k < s.size
    · obtain ⟨ch, hc⟩ : ∃ ch, s.data.toList[k]? = some ch := ⟨s.data.toList[k]'(by rw [size_list]; omega), List.getElem?_eq_getElem _⟩
      have hidx := idx_run' (k : Int) rfl hc
      have b0 : (k : Int) < (s.size : Int) := by omega
      have hk8 : k ≤ 4000000000 := by have := Hs.out; omega
      have wk : wrap64 ((k : Int) + 1) = (k : Int) + 1 := by unfold wrap64; omega
      have Hms := Lib.hid (meas_step hks wk)
      have Hgo := Lib.hid (go_step wk)
      by_cases h10 : ch.toNat = 10
      · have t2 : ((ch.toNat : Int) != 10) = false := by rw [bne_eq_false_iff_eq]; omega
        have hfk := H.out.fk
        have b1 : (0 : Int) ≤ (f : Int) := by omega
        have b2 : (f : Int) ≤ (k : Int) := by omega
        have b3 : (k : Int) ≤ (s.size : Int) := by omega
        have hes : (s.extract f k).size ≤ 10000000 := by
          rw [← size_list, Lib.extract_data, List.length_take, List.length_drop, size_list]
          have := Hs.out
          omega
        have He := Lib.hid (rentry_c wr (s.extract f k) hes)
        have Hbad := Lib.hid (fun w2 (hb : Below wr.heap.size wr w2) hi => H.out.bad (w2 := w2) hc h10 hb hi)
        have Hlat := Lib.hid (fun w2 (hb : Below wr.heap.size wr w2) => H.out.later hb)
        have Happ := Lib.hid (fun (w2 : World) (h2 : RP w w2 s ao n c es f k) (ao' : Option Addr) (c' : Nat) (w3 : World) (o : Obj) (e : Ent) hr hg hn hi => h2.app (ao' := ao') (c' := c') (w2 := w3) (o := o) (e := e) hc h10 hr hg hn hi)
        have Hlen := Lib.hid (show es.length ≤ 100000000 ∧ n + 1 = es.length + 1 from by have h3 := H.out.len; have h4 := H.out.room; have := Hs.out; omega)
        clear H hc h10 hks hk8 wk hfk hes
        go_wp2_with fail
        refine He.out.mono ?_
        rintro r1 w2 ⟨e, ok, rfl, hb, h1, h2⟩
        cases ok
        · have Hend := Lib.hid (Hbad.out _ (hb.alloc hb.size (Obj15 e 32)) (h2 rfl))
          clear h1 h2 hb Hbad Hlat Happ Hlen He Hms Hgo
          go_wp2
          go_ret3
          exact Hend.out
        · have Hi := Lib.hid (h1 rfl)
          have HL := Lib.hid (Hlat.out _ (hb.alloc hb.size (Obj15 e 32)))
          have Hrow := Lib.hid (fun o => (HL.out.later ((Below.refl _ _).alloc (Nat.le_refl _) o)).row)
          have Happ2 := Lib.hid (fun ao' c' w3 o hr hg hn => Happ.out _ HL.out ao' c' w3 o e hr hg hn Hi.out)
          have Hnews := Lib.hid (show ∀ j u, e.cells[j]? = some u → ((w2.alloc (Obj.cells #[.int .i64 e.number, .int .i64 e.version, .int .i64 e.epoch, .string e.method, .string e.host, .string e.path, .int .u64 (e.a : Int), .int .u64 (e.b : Int), .int .i64 e.kind, .int .i64 e.status, .string e.route, .int .i64 e.rule, .string e.service, .string e.endp, .int .i64 e.fin] 32)).alloc (Obj.cells #[.int .i64 e.number, .int .i64 e.version, .int .i64 e.epoch, .string e.method, .string e.host, .string e.path, .int .u64 (e.a : Int), .int .u64 (e.b : Int), .int .i64 e.kind, .int .i64 e.status, .string e.route, .int .i64 e.rule, .string e.service, .string e.endp, .int .i64 e.fin] 32)).cell? ((⟨w2.heap.size + 1, 0, none⟩ : Addr).add j) = some u from by
            have h5 := news_new (w2.alloc (Obj.cells #[.int .i64 e.number, .int .i64 e.version, .int .i64 e.epoch, .string e.method, .string e.host, .string e.path, .int .u64 (e.a : Int), .int .u64 (e.b : Int), .int .i64 e.kind, .int .i64 e.status, .string e.route, .int .i64 e.rule, .string e.service, .string e.endp, .int .i64 e.fin] 32)) e 32
            have e5 : (w2.alloc (Obj.cells #[.int .i64 e.number, .int .i64 e.version, .int .i64 e.epoch, .string e.method, .string e.host, .string e.path, .int .u64 (e.a : Int), .int .u64 (e.b : Int), .int .i64 e.kind, .int .i64 e.status, .string e.route, .int .i64 e.rule, .string e.service, .string e.endp, .int .i64 e.fin] 32)).heap.size = w2.heap.size + 1 := by simp
            rw [e5] at h5
            exact h5)
          clear h1 h2 hb Hbad Hlat Happ He HL Hi
          unfold Obj15 at Hrow Happ2
          go_wp2_with (at_builtin; refine rappend rfl _ _ rfl (.slice ao n c) es rfl (Hrow.out _) (w2.heap.size + 1) e rfl Hnews.out Hlen.out.1 (n + 1) Hlen.out.2 ?_; intro ao' c' w3 hr3 hg3 hn3; have HN := Lib.hid (Happ2.out ao' c' w3 _ hr3 hg3 hn3); clear hr3 hg3 hn3)
          go_roundw
          case rel => exact ⟨ao', n + 1, c', k + 1, k + 1, es ++ [e], rfl, Hgo.out, Hgo.out, HN⟩
          case measure => exact Hms.out
      · have t2 : ((ch.toNat : Int) != 10) = true := by rw [bne_iff_ne]; omega
        have Hend := Lib.hid (H.out.next hc h10)
        clear H hc h10 hks hk8 wk
        go_wp2
        go_roundw
        case rel => exact ⟨ao, n, c, f, k + 1, es, rfl, rfl, Hgo.out, Hend⟩
        case measure => exact Hms.out
    · have b0 : (s.size : Int) ≤ (k : Int) := by omega
      have hk : k = s.size := by have := H.out.kn; omega
      by_cases hf : f < s.size
      · have b1 : (f : Int) < (s.size : Int) := by omega
        have Hend := Lib.hid ((hk ▸ H.out).fin_bad hf)
        clear H hk hks hf
        go_wp2
        go_ret3
        exact Hend.out
      · have b1 : (s.size : Int) ≤ (f : Int) := by omega
        have Hend := Lib.hid ((hk ▸ H.out).fin_ok hf)
        clear H hk hks hf
        go_wp2
        go_ret3
        exact Hend.out

end Go.Proofs.YthpflfcgnaichaaDoor
