/-
The walks of End, of both sides; of Add where it refuses; of Count.
-/
import Derived.Test.YthpflfcgnaichaaDoorTraAdd
import Derived.Laws.OwnMore
set_option linter.unusedVariables false
set_option linter.unusedSimpArgs false
namespace Go.Proofs.YthpflfcgnaichaaDoor
open Go Go.RowKit

def Ent.ended (e : Ent) (how : Int) : Ent := { e with fin := how }

theorem ents_set (l : List Ent) : ∀ (i : Nat) (e : Ent) (how : Int), l[i]? = some e → ents (l.set i (e.ended how)) = (ents l).set (i * 15 + 14) (.int .i64 how) := by
  induction l with
  | nil => intro i e how h; simp at h
  | cons d r ih =>
    intro i e how h
    cases i with
    | zero =>
      simp only [List.getElem?_cons_zero, Option.some.injEq] at h
      subst h
      show (d.ended how).cells ++ ents r = (d.cells ++ ents r).set 14 _
      rw [List.set_append_left _ _ (by rw [cells_length]; decide)]
      rfl
    | succ i =>
      rw [List.getElem?_cons_succ] at h
      show d.cells ++ ents (r.set i (e.ended how)) = (d.cells ++ ents r).set ((i + 1) * 15 + 14) _
      rw [ih i e how h, List.set_append_right _ _ (by rw [cells_length]; omega), cells_length]
      congr 2
      omega

/-- May an entry end so? -/
def endsB (xs : List Ent) (i how : Int) : Bool := decide (0 ≤ i ∧ i < xs.length ∧ 1 ≤ how ∧ how ≤ 7) && (match xs[i.toNat]? with | some e => e.fin == 0 | none => false)

/-- The entries behind such an end. -/
def endedL (xs : List Ent) (i : Nat) (how : Int) : List Ent := match xs[i]? with | some e => xs.set i (e.ended how) | none => xs

def EndPost (w : World) (S T : TypeId) (lb : Nat) (v : Value) (xs : List Ent) (r : Ending) (w' : World) : Prop :=
  r = .returned (.int .i64 0) ∧ LogAt w' S T lb v xs ∧ Mod (fun k => v.ownBlock = some k) w w'

theorem end_done {w : World} {S T : TypeId} {lb n : Nat} {g c : Nat} {xs : List Ent} (hn : n = xs.length) (hlog : LogAt w S T lb (.slice (some ⟨g, 0, none⟩) n c) xs) {i : Nat} {e : Ent} (hi : xs[i]? = some e) (how : Int) :
    EndPost w S T lb (.slice (some ⟨g, 0, none⟩) n c) (xs.set i (e.ended how)) (.returned (.int .i64 0)) (w.setCell ⟨g, i * 15 + 14, none⟩ (.int .i64 how)) := by
  subst hn
  have hne : g ≠ lb := fun q => hlog.ne (by rw [q]; rfl)
  refine ⟨rfl, ⟨(set_other _ _ (Ne.symm hne)).trans hlog.blk, ?_, hlog.ne⟩, (Mod.refl _ w).setCell _ _ (fun _ => rfl)⟩
  have h := hlog.row.stored (i * 15 + 14) (.int .i64 how)
  show (World.setCell _ _ _).ownsRow 0 T 15 _ (xs.set i (e.ended how)).length (ents (xs.set i (e.ended how)))
  rw [List.length_set, ents_set xs i e how hi]
  exact h.1

theorem row_cell {w : World} {T : TypeId} {g n c : Nat} {xs : List Ent} (hn : n = xs.length) (h : EntRow w T (.slice (some ⟨g, 0, none⟩) n c) xs) {i : Nat} {e : Ent} (hi : xs[i]? = some e) (j : Nat) (hj : j < 15) : w.cell? ⟨g, i * 15 + j, none⟩ = e.cells[j]? := by
  subst hn
  have hlt : i < xs.length := (List.getElem?_eq_some_iff.1 hi).1
  rw [h.cellAt (i * 15 + j) (by omega), ents_get xs i e hi j hj]

theorem row_frozen {w : World} {T : TypeId} {g n c : Nat} {xs : List Ent} (hn : n = xs.length) (h : EntRow w T (.slice (some ⟨g, 0, none⟩) n c) xs) (j : Nat) : w.frozen? ⟨g, j, none⟩ = false := by
  subst hn
  exact h.frozenAt j

theorem row_some {w : World} {T : TypeId} {v : Value} {xs : List Ent} (h : EntRow w T v xs) (h0 : 0 < xs.length) : ∃ g c, v = .slice (some ⟨g, 0, none⟩) xs.length c := by
  rcases h.2 with ⟨hv, hn⟩ | ⟨g, cap, cur, hv, _⟩
  · omega
  · exact ⟨g, cap, hv⟩

set_option maxHeartbeats 1000000 in
set_option maxRecDepth 20000 in
theorem pend_walk (w : World) (lb : Nat) (v : Value) (xs : List Ent) (hlog : LogAt w 27 38 lb v xs) (hlen : xs.length < 65537) (i : Nat) (e : Ent) (how : Int) (hi : xs[i]? = some e) (hf : e.fin = 0) (h1 : 1 ≤ how) (h2 : how ≤ 7) :
    Calls Tryd.prog 12 #[.pointer (some ⟨lb, 0, none⟩), .int .i64 (i : Int), .int .i64 how] w fun r w' => EndPost w 27 38 lb v (xs.set i (e.ended how)) r w' := by
  have hlt : i < xs.length := (List.getElem?_eq_some_iff.1 hi).1
  obtain ⟨g, c, rfl⟩ := row_some hlog.row (by omega)
  obtain ⟨n, hn⟩ : ∃ n, n = xs.length := ⟨_, rfl⟩
  rw [← hn] at hlog ⊢
  have Hend := Lib.hid (end_done hn hlog hi how)
  have c0 : w.cell? ⟨lb, 0, none⟩ = some (.slice (some ⟨g, 0, none⟩) n c) := cell1 hlog.blk
  have c1 : w.cell? ⟨g, i * 15 + 14, none⟩ = some (.int .i64 0) := by
    rw [row_cell hn hlog.row hi 14 (by decide), ← hf]; rfl
  have f1 := row_frozen hn hlog.row (i * 15 + 14)
  have t1 : decide (n ≤ i) = false := decide_eq_false (by omega)
  have t2 : decide (how ≤ 0) = false := decide_eq_false (by omega)
  have t3 : decide (7 < how) = false := decide_eq_false (by omega)
  have t4 : decide (how < 1) = false := decide_eq_false (by omega)
  have b1 : (i : Int) < (n : Int) := by omega
  have b2 : i < n := by omega
  clear hlog hi hf h1 h2 hlt hn hlen
  go_enter Tryd.func12, Tryd.ntmps12
  go_wp2
  go_ret
  exact Hend.out

set_option maxHeartbeats 1000000 in
theorem paddNil_walk (w : World) (e : Ent) : Calls Tryd.prog 10 #[.pointer none, e.v] w fun r w' => r = .returned (.tuple #[.int .i64 0, .int .i64 1]) ∧ Below w.heap.size w w' := by
  unfold Ent.v
  go_enter Tryd.func10, Tryd.ntmps10
  go_wp2
  go_ret2
  exact ⟨rfl, (Below.refl _ w).alloc (Nat.le_refl _) _⟩

set_option maxHeartbeats 1000000 in
theorem paddBad_walk (w : World) (lb : Nat) (e : Ent) (hmay : e.may = false) : Calls Tryd.prog 10 #[.pointer (some ⟨lb, 0, none⟩), e.v] w fun r w' => r = .returned (.tuple #[.int .i64 0, .int .i64 2]) ∧ Below w.heap.size w w' := by
  have Hm := Lib.hid (fun w => may_walk w e)
  rw [hmay] at Hm
  clear hmay
  obtain ⟨number, ver, epo, method, host, path, ea, eb, kind, status, route, rule, service, endp, fin⟩ := e
  unfold Ent.v at *
  dsimp only at Hm ⊢
  go_enter Tryd.func10, Tryd.ntmps10
  go_wp2_with fail
  refine (Hm.out _).mono ?_
  rintro r w1 ⟨rfl, hb⟩
  have hB := ((Below.refl w.heap.size w).alloc (Nat.le_refl _) _).trans (hb.mono (by simp))
  clear hb Hm
  go_wp2
  go_ret2
  exact ⟨rfl, hB⟩

set_option maxHeartbeats 1000000 in
set_option maxRecDepth 20000 in
theorem pendBad_walk (w : World) (lb : Nat) (v : Value) (xs : List Ent) (hlog : LogAt w 27 38 lb v xs) (hlen : xs.length < 65537) (i how : Int) (h : endsB xs i how = false) :
    Calls Tryd.prog 12 #[.pointer (some ⟨lb, 0, none⟩), .int .i64 i, .int .i64 how] w fun r w' => r = .returned (.int .i64 2) ∧ w' = w := by
  obtain ⟨ao, c, rfl⟩ := hlog.form
  obtain ⟨n, hn⟩ : ∃ n, n = xs.length := ⟨_, rfl⟩
  rw [← hn] at hlog
  have c0 : w.cell? ⟨lb, 0, none⟩ = some (.slice ao n c) := cell1 hlog.blk
  by_cases h0 : i < 0
  · have t0 : decide (i < 0) = true := decide_eq_true h0
    clear hlog hn h0 h hlen
    go_enter Tryd.func12, Tryd.ntmps12
    go_wp2
    go_ret
    exact ⟨rfl, rfl⟩
  · obtain ⟨k, rfl⟩ : ∃ k : Nat, i = (k : Int) := ⟨i.toNat, by omega⟩
    by_cases h1 : n ≤ k
    · have t1 : decide (n ≤ k) = true := decide_eq_true h1
      clear hlog hn h0 h hlen h1
      go_enter Tryd.func12, Tryd.ntmps12
      go_wp2
      go_ret
      exact ⟨rfl, rfl⟩
    · have hk : k < xs.length := by omega
      have he : xs[k]? = some xs[k] := List.getElem?_eq_getElem hk
      obtain ⟨g, c', hv⟩ := row_some hlog.row (by omega)
      rw [← hn] at hv
      simp only [Value.slice.injEq, true_and] at hv
      obtain ⟨rfl, rfl⟩ := hv
      have c1 : w.cell? ⟨g, k * 15 + 14, none⟩ = some (.int .i64 xs[k].fin) := by
        rw [row_cell hn hlog.row he 14 (by decide)]; rfl
      have hbad : xs[k].fin ≠ 0 ∨ how < 1 ∨ 7 < how := by
        unfold endsB at h
        rw [show ((k : Int)).toNat = k by omega, he] at h
        by_cases q1 : how < 1
        · exact .inr (.inl q1)
        by_cases q2 : 7 < how
        · exact .inr (.inr q2)
        · refine .inl fun q => ?_
          rw [decide_eq_true (by omega)] at h
          simp [q] at h
      have t1 : decide (n ≤ k) = false := decide_eq_false (by omega)
      have b1 : (k : Int) < (n : Int) := by omega
      have b2 : k < n := by omega
      generalize xs[k].fin = f at *
      clear hlog hn h0 h hlen h1 hk he
      by_cases hf : f = 0
      · subst hf
        by_cases q1 : how < 1
        · have t2 : decide (how ≤ 0) = true := decide_eq_true (by omega)
          have t4 : decide (how < 1) = true := decide_eq_true q1
          clear hbad q1
          go_enter Tryd.func12, Tryd.ntmps12
          go_wp2
          go_ret
          exact ⟨rfl, rfl⟩
        · have t2 : decide (how ≤ 0) = false := decide_eq_false (by omega)
          have t3 : decide (7 < how) = true := decide_eq_true (by omega)
          have t4 : decide (how < 1) = false := decide_eq_false q1
          clear hbad q1
          go_enter Tryd.func12, Tryd.ntmps12
          go_wp2
          go_ret
          exact ⟨rfl, rfl⟩
      · have tf : (f != 0) = true := bne_iff_ne.2 hf
        clear hbad hf
        by_cases q1 : how < 1
        · have t4 : decide (how < 1) = true := decide_eq_true q1
          clear q1
          go_enter Tryd.func12, Tryd.ntmps12
          go_wp2
          go_ret
          exact ⟨rfl, rfl⟩
        · have t4 : decide (how < 1) = false := decide_eq_false q1
          by_cases q2 : 7 < how
          · have t3 : decide (7 < how) = true := decide_eq_true q2
            clear q1 q2
            go_enter Tryd.func12, Tryd.ntmps12
            go_wp2
            go_ret
            exact ⟨rfl, rfl⟩
          · have t3 : decide (7 < how) = false := decide_eq_false q2
            clear q1 q2
            go_enter Tryd.func12, Tryd.ntmps12
            go_wp2
            go_ret
            exact ⟨rfl, rfl⟩

set_option maxHeartbeats 1000000 in
theorem pendNil_walk (w : World) (i how : Int) : Calls Tryd.prog 12 #[.pointer none, .int .i64 i, .int .i64 how] w fun r w' => r = .returned (.int .i64 1) ∧ w' = w := by
  go_enter Tryd.func12, Tryd.ntmps12
  go_wp2
  go_ret
  exact ⟨rfl, rfl⟩

set_option maxHeartbeats 1000000 in
set_option maxRecDepth 20000 in
theorem rend_walk (w : World) (lb : Nat) (v : Value) (xs : List Ent) (hlog : LogAt w 50 32 lb v xs) (hlen : xs.length < 65537) (i : Nat) (e : Ent) (how : Int) (hi : xs[i]? = some e) (hf : e.fin = 0) (h1 : 1 ≤ how) (h2 : how ≤ 7) :
    Calls Tryd.prog 18 #[.pointer (some ⟨lb, 0, none⟩), .int .i64 (i : Int), .int .i64 how] w fun r w' => EndPost w 50 32 lb v (xs.set i (e.ended how)) r w' := by
  have hlt : i < xs.length := (List.getElem?_eq_some_iff.1 hi).1
  obtain ⟨g, c, rfl⟩ := row_some hlog.row (by omega)
  obtain ⟨n, hn⟩ : ∃ n, n = xs.length := ⟨_, rfl⟩
  rw [← hn] at hlog ⊢
  have Hend := Lib.hid (end_done hn hlog hi how)
  have c0 : w.cell? ⟨lb, 0, none⟩ = some (.slice (some ⟨g, 0, none⟩) n c) := cell1 hlog.blk
  have c1 : w.cell? ⟨g, i * 15 + 14, none⟩ = some (.int .i64 0) := by
    rw [row_cell hn hlog.row hi 14 (by decide), ← hf]; rfl
  have f1 := row_frozen hn hlog.row (i * 15 + 14)
  have t1 : decide (n ≤ i) = false := decide_eq_false (by omega)
  have t2 : decide (how ≤ 0) = false := decide_eq_false (by omega)
  have t3 : decide (7 < how) = false := decide_eq_false (by omega)
  have t4 : decide (how < 1) = false := decide_eq_false (by omega)
  have b1 : (i : Int) < (n : Int) := by omega
  have b2 : i < n := by omega
  clear hlog hi hf h1 h2 hlt hn hlen
  go_enter Tryd.func18, Tryd.ntmps18
  go_wp2
  go_ret
  exact Hend.out

set_option maxHeartbeats 1000000 in
theorem raddNil_walk (w : World) (e : Ent) : Calls Tryd.prog 17 #[.pointer none, e.v] w fun r w' => r = .returned (.tuple #[.int .i64 0, .int .i64 1]) ∧ Below w.heap.size w w' := by
  unfold Ent.v
  go_enter Tryd.func17, Tryd.ntmps17
  go_wp2
  go_ret2
  exact ⟨rfl, (Below.refl _ w).alloc (Nat.le_refl _) _⟩

set_option maxHeartbeats 1000000 in
theorem raddBad_walk (w : World) (lb : Nat) (e : Ent) (hmay : e.may = false) : Calls Tryd.prog 17 #[.pointer (some ⟨lb, 0, none⟩), e.v] w fun r w' => r = .returned (.tuple #[.int .i64 0, .int .i64 2]) ∧ Below w.heap.size w w' := by
  have Hm := Lib.hid (fun w => refMay_walk w e)
  rw [hmay] at Hm
  clear hmay
  obtain ⟨number, ver, epo, method, host, path, ea, eb, kind, status, route, rule, service, endp, fin⟩ := e
  unfold Ent.v at *
  dsimp only at Hm ⊢
  go_enter Tryd.func17, Tryd.ntmps17
  go_wp2_with fail
  refine (Hm.out _).mono ?_
  rintro r w1 ⟨rfl, hb⟩
  have hB := ((Below.refl w.heap.size w).alloc (Nat.le_refl _) _).trans (hb.mono (by simp))
  clear hb Hm
  go_wp2
  go_ret2
  exact ⟨rfl, hB⟩

set_option maxHeartbeats 1000000 in
set_option maxRecDepth 20000 in
theorem rendBad_walk (w : World) (lb : Nat) (v : Value) (xs : List Ent) (hlog : LogAt w 50 32 lb v xs) (hlen : xs.length < 65537) (i how : Int) (h : endsB xs i how = false) :
    Calls Tryd.prog 18 #[.pointer (some ⟨lb, 0, none⟩), .int .i64 i, .int .i64 how] w fun r w' => r = .returned (.int .i64 2) ∧ w' = w := by
  obtain ⟨ao, c, rfl⟩ := hlog.form
  obtain ⟨n, hn⟩ : ∃ n, n = xs.length := ⟨_, rfl⟩
  rw [← hn] at hlog
  have c0 : w.cell? ⟨lb, 0, none⟩ = some (.slice ao n c) := cell1 hlog.blk
  by_cases h0 : i < 0
  · have t0 : decide (i < 0) = true := decide_eq_true h0
    clear hlog hn h0 h hlen
    go_enter Tryd.func18, Tryd.ntmps18
    go_wp2
    go_ret
    exact ⟨rfl, rfl⟩
  · obtain ⟨k, rfl⟩ : ∃ k : Nat, i = (k : Int) := ⟨i.toNat, by omega⟩
    by_cases h1 : n ≤ k
    · have t1 : decide (n ≤ k) = true := decide_eq_true h1
      clear hlog hn h0 h hlen h1
      go_enter Tryd.func18, Tryd.ntmps18
      go_wp2
      go_ret
      exact ⟨rfl, rfl⟩
    · have hk : k < xs.length := by omega
      have he : xs[k]? = some xs[k] := List.getElem?_eq_getElem hk
      obtain ⟨g, c', hv⟩ := row_some hlog.row (by omega)
      rw [← hn] at hv
      simp only [Value.slice.injEq, true_and] at hv
      obtain ⟨rfl, rfl⟩ := hv
      have c1 : w.cell? ⟨g, k * 15 + 14, none⟩ = some (.int .i64 xs[k].fin) := by
        rw [row_cell hn hlog.row he 14 (by decide)]; rfl
      have hbad : xs[k].fin ≠ 0 ∨ how < 1 ∨ 7 < how := by
        unfold endsB at h
        rw [show ((k : Int)).toNat = k by omega, he] at h
        by_cases q1 : how < 1
        · exact .inr (.inl q1)
        by_cases q2 : 7 < how
        · exact .inr (.inr q2)
        · refine .inl fun q => ?_
          rw [decide_eq_true (by omega)] at h
          simp [q] at h
      have t1 : decide (n ≤ k) = false := decide_eq_false (by omega)
      have b1 : (k : Int) < (n : Int) := by omega
      have b2 : k < n := by omega
      generalize xs[k].fin = f at *
      clear hlog hn h0 h hlen h1 hk he
      by_cases hf : f = 0
      · subst hf
        by_cases q1 : how < 1
        · have t2 : decide (how ≤ 0) = true := decide_eq_true (by omega)
          have t4 : decide (how < 1) = true := decide_eq_true q1
          clear hbad q1
          go_enter Tryd.func18, Tryd.ntmps18
          go_wp2
          go_ret
          exact ⟨rfl, rfl⟩
        · have t2 : decide (how ≤ 0) = false := decide_eq_false (by omega)
          have t3 : decide (7 < how) = true := decide_eq_true (by omega)
          have t4 : decide (how < 1) = false := decide_eq_false q1
          clear hbad q1
          go_enter Tryd.func18, Tryd.ntmps18
          go_wp2
          go_ret
          exact ⟨rfl, rfl⟩
      · have tf : (f != 0) = true := bne_iff_ne.2 hf
        clear hbad hf
        by_cases q1 : how < 1
        · have t4 : decide (how < 1) = true := decide_eq_true q1
          clear q1
          go_enter Tryd.func18, Tryd.ntmps18
          go_wp2
          go_ret
          exact ⟨rfl, rfl⟩
        · have t4 : decide (how < 1) = false := decide_eq_false q1
          by_cases q2 : 7 < how
          · have t3 : decide (7 < how) = true := decide_eq_true q2
            clear q1 q2
            go_enter Tryd.func18, Tryd.ntmps18
            go_wp2
            go_ret
            exact ⟨rfl, rfl⟩
          · have t3 : decide (7 < how) = false := decide_eq_false q2
            clear q1 q2
            go_enter Tryd.func18, Tryd.ntmps18
            go_wp2
            go_ret
            exact ⟨rfl, rfl⟩

set_option maxHeartbeats 1000000 in
theorem rendNil_walk (w : World) (i how : Int) : Calls Tryd.prog 18 #[.pointer none, .int .i64 i, .int .i64 how] w fun r w' => r = .returned (.int .i64 1) ∧ w' = w := by
  go_enter Tryd.func18, Tryd.ntmps18
  go_wp2
  go_ret
  exact ⟨rfl, rfl⟩

end Go.Proofs.YthpflfcgnaichaaDoor
