/-
The walks of both Read: what a text says.
-/
import Derived.Test.YtbmdbfidjdogmaaDoorScaNum
import Derived.Test.YtbmdbfidjdogmaaDoorScaRound
set_option linter.unusedVariables false
set_option linter.unusedSimpArgs false
namespace Go.Proofs.YtbmdbfidjdogmaaDoor
open Go Go.RowKit

def nanB : Nat := 9221120237041090561
def infB : Nat := 9218868437227405312
def ninfB : Nat := 18442240474082181120

theorem nan_word : ∀ w : World, (callFunc 37 #[.int .u64 9221120237041090561]).run Tryd.prog w = .ok (.value (.float .f64 9221120237041090561)) w := frombits_run 9221120237041090561
theorem inf_word : ∀ w : World, (callFunc 37 #[.int .u64 9218868437227405312]).run Tryd.prog w = .ok (.value (.float .f64 9218868437227405312)) w := frombits_run 9218868437227405312
theorem ninf_word : ∀ w : World, (callFunc 37 #[.int .u64 18442240474082181120]).run Tryd.prog w = .ok (.value (.float .f64 18442240474082181120)) w := frombits_run 18442240474082181120

set_option maxHeartbeats 1000000 in
theorem nan_walk (w : World) : Calls Tryd.prog 21 #[] w fun e w' => e = .returned (.float .f64 nanB) ∧ w' = w := by
  have h := nan_word
  go_enter Tryd.func21, Tryd.ntmps21
  go_wp2
  go_ret
  exact ⟨rfl, rfl⟩

set_option maxHeartbeats 1000000 in
theorem inf_walk (w : World) : Calls Tryd.prog 22 #[.int .i64 1] w fun e w' => e = .returned (.float .f64 infB) ∧ w' = w := by
  have h := inf_word
  go_enter Tryd.func22, Tryd.ntmps22
  go_wp2
  go_ret
  exact ⟨rfl, rfl⟩

set_option maxHeartbeats 1000000 in
theorem ninf_walk (w : World) : Calls Tryd.prog 22 #[.int .i64 (-1)] w fun e w' => e = .returned (.float .f64 ninfB) ∧ w' = w := by
  have h := ninf_word
  go_enter Tryd.func22, Tryd.ntmps22
  go_wp2
  go_ret
  exact ⟨rfl, rfl⟩

/-- A value, by its fields. -/
structure Val where
  kind : Int
  bool : Bool
  int : Int
  real : Nat
  text : ByteArray

def Val.v (a : Val) : Value := valV a.kind a.bool a.int a.real a.text

/-- What a text says. -/
def readN (s : ByteArray) : Val :=
  match intR s.data.toList with
  | some i => ⟨3, false, i, 0, ⟨#[]⟩⟩
  | none => match decR s.data.toList with
    | some (m, k, b) => ⟨4, false, 0, if b = true then negW (scW m k) else scW m k, ⟨#[]⟩⟩
    | none => ⟨5, false, 0, 0, s⟩

def readS (s : ByteArray) (quoted : Bool) : Val :=
  if quoted = true then ⟨5, false, 0, 0, s⟩
  else if s.data.toList = [] ∨ s.data.toList = [126] ∨ s.data.toList = [110, 117, 108, 108] then ⟨1, false, 0, 0, ⟨#[]⟩⟩
  else if s.data.toList = [116, 114, 117, 101] then ⟨2, true, 0, 0, ⟨#[]⟩⟩
  else if s.data.toList = [102, 97, 108, 115, 101] then ⟨2, false, 0, 0, ⟨#[]⟩⟩
  else if s.data.toList = [46, 110, 97, 110] then ⟨4, false, 0, nanB, ⟨#[]⟩⟩
  else if s.data.toList = [46, 105, 110, 102] then ⟨4, false, 0, infB, ⟨#[]⟩⟩
  else if s.data.toList = [45, 46, 105, 110, 102] then ⟨4, false, 0, ninfB, ⟨#[]⟩⟩
  else readN s

def ReadPost (s : ByteArray) (quoted : Bool) (w : World) (e : Ending) (w' : World) : Prop :=
  e = .returned (readS s quoted).v ∧ Below w.heap.size w w'

theorem rangeLaid_alloc {w : World} (h : RangeLaid w) (o : Obj) : RangeLaid (w.alloc o) := by
  obtain ⟨ev, q1, q2⟩ := h
  exact ⟨ev, by rw [((Below.refl w.heap.size w).alloc (Nat.le_refl _) o).cell (lt_of_cell q1)]; exact q1, q2⟩

theorem cells_facts_t {w : World} {b t : Nat} {v0 v1 v2 v3 v4 : Value} (h : w.heap[b]? = some (.cells #[v0, v1, v2, v3, v4] t (0, 0))) :
    (w.cell? ⟨b, 0, none⟩ = some v0 ∧ w.cell? ⟨b, 1, none⟩ = some v1 ∧ w.cell? ⟨b, 2, none⟩ = some v2 ∧ w.cell? ⟨b, 3, none⟩ = some v3 ∧ w.cell? ⟨b, 4, none⟩ = some v4) ∧
    (w.frozen? ⟨b, 0, none⟩ = false ∧ w.frozen? ⟨b, 1, none⟩ = false ∧ w.frozen? ⟨b, 2, none⟩ = false ∧ w.frozen? ⟨b, 3, none⟩ = false ∧ w.frozen? ⟨b, 4, none⟩ = false) := by
  refine ⟨⟨?_, ?_, ?_, ?_, ?_⟩, ?_, ?_, ?_, ?_, ?_⟩ <;> simp [World.cell?, World.frozen?, h]

/-- A result's cells, as they are laid. -/
def zeroO (t : Nat) : Obj := Obj.cells #[.int .i64 0, .bool false, .int .i64 0, .float .f64 0, .string ⟨#[]⟩] t

/-- The memory while a value is read: the result's cells stand behind all that was. -/
structure RW (w w' : World) (t : Nat) : Prop where
  below : Below w.heap.size w w'
  r : w'.heap[w.heap.size]? = some (.cells #[.int .i64 0, .bool false, .int .i64 0, .float .f64 0, .string ⟨#[]⟩] t (0, 0))
  lt : w.heap.size < w'.heap.size

theorem RW.first (w : World) (t : Nat) : RW w (w.alloc (Obj.cells #[.int .i64 0, .bool false, .int .i64 0, .float .f64 0, .string ⟨#[]⟩] t)) t where
  below := (Below.refl _ _).alloc (Nat.le_refl _) _
  r := by simp [World.alloc, -World.alloc_eq]
  lt := by simp

theorem RW.later {w w' w2 : World} {t : Nat} (h : RW w w' t) (hb : Below w'.heap.size w' w2) : RW w w2 t :=
  ⟨h.below.trans (hb.mono h.below.size), (hb.block _ h.lt).trans h.r, Nat.lt_of_lt_of_le h.lt hb.size⟩

theorem RW.laid {w w' : World} {t : Nat} (h : RW w w' t) (hl : RangeLaid w) : RangeLaid w' := by
  obtain ⟨ev, q1, q2⟩ := hl
  exact ⟨ev, by rw [h.below.cell (lt_of_cell q1)]; exact q1, q2⟩

theorem RW.drewN {w w' : World} {t : Nat} (h : RW w w' t) (n : Nat) : RW w (w'.drewN n) t :=
  ⟨h.below.trans ⟨rfl, rfl, rfl, Nat.le_refl _, fun _ _ => rfl⟩, h.r, h.lt⟩

theorem beq_yes {s : ByteArray} {l : List UInt8} (h : s.data.toList = l) : (s.toList == l) = true := by
  rw [Lib.toList_data, h]; exact beq_self_eq_true l

theorem beq_no {s : ByteArray} {l : List UInt8} (h : ¬ s.data.toList = l) : (s.toList == l) = false := by
  rw [Lib.toList_data]; exact beq_eq_false_iff_ne.2 h

-- PRINTED

set_option maxHeartbeats 8000000 in
theorem read_walk (w : World) (s : ByteArray) (hmax : s.size ≤ 2097152) (quoted : Bool) (hv : RangeLaid w) :
    Calls Tryd.prog 9 #[.string s, .bool quoted] w fun e w' => ReadPost s quoted w e w' := by
  have hst := @store_float
  have hRW := RW.first w 25
  have Hv := Lib.hid hv
  clear hv
  go_enter Tryd.func9, Tryd.ntmps9
  go_upto_if 7 with (fail)
  obtain ⟨w1, hw1⟩ : ∃ w1, w1 = w.alloc (Obj.cells #[.int .i64 0, .bool false, .int .i64 0, .float .f64 0, .string ⟨#[]⟩] 25) := ⟨_, rfl⟩
  rw [← hw1]
  rw [← hw1] at hRW
  have HR := Lib.hid hRW
  clear hRW hw1
  cases quoted with
  | true =>
    have hS : readS s true = ⟨5, false, 0, 0, s⟩ := rfl
    obtain ⟨⟨c0, c1, c2, c3, c4⟩, f0, f1, f2, f3, f4⟩ := cells_facts_t HR.out.r

    go_wp2
    refine bodyPost_ret (v := valV 5 false 0 0 s) (by simp [results, Tryd.results9, go_sem, valV, f0, f1, f2, f3, f4, c0, c1, c2, c3, c4]) rfl ?_
    exact ⟨by rw [hS]; rfl, (((((HR.out.below.setCell (Nat.le_refl _) _).setCell (Nat.le_refl _) _).setCell (Nat.le_refl _) _).setCell (Nat.le_refl _) _).setCell (Nat.le_refl _) _)⟩
  | false =>
    by_cases hn : s.data.toList = []
    · have qn := beq_yes hn
      have hS : readS s false = ⟨1, false, 0, 0, ⟨#[]⟩⟩ := by simp [readS, hn]
      clear hn
      obtain ⟨⟨c0, c1, c2, c3, c4⟩, f0, f1, f2, f3, f4⟩ := cells_facts_t HR.out.r

      go_wp2
      refine bodyPost_ret (v := valV 1 false 0 0 ⟨#[]⟩) (by simp [results, Tryd.results9, go_sem, valV, f0, f1, f2, f3, f4, c0, c1, c2, c3, c4]) rfl ?_
      exact ⟨by rw [hS]; rfl, (((((HR.out.below.setCell (Nat.le_refl _) _).setCell (Nat.le_refl _) _).setCell (Nat.le_refl _) _).setCell (Nat.le_refl _) _).setCell (Nat.le_refl _) _)⟩
    · have qn := beq_no hn
      by_cases ht : s.data.toList = [126]
      · have qt := beq_yes ht
        have hS : readS s false = ⟨1, false, 0, 0, ⟨#[]⟩⟩ := by simp [readS, ht]
        clear hn ht
        obtain ⟨⟨c0, c1, c2, c3, c4⟩, f0, f1, f2, f3, f4⟩ := cells_facts_t HR.out.r

        go_wp2
        refine bodyPost_ret (v := valV 1 false 0 0 ⟨#[]⟩) (by simp [results, Tryd.results9, go_sem, valV, f0, f1, f2, f3, f4, c0, c1, c2, c3, c4]) rfl ?_
        exact ⟨by rw [hS]; rfl, (((((HR.out.below.setCell (Nat.le_refl _) _).setCell (Nat.le_refl _) _).setCell (Nat.le_refl _) _).setCell (Nat.le_refl _) _).setCell (Nat.le_refl _) _)⟩
      · have qt := beq_no ht
        by_cases hu : s.data.toList = [110, 117, 108, 108]
        · have qu := beq_yes hu
          have hS : readS s false = ⟨1, false, 0, 0, ⟨#[]⟩⟩ := by simp [readS, hu]
          clear hn ht hu
          obtain ⟨⟨c0, c1, c2, c3, c4⟩, f0, f1, f2, f3, f4⟩ := cells_facts_t HR.out.r

          go_wp2
          refine bodyPost_ret (v := valV 1 false 0 0 ⟨#[]⟩) (by simp [results, Tryd.results9, go_sem, valV, f0, f1, f2, f3, f4, c0, c1, c2, c3, c4]) rfl ?_
          exact ⟨by rw [hS]; rfl, (((((HR.out.below.setCell (Nat.le_refl _) _).setCell (Nat.le_refl _) _).setCell (Nat.le_refl _) _).setCell (Nat.le_refl _) _).setCell (Nat.le_refl _) _)⟩
        · have qu := beq_no hu
          by_cases hy : s.data.toList = [116, 114, 117, 101]
          · have qy := beq_yes hy
            have hS : readS s false = ⟨2, true, 0, 0, ⟨#[]⟩⟩ := by simp [readS, hy]
            clear hn ht hu hy
            obtain ⟨⟨c0, c1, c2, c3, c4⟩, f0, f1, f2, f3, f4⟩ := cells_facts_t HR.out.r

            go_wp2
            refine bodyPost_ret (v := valV 2 true 0 0 ⟨#[]⟩) (by simp [results, Tryd.results9, go_sem, valV, f0, f1, f2, f3, f4, c0, c1, c2, c3, c4]) rfl ?_
            exact ⟨by rw [hS]; rfl, (((((HR.out.below.setCell (Nat.le_refl _) _).setCell (Nat.le_refl _) _).setCell (Nat.le_refl _) _).setCell (Nat.le_refl _) _).setCell (Nat.le_refl _) _)⟩
          · have qy := beq_no hy
            by_cases hf : s.data.toList = [102, 97, 108, 115, 101]
            · have qf := beq_yes hf
              have hS : readS s false = ⟨2, false, 0, 0, ⟨#[]⟩⟩ := by simp [readS, hf]
              clear hn ht hu hy hf
              obtain ⟨⟨c0, c1, c2, c3, c4⟩, f0, f1, f2, f3, f4⟩ := cells_facts_t HR.out.r

              go_wp2
              refine bodyPost_ret (v := valV 2 false 0 0 ⟨#[]⟩) (by simp [results, Tryd.results9, go_sem, valV, f0, f1, f2, f3, f4, c0, c1, c2, c3, c4]) rfl ?_
              exact ⟨by rw [hS]; rfl, (((((HR.out.below.setCell (Nat.le_refl _) _).setCell (Nat.le_refl _) _).setCell (Nat.le_refl _) _).setCell (Nat.le_refl _) _).setCell (Nat.le_refl _) _)⟩
            · have qf := beq_no hf
              by_cases ha : s.data.toList = [46, 110, 97, 110]
              · have qa := beq_yes ha
                have hS : readS s false = ⟨4, false, 0, nanB, ⟨#[]⟩⟩ := by simp [readS, ha]
                clear hn ht hu hy hf ha
                have Hc := Lib.hid nan_walk
                go_wp2_with fail
                refine (Hc.out _).mono ?_
                rintro e w1 ⟨rfl, hw⟩
                obtain rfl := hw.symm
                clear Hc
                obtain ⟨⟨c0, c1, c2, c3, c4⟩, f0, f1, f2, f3, f4⟩ := cells_facts_t HR.out.r

                go_wp2
                refine bodyPost_ret (v := valV 4 false 0 nanB ⟨#[]⟩) (by simp [results, Tryd.results9, go_sem, valV, f0, f1, f2, f3, f4, c0, c1, c2, c3, c4]) rfl ?_
                exact ⟨by rw [hS]; rfl, (((((HR.out.below.setCell (Nat.le_refl _) _).setCell (Nat.le_refl _) _).setCell (Nat.le_refl _) _).setCell (Nat.le_refl _) _).setCell (Nat.le_refl _) _)⟩
              · have qa := beq_no ha
                by_cases hi : s.data.toList = [46, 105, 110, 102]
                · have qi := beq_yes hi
                  have hS : readS s false = ⟨4, false, 0, infB, ⟨#[]⟩⟩ := by simp [readS, hi]
                  clear hn ht hu hy hf ha hi
                  have Hc := Lib.hid inf_walk
                  go_wp2_with fail
                  refine (Hc.out _).mono ?_
                  rintro e w1 ⟨rfl, hw⟩
                  obtain rfl := hw.symm
                  clear Hc
                  obtain ⟨⟨c0, c1, c2, c3, c4⟩, f0, f1, f2, f3, f4⟩ := cells_facts_t HR.out.r

                  go_wp2
                  refine bodyPost_ret (v := valV 4 false 0 infB ⟨#[]⟩) (by simp [results, Tryd.results9, go_sem, valV, f0, f1, f2, f3, f4, c0, c1, c2, c3, c4]) rfl ?_
                  exact ⟨by rw [hS]; rfl, (((((HR.out.below.setCell (Nat.le_refl _) _).setCell (Nat.le_refl _) _).setCell (Nat.le_refl _) _).setCell (Nat.le_refl _) _).setCell (Nat.le_refl _) _)⟩
                · have qi := beq_no hi
                  by_cases hm : s.data.toList = [45, 46, 105, 110, 102]
                  · have qm := beq_yes hm
                    have hS : readS s false = ⟨4, false, 0, ninfB, ⟨#[]⟩⟩ := by simp [readS, hm]
                    clear hn ht hu hy hf ha hi hm
                    have Hc := Lib.hid ninf_walk
                    go_wp2_with fail
                    refine (Hc.out _).mono ?_
                    rintro e w1 ⟨rfl, hw⟩
                    obtain rfl := hw.symm
                    clear Hc
                    obtain ⟨⟨c0, c1, c2, c3, c4⟩, f0, f1, f2, f3, f4⟩ := cells_facts_t HR.out.r

                    go_wp2
                    refine bodyPost_ret (v := valV 4 false 0 ninfB ⟨#[]⟩) (by simp [results, Tryd.results9, go_sem, valV, f0, f1, f2, f3, f4, c0, c1, c2, c3, c4]) rfl ?_
                    exact ⟨by rw [hS]; rfl, (((((HR.out.below.setCell (Nat.le_refl _) _).setCell (Nat.le_refl _) _).setCell (Nat.le_refl _) _).setCell (Nat.le_refl _) _).setCell (Nat.le_refl _) _)⟩
                  · have qm := beq_no hm
                    have hS : readS s false = readN s := by simp [readS, hn, ht, hu, hy, hf, ha, hi, hm]
                    clear hn ht hu hy hf ha hi hm
                    have Hc := Lib.hid (number_walk' w1 s hmax (HR.out.laid Hv.out))
                    go_wp2_with fail
                    refine Hc.out.mono ?_
                    rintro e w2 ⟨V, ok, rfl, hb, hcases⟩
                    have HR2 := Lib.hid (HR.out.later hb)
                    clear hb Hc
                    obtain ⟨kd, vi, vx, hV⟩ : ∃ kd vi vx, V = valV kd false vi vx ⟨#[]⟩ := by
                      rcases hcases with ⟨_, ⟨kd, i, h⟩, _⟩ | ⟨_, i, _, h⟩ | ⟨_, _, m, k, b, _, h⟩
                      · exact ⟨_, _, _, h⟩
                      · exact ⟨_, _, _, h⟩
                      · exact ⟨_, _, _, h⟩
                    have HC := Lib.hid hcases
                    have HV := Lib.hid hV
                    clear hcases
                    rw [hV]
                    clear hV
                    dsimp only [valV]
                    go_upto_if 39 with (fail)
                    obtain ⟨w3, hw3⟩ : ∃ w3, w3 = w2.alloc (Obj.cells #[.int .i64 kd, .bool false, .int .i64 vi, .float .f64 vx, .string ⟨#[]⟩] 25) := ⟨_, rfl⟩
                    rw [← hw3]
                    have HR3 := Lib.hid (HR2.out.later (w2 := w3) (by rw [hw3]; exact (Below.refl _ _).alloc (Nat.le_refl _) _))
                    have hB3 : w3.heap[w2.heap.size]? = some (.cells #[.int .i64 kd, .bool false, .int .i64 vi, .float .f64 vx, .string ⟨#[]⟩] 25 (0, 0)) := by
                      rw [hw3]
                      simp [World.alloc, -World.alloc_eq]
                    have HB3 := Lib.hid hB3
                    clear hB3 hw3
                    cases ok with
                    | false =>
                      have hT : readS s false = ⟨5, false, 0, 0, s⟩ := by
                        rcases HC.out with ⟨_, _, hI, hD⟩ | ⟨q, _⟩ | ⟨q, _⟩
                        · rw [hS]; unfold readN; rw [hI]; simp only [hD]
                        · cases q
                        · cases q
                      clear hS
                      obtain ⟨⟨c0, c1, c2, c3, c4⟩, f0, f1, f2, f3, f4⟩ := cells_facts_t HR3.out.r

                      go_wp2
                      refine bodyPost_ret (v := valV 5 false 0 0 s) (by simp [results, Tryd.results9, go_sem, valV, f0, f1, f2, f3, f4, c0, c1, c2, c3, c4]) rfl ?_
                      exact ⟨by rw [hT]; rfl, (((((HR3.out.below.setCell (Nat.le_refl _) _).setCell (Nat.le_refl _) _).setCell (Nat.le_refl _) _).setCell (Nat.le_refl _) _).setCell (Nat.le_refl _) _)⟩
                    | true =>
                      have hT : (readS s false).v = valV kd false vi vx ⟨#[]⟩ := by
                        rcases HC.out with ⟨q, _⟩ | ⟨_, i, hI, hV⟩ | ⟨_, hI, m, k, b, hD, hV⟩
                        · cases q
                        · rw [← HV.out, hV, hS]; unfold readN; rw [hI]; rfl
                        · rw [← HV.out, hV, hS]; unfold readN; rw [hI]; simp only [hD]; rfl
                      clear hS
                      obtain ⟨⟨d0, d1, d2, d3, d4⟩, g0, g1, g2, g3, g4⟩ := cells_facts_t HB3.out
                      obtain ⟨⟨c0, c1, c2, c3, c4⟩, f0, f1, f2, f3, f4⟩ := cells_facts_t HR3.out.r

                      go_wp2
                      refine bodyPost_ret (v := valV kd false vi vx ⟨#[]⟩) (by simp [results, Tryd.results9, go_sem, valV, f0, f1, f2, f3, f4, c0, c1, c2, c3, c4]) rfl ?_
                      exact ⟨by rw [hT], (((((HR3.out.below.setCell (Nat.le_refl _) _).setCell (Nat.le_refl _) _).setCell (Nat.le_refl _) _).setCell (Nat.le_refl _) _).setCell (Nat.le_refl _) _)⟩
set_option maxHeartbeats 8000000 in
theorem refRead_walk (w : World) (s : ByteArray) (hmax : s.size ≤ 2097152) (quoted : Bool) :
    Calls Tryd.prog 10 #[.string s, .bool quoted] w fun e w' => ReadPost s quoted w e w' := by
  have hst := @store_float
  have hRW := RW.first w 27
  go_enter Tryd.func10, Tryd.ntmps10
  go_upto_if 9 with (fail)
  obtain ⟨w1, hw1⟩ : ∃ w1, w1 = w.alloc (Obj.cells #[.int .i64 0, .bool false, .int .i64 0, .float .f64 0, .string ⟨#[]⟩] 27) := ⟨_, rfl⟩
  rw [← hw1]
  rw [← hw1] at hRW
  have HR := Lib.hid hRW
  clear hRW hw1
  cases quoted with
  | true =>
    have hS : readS s true = ⟨5, false, 0, 0, s⟩ := rfl
    obtain ⟨⟨c0, c1, c2, c3, c4⟩, f0, f1, f2, f3, f4⟩ := cells_facts_t HR.out.r

    go_wp2
    refine bodyPost_ret (v := valV 5 false 0 0 s) (by simp [results, Tryd.results10, go_sem, valV, f0, f1, f2, f3, f4, c0, c1, c2, c3, c4]) rfl ?_
    exact ⟨by rw [hS]; rfl, (((((HR.out.below.setCell (Nat.le_refl _) _).setCell (Nat.le_refl _) _).setCell (Nat.le_refl _) _).setCell (Nat.le_refl _) _).setCell (Nat.le_refl _) _)⟩
  | false =>
    by_cases hn : s.data.toList = []
    · have qn := beq_yes hn
      have hS : readS s false = ⟨1, false, 0, 0, ⟨#[]⟩⟩ := by simp [readS, hn]
      clear hn
      obtain ⟨⟨c0, c1, c2, c3, c4⟩, f0, f1, f2, f3, f4⟩ := cells_facts_t HR.out.r

      go_wp2
      refine bodyPost_ret (v := valV 1 false 0 0 ⟨#[]⟩) (by simp [results, Tryd.results10, go_sem, valV, f0, f1, f2, f3, f4, c0, c1, c2, c3, c4]) rfl ?_
      exact ⟨by rw [hS]; rfl, (((((HR.out.below.setCell (Nat.le_refl _) _).setCell (Nat.le_refl _) _).setCell (Nat.le_refl _) _).setCell (Nat.le_refl _) _).setCell (Nat.le_refl _) _)⟩
    · have qn := beq_no hn
      by_cases ht : s.data.toList = [126]
      · have qt := beq_yes ht
        have hS : readS s false = ⟨1, false, 0, 0, ⟨#[]⟩⟩ := by simp [readS, ht]
        clear hn ht
        obtain ⟨⟨c0, c1, c2, c3, c4⟩, f0, f1, f2, f3, f4⟩ := cells_facts_t HR.out.r

        go_wp2
        refine bodyPost_ret (v := valV 1 false 0 0 ⟨#[]⟩) (by simp [results, Tryd.results10, go_sem, valV, f0, f1, f2, f3, f4, c0, c1, c2, c3, c4]) rfl ?_
        exact ⟨by rw [hS]; rfl, (((((HR.out.below.setCell (Nat.le_refl _) _).setCell (Nat.le_refl _) _).setCell (Nat.le_refl _) _).setCell (Nat.le_refl _) _).setCell (Nat.le_refl _) _)⟩
      · have qt := beq_no ht
        by_cases hu : s.data.toList = [110, 117, 108, 108]
        · have qu := beq_yes hu
          have hS : readS s false = ⟨1, false, 0, 0, ⟨#[]⟩⟩ := by simp [readS, hu]
          clear hn ht hu
          obtain ⟨⟨c0, c1, c2, c3, c4⟩, f0, f1, f2, f3, f4⟩ := cells_facts_t HR.out.r

          go_wp2
          refine bodyPost_ret (v := valV 1 false 0 0 ⟨#[]⟩) (by simp [results, Tryd.results10, go_sem, valV, f0, f1, f2, f3, f4, c0, c1, c2, c3, c4]) rfl ?_
          exact ⟨by rw [hS]; rfl, (((((HR.out.below.setCell (Nat.le_refl _) _).setCell (Nat.le_refl _) _).setCell (Nat.le_refl _) _).setCell (Nat.le_refl _) _).setCell (Nat.le_refl _) _)⟩
        · have qu := beq_no hu
          by_cases hy : s.data.toList = [116, 114, 117, 101]
          · have qy := beq_yes hy
            have hS : readS s false = ⟨2, true, 0, 0, ⟨#[]⟩⟩ := by simp [readS, hy]
            clear hn ht hu hy
            obtain ⟨⟨c0, c1, c2, c3, c4⟩, f0, f1, f2, f3, f4⟩ := cells_facts_t HR.out.r

            go_wp2
            refine bodyPost_ret (v := valV 2 true 0 0 ⟨#[]⟩) (by simp [results, Tryd.results10, go_sem, valV, f0, f1, f2, f3, f4, c0, c1, c2, c3, c4]) rfl ?_
            exact ⟨by rw [hS]; rfl, (((((HR.out.below.setCell (Nat.le_refl _) _).setCell (Nat.le_refl _) _).setCell (Nat.le_refl _) _).setCell (Nat.le_refl _) _).setCell (Nat.le_refl _) _)⟩
          · have qy := beq_no hy
            by_cases hf : s.data.toList = [102, 97, 108, 115, 101]
            · have qf := beq_yes hf
              have hS : readS s false = ⟨2, false, 0, 0, ⟨#[]⟩⟩ := by simp [readS, hf]
              clear hn ht hu hy hf
              obtain ⟨⟨c0, c1, c2, c3, c4⟩, f0, f1, f2, f3, f4⟩ := cells_facts_t HR.out.r

              go_wp2
              refine bodyPost_ret (v := valV 2 false 0 0 ⟨#[]⟩) (by simp [results, Tryd.results10, go_sem, valV, f0, f1, f2, f3, f4, c0, c1, c2, c3, c4]) rfl ?_
              exact ⟨by rw [hS]; rfl, (((((HR.out.below.setCell (Nat.le_refl _) _).setCell (Nat.le_refl _) _).setCell (Nat.le_refl _) _).setCell (Nat.le_refl _) _).setCell (Nat.le_refl _) _)⟩
            · have qf := beq_no hf
              by_cases ha : s.data.toList = [46, 110, 97, 110]
              · have qa := beq_yes ha
                have hS : readS s false = ⟨4, false, 0, nanB, ⟨#[]⟩⟩ := by simp [readS, ha]
                clear hn ht hu hy hf ha
                have Hc := Lib.hid nan_walk
                go_wp2_with fail
                refine (Hc.out _).mono ?_
                rintro e w1 ⟨rfl, hw⟩
                obtain rfl := hw.symm
                clear Hc
                obtain ⟨⟨c0, c1, c2, c3, c4⟩, f0, f1, f2, f3, f4⟩ := cells_facts_t HR.out.r

                go_wp2
                refine bodyPost_ret (v := valV 4 false 0 nanB ⟨#[]⟩) (by simp [results, Tryd.results10, go_sem, valV, f0, f1, f2, f3, f4, c0, c1, c2, c3, c4]) rfl ?_
                exact ⟨by rw [hS]; rfl, (((((HR.out.below.setCell (Nat.le_refl _) _).setCell (Nat.le_refl _) _).setCell (Nat.le_refl _) _).setCell (Nat.le_refl _) _).setCell (Nat.le_refl _) _)⟩
              · have qa := beq_no ha
                by_cases hi : s.data.toList = [46, 105, 110, 102]
                · have qi := beq_yes hi
                  have hS : readS s false = ⟨4, false, 0, infB, ⟨#[]⟩⟩ := by simp [readS, hi]
                  clear hn ht hu hy hf ha hi
                  have Hc := Lib.hid inf_walk
                  go_wp2_with fail
                  refine (Hc.out _).mono ?_
                  rintro e w1 ⟨rfl, hw⟩
                  obtain rfl := hw.symm
                  clear Hc
                  obtain ⟨⟨c0, c1, c2, c3, c4⟩, f0, f1, f2, f3, f4⟩ := cells_facts_t HR.out.r

                  go_wp2
                  refine bodyPost_ret (v := valV 4 false 0 infB ⟨#[]⟩) (by simp [results, Tryd.results10, go_sem, valV, f0, f1, f2, f3, f4, c0, c1, c2, c3, c4]) rfl ?_
                  exact ⟨by rw [hS]; rfl, (((((HR.out.below.setCell (Nat.le_refl _) _).setCell (Nat.le_refl _) _).setCell (Nat.le_refl _) _).setCell (Nat.le_refl _) _).setCell (Nat.le_refl _) _)⟩
                · have qi := beq_no hi
                  by_cases hm : s.data.toList = [45, 46, 105, 110, 102]
                  · have qm := beq_yes hm
                    have hS : readS s false = ⟨4, false, 0, ninfB, ⟨#[]⟩⟩ := by simp [readS, hm]
                    clear hn ht hu hy hf ha hi hm
                    have Hc := Lib.hid ninf_walk
                    go_wp2_with fail
                    refine (Hc.out _).mono ?_
                    rintro e w1 ⟨rfl, hw⟩
                    obtain rfl := hw.symm
                    clear Hc
                    obtain ⟨⟨c0, c1, c2, c3, c4⟩, f0, f1, f2, f3, f4⟩ := cells_facts_t HR.out.r

                    go_wp2
                    refine bodyPost_ret (v := valV 4 false 0 ninfB ⟨#[]⟩) (by simp [results, Tryd.results10, go_sem, valV, f0, f1, f2, f3, f4, c0, c1, c2, c3, c4]) rfl ?_
                    exact ⟨by rw [hS]; rfl, (((((HR.out.below.setCell (Nat.le_refl _) _).setCell (Nat.le_refl _) _).setCell (Nat.le_refl _) _).setCell (Nat.le_refl _) _).setCell (Nat.le_refl _) _)⟩
                  · have qm := beq_no hm
                    have hS : readS s false = readN s := by simp [readS, hn, ht, hu, hy, hf, ha, hi, hm]
                    clear hn ht hu hy hf ha hi hm
                    have Hc := Lib.hid (refInteger_walk w1 s (Nat.le_trans hmax (by decide)))
                    have Hd := Lib.hid (refDecimalText_walk w1 s (Nat.le_trans hmax (by decide)))
                    go_wp2_with fail
                    refine Hc.out.mono ?_
                    rintro e w2 ⟨i, ok, rfl, hw, hcases⟩
                    obtain rfl := hw.symm
                    clear Hc
                    rcases hcases with ⟨rfl, hI⟩ | ⟨rfl, hI⟩
                    · have hT : readS s false = ⟨3, false, i, 0, ⟨#[]⟩⟩ := by rw [hS]; unfold readN; rw [hI]
                      clear hS hI Hd
                      obtain ⟨⟨c0, c1, c2, c3, c4⟩, f0, f1, f2, f3, f4⟩ := cells_facts_t HR.out.r

                      go_wp2
                      refine bodyPost_ret (v := valV 3 false i 0 ⟨#[]⟩) (by simp [results, Tryd.results10, go_sem, valV, f0, f1, f2, f3, f4, c0, c1, c2, c3, c4]) rfl ?_
                      exact ⟨by rw [hT]; rfl, (((((HR.out.below.setCell (Nat.le_refl _) _).setCell (Nat.le_refl _) _).setCell (Nat.le_refl _) _).setCell (Nat.le_refl _) _).setCell (Nat.le_refl _) _)⟩
                    · have HI := Lib.hid hI
                      clear hI
                      go_wp2_with fail
                      refine Hd.out.mono ?_
                      rintro e w2 ⟨x, ok, rfl, ⟨nq, hw⟩, hcases⟩
                      subst hw
                      have HR2 := Lib.hid (HR.out.drewN nq)
                      generalize w1.drewN nq = w2 at *
                      clear Hd
                      rcases hcases with ⟨rfl, hD⟩ | ⟨rfl, m, k, b, hD, hx⟩
                      · have hT : readS s false = ⟨5, false, 0, 0, s⟩ := by rw [hS]; unfold readN; rw [HI.out]; simp only [hD]
                        clear hS hD
                        obtain ⟨⟨c0, c1, c2, c3, c4⟩, f0, f1, f2, f3, f4⟩ := cells_facts_t HR2.out.r

                        go_wp2
                        refine bodyPost_ret (v := valV 5 false 0 0 s) (by simp [results, Tryd.results10, go_sem, valV, f0, f1, f2, f3, f4, c0, c1, c2, c3, c4]) rfl ?_
                        exact ⟨by rw [hT]; rfl, (((((HR2.out.below.setCell (Nat.le_refl _) _).setCell (Nat.le_refl _) _).setCell (Nat.le_refl _) _).setCell (Nat.le_refl _) _).setCell (Nat.le_refl _) _)⟩
                      · have hT : readS s false = ⟨4, false, 0, x, ⟨#[]⟩⟩ := by rw [hS]; unfold readN; rw [HI.out]; simp only [hD]; rw [hx]
                        clear hS hD hx
                        obtain ⟨⟨c0, c1, c2, c3, c4⟩, f0, f1, f2, f3, f4⟩ := cells_facts_t HR2.out.r

                        go_wp2
                        refine bodyPost_ret (v := valV 4 false 0 x ⟨#[]⟩) (by simp [results, Tryd.results10, go_sem, valV, f0, f1, f2, f3, f4, c0, c1, c2, c3, c4]) rfl ?_
                        exact ⟨by rw [hT]; rfl, (((((HR2.out.below.setCell (Nat.le_refl _) _).setCell (Nat.le_refl _) _).setCell (Nat.le_refl _) _).setCell (Nat.le_refl _) _).setCell (Nat.le_refl _) _)⟩

end Go.Proofs.YtbmdbfidjdogmaaDoor
