/-
The reference's entry: its fields, one by one.
-/
import Derived.Test.YthpflfcgnaichaaDoorTraRefRead
import Derived.Test.YthpflfcgnaichaaDoorTraEntB
import Derived.Test.YthpflfcgnaichaaDoorCode
set_option linter.unusedVariables false
set_option linter.unusedSimpArgs false
namespace Go.Proofs.YthpflfcgnaichaaDoor
open Go Go.RowKit

noncomputable def re0 : Code := (ncl (ncr (ncr (ncr (ncr (ncr (ncr (ncr (ncx Tryd.f44.body)))))))))
noncomputable def re1 : Code := (ncl (ncr (ncr (ncr (ncr (ncr (ncr (ncr (ncr (ncx Tryd.f44.body))))))))))
noncomputable def re2 : Code := (ncl (ncr (ncr (ncr (ncr (ncr (ncr (ncr (ncr (ncr (ncx Tryd.f44.body)))))))))))
noncomputable def re3 : Code := (ncl (ncr (ncr (ncr (ncr (ncr (ncr (ncr (ncr (ncr (ncr (ncx Tryd.f44.body))))))))))))
noncomputable def re4 : Code := (ncl (ncr (ncr (ncr (ncr (ncr (ncr (ncr (ncr (ncr (ncr (ncr (ncx Tryd.f44.body)))))))))))))
noncomputable def re5 : Code := (ncl (ncr (ncr (ncr (ncr (ncr (ncr (ncr (ncr (ncr (ncr (ncr (ncr (ncx Tryd.f44.body))))))))))))))
noncomputable def re6 : Code := (ncl (ncr (ncr (ncr (ncr (ncr (ncr (ncr (ncr (ncr (ncr (ncr (ncr (ncr (ncx Tryd.f44.body)))))))))))))))
noncomputable def re7 : Code := (ncl (ncr (ncr (ncr (ncr (ncr (ncr (ncr (ncr (ncr (ncr (ncr (ncr (ncr (ncr (ncx Tryd.f44.body))))))))))))))))
noncomputable def re8 : Code := (ncl (ncr (ncr (ncr (ncr (ncr (ncr (ncr (ncr (ncr (ncr (ncr (ncr (ncr (ncr (ncr (ncx Tryd.f44.body)))))))))))))))))
noncomputable def re9 : Code := (ncl (ncr (ncr (ncr (ncr (ncr (ncr (ncr (ncr (ncr (ncr (ncr (ncr (ncr (ncr (ncr (ncr (ncx Tryd.f44.body))))))))))))))))))
noncomputable def re10 : Code := (ncl (ncr (ncr (ncr (ncr (ncr (ncr (ncr (ncr (ncr (ncr (ncr (ncr (ncr (ncr (ncr (ncr (ncr (ncx Tryd.f44.body)))))))))))))))))))
noncomputable def re11 : Code := (ncl (ncr (ncr (ncr (ncr (ncr (ncr (ncr (ncr (ncr (ncr (ncr (ncr (ncr (ncr (ncr (ncr (ncr (ncr (ncx Tryd.f44.body))))))))))))))))))))
noncomputable def re12 : Code := (ncl (ncr (ncr (ncr (ncr (ncr (ncr (ncr (ncr (ncr (ncr (ncr (ncr (ncr (ncr (ncr (ncr (ncr (ncr (ncr (ncx Tryd.f44.body)))))))))))))))))))))
noncomputable def re13 : Code := (ncl (ncr (ncr (ncr (ncr (ncr (ncr (ncr (ncr (ncr (ncr (ncr (ncr (ncr (ncr (ncr (ncr (ncr (ncr (ncr (ncr (ncx Tryd.f44.body))))))))))))))))))))))
noncomputable def re14 : Code := (ncl (ncr (ncr (ncr (ncr (ncr (ncr (ncr (ncr (ncr (ncr (ncr (ncr (ncr (ncr (ncr (ncr (ncr (ncr (ncr (ncr (ncr (ncx Tryd.f44.body)))))))))))))))))))))))
noncomputable def re15 : Code := (ncl (ncr (ncr (ncr (ncr (ncr (ncr (ncr (ncr (ncr (ncr (ncr (ncr (ncr (ncr (ncr (ncr (ncr (ncr (ncr (ncr (ncr (ncr (ncx Tryd.f44.body))))))))))))))))))))))))

set_option maxRecDepth 20000 in
theorem re_act (a : Act) (hs : a.tmps.size = 109) (hd : a.defers = []) : ∃ v : Nat → Value, (∀ (i : Nat) (x : Value), a.tmps[i]? = some x → v i = x) ∧ a = ⟨#[v 0, v 1, v 2, v 3, v 4, v 5, v 6, v 7, v 8, v 9, v 10, v 11, v 12, v 13, v 14, v 15, v 16, v 17, v 18, v 19, v 20, v 21, v 22, v 23, v 24, v 25, v 26, v 27, v 28, v 29, v 30, v 31, v 32, v 33, v 34, v 35, v 36, v 37, v 38, v 39, v 40, v 41, v 42, v 43, v 44, v 45, v 46, v 47, v 48, v 49, v 50, v 51, v 52, v 53, v 54, v 55, v 56, v 57, v 58, v 59, v 60, v 61, v 62, v 63, v 64, v 65, v 66, v 67, v 68, v 69, v 70, v 71, v 72, v 73, v 74, v 75, v 76, v 77, v 78, v 79, v 80, v 81, v 82, v 83, v 84, v 85, v 86, v 87, v 88, v 89, v 90, v 91, v 92, v 93, v 94, v 95, v 96, v 97, v 98, v 99, v 100, v 101, v 102, v 103, v 104, v 105, v 106, v 107, v 108], []⟩ := by
  obtain ⟨t, d⟩ := a
  obtain ⟨l⟩ := t
  obtain rfl : d = [] := hd
  have hl : l.length = 109 := hs
  refine ⟨fun i => l.getD i undef, fun i x hx => ?_, ?_⟩
  · have hx' : l[i]? = some x := by simpa using hx
    simp [List.getD, hx']
  · have e : l = (List.range 109).map (fun i => l.getD i undef) := by
      apply List.ext_getElem
      · simp [hl]
      · intro i h1 h2
        simp [List.getD, h1]
    generalize (fun i => l.getD i undef) = v at e ⊢
    subst e
    rfl

structure ReA (a : Act) (zb : Nat) (rb : Nat) (pe : Nat) : Prop where
  size : a.tmps.size = 109
  dfr : a.defers = []
  s2 : a.tmps[2]? = some (.pointer (some ⟨zb, 0, none⟩))
  s7 : a.tmps[7]? = some (.pointer (some ⟨rb, 0, none⟩))
  s8 : a.tmps[8]? = some (.pointer (some ⟨pe, 0, none⟩))

set_option maxRecDepth 20000 in
theorem ReA.shape {a : Act} {zb : Nat} {rb : Nat} {pe : Nat} (h : ReA a zb rb pe) : ∃ v : Nat → Value, a = ⟨#[v 0, v 1, .pointer (some ⟨zb, 0, none⟩), v 3, v 4, v 5, v 6, .pointer (some ⟨rb, 0, none⟩), .pointer (some ⟨pe, 0, none⟩), v 9, v 10, v 11, v 12, v 13, v 14, v 15, v 16, v 17, v 18, v 19, v 20, v 21, v 22, v 23, v 24, v 25, v 26, v 27, v 28, v 29, v 30, v 31, v 32, v 33, v 34, v 35, v 36, v 37, v 38, v 39, v 40, v 41, v 42, v 43, v 44, v 45, v 46, v 47, v 48, v 49, v 50, v 51, v 52, v 53, v 54, v 55, v 56, v 57, v 58, v 59, v 60, v 61, v 62, v 63, v 64, v 65, v 66, v 67, v 68, v 69, v 70, v 71, v 72, v 73, v 74, v 75, v 76, v 77, v 78, v 79, v 80, v 81, v 82, v 83, v 84, v 85, v 86, v 87, v 88, v 89, v 90, v 91, v 92, v 93, v 94, v 95, v 96, v 97, v 98, v 99, v 100, v 101, v 102, v 103, v 104, v 105, v 106, v 107, v 108], []⟩ := by
  obtain ⟨v, hv, hd⟩ := re_act a h.size h.dfr
  have e2 := hv 2 _ h.s2
  have e7 := hv 7 _ h.s7
  have e8 := hv 8 _ h.s8
  refine ⟨v, ?_⟩
  rw [hd]
  simp only [e2, e7, e8]

structure ReB (a : Act) (zb : Nat) (rb : Nat) (pe : Nat) (m : Bool) : Prop where
  size : a.tmps.size = 109
  dfr : a.defers = []
  s2 : a.tmps[2]? = some (.pointer (some ⟨zb, 0, none⟩))
  s7 : a.tmps[7]? = some (.pointer (some ⟨rb, 0, none⟩))
  s8 : a.tmps[8]? = some (.pointer (some ⟨pe, 0, none⟩))
  s9 : a.tmps[9]? = some (.bool m)

set_option maxRecDepth 20000 in
theorem ReB.shape {a : Act} {zb : Nat} {rb : Nat} {pe : Nat} {m : Bool} (h : ReB a zb rb pe m) : ∃ v : Nat → Value, a = ⟨#[v 0, v 1, .pointer (some ⟨zb, 0, none⟩), v 3, v 4, v 5, v 6, .pointer (some ⟨rb, 0, none⟩), .pointer (some ⟨pe, 0, none⟩), .bool m, v 10, v 11, v 12, v 13, v 14, v 15, v 16, v 17, v 18, v 19, v 20, v 21, v 22, v 23, v 24, v 25, v 26, v 27, v 28, v 29, v 30, v 31, v 32, v 33, v 34, v 35, v 36, v 37, v 38, v 39, v 40, v 41, v 42, v 43, v 44, v 45, v 46, v 47, v 48, v 49, v 50, v 51, v 52, v 53, v 54, v 55, v 56, v 57, v 58, v 59, v 60, v 61, v 62, v 63, v 64, v 65, v 66, v 67, v 68, v 69, v 70, v 71, v 72, v 73, v 74, v 75, v 76, v 77, v 78, v 79, v 80, v 81, v 82, v 83, v 84, v 85, v 86, v 87, v 88, v 89, v 90, v 91, v 92, v 93, v 94, v 95, v 96, v 97, v 98, v 99, v 100, v 101, v 102, v 103, v 104, v 105, v 106, v 107, v 108], []⟩ := by
  obtain ⟨v, hv, hd⟩ := re_act a h.size h.dfr
  have e2 := hv 2 _ h.s2
  have e7 := hv 7 _ h.s7
  have e8 := hv 8 _ h.s8
  have e9 := hv 9 _ h.s9
  refine ⟨v, ?_⟩
  rw [hd]
  simp only [e2, e7, e8, e9]

abbrev EO2 (e : Ent) : Obj := .cells e.cells.toArray 32

/-- j fields are read: what they tell, and that an entry's own parts are read back. -/
structure RdI (ps : List ByteArray) (j : Nat) (e : Ent) (bad : Bool) : Prop where
  fit : e.Fit
  told : bad = false → ∀ k, k < j → (partsB e)[k]? = some (part ps k)
  back : ∀ e0 : Ent, e0.Fit → e0.May → (∀ k, k < j → (partsB e0)[k]? = some (part ps k)) → bad = false ∧ ∀ k, k < j → e.cells[k]? = e0.cells[k]?

theorem RdI.step {ps : List ByteArray} {j : Nat} {e e' : Ent} {bad ok : Bool} {v : Value} {tv : ByteArray} (h : RdI ps j e bad) (hfit : e'.Fit) (hc : e'.cells = e.cells.set j v) (hp : partsB e' = (partsB e).set j tv) (hj : j < 15)
    (h1 : ok = true → tv = part ps j) (h2 : ∀ e0 : Ent, e0.Fit → e0.May → (partsB e0)[j]? = some (part ps j) → ok = true ∧ e0.cells[j]? = some v) : RdI ps (j + 1) e' (bad || !ok) := by
  have lp : (partsB e).length = 15 := rfl
  have lc : e.cells.length = 15 := rfl
  refine ⟨hfit, fun hb k hk => ?_, fun e0 hf hm h0 => ?_⟩
  · rw [Bool.or_eq_false_iff] at hb
    have hok : ok = true := by simpa using hb.2
    rw [hp]
    by_cases e1 : k = j
    · subst e1
      rw [List.getElem?_set_self (by omega), h1 hok]
    · rw [List.getElem?_set_ne (by omega)]
      exact h.told hb.1 k (by omega)
  · obtain ⟨a1, a2⟩ := h.back e0 hf hm (fun k hk => h0 k (by omega))
    obtain ⟨b1, b2⟩ := h2 e0 hf hm (h0 j (by omega))
    refine ⟨by rw [a1, b1]; rfl, fun k hk => ?_⟩
    rw [hc]
    by_cases e1 : k = j
    · subst e1
      rw [List.getElem?_set_self (by omega), b2]
    · rw [List.getElem?_set_ne (by omega)]
      exact a2 k (by omega)

theorem whole_back {s : ByteArray} {n m : Int} {ok : Bool} (h : WholeV s n ok) (hm : -1 ≤ m) (hf : I64 m) (he : itoaB m = s) : ok = true ∧ m = n := by
  have := h.2.2 m hm hf.2 (by rw [← he]; rfl)
  exact ⟨this.1, this.2.symm⟩
theorem word_back {s : ByteArray} {n m : Nat} {ok : Bool} (h : WordV s n ok) (hf : m < 18446744073709551616) (he : decB m = s) : ok = true ∧ m = n := by
  have := h.2.2 m hf (by rw [← he]; rfl)
  exact ⟨this.1, this.2.symm⟩
theorem unt_back {s t t0 : ByteArray} {ok : Bool} (h : UntV s t ok) (he : toldB t0 = s) : ok = true ∧ t0 = t := by
  have := h.2.2 t0 he.symm
  exact ⟨this.1, this.2.symm⟩

theorem rdi_0 {ps : List ByteArray} {e : Ent} {bad ok : Bool} {n : Int} (h : RdI ps 0 e bad) (hv : WholeV (part ps 0) n ok) : RdI ps 1 { e with number := n } (bad || !ok) := by
  refine h.step (v := .int .i64 n) (tv := itoaB n) ⟨hv.1, h.fit.version, h.fit.epoch, h.fit.a, h.fit.b, h.fit.kind, h.fit.status, h.fit.rule, h.fit.fin, h.fit.method, h.fit.host, h.fit.path, h.fit.route, h.fit.service, h.fit.endp⟩ rfl rfl (by decide) (fun q => (hv.2.1 q).1) (fun e0 hf hm h0 => ?_)
  obtain ⟨q1, q2⟩ := whole_back hv hm.number hf.number (Option.some.inj h0)
  refine ⟨q1, ?_⟩
  rw [← q2]
  rfl

theorem rdi_1 {ps : List ByteArray} {e : Ent} {bad ok : Bool} {n : Int} (h : RdI ps 1 e bad) (hv : WholeV (part ps 1) n ok) : RdI ps 2 { e with version := n } (bad || !ok) := by
  refine h.step (v := .int .i64 n) (tv := itoaB n) ⟨h.fit.number, hv.1, h.fit.epoch, h.fit.a, h.fit.b, h.fit.kind, h.fit.status, h.fit.rule, h.fit.fin, h.fit.method, h.fit.host, h.fit.path, h.fit.route, h.fit.service, h.fit.endp⟩ rfl rfl (by decide) (fun q => (hv.2.1 q).1) (fun e0 hf hm h0 => ?_)
  obtain ⟨q1, q2⟩ := whole_back hv hm.version hf.version (Option.some.inj h0)
  refine ⟨q1, ?_⟩
  rw [← q2]
  rfl

theorem rdi_2 {ps : List ByteArray} {e : Ent} {bad ok : Bool} {n : Int} (h : RdI ps 2 e bad) (hv : WholeV (part ps 2) n ok) : RdI ps 3 { e with epoch := n } (bad || !ok) := by
  refine h.step (v := .int .i64 n) (tv := itoaB n) ⟨h.fit.number, h.fit.version, hv.1, h.fit.a, h.fit.b, h.fit.kind, h.fit.status, h.fit.rule, h.fit.fin, h.fit.method, h.fit.host, h.fit.path, h.fit.route, h.fit.service, h.fit.endp⟩ rfl rfl (by decide) (fun q => (hv.2.1 q).1) (fun e0 hf hm h0 => ?_)
  obtain ⟨q1, q2⟩ := whole_back hv hm.epoch hf.epoch (Option.some.inj h0)
  refine ⟨q1, ?_⟩
  rw [← q2]
  rfl

theorem rdi_3 {ps : List ByteArray} {e : Ent} {bad ok : Bool} {n : ByteArray} (hs : (part ps 3).size ≤ 10000000) (h : RdI ps 3 e bad) (hv : UntV (part ps 3) n ok) : RdI ps 4 { e with method := n } (bad || !ok) := by
  refine h.step (v := .string n) (tv := toldB n) ⟨h.fit.number, h.fit.version, h.fit.epoch, h.fit.a, h.fit.b, h.fit.kind, h.fit.status, h.fit.rule, h.fit.fin, (Nat.le_trans hv.1 (Nat.le_trans hs (by decide))), h.fit.host, h.fit.path, h.fit.route, h.fit.service, h.fit.endp⟩ rfl rfl (by decide) (hv.2.1) (fun e0 hf hm h0 => ?_)
  obtain ⟨q1, q2⟩ := unt_back hv (Option.some.inj h0)
  refine ⟨q1, ?_⟩
  rw [← q2]
  rfl

theorem rdi_4 {ps : List ByteArray} {e : Ent} {bad ok : Bool} {n : ByteArray} (hs : (part ps 4).size ≤ 10000000) (h : RdI ps 4 e bad) (hv : UntV (part ps 4) n ok) : RdI ps 5 { e with host := n } (bad || !ok) := by
  refine h.step (v := .string n) (tv := toldB n) ⟨h.fit.number, h.fit.version, h.fit.epoch, h.fit.a, h.fit.b, h.fit.kind, h.fit.status, h.fit.rule, h.fit.fin, h.fit.method, (Nat.le_trans hv.1 (Nat.le_trans hs (by decide))), h.fit.path, h.fit.route, h.fit.service, h.fit.endp⟩ rfl rfl (by decide) (hv.2.1) (fun e0 hf hm h0 => ?_)
  obtain ⟨q1, q2⟩ := unt_back hv (Option.some.inj h0)
  refine ⟨q1, ?_⟩
  rw [← q2]
  rfl

theorem rdi_5 {ps : List ByteArray} {e : Ent} {bad ok : Bool} {n : ByteArray} (hs : (part ps 5).size ≤ 10000000) (h : RdI ps 5 e bad) (hv : UntV (part ps 5) n ok) : RdI ps 6 { e with path := n } (bad || !ok) := by
  refine h.step (v := .string n) (tv := toldB n) ⟨h.fit.number, h.fit.version, h.fit.epoch, h.fit.a, h.fit.b, h.fit.kind, h.fit.status, h.fit.rule, h.fit.fin, h.fit.method, h.fit.host, (Nat.le_trans hv.1 (Nat.le_trans hs (by decide))), h.fit.route, h.fit.service, h.fit.endp⟩ rfl rfl (by decide) (hv.2.1) (fun e0 hf hm h0 => ?_)
  obtain ⟨q1, q2⟩ := unt_back hv (Option.some.inj h0)
  refine ⟨q1, ?_⟩
  rw [← q2]
  rfl

theorem rdi_6 {ps : List ByteArray} {e : Ent} {bad ok : Bool} {n : Nat} (h : RdI ps 6 e bad) (hv : WordV (part ps 6) n ok) : RdI ps 7 { e with a := n } (bad || !ok) := by
  refine h.step (v := .int .u64 (n : Int)) (tv := decB n) ⟨h.fit.number, h.fit.version, h.fit.epoch, hv.1, h.fit.b, h.fit.kind, h.fit.status, h.fit.rule, h.fit.fin, h.fit.method, h.fit.host, h.fit.path, h.fit.route, h.fit.service, h.fit.endp⟩ rfl rfl (by decide) (hv.2.1) (fun e0 hf hm h0 => ?_)
  obtain ⟨q1, q2⟩ := word_back hv hf.a (Option.some.inj h0)
  refine ⟨q1, ?_⟩
  rw [← q2]
  rfl

theorem rdi_7 {ps : List ByteArray} {e : Ent} {bad ok : Bool} {n : Nat} (h : RdI ps 7 e bad) (hv : WordV (part ps 7) n ok) : RdI ps 8 { e with b := n } (bad || !ok) := by
  refine h.step (v := .int .u64 (n : Int)) (tv := decB n) ⟨h.fit.number, h.fit.version, h.fit.epoch, h.fit.a, hv.1, h.fit.kind, h.fit.status, h.fit.rule, h.fit.fin, h.fit.method, h.fit.host, h.fit.path, h.fit.route, h.fit.service, h.fit.endp⟩ rfl rfl (by decide) (hv.2.1) (fun e0 hf hm h0 => ?_)
  obtain ⟨q1, q2⟩ := word_back hv hf.b (Option.some.inj h0)
  refine ⟨q1, ?_⟩
  rw [← q2]
  rfl

theorem rdi_8 {ps : List ByteArray} {e : Ent} {bad ok : Bool} {n : Int} (h : RdI ps 8 e bad) (hv : WholeV (part ps 8) n ok) : RdI ps 9 { e with kind := n } (bad || !ok) := by
  refine h.step (v := .int .i64 n) (tv := itoaB n) ⟨h.fit.number, h.fit.version, h.fit.epoch, h.fit.a, h.fit.b, hv.1, h.fit.status, h.fit.rule, h.fit.fin, h.fit.method, h.fit.host, h.fit.path, h.fit.route, h.fit.service, h.fit.endp⟩ rfl rfl (by decide) (fun q => (hv.2.1 q).1) (fun e0 hf hm h0 => ?_)
  obtain ⟨q1, q2⟩ := whole_back hv hm.kind hf.kind (Option.some.inj h0)
  refine ⟨q1, ?_⟩
  rw [← q2]
  rfl

theorem rdi_9 {ps : List ByteArray} {e : Ent} {bad ok : Bool} {n : Int} (h : RdI ps 9 e bad) (hv : WholeV (part ps 9) n ok) : RdI ps 10 { e with status := n } (bad || !ok) := by
  refine h.step (v := .int .i64 n) (tv := itoaB n) ⟨h.fit.number, h.fit.version, h.fit.epoch, h.fit.a, h.fit.b, h.fit.kind, hv.1, h.fit.rule, h.fit.fin, h.fit.method, h.fit.host, h.fit.path, h.fit.route, h.fit.service, h.fit.endp⟩ rfl rfl (by decide) (fun q => (hv.2.1 q).1) (fun e0 hf hm h0 => ?_)
  obtain ⟨q1, q2⟩ := whole_back hv hm.status hf.status (Option.some.inj h0)
  refine ⟨q1, ?_⟩
  rw [← q2]
  rfl

theorem rdi_10 {ps : List ByteArray} {e : Ent} {bad ok : Bool} {n : ByteArray} (hs : (part ps 10).size ≤ 10000000) (h : RdI ps 10 e bad) (hv : UntV (part ps 10) n ok) : RdI ps 11 { e with route := n } (bad || !ok) := by
  refine h.step (v := .string n) (tv := toldB n) ⟨h.fit.number, h.fit.version, h.fit.epoch, h.fit.a, h.fit.b, h.fit.kind, h.fit.status, h.fit.rule, h.fit.fin, h.fit.method, h.fit.host, h.fit.path, (Nat.le_trans hv.1 (Nat.le_trans hs (by decide))), h.fit.service, h.fit.endp⟩ rfl rfl (by decide) (hv.2.1) (fun e0 hf hm h0 => ?_)
  obtain ⟨q1, q2⟩ := unt_back hv (Option.some.inj h0)
  refine ⟨q1, ?_⟩
  rw [← q2]
  rfl

theorem rdi_11 {ps : List ByteArray} {e : Ent} {bad ok : Bool} {n : Int} (h : RdI ps 11 e bad) (hv : WholeV (part ps 11) n ok) : RdI ps 12 { e with rule := n } (bad || !ok) := by
  refine h.step (v := .int .i64 n) (tv := itoaB n) ⟨h.fit.number, h.fit.version, h.fit.epoch, h.fit.a, h.fit.b, h.fit.kind, h.fit.status, hv.1, h.fit.fin, h.fit.method, h.fit.host, h.fit.path, h.fit.route, h.fit.service, h.fit.endp⟩ rfl rfl (by decide) (fun q => (hv.2.1 q).1) (fun e0 hf hm h0 => ?_)
  obtain ⟨q1, q2⟩ := whole_back hv hm.rule hf.rule (Option.some.inj h0)
  refine ⟨q1, ?_⟩
  rw [← q2]
  rfl

theorem rdi_12 {ps : List ByteArray} {e : Ent} {bad ok : Bool} {n : ByteArray} (hs : (part ps 12).size ≤ 10000000) (h : RdI ps 12 e bad) (hv : UntV (part ps 12) n ok) : RdI ps 13 { e with service := n } (bad || !ok) := by
  refine h.step (v := .string n) (tv := toldB n) ⟨h.fit.number, h.fit.version, h.fit.epoch, h.fit.a, h.fit.b, h.fit.kind, h.fit.status, h.fit.rule, h.fit.fin, h.fit.method, h.fit.host, h.fit.path, h.fit.route, (Nat.le_trans hv.1 (Nat.le_trans hs (by decide))), h.fit.endp⟩ rfl rfl (by decide) (hv.2.1) (fun e0 hf hm h0 => ?_)
  obtain ⟨q1, q2⟩ := unt_back hv (Option.some.inj h0)
  refine ⟨q1, ?_⟩
  rw [← q2]
  rfl

theorem rdi_13 {ps : List ByteArray} {e : Ent} {bad ok : Bool} {n : ByteArray} (hs : (part ps 13).size ≤ 10000000) (h : RdI ps 13 e bad) (hv : UntV (part ps 13) n ok) : RdI ps 14 { e with endp := n } (bad || !ok) := by
  refine h.step (v := .string n) (tv := toldB n) ⟨h.fit.number, h.fit.version, h.fit.epoch, h.fit.a, h.fit.b, h.fit.kind, h.fit.status, h.fit.rule, h.fit.fin, h.fit.method, h.fit.host, h.fit.path, h.fit.route, h.fit.service, (Nat.le_trans hv.1 (Nat.le_trans hs (by decide)))⟩ rfl rfl (by decide) (hv.2.1) (fun e0 hf hm h0 => ?_)
  obtain ⟨q1, q2⟩ := unt_back hv (Option.some.inj h0)
  refine ⟨q1, ?_⟩
  rw [← q2]
  rfl

theorem rdi_14 {ps : List ByteArray} {e : Ent} {bad ok : Bool} {n : Int} (h : RdI ps 14 e bad) (hv : WholeV (part ps 14) n ok) : RdI ps 15 { e with fin := n } (bad || !ok) := by
  refine h.step (v := .int .i64 n) (tv := itoaB n) ⟨h.fit.number, h.fit.version, h.fit.epoch, h.fit.a, h.fit.b, h.fit.kind, h.fit.status, h.fit.rule, hv.1, h.fit.method, h.fit.host, h.fit.path, h.fit.route, h.fit.service, h.fit.endp⟩ rfl rfl (by decide) (fun q => (hv.2.1 q).1) (fun e0 hf hm h0 => ?_)
  obtain ⟨q1, q2⟩ := whole_back hv hm.fin hf.fin (Option.some.inj h0)
  refine ⟨q1, ?_⟩
  rw [← q2]
  rfl

/-- The memory while fields are read. -/
structure RS (w0 w : World) (rb g pe : Nat) (ps : List ByteArray) (c j : Nat) (e : Ent) (bad : Bool) : Prop where
  rd : RD w0 w rb g ps c j bad
  ent : w.heap[pe]? = some (EO2 e)
  res : w.heap[w0.heap.size]? = some (EO2 Ent.zero)
  ne1 : pe ≠ rb
  ne2 : pe ≠ g
  ne3 : pe ≠ w0.heap.size
  ne4 : w0.heap.size ≠ rb
  ge : w0.heap.size ≤ pe
  rdi : RdI ps j e bad

section
variable {w0 w : World} {rb g pe c : Nat} {ps : List ByteArray} {e : Ent} {bad : Bool} {K : Act → World → Prop} {Q : Exit → Act → World → Prop} {a : Act}

theorem RS.store {w1 : World} {j : Nat} {e e' : Ent} {bad bad' : Bool} {o : Nat} {v : Value} (h : RS w0 w rb g pe ps c j e bad) (h1 : RD w0 w1 rb g ps c (j + 1) bad') (hk : Kp rb w w1) (hc : (e.cells.toArray).setIfInBounds o v = e'.cells.toArray) (hr : RdI ps (j + 1) e' bad') :
    RS w0 (w1.setCell ⟨pe, o, none⟩ v) rb g pe ps c (j + 1) e' bad' := by
  have hz := hk pe _ h.ne1 h.ent
  have hm : Mod (fun k => k = pe) w1 (w1.setCell ⟨pe, o, none⟩ v) := (Mod.refl _ w1).setCell _ _ (fun _ => rfl)
  refine ⟨⟨h1.below.trans (hm.below h1.below.size fun k hk => hk ▸ h.ge), hm.heap h1.blk (fun q => h.ne1 q.symm), fun i x hi => hm.cell (h1.row i x hi) (fun q => h.ne2 q.symm), h1.len, h1.small, h1.rb0, Nat.lt_of_lt_of_le h1.glt hm.size, h1.ne⟩, ?_, hm.heap (hk _ _ h.ne4 h.res) (fun q => h.ne3 q.symm), h.ne1, h.ne2, h.ne3, h.ne4, h.ge, hr⟩
  rw [set_blk hz o v, hc]

set_option maxHeartbeats 1000000 in
set_option maxRecDepth 20000 in
theorem re0_step (hf : ReA a w0.heap.size rb pe) (h : RS w0 w rb g pe ps c 0 e bad)
    (rest : ∀ a' w' e' bad', ReA a' w0.heap.size rb pe → RS w0 w' rb g pe ps c 1 e' bad' → K a' w') : re0.wp Tryd.prog (Exit.then K Q) a w := by
  refine wp_cut (fun a' w' => ∃ e' bad', ReA a' w0.heap.size rb pe ∧ RS w0 w' rb g pe ps c 1 e' bad') (fun a' w' ⟨e', bad', h1, h2⟩ => rest a' w' e' bad' h1 h2) ?_
  clear rest
  intro J K' hJ hK
  obtain ⟨v, rfl⟩ := hf.shape
  clear hf
  have Hn := Lib.hid (RD.whole (j := 0) h.rd (by decide))
  have HE := Lib.hid (fun (w1 : World) (n : Int) (ok : Bool) (hv : WholeV (part ps 0) n ok) (h1 : RD w0 w1 rb g ps c 1 (bad || !ok)) (hk : Kp rb w w1) => show (w1.cell? ⟨pe, 0, none⟩ = some (.int .i64 e.number) ∧ w1.frozen? ⟨pe, 0, none⟩ = false) ∧ Hid (RS w0 (w1.setCell ⟨pe, 0, none⟩ (.int .i64 n)) rb g pe ps c 1 { e with number := n } (bad || !ok)) from
    ⟨⟨cell_blk (hk pe _ h.ne1 h.ent) 0, frozen_blk (hk pe _ h.ne1 h.ent) 0⟩, h.store h1 hk (by rw [List.setIfInBounds_toArray]; rfl) (rdi_0  h.rdi hv)⟩)
  clear h
  dsimp only [re0, ncl, ncr, ncb, nco, ncx, Tryd.f44]
  go_wp2_with fail
  refine Hn.out.mono ?_
  rintro r w1 ⟨n, ok, rfl, hv, h1, hk⟩
  obtain ⟨⟨c0, f0⟩, HF⟩ := HE.out w1 n ok hv h1 hk
  clear HE Hn h1 hk hv
  go_wp2
  exact Met.intro (hJ _ _ ⟨_, _, ⟨rfl, rfl, rfl, rfl, rfl⟩, HF.out⟩)

set_option maxHeartbeats 1000000 in
set_option maxRecDepth 20000 in
theorem re1_step (hf : ReA a w0.heap.size rb pe) (h : RS w0 w rb g pe ps c 1 e bad)
    (rest : ∀ a' w' e' bad', ReA a' w0.heap.size rb pe → RS w0 w' rb g pe ps c 2 e' bad' → K a' w') : re1.wp Tryd.prog (Exit.then K Q) a w := by
  refine wp_cut (fun a' w' => ∃ e' bad', ReA a' w0.heap.size rb pe ∧ RS w0 w' rb g pe ps c 2 e' bad') (fun a' w' ⟨e', bad', h1, h2⟩ => rest a' w' e' bad' h1 h2) ?_
  clear rest
  intro J K' hJ hK
  obtain ⟨v, rfl⟩ := hf.shape
  clear hf
  have Hn := Lib.hid (RD.whole (j := 1) h.rd (by decide))
  have HE := Lib.hid (fun (w1 : World) (n : Int) (ok : Bool) (hv : WholeV (part ps 1) n ok) (h1 : RD w0 w1 rb g ps c 2 (bad || !ok)) (hk : Kp rb w w1) => show (w1.cell? ⟨pe, 1, none⟩ = some (.int .i64 e.version) ∧ w1.frozen? ⟨pe, 1, none⟩ = false) ∧ Hid (RS w0 (w1.setCell ⟨pe, 1, none⟩ (.int .i64 n)) rb g pe ps c 2 { e with version := n } (bad || !ok)) from
    ⟨⟨cell_blk (hk pe _ h.ne1 h.ent) 1, frozen_blk (hk pe _ h.ne1 h.ent) 1⟩, h.store h1 hk (by rw [List.setIfInBounds_toArray]; rfl) (rdi_1  h.rdi hv)⟩)
  clear h
  dsimp only [re1, ncl, ncr, ncb, nco, ncx, Tryd.f44]
  go_wp2_with fail
  refine Hn.out.mono ?_
  rintro r w1 ⟨n, ok, rfl, hv, h1, hk⟩
  obtain ⟨⟨c0, f0⟩, HF⟩ := HE.out w1 n ok hv h1 hk
  clear HE Hn h1 hk hv
  go_wp2
  exact Met.intro (hJ _ _ ⟨_, _, ⟨rfl, rfl, rfl, rfl, rfl⟩, HF.out⟩)

set_option maxHeartbeats 1000000 in
set_option maxRecDepth 20000 in
theorem re2_step (hf : ReA a w0.heap.size rb pe) (h : RS w0 w rb g pe ps c 2 e bad)
    (rest : ∀ a' w' e' bad', ReA a' w0.heap.size rb pe → RS w0 w' rb g pe ps c 3 e' bad' → K a' w') : re2.wp Tryd.prog (Exit.then K Q) a w := by
  refine wp_cut (fun a' w' => ∃ e' bad', ReA a' w0.heap.size rb pe ∧ RS w0 w' rb g pe ps c 3 e' bad') (fun a' w' ⟨e', bad', h1, h2⟩ => rest a' w' e' bad' h1 h2) ?_
  clear rest
  intro J K' hJ hK
  obtain ⟨v, rfl⟩ := hf.shape
  clear hf
  have Hn := Lib.hid (RD.whole (j := 2) h.rd (by decide))
  have HE := Lib.hid (fun (w1 : World) (n : Int) (ok : Bool) (hv : WholeV (part ps 2) n ok) (h1 : RD w0 w1 rb g ps c 3 (bad || !ok)) (hk : Kp rb w w1) => show (w1.cell? ⟨pe, 2, none⟩ = some (.int .i64 e.epoch) ∧ w1.frozen? ⟨pe, 2, none⟩ = false) ∧ Hid (RS w0 (w1.setCell ⟨pe, 2, none⟩ (.int .i64 n)) rb g pe ps c 3 { e with epoch := n } (bad || !ok)) from
    ⟨⟨cell_blk (hk pe _ h.ne1 h.ent) 2, frozen_blk (hk pe _ h.ne1 h.ent) 2⟩, h.store h1 hk (by rw [List.setIfInBounds_toArray]; rfl) (rdi_2  h.rdi hv)⟩)
  clear h
  dsimp only [re2, ncl, ncr, ncb, nco, ncx, Tryd.f44]
  go_wp2_with fail
  refine Hn.out.mono ?_
  rintro r w1 ⟨n, ok, rfl, hv, h1, hk⟩
  obtain ⟨⟨c0, f0⟩, HF⟩ := HE.out w1 n ok hv h1 hk
  clear HE Hn h1 hk hv
  go_wp2
  exact Met.intro (hJ _ _ ⟨_, _, ⟨rfl, rfl, rfl, rfl, rfl⟩, HF.out⟩)

set_option maxHeartbeats 1000000 in
set_option maxRecDepth 20000 in
theorem re3_step (hf : ReA a w0.heap.size rb pe) (h : RS w0 w rb g pe ps c 3 e bad)
    (rest : ∀ a' w' e' bad', ReA a' w0.heap.size rb pe → RS w0 w' rb g pe ps c 4 e' bad' → K a' w') : re3.wp Tryd.prog (Exit.then K Q) a w := by
  refine wp_cut (fun a' w' => ∃ e' bad', ReA a' w0.heap.size rb pe ∧ RS w0 w' rb g pe ps c 4 e' bad') (fun a' w' ⟨e', bad', h1, h2⟩ => rest a' w' e' bad' h1 h2) ?_
  clear rest
  intro J K' hJ hK
  obtain ⟨v, rfl⟩ := hf.shape
  clear hf
  have Hn := Lib.hid (RD.text (j := 3) h.rd (by decide))
  have HE := Lib.hid (fun (w1 : World) (n : ByteArray) (ok : Bool) (hv : UntV (part ps 3) n ok) (h1 : RD w0 w1 rb g ps c 4 (bad || !ok)) (hk : Kp rb w w1) => show (w1.cell? ⟨pe, 3, none⟩ = some (.string e.method) ∧ w1.frozen? ⟨pe, 3, none⟩ = false) ∧ Hid (RS w0 (w1.setCell ⟨pe, 3, none⟩ (.string n)) rb g pe ps c 4 { e with method := n } (bad || !ok)) from
    ⟨⟨cell_blk (hk pe _ h.ne1 h.ent) 3, frozen_blk (hk pe _ h.ne1 h.ent) 3⟩, h.store h1 hk (by rw [List.setIfInBounds_toArray]; rfl) (rdi_3 (h.rd.psize (by decide)) h.rdi hv)⟩)
  clear h
  dsimp only [re3, ncl, ncr, ncb, nco, ncx, Tryd.f44]
  go_wp2_with fail
  refine Hn.out.mono ?_
  rintro r w1 ⟨n, ok, rfl, hv, h1, hk⟩
  obtain ⟨⟨c0, f0⟩, HF⟩ := HE.out w1 n ok hv h1 hk
  clear HE Hn h1 hk hv
  go_wp2
  exact Met.intro (hJ _ _ ⟨_, _, ⟨rfl, rfl, rfl, rfl, rfl⟩, HF.out⟩)

set_option maxHeartbeats 1000000 in
set_option maxRecDepth 20000 in
theorem re4_step (hf : ReA a w0.heap.size rb pe) (h : RS w0 w rb g pe ps c 4 e bad)
    (rest : ∀ a' w' e' bad', ReA a' w0.heap.size rb pe → RS w0 w' rb g pe ps c 5 e' bad' → K a' w') : re4.wp Tryd.prog (Exit.then K Q) a w := by
  refine wp_cut (fun a' w' => ∃ e' bad', ReA a' w0.heap.size rb pe ∧ RS w0 w' rb g pe ps c 5 e' bad') (fun a' w' ⟨e', bad', h1, h2⟩ => rest a' w' e' bad' h1 h2) ?_
  clear rest
  intro J K' hJ hK
  obtain ⟨v, rfl⟩ := hf.shape
  clear hf
  have Hn := Lib.hid (RD.text (j := 4) h.rd (by decide))
  have HE := Lib.hid (fun (w1 : World) (n : ByteArray) (ok : Bool) (hv : UntV (part ps 4) n ok) (h1 : RD w0 w1 rb g ps c 5 (bad || !ok)) (hk : Kp rb w w1) => show (w1.cell? ⟨pe, 4, none⟩ = some (.string e.host) ∧ w1.frozen? ⟨pe, 4, none⟩ = false) ∧ Hid (RS w0 (w1.setCell ⟨pe, 4, none⟩ (.string n)) rb g pe ps c 5 { e with host := n } (bad || !ok)) from
    ⟨⟨cell_blk (hk pe _ h.ne1 h.ent) 4, frozen_blk (hk pe _ h.ne1 h.ent) 4⟩, h.store h1 hk (by rw [List.setIfInBounds_toArray]; rfl) (rdi_4 (h.rd.psize (by decide)) h.rdi hv)⟩)
  clear h
  dsimp only [re4, ncl, ncr, ncb, nco, ncx, Tryd.f44]
  go_wp2_with fail
  refine Hn.out.mono ?_
  rintro r w1 ⟨n, ok, rfl, hv, h1, hk⟩
  obtain ⟨⟨c0, f0⟩, HF⟩ := HE.out w1 n ok hv h1 hk
  clear HE Hn h1 hk hv
  go_wp2
  exact Met.intro (hJ _ _ ⟨_, _, ⟨rfl, rfl, rfl, rfl, rfl⟩, HF.out⟩)

set_option maxHeartbeats 1000000 in
set_option maxRecDepth 20000 in
theorem re5_step (hf : ReA a w0.heap.size rb pe) (h : RS w0 w rb g pe ps c 5 e bad)
    (rest : ∀ a' w' e' bad', ReA a' w0.heap.size rb pe → RS w0 w' rb g pe ps c 6 e' bad' → K a' w') : re5.wp Tryd.prog (Exit.then K Q) a w := by
  refine wp_cut (fun a' w' => ∃ e' bad', ReA a' w0.heap.size rb pe ∧ RS w0 w' rb g pe ps c 6 e' bad') (fun a' w' ⟨e', bad', h1, h2⟩ => rest a' w' e' bad' h1 h2) ?_
  clear rest
  intro J K' hJ hK
  obtain ⟨v, rfl⟩ := hf.shape
  clear hf
  have Hn := Lib.hid (RD.text (j := 5) h.rd (by decide))
  have HE := Lib.hid (fun (w1 : World) (n : ByteArray) (ok : Bool) (hv : UntV (part ps 5) n ok) (h1 : RD w0 w1 rb g ps c 6 (bad || !ok)) (hk : Kp rb w w1) => show (w1.cell? ⟨pe, 5, none⟩ = some (.string e.path) ∧ w1.frozen? ⟨pe, 5, none⟩ = false) ∧ Hid (RS w0 (w1.setCell ⟨pe, 5, none⟩ (.string n)) rb g pe ps c 6 { e with path := n } (bad || !ok)) from
    ⟨⟨cell_blk (hk pe _ h.ne1 h.ent) 5, frozen_blk (hk pe _ h.ne1 h.ent) 5⟩, h.store h1 hk (by rw [List.setIfInBounds_toArray]; rfl) (rdi_5 (h.rd.psize (by decide)) h.rdi hv)⟩)
  clear h
  dsimp only [re5, ncl, ncr, ncb, nco, ncx, Tryd.f44]
  go_wp2_with fail
  refine Hn.out.mono ?_
  rintro r w1 ⟨n, ok, rfl, hv, h1, hk⟩
  obtain ⟨⟨c0, f0⟩, HF⟩ := HE.out w1 n ok hv h1 hk
  clear HE Hn h1 hk hv
  go_wp2
  exact Met.intro (hJ _ _ ⟨_, _, ⟨rfl, rfl, rfl, rfl, rfl⟩, HF.out⟩)

set_option maxHeartbeats 1000000 in
set_option maxRecDepth 20000 in
theorem re6_step (hf : ReA a w0.heap.size rb pe) (h : RS w0 w rb g pe ps c 6 e bad)
    (rest : ∀ a' w' e' bad', ReA a' w0.heap.size rb pe → RS w0 w' rb g pe ps c 7 e' bad' → K a' w') : re6.wp Tryd.prog (Exit.then K Q) a w := by
  refine wp_cut (fun a' w' => ∃ e' bad', ReA a' w0.heap.size rb pe ∧ RS w0 w' rb g pe ps c 7 e' bad') (fun a' w' ⟨e', bad', h1, h2⟩ => rest a' w' e' bad' h1 h2) ?_
  clear rest
  intro J K' hJ hK
  obtain ⟨v, rfl⟩ := hf.shape
  clear hf
  have Hn := Lib.hid (RD.word (j := 6) h.rd (by decide))
  have HE := Lib.hid (fun (w1 : World) (n : Nat) (ok : Bool) (hv : WordV (part ps 6) n ok) (h1 : RD w0 w1 rb g ps c 7 (bad || !ok)) (hk : Kp rb w w1) => show (w1.cell? ⟨pe, 6, none⟩ = some (.int .u64 (e.a : Int)) ∧ w1.frozen? ⟨pe, 6, none⟩ = false) ∧ Hid (RS w0 (w1.setCell ⟨pe, 6, none⟩ (.int .u64 (n : Int))) rb g pe ps c 7 { e with a := n } (bad || !ok)) from
    ⟨⟨cell_blk (hk pe _ h.ne1 h.ent) 6, frozen_blk (hk pe _ h.ne1 h.ent) 6⟩, h.store h1 hk (by rw [List.setIfInBounds_toArray]; rfl) (rdi_6  h.rdi hv)⟩)
  clear h
  dsimp only [re6, ncl, ncr, ncb, nco, ncx, Tryd.f44]
  go_wp2_with fail
  refine Hn.out.mono ?_
  rintro r w1 ⟨n, ok, rfl, hv, h1, hk⟩
  obtain ⟨⟨c0, f0⟩, HF⟩ := HE.out w1 n ok hv h1 hk
  clear HE Hn h1 hk hv
  go_wp2
  exact Met.intro (hJ _ _ ⟨_, _, ⟨rfl, rfl, rfl, rfl, rfl⟩, HF.out⟩)

set_option maxHeartbeats 1000000 in
set_option maxRecDepth 20000 in
theorem re7_step (hf : ReA a w0.heap.size rb pe) (h : RS w0 w rb g pe ps c 7 e bad)
    (rest : ∀ a' w' e' bad', ReA a' w0.heap.size rb pe → RS w0 w' rb g pe ps c 8 e' bad' → K a' w') : re7.wp Tryd.prog (Exit.then K Q) a w := by
  refine wp_cut (fun a' w' => ∃ e' bad', ReA a' w0.heap.size rb pe ∧ RS w0 w' rb g pe ps c 8 e' bad') (fun a' w' ⟨e', bad', h1, h2⟩ => rest a' w' e' bad' h1 h2) ?_
  clear rest
  intro J K' hJ hK
  obtain ⟨v, rfl⟩ := hf.shape
  clear hf
  have Hn := Lib.hid (RD.word (j := 7) h.rd (by decide))
  have HE := Lib.hid (fun (w1 : World) (n : Nat) (ok : Bool) (hv : WordV (part ps 7) n ok) (h1 : RD w0 w1 rb g ps c 8 (bad || !ok)) (hk : Kp rb w w1) => show (w1.cell? ⟨pe, 7, none⟩ = some (.int .u64 (e.b : Int)) ∧ w1.frozen? ⟨pe, 7, none⟩ = false) ∧ Hid (RS w0 (w1.setCell ⟨pe, 7, none⟩ (.int .u64 (n : Int))) rb g pe ps c 8 { e with b := n } (bad || !ok)) from
    ⟨⟨cell_blk (hk pe _ h.ne1 h.ent) 7, frozen_blk (hk pe _ h.ne1 h.ent) 7⟩, h.store h1 hk (by rw [List.setIfInBounds_toArray]; rfl) (rdi_7  h.rdi hv)⟩)
  clear h
  dsimp only [re7, ncl, ncr, ncb, nco, ncx, Tryd.f44]
  go_wp2_with fail
  refine Hn.out.mono ?_
  rintro r w1 ⟨n, ok, rfl, hv, h1, hk⟩
  obtain ⟨⟨c0, f0⟩, HF⟩ := HE.out w1 n ok hv h1 hk
  clear HE Hn h1 hk hv
  go_wp2
  exact Met.intro (hJ _ _ ⟨_, _, ⟨rfl, rfl, rfl, rfl, rfl⟩, HF.out⟩)

set_option maxHeartbeats 1000000 in
set_option maxRecDepth 20000 in
theorem re8_step (hf : ReA a w0.heap.size rb pe) (h : RS w0 w rb g pe ps c 8 e bad)
    (rest : ∀ a' w' e' bad', ReA a' w0.heap.size rb pe → RS w0 w' rb g pe ps c 9 e' bad' → K a' w') : re8.wp Tryd.prog (Exit.then K Q) a w := by
  refine wp_cut (fun a' w' => ∃ e' bad', ReA a' w0.heap.size rb pe ∧ RS w0 w' rb g pe ps c 9 e' bad') (fun a' w' ⟨e', bad', h1, h2⟩ => rest a' w' e' bad' h1 h2) ?_
  clear rest
  intro J K' hJ hK
  obtain ⟨v, rfl⟩ := hf.shape
  clear hf
  have Hn := Lib.hid (RD.whole (j := 8) h.rd (by decide))
  have HE := Lib.hid (fun (w1 : World) (n : Int) (ok : Bool) (hv : WholeV (part ps 8) n ok) (h1 : RD w0 w1 rb g ps c 9 (bad || !ok)) (hk : Kp rb w w1) => show (w1.cell? ⟨pe, 8, none⟩ = some (.int .i64 e.kind) ∧ w1.frozen? ⟨pe, 8, none⟩ = false) ∧ Hid (RS w0 (w1.setCell ⟨pe, 8, none⟩ (.int .i64 n)) rb g pe ps c 9 { e with kind := n } (bad || !ok)) from
    ⟨⟨cell_blk (hk pe _ h.ne1 h.ent) 8, frozen_blk (hk pe _ h.ne1 h.ent) 8⟩, h.store h1 hk (by rw [List.setIfInBounds_toArray]; rfl) (rdi_8  h.rdi hv)⟩)
  clear h
  dsimp only [re8, ncl, ncr, ncb, nco, ncx, Tryd.f44]
  go_wp2_with fail
  refine Hn.out.mono ?_
  rintro r w1 ⟨n, ok, rfl, hv, h1, hk⟩
  obtain ⟨⟨c0, f0⟩, HF⟩ := HE.out w1 n ok hv h1 hk
  clear HE Hn h1 hk hv
  go_wp2
  exact Met.intro (hJ _ _ ⟨_, _, ⟨rfl, rfl, rfl, rfl, rfl⟩, HF.out⟩)

set_option maxHeartbeats 1000000 in
set_option maxRecDepth 20000 in
theorem re9_step (hf : ReA a w0.heap.size rb pe) (h : RS w0 w rb g pe ps c 9 e bad)
    (rest : ∀ a' w' e' bad', ReA a' w0.heap.size rb pe → RS w0 w' rb g pe ps c 10 e' bad' → K a' w') : re9.wp Tryd.prog (Exit.then K Q) a w := by
  refine wp_cut (fun a' w' => ∃ e' bad', ReA a' w0.heap.size rb pe ∧ RS w0 w' rb g pe ps c 10 e' bad') (fun a' w' ⟨e', bad', h1, h2⟩ => rest a' w' e' bad' h1 h2) ?_
  clear rest
  intro J K' hJ hK
  obtain ⟨v, rfl⟩ := hf.shape
  clear hf
  have Hn := Lib.hid (RD.whole (j := 9) h.rd (by decide))
  have HE := Lib.hid (fun (w1 : World) (n : Int) (ok : Bool) (hv : WholeV (part ps 9) n ok) (h1 : RD w0 w1 rb g ps c 10 (bad || !ok)) (hk : Kp rb w w1) => show (w1.cell? ⟨pe, 9, none⟩ = some (.int .i64 e.status) ∧ w1.frozen? ⟨pe, 9, none⟩ = false) ∧ Hid (RS w0 (w1.setCell ⟨pe, 9, none⟩ (.int .i64 n)) rb g pe ps c 10 { e with status := n } (bad || !ok)) from
    ⟨⟨cell_blk (hk pe _ h.ne1 h.ent) 9, frozen_blk (hk pe _ h.ne1 h.ent) 9⟩, h.store h1 hk (by rw [List.setIfInBounds_toArray]; rfl) (rdi_9  h.rdi hv)⟩)
  clear h
  dsimp only [re9, ncl, ncr, ncb, nco, ncx, Tryd.f44]
  go_wp2_with fail
  refine Hn.out.mono ?_
  rintro r w1 ⟨n, ok, rfl, hv, h1, hk⟩
  obtain ⟨⟨c0, f0⟩, HF⟩ := HE.out w1 n ok hv h1 hk
  clear HE Hn h1 hk hv
  go_wp2
  exact Met.intro (hJ _ _ ⟨_, _, ⟨rfl, rfl, rfl, rfl, rfl⟩, HF.out⟩)

set_option maxHeartbeats 1000000 in
set_option maxRecDepth 20000 in
theorem re10_step (hf : ReA a w0.heap.size rb pe) (h : RS w0 w rb g pe ps c 10 e bad)
    (rest : ∀ a' w' e' bad', ReA a' w0.heap.size rb pe → RS w0 w' rb g pe ps c 11 e' bad' → K a' w') : re10.wp Tryd.prog (Exit.then K Q) a w := by
  refine wp_cut (fun a' w' => ∃ e' bad', ReA a' w0.heap.size rb pe ∧ RS w0 w' rb g pe ps c 11 e' bad') (fun a' w' ⟨e', bad', h1, h2⟩ => rest a' w' e' bad' h1 h2) ?_
  clear rest
  intro J K' hJ hK
  obtain ⟨v, rfl⟩ := hf.shape
  clear hf
  have Hn := Lib.hid (RD.text (j := 10) h.rd (by decide))
  have HE := Lib.hid (fun (w1 : World) (n : ByteArray) (ok : Bool) (hv : UntV (part ps 10) n ok) (h1 : RD w0 w1 rb g ps c 11 (bad || !ok)) (hk : Kp rb w w1) => show (w1.cell? ⟨pe, 10, none⟩ = some (.string e.route) ∧ w1.frozen? ⟨pe, 10, none⟩ = false) ∧ Hid (RS w0 (w1.setCell ⟨pe, 10, none⟩ (.string n)) rb g pe ps c 11 { e with route := n } (bad || !ok)) from
    ⟨⟨cell_blk (hk pe _ h.ne1 h.ent) 10, frozen_blk (hk pe _ h.ne1 h.ent) 10⟩, h.store h1 hk (by rw [List.setIfInBounds_toArray]; rfl) (rdi_10 (h.rd.psize (by decide)) h.rdi hv)⟩)
  clear h
  dsimp only [re10, ncl, ncr, ncb, nco, ncx, Tryd.f44]
  go_wp2_with fail
  refine Hn.out.mono ?_
  rintro r w1 ⟨n, ok, rfl, hv, h1, hk⟩
  obtain ⟨⟨c0, f0⟩, HF⟩ := HE.out w1 n ok hv h1 hk
  clear HE Hn h1 hk hv
  go_wp2
  exact Met.intro (hJ _ _ ⟨_, _, ⟨rfl, rfl, rfl, rfl, rfl⟩, HF.out⟩)

set_option maxHeartbeats 1000000 in
set_option maxRecDepth 20000 in
theorem re11_step (hf : ReA a w0.heap.size rb pe) (h : RS w0 w rb g pe ps c 11 e bad)
    (rest : ∀ a' w' e' bad', ReA a' w0.heap.size rb pe → RS w0 w' rb g pe ps c 12 e' bad' → K a' w') : re11.wp Tryd.prog (Exit.then K Q) a w := by
  refine wp_cut (fun a' w' => ∃ e' bad', ReA a' w0.heap.size rb pe ∧ RS w0 w' rb g pe ps c 12 e' bad') (fun a' w' ⟨e', bad', h1, h2⟩ => rest a' w' e' bad' h1 h2) ?_
  clear rest
  intro J K' hJ hK
  obtain ⟨v, rfl⟩ := hf.shape
  clear hf
  have Hn := Lib.hid (RD.whole (j := 11) h.rd (by decide))
  have HE := Lib.hid (fun (w1 : World) (n : Int) (ok : Bool) (hv : WholeV (part ps 11) n ok) (h1 : RD w0 w1 rb g ps c 12 (bad || !ok)) (hk : Kp rb w w1) => show (w1.cell? ⟨pe, 11, none⟩ = some (.int .i64 e.rule) ∧ w1.frozen? ⟨pe, 11, none⟩ = false) ∧ Hid (RS w0 (w1.setCell ⟨pe, 11, none⟩ (.int .i64 n)) rb g pe ps c 12 { e with rule := n } (bad || !ok)) from
    ⟨⟨cell_blk (hk pe _ h.ne1 h.ent) 11, frozen_blk (hk pe _ h.ne1 h.ent) 11⟩, h.store h1 hk (by rw [List.setIfInBounds_toArray]; rfl) (rdi_11  h.rdi hv)⟩)
  clear h
  dsimp only [re11, ncl, ncr, ncb, nco, ncx, Tryd.f44]
  go_wp2_with fail
  refine Hn.out.mono ?_
  rintro r w1 ⟨n, ok, rfl, hv, h1, hk⟩
  obtain ⟨⟨c0, f0⟩, HF⟩ := HE.out w1 n ok hv h1 hk
  clear HE Hn h1 hk hv
  go_wp2
  exact Met.intro (hJ _ _ ⟨_, _, ⟨rfl, rfl, rfl, rfl, rfl⟩, HF.out⟩)

set_option maxHeartbeats 1000000 in
set_option maxRecDepth 20000 in
theorem re12_step (hf : ReA a w0.heap.size rb pe) (h : RS w0 w rb g pe ps c 12 e bad)
    (rest : ∀ a' w' e' bad', ReA a' w0.heap.size rb pe → RS w0 w' rb g pe ps c 13 e' bad' → K a' w') : re12.wp Tryd.prog (Exit.then K Q) a w := by
  refine wp_cut (fun a' w' => ∃ e' bad', ReA a' w0.heap.size rb pe ∧ RS w0 w' rb g pe ps c 13 e' bad') (fun a' w' ⟨e', bad', h1, h2⟩ => rest a' w' e' bad' h1 h2) ?_
  clear rest
  intro J K' hJ hK
  obtain ⟨v, rfl⟩ := hf.shape
  clear hf
  have Hn := Lib.hid (RD.text (j := 12) h.rd (by decide))
  have HE := Lib.hid (fun (w1 : World) (n : ByteArray) (ok : Bool) (hv : UntV (part ps 12) n ok) (h1 : RD w0 w1 rb g ps c 13 (bad || !ok)) (hk : Kp rb w w1) => show (w1.cell? ⟨pe, 12, none⟩ = some (.string e.service) ∧ w1.frozen? ⟨pe, 12, none⟩ = false) ∧ Hid (RS w0 (w1.setCell ⟨pe, 12, none⟩ (.string n)) rb g pe ps c 13 { e with service := n } (bad || !ok)) from
    ⟨⟨cell_blk (hk pe _ h.ne1 h.ent) 12, frozen_blk (hk pe _ h.ne1 h.ent) 12⟩, h.store h1 hk (by rw [List.setIfInBounds_toArray]; rfl) (rdi_12 (h.rd.psize (by decide)) h.rdi hv)⟩)
  clear h
  dsimp only [re12, ncl, ncr, ncb, nco, ncx, Tryd.f44]
  go_wp2_with fail
  refine Hn.out.mono ?_
  rintro r w1 ⟨n, ok, rfl, hv, h1, hk⟩
  obtain ⟨⟨c0, f0⟩, HF⟩ := HE.out w1 n ok hv h1 hk
  clear HE Hn h1 hk hv
  go_wp2
  exact Met.intro (hJ _ _ ⟨_, _, ⟨rfl, rfl, rfl, rfl, rfl⟩, HF.out⟩)

set_option maxHeartbeats 1000000 in
set_option maxRecDepth 20000 in
theorem re13_step (hf : ReA a w0.heap.size rb pe) (h : RS w0 w rb g pe ps c 13 e bad)
    (rest : ∀ a' w' e' bad', ReA a' w0.heap.size rb pe → RS w0 w' rb g pe ps c 14 e' bad' → K a' w') : re13.wp Tryd.prog (Exit.then K Q) a w := by
  refine wp_cut (fun a' w' => ∃ e' bad', ReA a' w0.heap.size rb pe ∧ RS w0 w' rb g pe ps c 14 e' bad') (fun a' w' ⟨e', bad', h1, h2⟩ => rest a' w' e' bad' h1 h2) ?_
  clear rest
  intro J K' hJ hK
  obtain ⟨v, rfl⟩ := hf.shape
  clear hf
  have Hn := Lib.hid (RD.text (j := 13) h.rd (by decide))
  have HE := Lib.hid (fun (w1 : World) (n : ByteArray) (ok : Bool) (hv : UntV (part ps 13) n ok) (h1 : RD w0 w1 rb g ps c 14 (bad || !ok)) (hk : Kp rb w w1) => show (w1.cell? ⟨pe, 13, none⟩ = some (.string e.endp) ∧ w1.frozen? ⟨pe, 13, none⟩ = false) ∧ Hid (RS w0 (w1.setCell ⟨pe, 13, none⟩ (.string n)) rb g pe ps c 14 { e with endp := n } (bad || !ok)) from
    ⟨⟨cell_blk (hk pe _ h.ne1 h.ent) 13, frozen_blk (hk pe _ h.ne1 h.ent) 13⟩, h.store h1 hk (by rw [List.setIfInBounds_toArray]; rfl) (rdi_13 (h.rd.psize (by decide)) h.rdi hv)⟩)
  clear h
  dsimp only [re13, ncl, ncr, ncb, nco, ncx, Tryd.f44]
  go_wp2_with fail
  refine Hn.out.mono ?_
  rintro r w1 ⟨n, ok, rfl, hv, h1, hk⟩
  obtain ⟨⟨c0, f0⟩, HF⟩ := HE.out w1 n ok hv h1 hk
  clear HE Hn h1 hk hv
  go_wp2
  exact Met.intro (hJ _ _ ⟨_, _, ⟨rfl, rfl, rfl, rfl, rfl⟩, HF.out⟩)

set_option maxHeartbeats 1000000 in
set_option maxRecDepth 20000 in
theorem re14_step (hf : ReA a w0.heap.size rb pe) (h : RS w0 w rb g pe ps c 14 e bad)
    (rest : ∀ a' w' e' bad', ReA a' w0.heap.size rb pe → RS w0 w' rb g pe ps c 15 e' bad' → K a' w') : re14.wp Tryd.prog (Exit.then K Q) a w := by
  refine wp_cut (fun a' w' => ∃ e' bad', ReA a' w0.heap.size rb pe ∧ RS w0 w' rb g pe ps c 15 e' bad') (fun a' w' ⟨e', bad', h1, h2⟩ => rest a' w' e' bad' h1 h2) ?_
  clear rest
  intro J K' hJ hK
  obtain ⟨v, rfl⟩ := hf.shape
  clear hf
  have Hn := Lib.hid (RD.whole (j := 14) h.rd (by decide))
  have HE := Lib.hid (fun (w1 : World) (n : Int) (ok : Bool) (hv : WholeV (part ps 14) n ok) (h1 : RD w0 w1 rb g ps c 15 (bad || !ok)) (hk : Kp rb w w1) => show (w1.cell? ⟨pe, 14, none⟩ = some (.int .i64 e.fin) ∧ w1.frozen? ⟨pe, 14, none⟩ = false) ∧ Hid (RS w0 (w1.setCell ⟨pe, 14, none⟩ (.int .i64 n)) rb g pe ps c 15 { e with fin := n } (bad || !ok)) from
    ⟨⟨cell_blk (hk pe _ h.ne1 h.ent) 14, frozen_blk (hk pe _ h.ne1 h.ent) 14⟩, h.store h1 hk (by rw [List.setIfInBounds_toArray]; rfl) (rdi_14  h.rdi hv)⟩)
  clear h
  dsimp only [re14, ncl, ncr, ncb, nco, ncx, Tryd.f44]
  go_wp2_with fail
  refine Hn.out.mono ?_
  rintro r w1 ⟨n, ok, rfl, hv, h1, hk⟩
  obtain ⟨⟨c0, f0⟩, HF⟩ := HE.out w1 n ok hv h1 hk
  clear HE Hn h1 hk hv
  go_wp2
  exact Met.intro (hJ _ _ ⟨_, _, ⟨rfl, rfl, rfl, rfl, rfl⟩, HF.out⟩)

end

end Go.Proofs.YthpflfcgnaichaaDoor
