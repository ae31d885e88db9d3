/-
decide.Decide: what it answers, from what the tables and the healthy lists hold alone.
-/
import Derived.Test.YthpflfcgnaichaaDoorTraDecW
set_option linter.unusedVariables false
set_option linter.unusedSimpArgs false
namespace Go.Proofs.YthpflfcgnaichaaDoor
open Go Go.RowKit

theorem HostD.Ok.later {w w2 : World} {x : HostD} (h : x.Ok w) (hb : Below w.heap.size w w2) : x.Ok w2 :=
  ⟨h.entries.later hb, fun e he => ⟨(h.each e he).1, (h.each e he).2.later hb⟩, h.permits.later hb, h.small⟩

structure DecV where
  k : Int
  st : Int
  rt : ByteArray
  ru : Int
  svc : ByteArray
  ep : ByteArray
def DecV.cells (d : DecV) : List Value := [.int .i64 d.k, .int .i64 d.st, .string d.rt, .int .i64 d.ru, .string d.svc, .string d.ep]

def findI (hosts : List HostD) (hn : ByteArray) : Int := idxI (fun x => hostM x.host hn) hosts
def ruleI (x : HostD) (m p : ByteArray) : Int := idxI (fun e => takesB e.path e.method m p) x.entries
def endV (x : HostD) (ru : Int) (svc : ByteArray) (all : List ByteArray) (n : Int) : DecV :=
  ⟨if all.length = 0 then 5 else 1, statOf (if all.length = 0 then 5 else 1), x.route, ru, svc, if all.length = 0 then Z else epV all n⟩
def decideV (hosts : List HostD) (hs : List HealD) (m hn p : ByteArray) (u : Nat) (n : Int) : DecV :=
  if findI hosts hn < 0 then ⟨2, 404, Z, -1, Z, Z⟩ else
  match hosts[(findI hosts hn).toNat]? with
  | none => ⟨0, 0, Z, 0, Z, Z⟩
  | some x => if ruleI x m p < 0 then ⟨3, 404, x.route, ruleI x m p, Z, Z⟩ else
    if allowB x m p = false then ⟨4, 403, x.route, ruleI x m p, Z, Z⟩ else
    match x.entries[(ruleI x m p).toNat]? with
    | none => ⟨0, 0, Z, 0, Z, Z⟩
    | some e => endV x (ruleI x m p) (shareV e.shares u) (allV e.shares hs (shareV e.shares u)) n

theorem dec_range {w : World} {b : Nat} {d : DecV} (h : w.heap[b]? = some (DecO d.k d.st d.rt d.ru d.svc d.ep)) : w.rangeAt b 0 d.cells := fun j v hv => by
  rw [cell_blk h (0 + j), Nat.zero_add]
  simpa [DecV.cells] using hv

theorem results_dec {fn : Func} {w : World} {b : Nat} {d : DecV} {tmps : Array Value} (h : fn.results = #[.cell 14 30]) (h2 : tmps[14]? = some (.pointer (some ⟨b, 0, none⟩))) (hb : w.heap[b]? = some (DecO d.k d.st d.rt d.ru d.svc d.ep)) :
    (results fn tmps).run Tryd.prog w = .ok (.agg d.cells.toArray) w := by
  have hl := run_loadVar_mid (P := Tryd.prog) w b 0 30 d.cells _ (dec_range hb) Tryd.underlying30 rfl (show (Tryd.prog.info? 30).map (·.size) = some 6 by kernel_rfl)
  rw [Array.getElem?_eq_some_iff] at h2
  obtain ⟨l2, e2⟩ := h2
  simp [results, h, asAddr, Array.getD, l2, e2, hl]

theorem dm_first (w : World) (ver hv sv : Value) : DM w (((((w.alloc (.cells #[ver, hv, sv] 61)).alloc (DecO 0 0 ⟨#[]⟩ 0 ⟨#[]⟩ ⟨#[]⟩)).alloc StO).alloc (DecO 2 0 ⟨#[]⟩ (-1) ⟨#[]⟩ ⟨#[]⟩)).alloc (HostO HZ)) ver hv sv 2 (-1) Z Z Z HZ := by
  have e1 : (w.alloc (.cells #[ver, hv, sv] 61)).heap.size = w.heap.size + 1 := by simp
  have e2 : ((w.alloc (.cells #[ver, hv, sv] 61)).alloc (DecO 0 0 ⟨#[]⟩ 0 ⟨#[]⟩ ⟨#[]⟩)).heap.size = w.heap.size + 2 := by simp
  have e3 : (((w.alloc (.cells #[ver, hv, sv] 61)).alloc (DecO 0 0 ⟨#[]⟩ 0 ⟨#[]⟩ ⟨#[]⟩)).alloc StO).heap.size = w.heap.size + 3 := by simp
  have e4 : ((((w.alloc (.cells #[ver, hv, sv] 61)).alloc (DecO 0 0 ⟨#[]⟩ 0 ⟨#[]⟩ ⟨#[]⟩)).alloc StO).alloc (DecO 2 0 ⟨#[]⟩ (-1) ⟨#[]⟩ ⟨#[]⟩)).heap.size = w.heap.size + 4 := by simp
  refine ⟨(((((Below.refl _ w).alloc (Nat.le_refl _) _).alloc (by omega) _).alloc (by omega) _).alloc (by omega) _).alloc (by omega) _, ?_, ?_, ?_, ?_, ?_⟩
  · rw [alloc_old _ (by omega), alloc_old _ (by omega), alloc_old _ (by omega), alloc_old _ (by omega)]
    exact alloc_new _
  · rw [alloc_old _ (by omega), alloc_old _ (by omega), alloc_old _ (by omega), ← e1]
    exact alloc_new _
  · rw [alloc_old _ (by omega), alloc_old _ (by omega), ← e2]
    exact alloc_new _
  · rw [alloc_old _ (by omega), ← e3]
    exact alloc_new _
  · rw [← e4]
    exact alloc_new _

set_option maxRecDepth 20000 in
set_option maxHeartbeats 4000000 in
theorem decide_c (w : World) (ver hv sv hl : Value) (hosts : List HostD) (hs : List HealD) (m hn p : ByteArray) (u : Nat) (n : Int) (hh : SlR w hv 4 hosts HostD.cells) (hok : ∀ x ∈ hosts, x.Ok w) (hhl : SlR w hl 2 hs HealD.cells) (hhe : ∀ y ∈ hs, y.ok w) (hnn : n < 9223372036854775808) :
    Calls Tryd.prog 36 #[.agg #[ver, hv, sv], hl, .string m, .string hn, .string p, .float .f64 u, .int .i64 n] w fun r w' => r = .returned (.agg (decideV hosts hs m hn p u n).cells.toArray) ∧ Below w.heap.size w w' := by
  have D0 := dm_first w ver hv sv
  obtain ⟨w1, hw1⟩ : ∃ w1, w1 = (((((w.alloc (.cells #[ver, hv, sv] 61)).alloc (DecO 0 0 ⟨#[]⟩ 0 ⟨#[]⟩ ⟨#[]⟩)).alloc StO).alloc (DecO 2 0 ⟨#[]⟩ (-1) ⟨#[]⟩ ⟨#[]⟩)).alloc (HostO HZ)) := ⟨_, rfl⟩
  rw [← hw1] at D0
  have Hf := Lib.hid (show Calls _ _ _ _ fun r w' => r = .returned (.int .i64 (findI hosts hn)) ∧ Below w1.heap.size w1 w' from find_c w1 ver hv sv hosts hn (hh.later D0.below))
  have Hd := Lib.hid (fun w2 (hb : Below w1.heap.size w1 w2) => D0.later hb)
  have Hhh := Lib.hid hh
  have Hok := Lib.hid hok
  have Hhl := Lib.hid hhl
  have Hhe := Lib.hid hhe
  have Hnn := Lib.hid hnn
  have hcs := idx_cases (fun x : HostD => hostM x.host hn) hosts
  have hcs' : findI hosts hn = -1 ∨ ∃ (k : Nat) (x : HostD), findI hosts hn = (k : Int) ∧ hosts[k]? = some x := hcs
  have Hv := Lib.hid (show decideV hosts hs m hn p u n = if findI hosts hn < 0 then ⟨2, 404, Z, -1, Z, Z⟩ else
    match hosts[(findI hosts hn).toNat]? with
    | none => ⟨0, 0, Z, 0, Z, Z⟩
    | some x => if ruleI x m p < 0 then ⟨3, 404, x.route, ruleI x m p, Z, Z⟩ else
      if allowB x m p = false then ⟨4, 403, x.route, ruleI x m p, Z, Z⟩ else
      match x.entries[(ruleI x m p).toNat]? with
      | none => ⟨0, 0, Z, 0, Z, Z⟩
      | some e => endV x (ruleI x m p) (shareV e.shares u) (allV e.shares hs (shareV e.shares u)) n from rfl)
  generalize decideV hosts hs m hn p u n = dv at *
  generalize findI hosts hn = fi at *
  clear hcs hh hok hhl hhe hnn D0
  go_enter Tryd.func36, Tryd.ntmps36
  go_wp2_with fail
  refine wp_scope_fwd 0 rfl ?_
  intro J hJ
  go_wp2_with fail
  subst hw1
  refine Hf.out.mono ?_
  rintro r w2 ⟨rfl, hb⟩
  have HD := Lib.hid (Hd.out w2 hb)
  clear hb Hd Hf
  rcases hcs' with rfl | ⟨k, x, rfl, hx⟩
  · have hdv : dv = ⟨2, 404, Z, -1, Z, Z⟩ := by rw [Hv.out, if_pos (by decide)]
    subst hdv
    clear Hv Hhh Hok Hhl Hhe Hnn
    go_wp2_with fail
    go_step3
    refine jump_goto (hJ _ _ ?_)
    refine wp_seq (wp_skip ?_)
    show dcTail.wp Tryd.prog _ _ _
    refine dc_tail (w0 := w) ⟨rfl, rfl, rfl, rfl, rfl⟩ HD.out (.inr (.inl rfl)) ?_
    intro a' w' h1 h2 h3 h4
    rw [Exit.noGoto_ret]
    refine bodyPost_ret (results_dec (d := ⟨2, 404, Z, -1, Z, Z⟩) rfl h2 h3) h1 ?_
    exact ⟨rfl, h4⟩
  · have Hx := Lib.hid hx
    clear hx
    go_upto_region 10 with (fail)
    rename_i K1 hK1
    show dc9.wp Tryd.prog (Exit.then K1 _) _ _
    have hxo : x.Ok w := Hok.out x (List.mem_of_getElem? Hx.out)
    refine dc9_w (w0 := w) (ver := ver) (hv := hv) (sv := sv) (hl := hl) (m := m) (p := p) (u := u) (n := n) (hosts := hosts) (k := k) (x := x) ⟨rfl, rfl, rfl, rfl, rfl, rfl, rfl, rfl, rfl, rfl, rfl, rfl, rfl, rfl⟩ HD.out (Hhh.out.later HD.out.below) Hx.out (hxo.later HD.out.below) ?_
    clear HD
    intro a1 w1 f1 d1
    refine hK1 _ _ ?_
    clear hK1
    refine wp_seq ?_
    refine dc10_w f1 d1 ?_
    clear f1 d1
    intro a2 w2 f2 d2
    refine wp_seq ?_
    have hv2 : dv = if ruleI x m p < 0 then ⟨3, 404, x.route, ruleI x m p, Z, Z⟩ else
      if allowB x m p = false then ⟨4, 403, x.route, ruleI x m p, Z, Z⟩ else
      match x.entries[(ruleI x m p).toNat]? with
      | none => ⟨0, 0, Z, 0, Z, Z⟩
      | some e => endV x (ruleI x m p) (shareV e.shares u) (allV e.shares hs (shareV e.shares u)) n := by
      rw [Hv.out, if_neg (by omega), Int.toNat_natCast, Hx.out]
    refine dc11_w (r := ruleI x m p) f2 d2 (fun w3 hb => hxo.later (d2.below.trans (hb.mono d2.below.size))) rfl ?_ ?_
    · intro hneg a3 w3 f3 d3
      rw [if_pos hneg] at hv2
      subst hv2
      refine ⟨rfl, hJ _ _ ?_⟩
      refine wp_seq (wp_skip ?_)
      show dcTail.wp Tryd.prog _ _ _
      refine dc_tail (w0 := w) f3 d3 (.inr (.inr (.inl rfl))) ?_
      intro a' w' h1 h2 h3 h4
      rw [Exit.noGoto_ret]
      refine bodyPost_ret (results_dec (d := ⟨3, 404, x.route, ruleI x m p, Z, Z⟩) rfl h2 h3) h1 ?_
      exact ⟨rfl, h4⟩
    intro hpos a3 w3 f3 d3
    clear f2 d2
    rw [if_neg (by omega)] at hv2
    obtain ⟨ri, e, hri, he⟩ : ∃ (ri : Nat) (e : EntD), ruleI x m p = (ri : Int) ∧ x.entries[ri]? = some e := by
      rcases idx_cases (fun e : EntD => takesB e.path e.method m p) x.entries with h | h
      · exact absurd hpos (by show ¬ 0 ≤ ruleI x m p; unfold ruleI; omega)
      · exact h
    rw [hri] at hv2 d3
    refine wp_seq ?_
    refine dc12_w f3 d3 ?_
    clear f3 d3
    intro a4 w4 f4 d4
    refine wp_seq ?_
    refine dc13_w f4 d4 (hxo.later d4.below) ?_ ?_
    · intro hneg a5 w5 f5 d5
      rw [if_pos hneg] at hv2
      subst hv2
      refine ⟨rfl, hJ _ _ ?_⟩
      refine wp_seq (wp_skip ?_)
      show dcTail.wp Tryd.prog _ _ _
      refine dc_tail (w0 := w) f5 d5 (.inr (.inr (.inr (.inl rfl)))) ?_
      intro a' w' h1 h2 h3 h4
      rw [Exit.noGoto_ret]
      refine bodyPost_ret (results_dec (d := ⟨4, 403, x.route, (ri : Int), Z, Z⟩) rfl h2 h3) h1 ?_
      exact ⟨rfl, h4⟩
    intro hal a5 w5 f5 d5
    clear f4 d4
    rw [if_neg (by rw [hal]; decide), Int.toNat_natCast, he] at hv2
    refine wp_seq ?_
    refine dc14_w f5 d5 (hxo.later d5.below) he ?_
    clear f5 d5
    intro a6 w6 f6 d6
    refine wp_seq ?_
    refine dc15_w (hs := hs) f6 d6 (fun w3 hb => hxo.later (d6.below.trans (hb.mono d6.below.size))) he Hhl.out Hhe.out ?_
    clear f6 d6
    intro a7 w7 al7 i7 f7 s7 d7
    refine wp_seq ?_
    refine dc16_w Hnn.out f7 d7 s7 ?_
    clear f7 s7 d7
    intro a8 w8 f8 d8
    refine wp_seq ?_
    refine wp_label ?_
    show dcTail.wp Tryd.prog _ _ _
    refine dc_tail (w0 := w) f8 d8 ?_ ?_
    · by_cases hz : (allV e.shares hs (shareV e.shares u)).length = 0
      · rw [if_pos hz]; exact .inr (.inr (.inr (.inr rfl)))
      · rw [if_neg hz]; exact .inl rfl
    intro a' w' h1 h2 h3 h4
    unfold Exit.jump
    dsimp only
    refine bodyPost_ret (results_dec (d := endV x ri (shareV e.shares u) (allV e.shares hs (shareV e.shares u)) n) rfl h2 h3) h1 ?_
    exact ⟨by rw [hv2], h4⟩

end Go.Proofs.YthpflfcgnaichaaDoor
