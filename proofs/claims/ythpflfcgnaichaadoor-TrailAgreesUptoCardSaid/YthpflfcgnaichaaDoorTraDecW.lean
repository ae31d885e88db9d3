/-
decide.Decide's pieces, each walked once.
-/
import Derived.Test.YthpflfcgnaichaaDoorTraDecM
set_option linter.unusedVariables false
set_option linter.unusedSimpArgs false
namespace Go.Proofs.YthpflfcgnaichaaDoor
open Go Go.RowKit

set_option maxHeartbeats 1000000 in
theorem clo_heal (w : World) (x : HealD) (q : Nat) (n : ByteArray) (hq : w.cell? ⟨q, 4, none⟩ = some (.string n)) :
    Calls Tryd.prog 52 #[.agg #[.string x.service, x.ev], .pointer (some ⟨q, 0, none⟩)] w fun r w' => r = .returned (.bool (x.service.toList == n.toList)) ∧ Below w.heap.size w w' := by
  have hlt : q < w.heap.size := World.block_lt_of_cell? w _ hq
  have c0 : (w.alloc (.cells #[.string x.service, x.ev] 122)).cell? ⟨q, 4, none⟩ = some (.string n) := by rw [World.cell?_alloc_lt _ _ _ hlt]; exact hq
  have HB := Lib.hid (show Below w.heap.size w (w.alloc (.cells #[.string x.service, x.ev] 122)) from (Below.refl _ w).alloc (Nat.le_refl _) _)
  clear hq hlt
  go_enter Tryd.func52, Tryd.ntmps52
  go_wp2
  go_ret
  exact ⟨rfl, HB.out⟩

abbrev Z : ByteArray := ⟨#[]⟩
abbrev HZ : HostD := ⟨Z, Z, .slice none 0 0, [], .slice none 0 0, []⟩

section
variable {w0 w : World} {ver hv sv hl : Value} {ru : Int} {rt svc ep m p : ByteArray} {u : Nat} {n i : Int} {K : Act → World → Prop} {Q : Exit → Act → World → Prop} {a : Act}

set_option maxRecDepth 20000 in
set_option maxHeartbeats 2000000 in
theorem dc9_w {hosts : List HostD} {k : Nat} {x : HostD} (hf : DcA a w0.heap.size hl m p u n (.slice none 0 0) (k : Int)) (d : DM w0 w ver hv sv 2 (-1) Z Z Z HZ) (hr : SlR w hv 4 hosts HostD.cells) (hx : hosts[k]? = some x) (hox : x.Ok w)
    (fin : ∀ a' w', DcA a' w0.heap.size hl m p u n (.slice none 0 0) (k : Int) → DM w0 w' ver hv sv 2 (-1) Z Z Z x → K a' w') : dc9.wp Tryd.prog (Exit.then K Q) a w := by
  obtain ⟨ao, cap, rfl, hl0, hat⟩ := hr
  have hs2 : ∀ (W : World) (a : Addr), (store a x.ev).run Tryd.prog W = stored Tryd.prog W a x.ev .plain := fun W a => by
    obtain ⟨_, _, h, _⟩ := hox.entries
    rw [h]
    exact run_store _ W a _ _ rfl
  have hs3 : ∀ (W : World) (a : Addr), (store a x.pv).run Tryd.prog W = stored Tryd.prog W a x.pv .plain := fun W a => by
    obtain ⟨_, _, h, _⟩ := hox.permits
    rw [h]
    exact run_store _ W a _ _ rfl
  have hk := (List.getElem?_eq_some_iff.1 hx).1
  obtain ⟨len, hlen⟩ : ∃ len, len = hosts.length := ⟨_, rfl⟩
  rw [← hlen] at hat hl0 hk d fin
  obtain ⟨b, o, rfl, hlt, hcell⟩ := hat (by omega)
  have b1 : (k : Int) < (len : Int) := by omega
  have b0 : (0 : Int) ≤ (k : Int) := by omega
  have x0 : w.cell? ⟨b, o + k * 4, none⟩ = some (.string x.host) := hcell k x hx 0 _ rfl
  have x1 : w.cell? ⟨b, o + k * 4 + 1, none⟩ = some (.string x.route) := hcell k x hx 1 _ rfl
  have x2 : w.cell? ⟨b, o + k * 4 + 2, none⟩ = some x.ev := hcell k x hx 2 _ rfl
  have x3 : w.cell? ⟨b, o + k * 4 + 3, none⟩ = some x.pv := hcell k x hx 3 _ rfl
  obtain ⟨⟨t1, _⟩, _⟩ := d.cells
  have f0 := frozen_blk d.rou 0
  have f1 := frozen_blk d.rou 1
  have f2 := frozen_blk d.rou 2
  have f3 := frozen_blk d.rou 3
  have hm : Mod (fun q => q = w0.heap.size + 4) w (w.setCells (w0.heap.size + 4) 0 [.string x.host, .string x.route, x.ev, x.pv]) := mod_setCells (F := fun q => q = w0.heap.size + 4) (fun _ => rfl) _ 0 _ (Mod.refl _ w)
  have HD := Lib.hid (show DM w0 (w.setCells (w0.heap.size + 4) 0 [.string x.host, .string x.route, x.ev, x.pv]) ver (.slice (some ⟨b, o, none⟩) len cap) sv 2 (-1) Z Z Z x from
    ⟨d.below.trans (hm.below d.below.size fun q hq => by omega), hm.heap d.tab (by omega), hm.heap d.res (by omega), hm.heap d.st (by omega), hm.heap d.dec (by omega),
      (setCells_blk _ 0 _ _ d.rou).trans (congrArg (fun c => some (Obj.cells c 111 (0, 0))) (writeAt_all (old := [.string Z, .string Z, .slice none 0 0, .slice none 0 0]) rfl))⟩)
  obtain ⟨vv, rfl⟩ := hf.shape
  have Hfin := Lib.hid fin
  refine wp_calm ?_
  clear hf fin hm d hat hcell hx hk hlen hl0 hlt hox
  dsimp only [dc9, ncs, ncl, ncr, ncb, nco, nct, nce, ncx, Tryd.f36]
  go_wp2
  refine Hfin.out _ _ ⟨rfl, rfl, rfl, rfl, rfl, rfl, rfl, rfl, rfl, rfl, rfl, rfl, rfl, rfl⟩ HD.out

set_option maxRecDepth 20000 in
set_option maxHeartbeats 2000000 in
theorem dc10_w {x : HostD} (hf : DcA a w0.heap.size hl m p u n (.slice none 0 0) i) (d : DM w0 w ver hv sv 2 (-1) Z Z Z x)
    (fin : ∀ a' w', DcA a' w0.heap.size hl m p u n (.slice none 0 0) i → DM w0 w' ver hv sv 3 (-1) x.route Z Z x → K a' w') : dc10.wp Tryd.prog (Exit.then K Q) a w := by
  obtain ⟨⟨_, c0, c1, c2, c3, c4, c5⟩, r0, r1, r2, r3⟩ := d.cells
  have fr := frozen_blk d.dec 0
  have fr2 := frozen_blk d.dec 2
  have HD := Lib.hid (show DM w0 ((w.setCell ⟨w0.heap.size + 3, 0, none⟩ (.int .i64 3)).setCell ⟨w0.heap.size + 3, 2, none⟩ (.string x.route)) ver hv sv 3 (-1) x.route Z Z x from
    DM.put (DM.put d 0 (.int .i64 3) 3 (-1) Z Z Z rfl) 2 (.string x.route) 3 (-1) x.route Z Z rfl)
  obtain ⟨vv, rfl⟩ := hf.shape
  have Hfin := Lib.hid fin
  refine wp_calm ?_
  clear hf fin d
  dsimp only [dc10, ncs, ncl, ncr, ncb, nco, nct, nce, ncx, Tryd.f36]
  go_wp2_with fail
  go_region
  refine Hfin.out _ _ ⟨rfl, rfl, rfl, rfl, rfl, rfl, rfl, rfl, rfl, rfl, rfl, rfl, rfl, rfl⟩ (HD.out.later ((Below.refl _ _).drew))

set_option maxRecDepth 20000 in
set_option maxHeartbeats 2000000 in
theorem dc11_w {x : HostD} {rt0 : ByteArray} (hf : DcA a w0.heap.size hl m p u n (.slice none 0 0) i) (d : DM w0 w ver hv sv 3 (-1) rt0 Z Z x) (hok : ∀ w2, Below w.heap.size w w2 → x.Ok w2) {r : Int} (hr : r = idxI (fun e => takesB e.path e.method m p) x.entries)
    (neg : r < 0 → ∀ a' w', DcT a' w0.heap.size → DM w0 w' ver hv sv 3 r rt0 Z Z x → Q (.goto 0) a' w')
    (fin : 0 ≤ r → ∀ a' w', DcA a' w0.heap.size hl m p u n (.slice none 0 0) i → DM w0 w' ver hv sv 3 r rt0 Z Z x → K a' w') : dc11.wp Tryd.prog (Exit.then K Q) a w := by
  obtain ⟨⟨_, c0, c1, c2, c3, c4, c5⟩, r0, r1, r2, r3⟩ := d.cells
  have Hr := Lib.hid (rule_c w x m p (hok w (Below.refl _ w)))
  rw [← hr] at Hr
  have Hd := Lib.hid (fun w2 (hb : Below w.heap.size w w2) => d.later hb)
  obtain ⟨vv, rfl⟩ := hf.shape
  have Hfin := Lib.hid fin
  have Hneg := Lib.hid neg
  clear hf fin neg d hok hr
  dsimp only [dc11, ncs, ncl, ncr, ncb, nco, nct, nce, ncx, Tryd.f36]
  go_wp2_with fail
  refine Hr.out.mono ?_
  rintro z w2 ⟨rfl, hb⟩
  have d2 := Hd.out w2 hb
  have fr := frozen_blk d2.dec 3
  have HD := Lib.hid (show DM w0 (w2.setCell ⟨w0.heap.size + 3, 3, none⟩ (.int .i64 r)) ver hv sv 3 r rt0 Z Z x from DM.put d2 3 (.int .i64 r) 3 r rt0 Z Z rfl)
  have e3 : (w2.setCell ⟨w0.heap.size + 3, 3, none⟩ (.int .i64 r)).cell? ⟨w0.heap.size + 3, 3, none⟩ = some (.int .i64 r) := HD.out.cells.1.2.2.2.2.1
  have g3 := d2.cells.1.2.2.2.2.1
  clear d2 hb Hd Hr c0 c1 c2 c3 c4 c5 r0 r1 r2 r3
  by_cases hneg : r < 0
  · have t1 : decide (r < 0) = true := by simpa using hneg
    go_wp2_with fail
    go_step3
    change Q (.goto 0) _ _
    refine Hneg.out hneg _ _ ⟨rfl, rfl, rfl, rfl, rfl⟩ HD.out
  · have t1 : decide (r < 0) = false := by simpa using hneg
    have h0 : 0 ≤ r := by omega
    go_wp2_with fail
    refine Hfin.out h0 _ _ ⟨rfl, rfl, rfl, rfl, rfl, rfl, rfl, rfl, rfl, rfl, rfl, rfl, rfl, rfl⟩ HD.out

set_option maxRecDepth 20000 in
set_option maxHeartbeats 2000000 in
theorem dc12_w {x : HostD} {rt0 : ByteArray} {r : Int} (hf : DcA a w0.heap.size hl m p u n (.slice none 0 0) i) (d : DM w0 w ver hv sv 3 r rt0 Z Z x)
    (fin : ∀ a' w', DcA a' w0.heap.size hl m p u n (.slice none 0 0) i → DM w0 w' ver hv sv 4 r rt0 Z Z x → K a' w') : dc12.wp Tryd.prog (Exit.then K Q) a w := by
  obtain ⟨⟨_, c0, c1, c2, c3, c4, c5⟩, r0, r1, r2, r3⟩ := d.cells
  have fr := frozen_blk d.dec 0
  have HD := Lib.hid (DM.put d 0 (.int .i64 4) 4 r rt0 Z Z rfl)
  obtain ⟨vv, rfl⟩ := hf.shape
  have Hfin := Lib.hid fin
  refine wp_calm ?_
  clear hf fin d
  dsimp only [dc12, ncs, ncl, ncr, ncb, nco, nct, nce, ncx, Tryd.f36]
  go_wp2_with fail
  refine Hfin.out _ _ ⟨rfl, rfl, rfl, rfl, rfl, rfl, rfl, rfl, rfl, rfl, rfl, rfl, rfl, rfl⟩ HD.out

set_option maxRecDepth 20000 in
set_option maxHeartbeats 2000000 in
theorem dc13_w {x : HostD} {rt0 : ByteArray} {r : Int} (hf : DcA a w0.heap.size hl m p u n (.slice none 0 0) i) (d : DM w0 w ver hv sv 4 r rt0 Z Z x) (hok : x.Ok w)
    (neg : allowB x m p = false → ∀ a' w', DcT a' w0.heap.size → DM w0 w' ver hv sv 4 r rt0 Z Z x → Q (.goto 0) a' w')
    (fin : allowB x m p = true → ∀ a' w', DcA a' w0.heap.size hl m p u n (.slice none 0 0) i → DM w0 w' ver hv sv 4 r rt0 Z Z x → K a' w') : dc13.wp Tryd.prog (Exit.then K Q) a w := by
  obtain ⟨⟨_, c0, c1, c2, c3, c4, c5⟩, r0, r1, r2, r3⟩ := d.cells
  have Hr := Lib.hid (allowed_c w x m p hok)
  have Hd := Lib.hid (fun w2 (hb : Below w.heap.size w w2) => d.later hb)
  obtain ⟨vv, rfl⟩ := hf.shape
  have Hfin := Lib.hid fin
  have Hneg := Lib.hid neg
  clear hf fin neg d hok
  generalize allowB x m p = bb at *
  generalize allowI x m p = bi at *
  dsimp only [dc13, ncs, ncl, ncr, ncb, nco, nct, nce, ncx, Tryd.f36]
  go_wp2_with fail
  refine Hr.out.mono ?_
  rintro z w2 ⟨rfl, hb⟩
  have HD := Lib.hid (Hd.out w2 hb)
  clear hb Hd Hr c0 c1 c2 c3 c4 c5 r0 r1 r2 r3
  cases bb with
  | false =>
    go_wp2_with fail
    go_step3
    change Q (.goto 0) _ _
    refine Hneg.out (by simp) _ _ ⟨rfl, rfl, rfl, rfl, rfl⟩ HD.out
  | true =>
    go_wp2_with fail
    refine Hfin.out (by simp) _ _ ⟨rfl, rfl, rfl, rfl, rfl, rfl, rfl, rfl, rfl, rfl, rfl, rfl, rfl, rfl⟩ HD.out

set_option maxRecDepth 20000 in
set_option maxHeartbeats 2000000 in
theorem dc14_w {x : HostD} {rt0 : ByteArray} {r : Nat} {e : EntD} (hf : DcA a w0.heap.size hl m p u n (.slice none 0 0) i) (d : DM w0 w ver hv sv 4 r rt0 Z Z x) (hok : x.Ok w) (he : x.entries[r]? = some e)
    (fin : ∀ a' w', DcA a' w0.heap.size hl m p u n (.slice none 0 0) i → DM w0 w' ver hv sv 5 r rt0 (shareV e.shares u) Z x → K a' w') : dc14.wp Tryd.prog (Exit.then K Q) a w := by
  obtain ⟨⟨_, c0, c1, c2, c3, c4, c5⟩, r0, r1, r2, r3⟩ := d.cells
  have Hr := Lib.hid (share_c w e u (hok.each e (List.mem_of_getElem? he)).2)
  have Hd := Lib.hid (fun w2 (hb : Below w.heap.size w w2) => d.later hb)
  obtain ⟨ao, cap, hev, hl0, hat⟩ := hok.entries
  have hk := (List.getElem?_eq_some_iff.1 he).1
  obtain ⟨len, hlen⟩ : ∃ len, len = x.entries.length := ⟨_, rfl⟩
  rw [← hlen] at hat hl0 hk hev
  obtain ⟨b, o, rfl, hlt, hcell⟩ := hat (by omega)
  rw [hev] at r2
  have b1 : (r : Int) < (len : Int) := by omega
  have b0 : (0 : Int) ≤ (r : Int) := by omega
  have x0 : w.cell? ⟨b, o + r * 3, none⟩ = some (.string e.path) := hcell r e he 0 _ rfl
  have x1 : w.cell? ⟨b, o + r * 3 + 1, none⟩ = some (.string e.method) := hcell r e he 1 _ rfl
  have x2 : w.cell? ⟨b, o + r * 3 + 2, none⟩ = some e.sv := hcell r e he 2 _ rfl
  generalize shareV e.shares u = svc at *
  obtain ⟨vv, rfl⟩ := hf.shape
  have Hfin := Lib.hid fin
  clear hf fin d hok he hat hcell hl0 hlt hk hlen hev
  dsimp only [dc14, ncs, ncl, ncr, ncb, nco, nct, nce, ncx, Tryd.f36]
  go_wp2_with fail
  refine Hr.out.mono ?_
  rintro z w2 ⟨rfl, hb⟩
  have d2 := Hd.out w2 hb
  have fr := frozen_blk d2.dec 0
  have fr4 := frozen_blk d2.dec 4
  have HD := Lib.hid (DM.put (DM.put d2 0 (.int .i64 5) 5 r rt0 Z Z rfl) 4 (.string svc) 5 r rt0 svc Z rfl)
  have g0 := d2.cells.1.2.1
  have g4 := d2.cells.1.2.2.2.2.2.1
  clear d2 hb Hd Hr c0 c1 c2 c3 c4 c5 r0 r1 r2 r3 x0 x1 x2
  go_wp2_with fail
  refine Hfin.out _ _ ⟨rfl, rfl, rfl, rfl, rfl, rfl, rfl, rfl, rfl, rfl, rfl, rfl, rfl, rfl⟩ HD.out

def allV (ss : List ShareD) (hs : List HealD) (svc : ByteArray) : List ByteArray :=
  if idxI (fun x => x.service.toList == svc.toList) hs < 0 then [] else if ss.length = 0 then [] else match hs[(idxI (fun x => x.service.toList == svc.toList) hs).toNat]? with
    | some h => h.endpoints
    | none => []

set_option maxRecDepth 20000 in
set_option maxHeartbeats 2000000 in
theorem dc15_w {x : HostD} {rt0 svc : ByteArray} {r : Nat} {e : EntD} {hs : List HealD} (hf : DcA a w0.heap.size hl m p u n (.slice none 0 0) i) (d : DM w0 w ver hv sv 5 r rt0 svc Z x)
    (hokL : ∀ w2, Below w.heap.size w w2 → x.Ok w2) (he : x.entries[r]? = some e) (hhl0 : SlR w0 hl 2 hs HealD.cells) (hhe : ∀ y ∈ hs, y.ok w0)
    (fin : ∀ a' w' al' i', DcA a' w0.heap.size hl m p u n al' i' → SlR w0 al' 1 (allV e.shares hs svc) (fun s => [.string s]) → DM w0 w' ver hv sv 5 r rt0 svc Z x → K a' w') : dc15.wp Tryd.prog (Exit.then K Q) a w := by
  have hhl : ∀ w2, Below w.heap.size w w2 → SlR w2 hl 2 hs HealD.cells := fun w2 hb => hhl0.later (d.below.trans (hb.mono d.below.size))
  have c4 : w.cell? ⟨w0.heap.size + 3, 4, none⟩ = some (.string svc) := d.cells.1.2.2.2.2.2.1
  have hlt3 : w0.heap.size + 3 < w.heap.size := lt_of_heap d.dec
  have Hi := Lib.hid (idx_heal w hl hs (w0.heap.size + 3) (fun x => x.service.toList == svc.toList) (hhl w (Below.refl _ w)) (fun y hy w1 hb => clo_heal w1 y _ svc ((hb.cell hlt3).trans c4)))
  have Hd := Lib.hid (fun w2 (hb : Below w.heap.size w w2) => d.later hb)
  have hcs := idx_cases (fun x : HealD => x.service.toList == svc.toList) hs
  have Hall := Lib.hid (show allV e.shares hs svc = if idxI (fun x : HealD => x.service.toList == svc.toList) hs < 0 then [] else if e.shares.length = 0 then [] else match hs[(idxI (fun x : HealD => x.service.toList == svc.toList) hs).toNat]? with | some h => h.endpoints | none => [] from rfl)
  generalize idxI (fun x : HealD => x.service.toList == svc.toList) hs = at2 at *
  have hmf : ∀ (fn : Fn) (first cap : Array Value) (w : World), (Instr.makeFunc fn first cap).run Tryd.prog w = .ok (.func fn first cap) w := fun _ _ _ _ => rfl
  have HokL := Lib.hid hokL
  have Hhl := Lib.hid hhl
  have Hhe := Lib.hid hhe
  have He := Lib.hid he
  obtain ⟨vv, rfl⟩ := hf.shape
  have Hfin := Lib.hid fin
  generalize allV e.shares hs svc = all at *
  clear hf fin d hokL he hhl hhl0 hhe c4 hlt3
  dsimp only [dc15, ncs, ncl, ncr, ncb, nco, nct, nce, ncx, Tryd.f36]
  rcases hcs with rfl | ⟨k, y, rfl, hy⟩
  · go_wp2_with fail
    refine Hi.out.mono ?_
    rintro z w2 ⟨rfl, hb⟩
    have HD := Lib.hid (Hd.out w2 hb)
    have HE := Lib.hid (show SlR w0 (.slice none 0 0) 1 all (fun s => [.string s]) by
      rw [Hall.out, if_pos (by decide)]
      exact ⟨none, 0, rfl, Nat.zero_le _, fun h => absurd h (Nat.lt_irrefl 0)⟩)
    clear hb Hd Hi Hall HokL Hhl Hhe
    go_wp2_with fail
    refine Hfin.out _ _ _ _ ⟨rfl, rfl, rfl, rfl, rfl, rfl, rfl, rfl, rfl, rfl, rfl, rfl, rfl, rfl⟩ HE.out HD.out
  · go_wp2_with fail
    refine Hi.out.mono ?_
    rintro z w2 ⟨rfl, hb⟩
    have HD := Lib.hid (Hd.out w2 hb)
    obtain ⟨⟨_, c0, c1, c2, c3, c4, c5⟩, r0, r1, r2, r3⟩ := HD.out.cells
    have hok := HokL.out w2 hb
    obtain ⟨ao, cap, hev, hl0, hat⟩ := hok.entries
    have hke := (List.getElem?_eq_some_iff.1 He.out).1
    obtain ⟨len, hlen⟩ : ∃ len, len = x.entries.length := ⟨_, rfl⟩
    rw [← hlen] at hat hl0 hke hev
    obtain ⟨b, o, rfl, hlt, hcell⟩ := hat (by omega)
    rw [hev] at r2
    have b1 : (r : Int) < (len : Int) := by omega
    have b0 : (0 : Int) ≤ (r : Int) := by omega
    have k0 : (0 : Int) ≤ (k : Int) := by omega
    obtain ⟨sa, scap, hsv, hsl, _⟩ := (hok.each e (List.mem_of_getElem? He.out)).2
    have x2 : w2.cell? ⟨b, o + r * 3 + 2, none⟩ = some e.sv := hcell r e He.out 2 _ rfl
    rw [hsv] at x2
    by_cases hz : e.shares.length = 0
    · have HE := Lib.hid (show SlR w0 (.slice none 0 0) 1 all (fun s => [.string s]) by
        rw [Hall.out, if_neg (by omega), if_pos hz]
        exact ⟨none, 0, rfl, Nat.zero_le _, fun h => absurd h (Nat.lt_irrefl 0)⟩)
      rw [hz] at x2
      clear hb Hd Hi Hall HokL Hhl Hhe hat hcell hlt hl0 hke hlen hev hok hz hsl hsv
      go_wp2_with fail
      refine Hfin.out _ _ _ _ ⟨rfl, rfl, rfl, rfl, rfl, rfl, rfl, rfl, rfl, rfl, rfl, rfl, rfl, rfl⟩ HE.out HD.out
    · obtain ⟨sn, hsn⟩ : ∃ sn, sn = e.shares.length := ⟨_, rfl⟩
      rw [← hsn] at x2 hz
      have s0 : (0 : Int) < (sn : Int) := by omega
      obtain ⟨ha, hcap, hhv, hhl0, hhat⟩ := Hhl.out w2 hb
      have hkh := (List.getElem?_eq_some_iff.1 hy).1
      obtain ⟨hn, hhn⟩ : ∃ hn, hn = hs.length := ⟨_, rfl⟩
      rw [← hhn] at hhat hhl0 hkh hhv
      obtain ⟨hb2, ho, rfl, hhlt, hhcell⟩ := hhat (by omega)
      obtain rfl := hhv
      have k1 : (k : Int) < (hn : Int) := by omega
      have y1 : w2.cell? ⟨hb2, ho + k * 2 + 1, none⟩ = some y.ev := hhcell k y hy 1 _ rfl
      have HE := Lib.hid (show SlR w0 y.ev 1 all (fun s => [.string s]) by
        rw [Hall.out, if_neg (by omega), if_neg (by omega), Int.toNat_natCast, hy]
        exact Hhe.out y (List.mem_of_getElem? hy))
      clear hb Hd Hi Hall HokL Hhl Hhe hat hcell hlt hl0 hke hlen hev hok hz hsl hsv hhat hhcell hhlt hkh hhl0 hhn hsn
      go_wp2_with fail
      refine Hfin.out _ _ _ _ ⟨rfl, rfl, rfl, rfl, rfl, rfl, rfl, rfl, rfl, rfl, rfl, rfl, rfl, rfl⟩ HE.out HD.out

def epV (all : List ByteArray) (n : Int) : ByteArray := all.getD ((max n 0).toNat % all.length) Z

set_option maxRecDepth 20000 in
set_option maxHeartbeats 2000000 in
theorem dc16_w {x : HostD} {al : Value} {rt0 svc : ByteArray} {r : Int} {all : List ByteArray} (hn : n < 9223372036854775808) (hf : DcA a w0.heap.size hl m p u n al i) (d : DM w0 w ver hv sv 5 r rt0 svc Z x) (hal : SlR w0 al 1 all (fun s => [.string s]))
    (fin : ∀ a' w', DcT a' w0.heap.size → DM w0 w' ver hv sv (if all.length = 0 then 5 else 1) r rt0 svc (if all.length = 0 then Z else epV all n) x → K a' w') : dc16.wp Tryd.prog (Exit.then K Q) a w := by
  obtain ⟨ao, cap, rfl, hl0, hat⟩ := hal
  obtain ⟨⟨_, c0, c1, c2, c3, c4, c5⟩, r0, r1, r2, r3⟩ := d.cells
  have fr0 := frozen_blk d.dec 0
  have fr5 := frozen_blk d.dec 5
  by_cases hz : all.length = 0
  · rw [if_pos hz, if_pos hz] at fin
    rw [hz] at hf
    obtain ⟨vv, rfl⟩ := hf.shape
    have Hfin := Lib.hid fin
    have HD := Lib.hid d
    clear hf fin d hat hl0 hz
    dsimp only [dc16, ncs, ncl, ncr, ncb, nco, nct, nce, ncx, Tryd.f36]
    go_wp2_with fail
    refine Hfin.out _ _ ⟨rfl, rfl, rfl, rfl, rfl⟩ HD.out
  · rw [if_neg hz, if_neg hz] at fin
    obtain ⟨b, o, rfl, hlt, hcell⟩ := hat (by omega)
    obtain ⟨len, hlen⟩ : ∃ len, len = all.length := ⟨_, rfl⟩
    have hj : (max n 0).toNat % all.length < all.length := Nat.mod_lt _ (by omega)
    obtain ⟨s, hs⟩ : ∃ s, all[(max n 0).toNat % all.length]? = some s := ⟨_, List.getElem?_eq_getElem hj⟩
    have hev : epV all n = s := by unfold epV; rw [List.getD_eq_getElem?_getD, hs]; rfl
    rw [hev] at fin
    obtain ⟨j, hjj⟩ : ∃ j, j = (max n 0).toNat % all.length := ⟨_, rfl⟩
    rw [← hjj] at hs hj
    have x0 : w.cell? ⟨b, o + j, none⟩ = some (.string s) := by
      have := hcell j s hs 0 _ rfl
      rw [d.below.cell hlt]
      simpa using this
    have ne3 : ¬ b = w0.heap.size + 3 := by omega
    have ne3' : ¬ w0.heap.size + 3 = b := by omega
    rw [← hlen] at hf hz hj hl0 hjj
    have l0 : (0 : Int) < (len : Int) := by omega
    have j1 : (j : Int) < (len : Int) := by omega
    have j0 : (0 : Int) ≤ (j : Int) := by omega
    have mm : (max n 0) = ((max n 0).toNat : Int) := by omega
    have tm : (max n 0).tmod (len : Int) = (j : Int) := by
      rw [mm, hjj]
      exact (Int.ofNat_tmod _ _).symm
    have HD := Lib.hid (DM.put (DM.put d 0 (.int .i64 1) 1 r rt0 svc Z rfl) 5 (.string s) 1 r rt0 svc s rfl)
    obtain ⟨vv, rfl⟩ := hf.shape
    have Hfin := Lib.hid fin
    clear hf fin d hat hl0 hcell hs hev hlt hjj mm hlen
    dsimp only [dc16, ncs, ncl, ncr, ncb, nco, nct, nce, ncx, Tryd.f36]
    go_wp2_with fail
    go_region
    change K _ _
    refine Hfin.out _ _ ⟨rfl, rfl, rfl, rfl, rfl⟩ (HD.out.later (Below.refl _ _).drew)

end

end Go.Proofs.YthpflfcgnaichaaDoor
