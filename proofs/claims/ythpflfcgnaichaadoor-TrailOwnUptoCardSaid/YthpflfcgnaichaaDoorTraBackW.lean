/-
TrailBack's walk, whole.
-/
import Derived.Test.YthpflfcgnaichaaDoorTraBack
set_option linter.unusedVariables false
set_option linter.unusedSimpArgs false
namespace Go.Proofs.YthpflfcgnaichaaDoor
open Go Go.RowKit

theorem told_small {s : ByteArray} (h : s.size ≤ 1048576) : (toldB s).data.toList.length ≤ 3145729 := by
  have h1 := toldL_len s.data.toList
  rw [size_list] at h1
  show (toldL s.data.toList).toArray.toList.length ≤ _
  rw [List.toList_toArray]
  omega

theorem line_small {e : Ent} (hf : e.Fit) (hs : e.Sm) : (lineL e).length ≤ 19000000 := by
  have a0 := itoaB_len hf.number
  have a1 := itoaB_len hf.version
  have a2 := itoaB_len hf.epoch
  have a3 := told_small hs.method
  have a4 := told_small hs.host
  have a5 := told_small hs.path
  have a6 := decB_len hf.a
  have a7 := decB_len hf.b
  have a8 := itoaB_len hf.kind
  have a9 := itoaB_len hf.status
  have a10 := told_small hs.route
  have a11 := itoaB_len hf.rule
  have a12 := told_small hs.service
  have a13 := told_small hs.endp
  have a14 := itoaB_len hf.fin
  unfold lineL partsB
  simp only [List.map_cons, List.map_nil, Lib.join_cons, Lib.joinTail, List.flatten_cons, List.flatten_nil, List.length_append, List.length_cons, List.length_nil]
  omega

theorem text_small : ∀ xs : List Ent, (∀ x ∈ xs, x.Fit ∧ x.Sm) → (textL xs).length ≤ 19000000 * xs.length
  | [], _ => Nat.zero_le _
  | e :: xs, h => by
    have h1 := line_small (h e (List.mem_cons_self ..)).1 (h e (List.mem_cons_self ..)).2
    have h2 := text_small xs fun x hx => h x (List.mem_cons_of_mem _ hx)
    have e1 : textL (e :: xs) = lineL e ++ textL xs := by unfold textL; rw [List.flatMap_cons]
    rw [e1, List.length_append, List.length_cons]
    omega

set_option maxHeartbeats 4000000 in
set_option maxRecDepth 20000 in
theorem back_walk (w : World) (hg : Glob w) (htab : Tab w) (al : Option Addr) (len cl gl ol : Nat) (hal : 0 < len → al = some ⟨gl, ol, .none⟩ ∧ gl < w.heap.size) (C : Nat → OpD) (hc : ∀ i, i < len → OpAt w gl (ol + i * 19) (C i)) (hfit : ∀ i, i < len → (C i).e.Fit ∧ (C i).e.Sm) (t : ByteArray) (ht : t.size ≤ 40000000) :
    Calls Tryd.prog 7 #[.slice al len cl, .string t] w fun e w' => e = .returned (.bool true) ∧ Below w.heap.size w w' := by
  have Ha := Lib.hid (awake_walk w htab)
  have Hm := Lib.hid (fun w1 (hb : Below w.heap.size w w1) => made_walk w1 al len cl gl ol (fun h => ⟨(hal h).1, Nat.lt_of_lt_of_le (hal h).2 hb.size⟩) C (fun i hi => (hc i hi).below (hal (by omega)).2 hb) hfit)
  have Hg := Lib.hid hg
  have Htab := Lib.hid htab
  have Ht := Lib.hid ht
  clear hg htab hal hc hfit ht
  go_enter Tryd.func7, Tryd.ntmps7
  go_wp2_with fail
  refine Ha.out.mono ?_
  rintro r w1 ⟨rfl, hb⟩
  have Hm1 := Lib.hid (Hm.out w1 hb)
  have Hb1 := Lib.hid hb
  clear hb Ha Hm
  go_wp2_with fail
  refine Hm1.out.mono ?_
  rintro r w2 ⟨lb, v, xs, rfl, hlg, hall, hsm⟩
  have hb2 : Below w.heap.size w w2 := Hb1.out.trans (hlg.below.mono Hb1.out.size)
  have hgd : ∀ e ∈ xs, e.Fit ∧ e.may = true ∧ 0 ≤ e.number := fun e he => ⟨(hall.good e he).fit, (hall.good e he).may, (hall.good e he).num⟩
  have Htx := Lib.hid (text_walk w2 lb v xs hlg.log (tab_later Htab.out hb2) (fun e he => (hgd e he).1) (Nat.le_trans hall.len (by decide)))
  have hts : (textL xs).length ≤ 1200000000 := by
    have h1 := text_small xs fun e he => ⟨(hgd e he).1, hsm e he⟩
    have h2 := hall.len
    omega
  have Hp := Lib.hid (fun w3 (hb : Below w2.heap.size w2 w3) => (parse_c w3 ⟨(textL xs).toArray⟩ hts (Seg.of_text xs hgd fun e he => Nat.le_trans (line_small (hgd e he).1 (hsm e he)) (by decide)) (glob_later Hg.out (hb2.trans (hb.mono hb2.size))) (tab_later Htab.out (hb2.trans (hb.mono hb2.size)))).mono
    (R' := fun r w4 => ∃ ao c, r = .returned (.tuple #[.slice ao xs.length c, .int .i64 0, .int .i64 0]) ∧ EntRow w4 38 (.slice ao xs.length c) xs ∧ Below w3.heap.size w3 w4) fun r w4 ⟨es, b, hPR, hb4, hc⟩ => by
      obtain ⟨rfl, rfl⟩ := hPR.uniq (PR.of_text xs hgd)
      rcases hc with ⟨_, ao, c, hr, hrow, _⟩ | ⟨h, _⟩
      · exact ⟨ao, c, hr, hrow, hb4⟩
      · cases h)
  have He := Lib.hid (fun w4 (hb : Below w2.heap.size w2 w4) => entries_walk w4 lb v xs (log_later hlg.log hb) (Nat.lt_of_le_of_lt hall.len (by decide)))
  have Hsm := Lib.hid (fun w5 v u hx hy => same_walk w5 v u xs xs hx hy (Nat.lt_of_le_of_lt hall.len (by decide)))
  have Hb2 := Lib.hid hb2
  have Hxx := Lib.hid (show sameL xs xs = true from by rw [sameL_iff])
  obtain ⟨n, hn⟩ : ∃ n, n = xs.length := ⟨_, rfl⟩
  unfold NewPost at He
  rw [← hn] at Hp He
  have Hn := Lib.hid hn
  clear hb2 hgd hts hlg hall hsm hn Hm1
  go_wp2_with fail
  refine Htx.out.mono ?_
  rintro r w3 ⟨rfl, hb⟩
  have Hb3 := Lib.hid hb
  have Hp3 := Lib.hid (Hp.out w3 hb)
  clear hb Htx Hp
  go_wp2_with fail
  refine Hp3.out.mono ?_
  rintro r w4 ⟨ao, c, rfl, hrow, hb⟩
  have hb24 := Hb3.out.trans (hb.mono Hb3.out.size)
  have He4 := Lib.hid (He.out w4 hb24)
  have Hrow := Lib.hid hrow
  have Hb4 := Lib.hid hb24
  clear hrow hb hb24 Hp3 He
  go_wp2_with fail
  refine He4.out.mono ?_
  rintro r w5 ⟨ao2, c2, rfl, hr5, hb5, hn5⟩
  have Hs5 := Lib.hid (Hsm.out w5 _ _ (below_row Hrow.out hb5) hr5)
  rw [Hxx.out] at Hs5
  have Hb5 := Lib.hid (Hb2.out.trans ((Hb4.out.trans (hb5.mono Hb4.out.size)).mono Hb2.out.size))
  clear hr5 hb5 hn5 He4 Hsm Hxx
  go_wp2_with fail
  refine Hs5.out.mono ?_
  rintro r w6 ⟨rfl, k, rfl⟩
  clear Hs5
  go_upto_region 7 with (fail)
  rename_i K1 hK1
  refine back_tail (t := t) (w0 := w) hK1 ?hf (bdN Hb5.out k) Hg.out Htab.out Ht.out ?_
  case hf => exact ⟨rfl, rfl, rfl⟩
  intro a' w' h1 h2 hb
  refine ⟨h1, .bool true, ?_, rfl, hb⟩
  rw [← getD_of h2]
  exact results_tmp rfl _ _ _

end Go.Proofs.YthpflfcgnaichaaDoor
