/-
Pass, Read, Close and Cut as NetOrder uses them: what they do to the state that it keeps.
-/
import Derived.Test.YtibijonjjkknoaaNetApp
set_option linter.unusedVariables false
set_option linter.unusedSimpArgs false
namespace Go.Proofs.Ytibijonjjkknoaa
open Go Go.RowKit

/-- Behind a Read of connection 1, ahead of the law's own append. -/
def InvR (B : Nat) (w0 w : World) (n bw br cb : Nat) (o : Obj) (cut : Bool) (sd : Int) (ao : Option Addr) (len cap : Nat) (V : Nat) : Prop :=
  ∃ L S M W0 W1 R0 R1 va vb vc vd c ps, Net1 B w0 w L n S ∧ S.cs.length = 3 ∧ (∀ (j : Nat) (c : Cn), S.cs[j]? = some c → c.vol ≤ V) ∧ MineAt B w L M bw br W0 W1 R0 R1 va vb vc vd ∧ S.cs[1]? = some c ∧
    ((sd = 1 ∧ Ord cut c W0 W1 (R0 ++ ps) R1) ∨ (sd = 0 ∧ Ord cut c W0 W1 R0 (R1 ++ ps))) ∧ W0.length ≤ V ∧ W1.length ≤ V ∧ L cb = none ∧ M cb = none ∧ B ≤ cb ∧ w.heap[cb]? = some o ∧ ps.length = len ∧ RdB w ao cap ps

section
variable {B : Nat} {w0 w : World} {n bw br cb : Nat} {o : Obj} {cut : Bool} {V : Nat}

theorem pass_inv (h : InvC B w0 w n bw br cb o cut V) (hV : V ≤ 1048576) (cn : Int) (v0 : 0 ≤ cn) (v2 : cn ≤ 2) (sd : Int) (hsd : sd = 0 ∨ sd = 1) (most : Int) :
    Calls Try.prog 11 #[.pointer (some ⟨n, 0, none⟩), .int .i64 cn, .int .i64 sd, .int .i64 most] w fun e w' =>
      ∃ (y : Int) (m : Nat), e = .returned (.tuple #[.int .i64 m, .int .i64 y]) ∧ (y = 0 → (m : Int) ≤ most) ∧ InvC B w0 w' n bw br cb o cut V := by
  obtain ⟨L, S, M, W0, W1, R0, R1, va, vb, vc, vd, c1, hn, h3, hv, hM, hc1, ho, l0, l1, hl, hm, hB, hb⟩ := h
  obtain ⟨c, hcc⟩ := get_conn h3 v0 v2
  refine (pass_tot hn (three_le h3) cn cn.toNat (by omega) sd c hcc hsd most (Nat.le_trans (hv _ _ hcc) hV)).mono ?_
  rintro e w' ⟨y, m, L', S', rfl, hn', hf, hcase⟩
  refine ⟨y, m, rfl, ?_, ?_⟩
  · rintro hy
    rcases hcase with ⟨_, h1, _⟩ | ⟨h1, _⟩
    · exact h1
    · exact absurd hy h1
  · rcases hcase with ⟨hy, h1, hcutf, _, rfl⟩ | ⟨_, rfl, _⟩
    · have hone := set_one (c := c.passed sd m) (show cn.toNat < S.cs.length by omega) hc1
      have hvol := set_vol hv (Nat.le_refl V) (c := c.passed sd m) (j := cn.toNat) (Nat.le_trans (vol_pass c sd hsd m) (hv _ _ hcc))
      by_cases hj : cn.toNat = 1
      · rw [if_pos hj] at hone
        rw [hj, hc1] at hcc
        obtain rfl := Option.some.inj hcc
        have hcf : cut = false := ho.1.symm.trans hcutf
        subst hcf
        exact invC_net hn' hf (by rw [set_len]; exact h3) hvol hM hone (ho.pass sd m hsd) l0 l1 hl hm hB hb
      · rw [if_neg hj] at hone
        exact invC_net hn' hf (by rw [set_len]; exact h3) hvol hM hone ho l0 l1 hl hm hB hb
    · exact invC_net hn' hf h3 hv hM hc1 ho l0 l1 hl hm hB hb

theorem close_inv (h : InvC B w0 w n bw br cb o cut V) (cn : Int) (v0 : 0 ≤ cn) (v2 : cn ≤ 2) (sd : Int) (hsd : sd = 0 ∨ sd = 1) :
    Calls Try.prog 14 #[.pointer (some ⟨n, 0, none⟩), .int .i64 cn, .int .i64 sd] w fun e w' =>
      ∃ (y : Int), e = .returned (.int .i64 y) ∧ InvC B w0 w' n bw br cb o cut V := by
  obtain ⟨L, S, M, W0, W1, R0, R1, va, vb, vc, vd, c1, hn, h3, hv, hM, hc1, ho, l0, l1, hl, hm, hB, hb⟩ := h
  obtain ⟨c, hcc⟩ := get_conn h3 v0 v2
  refine (close_tot hn (three_le h3) cn cn.toNat (by omega) sd c hcc hsd).mono ?_
  rintro e w' ⟨y, L', S', rfl, hn', hf, hcase⟩
  refine ⟨y, rfl, ?_⟩
  rcases hcase with rfl | rfl
  · have hone := set_one (c := c.setSd sd { c.sd sd with closed := true }) (show cn.toNat < S.cs.length by omega) hc1
    have hvol := set_vol hv (Nat.le_refl V) (c := c.setSd sd { c.sd sd with closed := true }) (j := cn.toNat) (by rw [vol_close c sd hsd]; exact hv _ _ hcc)
    by_cases hj : cn.toNat = 1
    · rw [if_pos hj] at hone
      rw [hj, hc1] at hcc
      obtain rfl := Option.some.inj hcc
      exact invC_net hn' hf (by rw [set_len]; exact h3) hvol hM hone (ho.close sd hsd) l0 l1 hl hm hB hb
    · rw [if_neg hj] at hone
      exact invC_net hn' hf (by rw [set_len]; exact h3) hvol hM hone ho l0 l1 hl hm hB hb
  · exact invC_net hn' hf h3 hv hM hc1 ho l0 l1 hl hm hB hb

theorem cut_inv (h : InvC B w0 w n bw br cb o cut V) (cn : Int) (v0 : 0 ≤ cn) (v2 : cn ≤ 2) :
    Calls Try.prog 15 #[.pointer (some ⟨n, 0, none⟩), .int .i64 cn] w fun e w' =>
      ∃ (y : Int), e = .returned (.int .i64 y) ∧ InvC B w0 w' n bw br cb o (cut || cn == 1) V := by
  obtain ⟨L, S, M, W0, W1, R0, R1, va, vb, vc, vd, c1, hn, h3, hv, hM, hc1, ho, l0, l1, hl, hm, hB, hb⟩ := h
  obtain ⟨c, hcc⟩ := get_conn h3 v0 v2
  refine (cut_tot hn (three_le h3) cn cn.toNat (by omega) c hcc).mono ?_
  rintro e w' ⟨y, L', S', rfl, hn', hf, hcase⟩
  refine ⟨y, rfl, ?_⟩
  rcases hcase with ⟨hcf, rfl⟩ | ⟨hct, rfl⟩
  · have hone := set_one (c := c.cutOff) (show cn.toNat < S.cs.length by omega) hc1
    have hvol := set_vol hv (Nat.le_refl V) (c := c.cutOff) (j := cn.toNat) (by rw [vol_cut]; exact Nat.zero_le _)
    by_cases hj : cn = 1
    · subst hj
      rw [if_pos (show (1 : Int).toNat = 1 from rfl)] at hone
      rw [show ((1 : Int).toNat) = 1 from rfl, hc1] at hcc
      obtain rfl := Option.some.inj hcc
      have hq : (cut || ((1 : Int) == 1)) = true := by simp
      rw [hq]
      exact invC_net hn' hf (by rw [set_len]; exact h3) hvol hM hone ho.cutOff l0 l1 hl hm hB hb
    · rw [if_neg (by omega)] at hone
      have hq : (cut || (cn == 1)) = cut := by simp [hj]
      rw [hq]
      exact invC_net hn' hf (by rw [set_len]; exact h3) hvol hM hone ho l0 l1 hl hm hB hb
  · by_cases hj : cn = 1
    · subst hj
      rw [show ((1 : Int).toNat) = 1 from rfl, hc1] at hcc
      obtain rfl := Option.some.inj hcc
      have hq : (cut || ((1 : Int) == 1)) = true := by simp
      have hcc' : cut = true := ho.1.symm.trans hct
      subst hcc'
      exact invC_net hn' hf h3 hv hM hc1 ho l0 l1 hl hm hB hb
    · have hq : (cut || (cn == 1)) = cut := by simp [hj]
      rw [hq]
      exact invC_net hn' hf h3 hv hM hc1 ho l0 l1 hl hm hB hb

theorem read_inv (h : InvC B w0 w n bw br cb o cut V) (cn : Int) (v0 : 0 ≤ cn) (v2 : cn ≤ 2) (sd : Int) (hsd : sd = 0 ∨ sd = 1) :
    Calls Try.prog 12 #[.pointer (some ⟨n, 0, none⟩), .int .i64 cn, .int .i64 sd] w fun e w' =>
      ∃ (y : Int) (en : Bool) (ao : Option Addr) (len cap : Nat), e = .returned (.tuple #[.slice ao len cap, .bool en, .int .i64 y]) ∧
        (y = 0 ∧ cn = 1 ∧ InvR B w0 w' n bw br cb o cut sd ao len cap V ∨ ¬ (y = 0 ∧ cn = 1) ∧ InvC B w0 w' n bw br cb o cut V) := by
  obtain ⟨L, S, M, W0, W1, R0, R1, va, vb, vc, vd, c1, hn, h3, hv, hM, hc1, ho, l0, l1, hl, hm, hB, hb⟩ := h
  obtain ⟨c, hcc⟩ := get_conn h3 v0 v2
  refine (read_tot hn (three_le h3) cn cn.toNat (by omega) sd c hcc hsd).mono ?_
  rintro e w' ⟨y, en, ao, len, cap, ps, L', S', rfl, hn', hf, my, hlen, hlab, hcase⟩
  refine ⟨y, en, ao, len, cap, rfl, ?_⟩
  rcases hcase with ⟨rfl, hcf, hps, rfl⟩ | ⟨rfl, hct, _, rfl⟩
  · have hone := set_one (c := c.setSd sd { c.sd sd with there := [] }) (show cn.toNat < S.cs.length by omega) hc1
    have hvol := set_vol hv (Nat.le_refl V) (c := c.setSd sd { c.sd sd with there := [] }) (j := cn.toNat) (Nat.le_trans (vol_read c sd hsd) (hv _ _ hcc))
    by_cases hj : cn = 1
    · subst hj
      rw [if_pos (show (1 : Int).toNat = 1 from rfl)] at hone
      rw [show ((1 : Int).toNat) = 1 from rfl, hc1] at hcc
      obtain rfl := Option.some.inj hcc
      have hcf2 : cut = false := ho.1.symm.trans hcf
      subst hcf2
      refine .inl ⟨rfl, rfl, L', _, M, W0, W1, R0, R1, va, vb, vc, vd, _, ps, hn', by rw [set_len]; exact h3, hvol, hM.net hf, hone, ?_, l0, l1, (hf.1 cb (lt_of_heap hb)).elim (fun e => e.trans hl) id, hm, hB, hf.2.heap hb (fun e => e hl), hlen, my.rd hlen⟩
      subst hps
      rcases hsd with rfl | rfl
      · exact .inr ⟨rfl, ho.read0⟩
      · exact .inl ⟨rfl, ho.read1⟩
    · rw [if_neg (by omega)] at hone
      exact .inr ⟨fun e => hj e.2, invC_net hn' hf (by rw [set_len]; exact h3) hvol hM hone ho l0 l1 hl hm hB hb⟩
  · exact .inr ⟨fun e => absurd e.1 (by decide), invC_net hn' hf h3 hv hM hc1 ho l0 l1 hl hm hB hb⟩

end

end Go.Proofs.Ytibijonjjkknoaa
