/-
Parts of a proof, one behind the other (laid dense by a program of mine: pack.py).
-/
import Derived.Lib.ItoaLen
import Derived.Test.YtfenoaeoedobmaaGreatDoorAl34
set_option linter.unusedVariables false
set_option linter.unusedSimpArgs false
set_option maxHeartbeats 4000000
set_option maxRecDepth 20000
namespace Go.Proofs.YtfenoaeoedobmaaGreatDoor
open Go Go.RowKit Ieee
theorem cut_nought (s:Bool) (d:Nat):Toward.zero.cut s 0 d=0:=by
 unfold Toward.cut;simp
theorem zero_int {x:Nat} (h:(FloatKind.f64.format.order x 0==some .eq)=true):floatToIntVal .f64 x .i64=some 0:=by
 have h1:double.order x 0=some .eq:=eq_of_beq h;rw[order_zero]at h1;unfold floatToIntVal
 show (match (double.read x).toInt .zero with|some n=>if IntKind.i64.min≤n∧n≤IntKind.i64.max then some n else none|none=>none)=some 0
 cases hr:double.read x with
 |nan s f=>rw[hr]at h1;cases h1
 |infinity s=>rw[hr]at h1;cases s<;>cases h1
 |number s m i=>
  rw[hr]at h1;unfold Datum.order at h1;dsimp only at h1;rw[Option.some.injEq]at h1;have h2:=Int.compare_eq_eq.1 h1;have h3:m=0:=by
   unfold signed at h2;rw[if_neg (show ¬(false=true) by decide),Nat.zero_shiftLeft]at h2;have h4:m <<< (i-min i (-1074)).toNat=0:=by
    split at h2<;>omega
   rw[Nat.shiftLeft_eq]at h4;rcases Nat.mul_eq_zero.1 h4 with q|q
   ·exact q
   ·exact absurd q (Nat.ne_of_gt (Nat.two_pow_pos _))
  subst h3;unfold Datum.toInt Datum.integral;dsimp only;rw[Nat.zero_shiftLeft,cut_nought];have:signed s 0 0=0:=by cases s<;>rfl
  rw[this];rfl
theorem FV_hund:HUND<INF∧FV HUND=100*2 ^ kU:=by decide+kernel
theorem cent_int {x:Nat} (hx:x<18446744073709551616) (hc:cent x=true):∃n:Nat,n≤100∧floatToIntVal .f64 x .i64=some (n:Int):=by
 by_cases h0:(FloatKind.f64.format.order x 0==some .eq)=true
 ·exact ⟨0,by decide,zero_int h0⟩
 ·have hf:=cent_fin hx hc;have e:noMinus x=x:=by unfold noMinus;rw[if_neg h0]
  rw[e]at hf;unfold cent at hc;rw[Bool.and_eq_true,Bool.or_eq_true (FloatKind.f64.format.order x HUND==some .lt),lt_FV hf FV_hund.1,eq_FV hf FV_hund.1,FV_hund.2]at hc;have hle:FV x≤100*2 ^ kU:=by
   rcases hc.2 with q|q
   ·exact Nat.le_of_lt (of_decide_eq_true q)
   ·exact Nat.le_of_eq (of_decide_eq_true q)
  have hn:FV x / 2 ^ kU≤100:=by
   have hp:0<2 ^ kU:=Nat.two_pow_pos _;generalize 2 ^ kU=U at*;have:=Nat.div_le_div_right (c:=U) hle
   rwa [Nat.mul_div_cancel _ hp]at this
  refine ⟨FV x / 2 ^ kU,hn,?_⟩;unfold floatToIntVal;rw[toInt_FV hf];generalize FV x / 2 ^ kU=n at*;simp only;rw[if_pos ⟨by show (-9223372036854775808:Int)≤_;omega,by show _≤(9223372036854775807:Int);omega⟩]
def wInt (x:Nat):Option Nat:=
 if cent x=true then
  (match floatToIntVal .f64 x .i64 with
   |some n=>if (FloatKind.f64.format.order (floatOfInt .f64 n) x==some .eq)=true then some n.toNat else none
   |none=>none)
 else none
def WT (x:Nat) (l:List UInt8):Prop:=
 match wInt x with
 |some n=>l=Lib.itoa (n:Int)
 |none=>∃er,RealS x l er
end Go.Proofs.YtfenoaeoedobmaaGreatDoor
namespace Go.Proofs.YtfenoaeoedobmaaGreatDoor
open Go Go.RowKit
structure GlobT (w:World):Prop where
 gl:Glob w
 tab:Tab w
theorem GlobT.later {w w2:World} (h:GlobT w) (hb:Below w.heap.size w w2):GlobT w2:=by
 refine ⟨h.gl.later hb,?_⟩;have h:=h.tab;unfold Tab Lib.TabIs World.var? at*;cases hg: Tryz.prog.globalNamed "internal/strconv.uint64pow10" with
 |none=>simp[hg]at h
 |some g=>
  simp only[hg,Option.bind_some]at h ⊢;have hlt:g<w.heap.size:=by
   rcases Nat.lt_or_ge g w.heap.size with h'|h'
   ·exact h'
   ·rw[Array.getElem?_eq_none h']at h;simp at h
  rw[hb.block g hlt];exact h
theorem conv_any (w:World) (x:Nat):∃(n:Int) (k:Nat),(convert 56 3 (.float .f64 x)).run Tryz.prog w= .ok (.int .i64 n) (w.drewN k):=by
 cases h:floatToIntVal .f64 x .i64 with
 |some n=>exact ⟨n,0,run_convert_float_int w 56 3 .f64 .i64 x n (by kernel_rfl) Tryz.underlying3 h⟩
 |none=>
  have key:∀z:Sem Value,z=(do pure (.int .i64 (IntKind.i64.wrap (←choose (.floatToInt .f64 x .i64)))))→∃(n:Int) (k:Nat),z.run Tryz.prog w= .ok (.int .i64 n) (w.drewN k):=by
   rintro z rfl;simp only[Sem.run_bind,run_choose_drew]
   split
   ·exact ⟨_,0,rfl⟩
   ·exact ⟨_,1,rfl⟩
  have hd: Tryz.prog.underlying 56 =some (.float .f64):= Tryz.underlying56;have e:(convert 56 3 (.float .f64 x)).run Tryz.prog w=(Conv.floatToInt .f64 x .i64).run Tryz.prog w:=by
   simp[convert,run_underlying hd,run_underlying Tryz.underlying3]
  rw[e];refine key _ ?_;unfold floatToIntVal at h;unfold Conv.floatToInt
  split at h
  ·rename_i m hm
   rw[hm]
   split at h
   ·cases h
   ·rename_i hn
    simp only;rw[if_neg hn]
  ·rename_i hm
   rw[hm]
theorem weighed_c (w:World) (x:Nat) (hx:x<18446744073709551616) (hg:GlobT w):
 Calls Tryz.prog 72 #[.float .f64 x] w fun r w'=>(∃s:ByteArray,r= .returned (.string s)∧WT x s.data.toList)∧Below w.heap.size w w':=by
 obtain ⟨W,hW⟩:∃W,W=WT x:=⟨_,rfl⟩;have hprint:(wInt x=none)→∀w1,Below w.heap.size w w1→Calls Tryz.prog 113 #[.agg #[.int .i64 4,.bool false,.int .i64 0,.float .f64 x,.string ⟨#[]⟩]] w1 fun r w'=>
  ∃(s:ByteArray) (q:Bool) (er:Int),r= .returned (.tuple #[.string s,.bool q,.int .i64 er])∧Below w.heap.size w w'∧W s.data.toList∧(er≠0→W []):=by
  intro hn w1 hb;have hp:=print_walk w1 ⟨4,false,0,x,⟨#[]⟩⟩ ⟨by show (-9223372036854775808:Int)≤0;decide,by show (0:Int)≤_;decide,hx,by show (0:Nat)≤_;decide⟩ (hg.later hb).tab (hg.later hb).gl.rng;refine hp.mono ?_;rintro r w' ⟨s,q,er,rfl,hb2,hs⟩;have hr:RealS x s.data.toList er:=by
   rcases hs with ⟨a1,-⟩|⟨a1,-⟩|⟨a1,-⟩|⟨-,a2,-⟩|⟨a1,-⟩|⟨a1,-⟩
   ·exact absurd a1 (show ¬(4:Int)=1 by decide)
   ·exact absurd a1 (show ¬(4:Int)=2 by decide)
   ·exact absurd a1 (show ¬(4:Int)=3 by decide)
   ·exact a2
   ·exact absurd a1 (show ¬(4:Int)=5 by decide)
   ·exact absurd a1 (show ¬((4:Int)<1∨5<(4:Int)) by decide)
  refine ⟨s,q,er,rfl,hb.trans (hb2.mono hb.size),?_,fun he=> ?_⟩
  ·rw[hW];unfold WT;rw[hn];exact ⟨er,hr⟩
  ·rw[hW];unfold WT;rw[hn];refine ⟨er,?_⟩;rcases hr with ⟨-,-,h⟩|⟨-,-,h⟩|⟨-,-,h⟩|⟨h1,h2,M,k,e,h3,h4⟩
   ·exact absurd h he
   ·exact absurd h he
   ·exact absurd h he
   ·rcases h4 with ⟨q1,q2,q3⟩|⟨q1,q2,q3⟩
    ·exact .inr (.inr (.inr ⟨h1,h2,M,k,e,h3,.inl ⟨q1,rfl,q3⟩⟩))
    ·exact absurd q3 he
 rw[←hW];have HP:=hid hprint;have HW:=hid hW;clear hprint hW;have mixed: Tryz.prog.follows .mixedOrders=true:=by kernel_rfl
 cases hc:cent x with
 |true=>
  obtain ⟨n,hn,hv⟩:=cent_int hx hc;have hcv:=run_convert_float_int (P:= Tryz.prog) w 56 3 .f64 .i64 x n (by kernel_rfl) Tryz.underlying3 hv;have hc2:=hc;unfold cent at hc2;rw[Bool.and_eq_true]at hc2;obtain ⟨c1,c2⟩:=hc2;unfold HUND at c2;cases he:(FloatKind.f64.format.order (floatOfInt .f64 (n:Int)) x==some .eq) with
  |true=>
   have hwi:wInt x=some n:=by unfold wInt;rw[if_pos hc,hv];simp only;rw[if_pos he,Int.toNat_natCast]
   have Hi:=hid (Tryz.strconv_Itoa (n:Int) (by omega) (by omega) w hg.tab);have Hw:=hid (show W (⟨(Lib.itoa (n:Int)).toArray⟩:ByteArray).data.toList by rw[HW.out];unfold WT;rw[hwi]);clear hx hg hn hv hc hwi HP;go_enter Tryz.func72,Tryz.ntmps72
   go_wp2_with fail
   refine Hi.out.mono ?_;rintro r w1 ⟨rfl,k,os,rfl⟩;have Hb:=hid (below_grow w k os);clear Hi;go_wp2;refine bodyPost_ret (results_tmp (t:=2) rfl _ _ _) rfl ⟨⟨_,rfl,Hw.out⟩,Hb.out⟩
  |false=>
   have hwi:wInt x=none:=by unfold wInt;rw[if_pos hc,hv];simp only;rw[if_neg (by rw[he];decide)]
   have Hp:=hid (HP.out hwi w (Below.refl _ _));clear hx hg hn hv hc hwi HP;go_enter Tryz.func72,Tryz.ntmps72
   go_wp2_with fail
   refine Hp.out.mono ?_;rintro r w1 ⟨s,q,er,rfl,hb,h1,h2⟩;have H1:=hid (And.intro hb (And.intro h1 h2));clear Hp hb h1 h2;by_cases her:er=0
   ·have t1:(er != 0)=false:=by rw[her];rfl
    clear her;go_wp2;refine bodyPost_ret (results_tmp (t:=2) rfl _ _ _) rfl ⟨⟨_,rfl,H1.out.2.1⟩,H1.out.1⟩
   ·have t1:(er != 0)=true:=by rw[bne_iff_ne];exact her
    have Her:=hid her;clear her;go_wp2;refine bodyPost_ret (results_tmp (t:=2) rfl _ _ _) rfl ⟨⟨_,rfl,H1.out.2.2 Her.out⟩,H1.out.1⟩
 |false=>
  obtain ⟨n,k,hcv⟩:=conv_any w x;have hwi:wInt x=none:=by unfold wInt;rw[if_neg (by rw[hc];decide)]
  have hbk:Below w.heap.size w (w.drewN k):=bdH (Below.refl _ _) k;have Hp:=hid (HP.out hwi (w.drewN k) hbk);unfold cent HUND at hc;clear hx hg hwi HP hbk;cases c1:(FloatKind.f64.format.order x 0==some .gt||FloatKind.f64.format.order x 0==some .eq) with
  |true=>
   rw[c1,Bool.true_and]at hc;go_enter Tryz.func72,Tryz.ntmps72
   go_wp2_with fail
   refine Hp.out.mono ?_;rintro r w1 ⟨s,q,er,rfl,hb,h1,h2⟩;have H1:=hid (And.intro hb (And.intro h1 h2));clear Hp hb h1 h2;by_cases her:er=0
   ·have t1:(er != 0)=false:=by rw[her];rfl
    clear her;go_wp2;refine bodyPost_ret (results_tmp (t:=2) rfl _ _ _) rfl ⟨⟨_,rfl,H1.out.2.1⟩,H1.out.1⟩
   ·have t1:(er != 0)=true:=by rw[bne_iff_ne];exact her
    have Her:=hid her;clear her;go_wp2;refine bodyPost_ret (results_tmp (t:=2) rfl _ _ _) rfl ⟨⟨_,rfl,H1.out.2.2 Her.out⟩,H1.out.1⟩
  |false=>
   clear hc;go_enter Tryz.func72,Tryz.ntmps72
   go_wp2_with fail
   refine Hp.out.mono ?_;rintro r w1 ⟨s,q,er,rfl,hb,h1,h2⟩;have H1:=hid (And.intro hb (And.intro h1 h2));clear Hp hb h1 h2;by_cases her:er=0
   ·have t1:(er != 0)=false:=by rw[her];rfl
    clear her;go_wp2;refine bodyPost_ret (results_tmp (t:=2) rfl _ _ _) rfl ⟨⟨_,rfl,H1.out.2.1⟩,H1.out.1⟩
   ·have t1:(er != 0)=true:=by rw[bne_iff_ne];exact her
    have Her:=hid her;clear her;go_wp2;refine bodyPost_ret (results_tmp (t:=2) rfl _ _ _) rfl ⟨⟨_,rfl,H1.out.2.2 Her.out⟩,H1.out.1⟩
theorem realS_one {x:Nat} {l l':List UInt8} {er er':Int} (h:RealS x l er) (h':RealS x l' er'):l=l':=by
 rcases h with ⟨a1,a2,a3⟩|⟨a1,a2,a3⟩|⟨a1,a2,a3⟩|⟨a1,a2,M,k,e,a3,a4⟩<;>rcases h' with ⟨b1,b2,b3⟩|⟨b1,b2,b3⟩|⟨b1,b2,b3⟩|⟨b1,b2,M',k',e',b3,b4⟩<;>
  first|(exfalso;unfold INF at *;omega)|exact a2.trans b2.symm|skip
 obtain ⟨rfl,rfl,rfl⟩:=Dec.unique a3 b3;rcases a4 with ⟨q1,q2,q3⟩|⟨q1,q2,q3⟩<;>rcases b4 with ⟨r1,r2,r3⟩|⟨r1,r2,r3⟩<;>first|(exfalso;omega)|exact q2.trans r2.symm
theorem WT.unique {x:Nat} {l l':List UInt8} (h:WT x l) (h':WT x l'):l=l':=by
 unfold WT at h h';cases hw:wInt x with
 |some n=>rw[hw]at h h';exact h.trans h'.symm
 |none=>rw[hw]at h h';obtain ⟨e,h⟩:=h;obtain ⟨e',h'⟩:=h';exact realS_one h h'
theorem realT_le {M:Nat} {k:Int} (h1:1≤M) (h2:M<1000000000000000) (hk1: -22≤k) (hk2:k≤22):(realT M k).length≤60:=by
 have hn15:=nDigits_le 14 M h2;have hlen:=Lib.decDigits_length M;unfold realT
 split
 ·split
  ·rw[List.length_append,List.length_append,List.length_replicate,hlen]
   show _+_+2≤60
   omega
  ·have hp:(Lib.decDigits (k+(Lib.nDigits M:Int)-1).toNat).length≤2:=by
    rw[Lib.decDigits_length];exact nDigits_le 1 _ (by omega)
   rw[List.length_append,List.length_append,List.length_append,List.length_append,List.length_take,hlen];have:(if Lib.nDigits M=1 then [48] else (Lib.decDigits M).drop 1:List UInt8).length≤15:=by
    split
    ·show 1≤15;decide
    ·rw[List.length_drop,hlen];omega
   show min 1 (Lib.nDigits M)+1+_+1+_≤60
   omega
 ·rw[List.length_append,List.length_append,List.length_take,List.length_drop,List.length_append,List.length_replicate,hlen]
  show _+1+_≤60
  omega
theorem WT.len {x:Nat} (hx:x<18446744073709551616) {l:List UInt8} (h:WT x l):l.length≤100:=by
 unfold WT at h;cases hw:wInt x with
 |some n=>
  rw[hw]at h;simp only at h;unfold wInt at hw
  split at hw
  ·rename_i hc
   obtain ⟨m,hm,hv⟩:=cent_int hx hc;rw[hv]at hw;simp only at hw
   split at hw
   ·have hw:=Option.some.inj hw;have:=Lib.itoa_length_le (n:Int) (by omega) (by omega);rw[h];omega
   ·cases hw
  ·cases hw
 |none=>
  rw[hw]at h;simp only at h;obtain ⟨e,h⟩:=h;have hsg:(signL x).length≤1:=by unfold signL;split<;>decide
  rcases h with ⟨b1,b2,b3⟩|⟨b1,b2,b3⟩|⟨b1,b2,b3⟩|⟨b1,b2,M,k,e,b3,b4⟩
  ·rw[b2];decide
  ·rw[b2,List.length_append];show _+4≤_;omega
  ·rw[b2,List.length_append];show _+3≤_;omega
  ·rcases b4 with ⟨c1,c2,c3⟩|⟨c1,c2,c3⟩
   ·rw[c2];decide
   ·rw[c2,List.length_append];rcases b3 with ⟨_,k1,k2,⟨s1,s2,_⟩,_⟩|⟨q,_⟩
    ·have:=realT_le s1 s2 k1 k2;omega
    ·omega
open Classical in
noncomputable def wtF (x:Nat):ByteArray:=if h:∃s:ByteArray,WT x s.data.toList then h.choose else ⟨#[]⟩
theorem wtF_eq {x:Nat} {s:ByteArray} (h:WT x s.data.toList):wtF x=s:=by
 unfold wtF;have he:∃s:ByteArray,WT x s.data.toList:=⟨s,h⟩;rw[dif_pos he];have h2:=WT.unique he.choose_spec h;exact ByteArray.ext (Array.ext' h2)
theorem wtF_size {x:Nat} (hx:x<18446744073709551616):(wtF x).size≤100:=by
 by_cases he:∃s:ByteArray,WT x s.data.toList
 ·obtain ⟨s,h⟩:=he;rw[wtF_eq h,←size_list];exact WT.len hx h
 ·unfold wtF;rw[dif_neg he]
  decide
theorem weighed_w (w:World) (x:Nat) (hx:x<18446744073709551616) (hg:GlobT w):
 Calls Tryz.prog 72 #[.float .f64 x] w fun r w'=>r= .returned (.string (wtF x))∧Below w.heap.size w w':=by
 refine (weighed_c w x hx hg).mono ?_;rintro r w' ⟨⟨s,rfl,h⟩,hb⟩;rw[wtF_eq h];exact ⟨rfl,hb⟩
def Few (ns:List Nd):Prop:=∀x∈ns,x.kids.length≤ns.length
theorem few_layN {ns:List Nd} (h:Few ns) {p:Option Nat} {x:Nd} (hx:x.kids=[]):Few (layN ns p x):=by
 have h1:∀y∈ns++[x],y.kids.length≤ns.length:=by
  intro y hy;rcases List.mem_append.1 hy with q|q
  ·exact h y q
  ·rw[List.mem_singleton.1 q,hx];exact Nat.zero_le _
 cases p with
 |none=>
  intro y hy;have:=h1 y hy
  show y.kids.length≤(ns++[x]).length
  rw[List.length_append];omega
 |some p=>
  intro y hy
  show y.kids.length≤(kidAdd (ns++[x]) p ns.length).length
  have hl:(kidAdd (ns++[x]) p ns.length).length=ns.length+1:=by
   unfold kidAdd
   split<;>simp
  rw[hl];have hy2:y∈kidAdd (ns++[x]) p ns.length:=hy;unfold kidAdd at hy2
  split at hy2
  ·rename_i z hz
   rcases List.mem_or_eq_of_mem_set hy2 with q|q
   ·have:=h1 y q;omega
   ·have:=h1 z (List.mem_of_getElem? hz);rw[q]
    show (z.kids++[_]).length≤_
    rw[List.length_append];simp only[List.length_cons,List.length_nil];omega
  ·have:=h1 y hy2;omega
def HasB (w:World) (tb:Nat) (ob:Obj):Prop:=w.heap[tb]? =some ob
structure TrS (w1 w:World) (r:Res) (ev tv rv:Value) (bb wb:Nat) (T:Option (Nat×Obj)) (ns:List Nd):Prop where
 bbl:bb<w1.heap.size
 box:w1.heap[bb]? =some (.cells (resA r ev tv rv) 49 (0,0))
 lists:ResL w1 r ev tv rv
 g:GlobT w1
 few:Few ns
 wr:∃nv ms,WrS w1 w wb nv ms∧nds ms=ns∧∀tb ob,T=some (tb,ob)→HasB w tb ob∧¬RdF wb nv ms tb
theorem TrS.below {w1 w:World} {r:Res} {ev tv rv:Value} {bb wb:Nat} {T:Option (Nat×Obj)} {ns:List Nd} (h:TrS w1 w r ev tv rv bb wb T ns):Below w1.heap.size w1 w:=by
 obtain ⟨nv,ms,hw,_,_⟩:=h.wr;exact hw.below
theorem TrS.later {w1 w w2:World} {r:Res} {ev tv rv:Value} {bb wb:Nat} {T:Option (Nat×Obj)} {ns:List Nd} (h:TrS w1 w r ev tv rv bb wb T ns) (hb:Below w.heap.size w w2):TrS w1 w2 r ev tv rv bb wb T ns:=by
 obtain ⟨nv,ms,hw,e,ht⟩:=h.wr;exact ⟨h.bbl,h.box,h.lists,h.g,h.few,nv,ms,hw.later hb,e,fun tb ob q=>⟨(hb.block _ (lt_of_heap (ht tb ob q).1)).trans (ht tb ob q).1,(ht tb ob q).2⟩⟩
theorem TrS.glob {w1 w:World} {r:Res} {ev tv rv:Value} {bb wb:Nat} {T:Option (Nat×Obj)} {ns:List Nd} (h:TrS w1 w r ev tv rv bb wb T ns):GlobT w:=h.g.later h.below
theorem TrS.cells {w1 w:World} {r:Res} {ev tv rv:Value} {bb wb:Nat} {T:Option (Nat×Obj)} {ns:List Nd} (h:TrS w1 w r ev tv rv bb wb T ns):
 w.cell? ⟨bb,0,none⟩=some (.int .i64 r.kind)∧w.cell? ⟨bb,1,none⟩=some (.string r.name)∧w.cell? ⟨bb,2,none⟩=some ev∧w.cell? ⟨bb,3,none⟩=some tv∧w.cell? ⟨bb,4,none⟩=some (.string r.host)∧w.cell? ⟨bb,5,none⟩=some rv∧w.cell? ⟨bb,6,none⟩=some (.string r.route)∧w.cell? ⟨bb,7,none⟩=some (.bool r.del):=by
 have hb:w.heap[bb]? =some (.cells (resA r ev tv rv) 49 (0,0)):=(h.below.block _ h.bbl).trans h.box;exact ⟨cell_blk hb 0,cell_blk hb 1,cell_blk hb 2,cell_blk hb 3,cell_blk hb 4,cell_blk hb 5,cell_blk hb 6,cell_blk hb 7⟩
theorem TrS.kid {w1 w:World} {r:Res} {ev tv rv:Value} {bb wb:Nat} {T:Option (Nat×Obj)} {ns:List Nd} (h:TrS w1 w r ev tv rv bb wb T ns) {ms:List NdM} (e:nds ms=ns) {p:Nat} (hp:p<ns.length) (hl:ns.length<1048576):∃m,ms[p]? =some m∧m.nd.kids.length<1048576:=by
 have hp2:p<ms.length:=by rw[←nds_len,e];exact hp
 obtain ⟨m,hm⟩:∃m,ms[p]? =some m:=at_of_lt hp2;refine ⟨m,hm,?_⟩;have h1:=nds_at hm;have h2:m.nd∈nds ms:=by unfold nds;exact List.mem_map_of_mem (List.mem_of_getElem? hm)
 rw[e]at h2;have:=h.few _ h2;omega
theorem TrS.put {w1 w w':World} {r:Res} {ev tv rv:Value} {bb wb:Nat} {T:Option (Nat×Obj)} {ns ns2:List Nd} (h:TrS w1 w r ev tv rv bb wb T ns) (hf:Few ns2) {nv:Value} {ms:List NdM} (ht:∀tb ob,T=some (tb,ob)→HasB w tb ob∧¬RdF wb nv ms tb) (hp:WrPost w1 w wb nv ms ns2 w'):TrS w1 w' r ev tv rv bb wb T ns2:=by
 obtain ⟨nv2,ms2,a,b,c,d⟩:=hp;refine ⟨h.bbl,h.box,h.lists,h.g,hf,nv2,ms2,a,b,fun tb ob q=> ?_⟩;obtain ⟨q1,q2⟩:=ht tb ob q;have hlt:=lt_of_heap q1;refine ⟨(c.block _ hlt q2).trans q1,fun e=> ?_⟩;rcases e with e|e
 ·exact q2 (.inl e)
 ·rcases d tb e with z|z
  ·exact q2 (.inr z)
  ·omega
theorem TrS.copy {w1 w:World} {r:Res} {ev tv rv:Value} {bb wb:Nat} {ns:List Nd} (h:TrS w1 w r ev tv rv bb wb none ns) (c:Array Value) (t:TypeId):TrS w1 (w.alloc (.cells c t)) r ev tv rv bb wb (some (w.heap.size,.cells c t (0,0))) ns:=by
 obtain ⟨nv,ms,hw,e,ht⟩:=h.wr;refine ⟨h.bbl,h.box,h.lists,h.g,h.few,nv,ms,hw.later ((Below.refl _ _).alloc (Nat.le_refl _) _),e,fun tb ob q=> ?_⟩;obtain ⟨rfl,rfl⟩:=Prod.mk.inj (Option.some.inj q);exact ⟨alloc_new _,fun q=>Nat.lt_irrefl _ (hw.rd_lt q).2⟩
theorem TrS.drop {w1 w:World} {r:Res} {ev tv rv:Value} {bb wb:Nat} {T:Option (Nat×Obj)} {ns:List Nd} (h:TrS w1 w r ev tv rv bb wb T ns):TrS w1 w r ev tv rv bb wb none ns:=by
 obtain ⟨nv,ms,hw,e,ht⟩:=h.wr;exact ⟨h.bbl,h.box,h.lists,h.g,h.few,nv,ms,hw,e,nofun⟩
theorem TrS.held {w1 w:World} {r:Res} {ev tv rv:Value} {bb wb tb:Nat} {ob:Obj} {ns:List Nd} (h:TrS w1 w r ev tv rv bb wb (some (tb,ob)) ns):w.heap[tb]? =some ob:=by
 obtain ⟨nv,ms,hw,e,ht⟩:=h.wr;exact (ht tb ob rfl).1
theorem TrS.eq {w1 w:World} {r:Res} {ev tv rv:Value} {bb wb:Nat} {T:Option (Nat×Obj)} {ns ns2:List Nd} (h:TrS w1 w r ev tv rv bb wb T ns) (e:ns=ns2):TrS w1 w r ev tv rv bb wb T ns2:=by rw[←e];exact h
theorem tw_word {w1 w:World} {r:Res} {ev tv rv:Value} {bb wb:Nat} {T:Option (Nat×Obj)} {ns:List Nd} (h:TrS w1 w r ev tv rv bb wb T ns) (hl:ns.length<1048576) (p:Nat) (hp:p<ns.length) (key:ByteArray) (hkey:key.size≤1048576) (s:ByteArray) (hs:s.size≤1048576):
 Calls Tryz.prog 71 #[.pointer (some ⟨wb,0,none⟩),.int .i64 (p:Int),.string key,.string s] w
  fun x w'=>(∃v,x= .returned v)∧TrS w1 w' r ev tv rv bb wb T (addFo ns p (leafF key s .nil)):=by
 obtain ⟨nv,ms,hw,e,ht⟩:=h.wr;refine (wword_c hw h.glob.gl p (h.kid e hp hl) key hkey s hs (by rw[←nds_len,e];exact hl)).mono ?_;rintro x w' ⟨hx,hp2⟩;rw[e]at hp2;refine ⟨hx,h.put ?_ ht hp2⟩;unfold leafF;rw[←layN_sc hp];exact few_layN h.few rfl
theorem tw_open {w1 w:World} {r:Res} {ev tv rv:Value} {bb wb:Nat} {T:Option (Nat×Obj)} {ns:List Nd} (h:TrS w1 w r ev tv rv bb wb T ns) (hl:ns.length<1048576) (p:Nat) (hp:p<ns.length) (kind:Int) (hk:I64 kind) (key:ByteArray) (hkey:key.size≤1048576):
 Calls Tryz.prog 70 #[.pointer (some ⟨wb,0,none⟩),.int .i64 (p:Int),.int .i64 kind,.string key] w
  fun x w'=>x= .returned (.int .i64 (ns.length:Int))∧TrS w1 w' r ev tv rv bb wb T (addFo ns p (.br kind key .nil .nil)):=by
 obtain ⟨nv,ms,hw,e,ht⟩:=h.wr;have hn:ms.length=ns.length:=by rw[←nds_len,e]
 refine (wopen_c hw (some p) (fun i hi=>by cases hi;exact h.kid e hp hl) kind hk key hkey (by rw[hn];exact hl)).mono ?_;rintro x w' ⟨hx,hp2⟩;rw[e,layN_br hp]at hp2;rw[hn]at hx;refine ⟨hx,h.put ?_ ht hp2⟩;rw[←layN_br hp];exact few_layN h.few rfl
theorem leaves_snoc (l:List ByteArray) (e:ByteArray):leavesF (l++[e])=(leavesF l).app (leafF ⟨#[]⟩ e .nil):=by
 induction l with
 |nil=>rfl
 |cons a r ih=>show leafF ⟨#[]⟩ a (leavesF (r++[e]))=_;rw[ih];rfl
theorem tgts_snoc (wt:Nat→ByteArray) (l:List Tgt) (e:Tgt):tgtsF wt (l++[e])=(tgtsF wt l).app (.br 2 ⟨#[]⟩ (tgtF wt e) .nil):=by
 induction l with
 |nil=>rfl
 |cons a r ih=>show Fo.br 2 ⟨#[]⟩ (tgtF wt a) (tgtsF wt (r++[e]))=_;rw[ih];rfl
theorem ruls_snoc (act:Bool) (l:List Rul) (e:Rul):rulsF act (l++[e])=(rulsF act l).app (.br 2 ⟨#[]⟩ (rulF act e) .nil):=by
 induction l with
 |nil=>rfl
 |cons a r ih=>show Fo.br 2 ⟨#[]⟩ (rulF act a) (rulsF act (r++[e]))=_;rw[ih];rfl
theorem leaves_sz (l:List ByteArray):(leavesF l).size=l.length:=by
 induction l with
 |nil=>exact Fo.size_nil
 |cons a r ih=>show (leafF ⟨#[]⟩ a (leavesF r)).size=_;unfold leafF;rw[Fo.size_sc,ih,List.length_cons];omega
theorem tgt_sz (wt:Nat→ByteArray) (t:Tgt):(tgtF wt t).size=2:=by
 unfold tgtF leafF
 split<;>rw[Fo.size_sc,Fo.size_sc,Fo.size_nil]
theorem rul_sz (act:Bool) (t:Rul):(rulF act t).size=3:=by
 unfold rulF leafF
 split<;>rw[Fo.size_sc,Fo.size_sc,Fo.size_sc,Fo.size_nil]
theorem tgts_sz (wt:Nat→ByteArray) (l:List Tgt):(tgtsF wt l).size=3*l.length:=by
 induction l with
 |nil=>exact Fo.size_nil
 |cons a r ih=>show (Fo.br 2 ⟨#[]⟩ (tgtF wt a) (tgtsF wt r)).size=_;rw[Fo.size_br,tgt_sz,ih,List.length_cons];omega
theorem ruls_sz (act:Bool) (l:List Rul):(rulsF act l).size=4*l.length:=by
 induction l with
 |nil=>exact Fo.size_nil
 |cons a r ih=>show (Fo.br 2 ⟨#[]⟩ (rulF act a) (rulsF act r)).size=_;rw[Fo.size_br,rul_sz,ih,List.length_cons];omega
structure ResZ (r:Res):Prop where
 kind:I64 r.kind
 name:r.name.size≤1048576
 host:r.host.size≤1048576
 route:r.route.size≤1048576
 e:∀x∈r.endps,x.size≤1048576
 t:∀x∈r.targets,x.service.size≤1048576∧x.split.size≤1048576∧x.weight<18446744073709551616
 u:∀x∈r.rules,x.path.size≤1048576∧x.method.size≤1048576∧x.split.size≤1048576
 n:r.endps.length+3*r.targets.length+4*r.rules.length+8≤1048576
end Go.Proofs.YtfenoaeoedobmaaGreatDoor
