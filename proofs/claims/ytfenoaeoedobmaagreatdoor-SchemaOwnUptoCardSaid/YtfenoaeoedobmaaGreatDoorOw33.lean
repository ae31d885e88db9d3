/-
Parts of a proof.
-/
import Derived.Lib.ItoaLen
import Derived.Test.YtfenoaeoedobmaaGreatDoorOw32
set_option linter.unusedVariables false
set_option linter.unusedSimpArgs false
set_option maxHeartbeats 4000000
set_option maxRecDepth 20000
namespace Go.Proofs.YtfenoaeoedobmaaGreatDoor
open Go Go.RowKit
def DT (v:Val) (l:List UInt8) (q:Bool) (er:Int):Prop:=
 (v.kind=1/\l=[110,117,108,108]/\q=false/\er=0)\/
 (v.kind=2/\l=(if v.bool=true then [116,114,117,101] else [102,97,108,115,101])/\q=false/\er=0)\/
 (v.kind=3/\l=Lib.itoa v.int/\q=false/\er=0)\/
 (v.kind=4/\ny v.real l er/\q=false)\/
 (v.kind=5/\l=v.text.data.toList/\q=((aX v.text false).kind != 5)/\er=0)\/
 ((v.kind<1\/5<v.kind)/\l=[]/\q=false/\er=2)
def mJ (v:Val) (w:World) (e:Ending) (w':World):Prop:=
 ∃(s:ByteArray) (q:Bool) (er:Int),e= .returned (.tuple #[.string s,.bool q,.int .i64 er])/\Below w.heap.size w w'/\DT v s.data.toList q er
structure Val.Ok (v:Val):Prop where
 i1: -9223372036854775808<=v.int
 i2:v.int<=9223372036854775807
 r:v.real<18446744073709551616
 t:v.text.size<=2097152
structure PW (w w':World):Prop where
 below:Below w.heap.size w w'
 laid:cQ w'
 lt:w.heap.size<w'.heap.size
theorem PW.first {w w':World} (h:Below w.heap.size w w') (hl:cQ w') (hs:w.heap.size<w'.heap.size):PW w w':=⟨h,hl,hs⟩
theorem EH {w w1:World} {v:Value} (h:w1.cell? ⟨w.heap.size,4,none⟩=some v) (hk:PW w w1):w1.drew.cell? ⟨w.heap.size,4,none⟩=some v/\PW w w1.drew:=
 ⟨h,⟨hk.below.trans ⟨rfl,rfl,rfl,aAa _,fun _ _=>rfl⟩,hk.laid,hk.lt⟩⟩
theorem Il {w w1:World} {v:Value} (h:w1.cell? ⟨w.heap.size,4,none⟩=some v/\PW w w1):cQ w1:=h.2.laid
theorem Ik {w w1 w2:World} {v:Value} (hh:w1.cell? ⟨w.heap.size,4,none⟩=some v/\PW w w1) (hb:Below w1.heap.size w1 w2):w2.cell? ⟨w.heap.size,4,none⟩=some v/\PW w w2:=by
 obtain ⟨h,hk⟩:=hh;refine ⟨(hb.cell (p:=⟨w.heap.size,4,none⟩) hk.lt).trans h,hk.below.trans (hb.mono hk.below.size),?_,Nat.lt_of_lt_of_le hk.lt hb.size⟩;obtain ⟨ev,q1,q2⟩:=hk.laid;exact ⟨ev,(hb.cell (p:=⟨4,0,none⟩) (dB q1)).trans q1,q2⟩
theorem vT (w:World) (v:Val) (hv:v.Ok) (htab:Tab w) (hl:cQ w):
 Calls Tryz.prog 113 #[v.v] w fun e w'=>mJ v w e w':=by
 obtain ⟨kd,b,i,x,t⟩:=v;obtain ⟨i1,i2,hr,ht⟩:=hv;have hres:∀(s:ByteArray) q er w',Below w.heap.size w w'->DT ⟨kd,b,i,x,t⟩ s.data.toList q er->mJ ⟨kd,b,i,x,t⟩ w (.returned (.tuple #[.string s,.bool q,.int .i64 er])) w':=fun s q er w' h1 h2=>⟨s,q,er,rfl,h1,h2⟩;have Hres:=hid hres;clear hres;unfold Val.v bI;dsimp only at i1 i2 hr ht |-;have hB1:=(aAb w.heap.size w).alloc (aAa _) (.cells #[.int .i64 kd,.bool b,.int .i64 i,.float .f64 x,.string t] 91)
 have HB1:=hid hB1;clear hB1;have Htab:=hid (Lib.tabIs_alloc htab (.cells #[.int .i64 kd,.bool b,.int .i64 i,.float .f64 x,.string t] 91));have Hl:=hid (nB hl (.cells #[.int .i64 kd,.bool b,.int .i64 i,.float .f64 x,.string t] 91));clear htab hl;by_cases k1:kd=1
 ·subst k1;go_enter Tryz.func113,Tryz.ntmps113;go_wp2
  go_ret3
  exact Hres.o _ _ _ _ HB1.o (.inl ⟨rfl,rfl,rfl,rfl⟩)
 by_cases k2:kd=2
 ·subst k2;clear k1;have Hf:=hid (fun w=> Tryz.strconv_FormatBool b w);go_enter Tryz.func113,Tryz.ntmps113
  go_wp2_with fail
  refine (Hf.o _).mono ?_;rintro e w1 ⟨rfl,hw⟩;obtain rfl:=hw.symm;clear Hf;go_wp2
  go_ret3
  exact Hres.o _ _ _ _ HB1.o (.inr (.inl ⟨rfl,by cases b<;>rfl,rfl,rfl⟩))
 by_cases k3:kd=3
 ·subst k3;clear k1 k2;have Hf:=hid (Tryz.strconv_FormatInt_10 i i1 i2 _ Htab.o);go_enter Tryz.func113,Tryz.ntmps113
  go_wp2_with fail
  refine Hf.o.mono ?_;rintro e w1 ⟨rfl,n,os,hw⟩;have hB2:=kM (w.alloc (.cells #[.int .i64 3,.bool b,.int .i64 i,.float .f64 x,.string t] 91)) n os;rw[<-hw]at hB2;have HB2:=hid hB2;clear Hf hw hB2;go_wp2
  go_ret3
  exact Hres.o _ _ _ _ (HB1.o.trans (HB2.o.mono HB1.o.size)) (.inr (.inr (.inl ⟨rfl,rfl,rfl,rfl⟩)))
 by_cases k4:kd=4
 ·subst k4;clear k1 k2 k3;have Hf:=hid (tE _ x hr Htab.o);go_enter Tryz.func113,Tryz.ntmps113
  go_wp2_with fail
  refine Hf.o.mono ?_;rintro e w1 ⟨s,er,rfl,hb2,hs⟩;have HB2:=hid hb2;have Hs:=hid hs;clear Hf hs hb2;go_wp2
  go_ret3
  exact Hres.o _ _ _ _ (HB1.o.trans (HB2.o.mono HB1.o.size)) (.inr (.inr (.inr (.inl ⟨rfl,Hs.o,rfl⟩))))
 by_cases k5:kd=5
 ·subst k5;clear k1 k2 k3 k4;have hf:=fun w1 hl=>l5 w1 t ht false hl;unfold lO at hf;have Hk:Hid (∀q,q=((aX t false).kind != 5)->∀w',Below w.heap.size w w'->mJ ⟨5,b,i,x,t⟩ w (.returned (.tuple #[.string t,.bool q,.int .i64 0])) w'):=hid fun q hq w' h=>Hres.o t q 0 w' h (.inr (.inr (.inr (.inr (.inl ⟨rfl,rfl,hq,rfl⟩)))));generalize aX t false=rv at hf Hk;obtain ⟨kk,bb,ii,xx,tt⟩:=rv
  unfold Val.v bI at hf;dsimp only at hf Hk;have hfield:∀w',(Instr.field 91 (.agg #[.int .i64 kk,.bool bb,.int .i64 ii,.float .f64 xx,.string tt]) 0).run Tryz.prog w'= .ok (.int .i64 kk) w':=fun _=>by kernel_rfl
  have Hf:=hid hf;clear hf;go_enter Tryz.func113,Tryz.ntmps113
  go_wp2_with fail
  have hK0:=PW.first HB1.o Hl.o (by simp);have ht0:(w.alloc (.cells #[.int .i64 5,.bool b,.int .i64 i,.float .f64 x,.string t] 91)).cell? ⟨w.heap.size,4,none⟩=some (.string t):=by simp
  go_region_held3 (fun w'=>w'.cell? ⟨w.heap.size,4,none⟩=some (.string t)/\PW w w') (first|exact EH ht0 hK0|(refine Ik ?_ hb;assumption)|(constructor<;>assumption))
   (first|(go_at_call 44;refine (Hf.o _ ?_).mono ?_;(refine Il (w:=w) (v:= .string t) ?_;assumption);rintro e w' ⟨rfl,hb⟩))
  all_goals go_wp2
  all_goals go_ret3
  all_goals exact Hk.o _ rfl _ (by first|exact (show _/\PW w _ from by assumption).2.below|exact PW.below (by assumption))
 ·have q1:(kd==1)=false:=beq_eq_false_iff_ne.2 k1;have q2:(kd==2)=false:=beq_eq_false_iff_ne.2 k2;have q3:(kd==3)=false:=beq_eq_false_iff_ne.2 k3;have q4:(kd==4)=false:=beq_eq_false_iff_ne.2 k4;have q5:(kd==5)=false:=beq_eq_false_iff_ne.2 k5;have ho:kd<1\/5<kd:=by omega
  have Ho:=hid ho;clear k1 k2 k3 k4 k5 ho;go_enter Tryz.func113,Tryz.ntmps113;go_wp2
  go_ret3
  exact Hres.o _ _ _ _ HB1.o (.inr (.inr (.inr (.inr (.inr ⟨Ho.o,rfl,rfl,rfl⟩)))))
end Go.Proofs.YtfenoaeoedobmaaGreatDoor
namespace Go.Proofs.YtfenoaeoedobmaaGreatDoor
open Go Go.RowKit Ieee
theorem xk (s:Bool) (d:Nat):Toward.zero.cut s 0 d=0:=by
 unfold Toward.cut;simp
theorem AO {x:Nat} (h:(FloatKind.f64.format.order x 0==some .eq)=true):floatToIntVal .f64 x .i64=some 0:=by
 have h1:double.order x 0=some .eq:=eq_of_beq h;rw[oG]at h1;unfold floatToIntVal
 show (match (double.read x).toInt .zero with|some n=>if IntKind.i64.min<=n/\n<=IntKind.i64.max then some n else none|none=>none)=some 0
 cases hr:double.read x with
 |nan s f=>rw[hr]at h1;cases h1
 |infinity s=>rw[hr]at h1;cases s<;>cases h1
 |number s m i=>
  rw[hr]at h1;unfold Datum.order at h1;dsimp only at h1;rw[Option.some.injEq]at h1;have h2:=Int.compare_eq_eq.1 h1;have h3:m=0:=by
   unfold signed at h2;rw[if_neg (show ¬(false=true) by decide),Nat.zero_shiftLeft]at h2;have h4:m <<< (i-min i (-1074)).toNat=0:=by
    split at h2<;>omega
   rw[Nat.shiftLeft_eq]at h4;rcases Nat.mul_eq_zero.1 h4 with q|q
   ·exact q
   ·exact absurd q (Nat.ne_of_gt (Nat.two_pow_pos _))
  subst h3;unfold Datum.toInt Datum.integral;dsimp only;rw[Nat.zero_shiftLeft,xk];have:signed s 0 0=0:=by cases s<;>rfl
  rw[this];rfl
theorem sD:nK<INF/\FV nK=100*2 ^ kU:=by decide+kernel
theorem uT {x:Nat} (hx:x<18446744073709551616) (hc:ji x=true):∃n:Nat,n<=100/\floatToIntVal .f64 x .i64=some (n:Int):=by
 by_cases h0:(FloatKind.f64.format.order x 0==some .eq)=true
 ·exact ⟨0,by decide,AO h0⟩
 ·have hf:=pC hx hc;have e:ey x=x:=by unfold ey;rw[if_neg h0]
  rw[e]at hf;unfold ji at hc;rw[Bool.and_eq_true,Bool.or_eq_true (FloatKind.f64.format.order x nK==some .lt),KU hf sD.1,uv hf sD.1,sD.2]at hc;have hle:FV x<=100*2 ^ kU:=by
   rcases hc.2 with q|q
   ·exact Nat.le_of_lt (of_decide_eq_true q)
   ·exact Nat.le_of_eq (of_decide_eq_true q)
  have hn:FV x / 2 ^ kU<=100:=by
   have hp:0<2 ^ kU:=Nat.two_pow_pos _;generalize 2 ^ kU=U at*;have:=Nat.div_le_div_right (c:=U) hle
   rwa [Nat.mul_div_cancel _ hp]at this
  refine ⟨FV x / 2 ^ kU,hn,?_⟩;unfold floatToIntVal;rw[sQ hf];generalize FV x / 2 ^ kU=n at*;simp only;rw[if_pos ⟨by show (-9223372036854775808:Int)<=_;omega,by show _<=(9223372036854775807:Int);omega⟩]
def og (x:Nat):Option Nat:=
 if ji x=true then
  (match floatToIntVal .f64 x .i64 with
   |some n=>if (FloatKind.f64.format.order (floatOfInt .f64 n) x==some .eq)=true then some n.toNat else none
   |none=>none)
 else none
def WT (x:Nat) (l:List UInt8):Prop:=
 match og x with
 |some n=>l=Lib.itoa (n:Int)
 |none=>∃er,ny x l er
end Go.Proofs.YtfenoaeoedobmaaGreatDoor
namespace Go.Proofs.YtfenoaeoedobmaaGreatDoor
open Go Go.RowKit
structure GlobT (w:World):Prop where
 gl:Glob w
 tab:Tab w
theorem GlobT.later {w w2:World} (h:GlobT w) (hb:Below w.heap.size w w2):GlobT w2:=by
 refine ⟨h.gl.later hb,?_⟩;have h:=h.tab;unfold Tab Lib.TabIs World.var? at*;cases hg: Tryz.prog.globalNamed "internal/strconv.uint64pow10" with
 |none=>simp[hg]at h
 |some g=>
  simp only[hg,Option.bind_some]at h |-;have hlt:g<w.heap.size:=by
   rcases Nat.lt_or_ge g w.heap.size with h'|h'
   ·exact h'
   ·rw[Array.getElem?_eq_none h']at h;simp at h
  rw[hb.block g hlt];exact h
theorem DF (w:World) (x:Nat):∃(n:Int) (k:Nat),(convert 56 3 (.float .f64 x)).run Tryz.prog w= .ok (.int .i64 n) (w.drewN k):=by
 cases h:floatToIntVal .f64 x .i64 with
 |some n=>exact ⟨n,0,run_convert_float_int w 56 3 .f64 .i64 x n (by kernel_rfl) Tryz.underlying3 h⟩
 |none=>
  have key:∀z:Sem Value,z=(do pure (.int .i64 (IntKind.i64.wrap (<-choose (.floatToInt .f64 x .i64)))))->∃(n:Int) (k:Nat),z.run Tryz.prog w= .ok (.int .i64 n) (w.drewN k):=by
   rintro z rfl;simp only[Sem.run_bind,run_choose_drew]
   split
   ·exact ⟨_,0,rfl⟩
   ·exact ⟨_,1,rfl⟩
  have hd: Tryz.prog.underlying 56 =some (.float .f64):= Tryz.underlying56;have e:(convert 56 3 (.float .f64 x)).run Tryz.prog w=(Conv.floatToInt .f64 x .i64).run Tryz.prog w:=by
   simp[convert,run_underlying hd,run_underlying Tryz.underlying3]
  rw[e];refine key _ ?_;unfold floatToIntVal at h;unfold Conv.floatToInt
  split at h
  ·rename_i m hm
   rw[hm]
   split at h
   ·cases h
   ·rename_i hn
    simp only;rw[if_neg hn]
  ·rename_i hm
   rw[hm]
theorem yJ (w:World) (x:Nat) (hx:x<18446744073709551616) (hg:GlobT w):
 Calls Tryz.prog 72 #[.float .f64 x] w fun r w'=>(∃s:ByteArray,r= .returned (.string s)/\WT x s.data.toList)/\Below w.heap.size w w':=by
 obtain ⟨W,hW⟩:=ex (WT x);have hprint:(og x=none)->∀w1,Below w.heap.size w w1->Calls Tryz.prog 113 #[.agg #[.int .i64 4,.bool false,.int .i64 0,.float .f64 x,.string ⟨#[]⟩]] w1 fun r w'=>
  ∃(s:ByteArray) (q:Bool) (er:Int),r= .returned (.tuple #[.string s,.bool q,.int .i64 er])/\Below w.heap.size w w'/\W s.data.toList/\(er≠0->W []):=by
  intro hn w1 hb;have hp:=vT w1 ⟨4,false,0,x,⟨#[]⟩⟩ ⟨by show (-9223372036854775808:Int)<=0;decide,by show (0:Int)<=_;decide,hx,by show (0:Nat)<=_;decide⟩ (hg.later hb).tab (hg.later hb).gl.rng;refine hp.mono ?_;rintro r w' ⟨s,q,er,rfl,hb2,hs⟩;have hr:ny x s.data.toList er:=by
   rcases hs with ⟨a1,-⟩|⟨a1,-⟩|⟨a1,-⟩|⟨-,a2,-⟩|⟨a1,-⟩|⟨a1,-⟩
   ·exact absurd a1 (show ¬(4:Int)=1 by decide)
   ·exact absurd a1 (show ¬(4:Int)=2 by decide)
   ·exact absurd a1 (show ¬(4:Int)=3 by decide)
   ·exact a2
   ·exact absurd a1 (show ¬(4:Int)=5 by decide)
   ·exact absurd a1 (show ¬((4:Int)<1\/5<(4:Int)) by decide)
  refine ⟨s,q,er,rfl,hb.trans (hb2.mono hb.size),?_,fun he=> ?_⟩
  ·rw[hW];unfold WT;rw[hn];exact ⟨er,hr⟩
  ·rw[hW];unfold WT;rw[hn];refine ⟨er,?_⟩;rcases hr with ⟨-,-,h⟩|⟨-,-,h⟩|⟨-,-,h⟩|⟨h1,h2,M,k,e,h3,h4⟩
   ·exact absurd h he
   ·exact absurd h he
   ·exact absurd h he
   ·rcases h4 with ⟨q1,q2,q3⟩|⟨q1,q2,q3⟩
    ·exact .inr (.inr (.inr ⟨h1,h2,M,k,e,h3,.inl ⟨q1,rfl,q3⟩⟩))
    ·exact absurd q3 he
 rw[<-hW];have HP:=hid hprint;have HW:=hid hW;clear hprint hW;have mixed: Tryz.prog.follows .mixedOrders=true:=by kernel_rfl
 cases hc:ji x with
 |true=>
  obtain ⟨n,hn,hv⟩:=uT hx hc;have hcv:=run_convert_float_int (P:= Tryz.prog) w 56 3 .f64 .i64 x n (by kernel_rfl) Tryz.underlying3 hv;have hc2:=hc;unfold ji at hc2;rw[Bool.and_eq_true]at hc2;obtain ⟨c1,c2⟩:=hc2;unfold nK at c2;cases he:(FloatKind.f64.format.order (floatOfInt .f64 (n:Int)) x==some .eq) with
  |true=>
   have hwi:og x=some n:=by unfold og;rw[if_pos hc,hv];simp only;rw[if_pos he,Int.toNat_natCast]
   have Hi:=hid (Tryz.strconv_Itoa (n:Int) (by omega) (by omega) w hg.tab);have Hw:=hid (show W (⟨(Lib.itoa (n:Int)).toArray⟩:ByteArray).data.toList by rw[HW.o];unfold WT;rw[hwi]);clear hx hg hn hv hc hwi HP;go_enter Tryz.func72,Tryz.ntmps72
   go_wp2_with fail
   refine Hi.o.mono ?_;rintro r w1 ⟨rfl,k,os,rfl⟩;have Hb:=hid (kM w k os);clear Hi;go_wp2;refine bodyPost_ret (results_tmp (t:=2) rfl _ _ _) rfl ⟨⟨_,rfl,Hw.o⟩,Hb.o⟩
  |false=>
   have hwi:og x=none:=by unfold og;rw[if_pos hc,hv];simp only;rw[if_neg (by rw[he];decide)]
   have Hp:=hid (HP.o hwi w (aAb _ _));clear hx hg hn hv hc hwi HP;go_enter Tryz.func72,Tryz.ntmps72
   go_wp2_with fail
   refine Hp.o.mono ?_;rintro r w1 ⟨s,q,er,rfl,hb,h1,h2⟩;have H1:=hid (And.intro hb (And.intro h1 h2));clear Hp hb h1 h2;by_cases her:er=0
   ·have t1:(er != 0)=false:=by rw[her];rfl
    clear her;go_wp2;refine bodyPost_ret (results_tmp (t:=2) rfl _ _ _) rfl ⟨⟨_,rfl,H1.o.2.1⟩,H1.o.1⟩
   ·have t1:(er != 0)=true:=by rw[bne_iff_ne];exact her
    have Her:=hid her;clear her;go_wp2;refine bodyPost_ret (results_tmp (t:=2) rfl _ _ _) rfl ⟨⟨_,rfl,H1.o.2.2 Her.o⟩,H1.o.1⟩
 |false=>
  obtain ⟨n,k,hcv⟩:=DF w x;have hwi:og x=none:=by unfold og;rw[if_neg (by rw[hc];decide)]
  have hbk:Below w.heap.size w (w.drewN k):=bdH (aAb _ _) k;have Hp:=hid (HP.o hwi (w.drewN k) hbk);unfold ji nK at hc;clear hx hg hwi HP hbk;cases c1:(FloatKind.f64.format.order x 0==some .gt||FloatKind.f64.format.order x 0==some .eq) with
  |true=>
   rw[c1,Bool.true_and]at hc;go_enter Tryz.func72,Tryz.ntmps72
   go_wp2_with fail
   refine Hp.o.mono ?_;rintro r w1 ⟨s,q,er,rfl,hb,h1,h2⟩;have H1:=hid (And.intro hb (And.intro h1 h2));clear Hp hb h1 h2;by_cases her:er=0
   ·have t1:(er != 0)=false:=by rw[her];rfl
    clear her;go_wp2;refine bodyPost_ret (results_tmp (t:=2) rfl _ _ _) rfl ⟨⟨_,rfl,H1.o.2.1⟩,H1.o.1⟩
   ·have t1:(er != 0)=true:=by rw[bne_iff_ne];exact her
    have Her:=hid her;clear her;go_wp2;refine bodyPost_ret (results_tmp (t:=2) rfl _ _ _) rfl ⟨⟨_,rfl,H1.o.2.2 Her.o⟩,H1.o.1⟩
  |false=>
   clear hc;go_enter Tryz.func72,Tryz.ntmps72
   go_wp2_with fail
   refine Hp.o.mono ?_;rintro r w1 ⟨s,q,er,rfl,hb,h1,h2⟩;have H1:=hid (And.intro hb (And.intro h1 h2));clear Hp hb h1 h2;by_cases her:er=0
   ·have t1:(er != 0)=false:=by rw[her];rfl
    clear her;go_wp2;refine bodyPost_ret (results_tmp (t:=2) rfl _ _ _) rfl ⟨⟨_,rfl,H1.o.2.1⟩,H1.o.1⟩
   ·have t1:(er != 0)=true:=by rw[bne_iff_ne];exact her
    have Her:=hid her;clear her;go_wp2;refine bodyPost_ret (results_tmp (t:=2) rfl _ _ _) rfl ⟨⟨_,rfl,H1.o.2.2 Her.o⟩,H1.o.1⟩
theorem zr {x:Nat} {l l':List UInt8} {er er':Int} (h:ny x l er) (h':ny x l' er'):l=l':=by
 rcases h with ⟨a1,a2,a3⟩|⟨a1,a2,a3⟩|⟨a1,a2,a3⟩|⟨a1,a2,M,k,e,a3,a4⟩<;>rcases h' with ⟨b1,b2,b3⟩|⟨b1,b2,b3⟩|⟨b1,b2,b3⟩|⟨b1,b2,M',k',e',b3,b4⟩<;>
  first|(exfalso;unfold INF at *;omega)|exact a2.trans b2.symm|skip
 obtain ⟨rfl,rfl,rfl⟩:=Dec.unique a3 b3;rcases a4 with ⟨q1,q2,q3⟩|⟨q1,q2,q3⟩<;>rcases b4 with ⟨r1,r2,r3⟩|⟨r1,r2,r3⟩<;>first|(exfalso;omega)|exact q2.trans r2.symm
theorem WT.unique {x:Nat} {l l':List UInt8} (h:WT x l) (h':WT x l'):l=l':=by
 unfold WT at h h';cases hw:og x with
 |some n=>rw[hw]at h h';exact h.trans h'.symm
 |none=>rw[hw]at h h';obtain ⟨e,h⟩:=h;obtain ⟨e',h'⟩:=h';exact zr h h'
theorem BK {M:Nat} {k:Int} (h1:1<=M) (h2:M<1000000000000000) (hk1: -22<=k) (hk2:k<=22):(mY M k).length<=60:=by
 have hn15:=iZ 14 M h2;have hlen:=Lib.decDigits_length M;unfold mY
 split
 ·split
  ·rw[aAc,aAc,List.length_replicate,hlen]
   show _+_+2<=60
   omega
  ·have hp:(Lib.decDigits (k+(Lib.nDigits M:Int)-1).toNat).length<=2:=by
    rw[Lib.decDigits_length];exact iZ 1 _ (by omega)
   rw[aAc,aAc,aAc,aAc,List.length_take,hlen];have:(if Lib.nDigits M=1 then [48] else (Lib.decDigits M).drop 1:List UInt8).length<=15:=by
    split
    ·show 1<=15;decide
    ·rw[List.length_drop,hlen];omega
   show min 1 (Lib.nDigits M)+1+_+1+_<=60
   omega
 ·rw[aAc,aAc,List.length_take,List.length_drop,aAc,List.length_replicate,hlen]
  show _+1+_<=60
  omega
theorem WT.len {x:Nat} (hx:x<18446744073709551616) {l:List UInt8} (h:WT x l):l.length<=100:=by
 unfold WT at h;cases hw:og x with
 |some n=>
  rw[hw]at h;simp only at h;unfold og at hw
  split at hw
  ·rename_i hc
   obtain ⟨m,hm,hv⟩:=uT hx hc;rw[hv]at hw;simp only at hw
   split at hw
   ·have hw:=aAf hw;have:=Lib.itoa_length_le (n:Int) (by omega) (by omega);rw[h];omega
   ·cases hw
  ·cases hw
 |none=>
  rw[hw]at h;simp only at h;obtain ⟨e,h⟩:=h;have hsg:(mS x).length<=1:=by unfold mS;split<;>decide
  rcases h with ⟨b1,b2,b3⟩|⟨b1,b2,b3⟩|⟨b1,b2,b3⟩|⟨b1,b2,M,k,e,b3,b4⟩
  ·rw[b2];decide
  ·rw[b2,aAc];show _+4<=_;omega
  ·rw[b2,aAc];show _+3<=_;omega
  ·rcases b4 with ⟨c1,c2,c3⟩|⟨c1,c2,c3⟩
   ·rw[c2];decide
   ·rw[c2,aAc];rcases b3 with ⟨_,k1,k2,⟨s1,s2,_⟩,_⟩|⟨q,_⟩
    ·have:=BK s1 s2 k1 k2;omega
    ·omega
open Classical in
noncomputable def wtF (x:Nat):ByteArray:=if h:∃s:ByteArray,WT x s.data.toList then h.choose else ⟨#[]⟩
theorem AR {x:Nat} {s:ByteArray} (h:WT x s.data.toList):wtF x=s:=by
 unfold wtF;have he:∃s:ByteArray,WT x s.data.toList:=⟨s,h⟩;rw[dif_pos he];have h2:=WT.unique he.choose_spec h;exact ByteArray.ext (Array.ext' h2)
theorem AQ {x:Nat} (hx:x<18446744073709551616):(wtF x).size<=100:=by
 by_cases he:∃s:ByteArray,WT x s.data.toList
 ·obtain ⟨s,h⟩:=he;rw[AR h,<-al];exact WT.len hx h
 ·unfold wtF;rw[dif_neg he]
  decide
theorem yI (w:World) (x:Nat) (hx:x<18446744073709551616) (hg:GlobT w):
 Calls Tryz.prog 72 #[.float .f64 x] w fun r w'=>r= .returned (.string (wtF x))/\Below w.heap.size w w':=by
 refine (yJ w x hx hg).mono ?_;rintro r w' ⟨⟨s,rfl,h⟩,hb⟩;rw[AR h];exact ⟨rfl,hb⟩
def Few (ns:List Nd):Prop:=∀x∈ns,x.kids.length<=ns.length
theorem uu {ns:List Nd} (h:Few ns) {p:Option Nat} {x:Nd} (hx:x.kids=[]):Few (Ac ns p x):=by
 have h1:∀y∈ns++[x],y.kids.length<=ns.length:=by
  intro y hy;rcases List.mem_append.1 hy with q|q
  ·exact h y q
  ·rw[List.mem_singleton.1 q,hx];exact Nat.zero_le _
 cases p with
 |none=>
  intro y hy;have:=h1 y hy
  show y.kids.length<=(ns++[x]).length
  rw[aAc];omega
 |some p=>
  intro y hy
  show y.kids.length<=(dh (ns++[x]) p ns.length).length
  have hl:(dh (ns++[x]) p ns.length).length=ns.length+1:=by
   unfold dh
   split<;>simp
  rw[hl];have hy2:y∈dh (ns++[x]) p ns.length:=hy;unfold dh at hy2
  split at hy2
  ·rename_i z hz
   rcases List.mem_or_eq_of_mem_set hy2 with q|q
   ·have:=h1 y q;omega
   ·have:=h1 z (List.mem_of_getElem? hz);rw[q]
    show (z.kids++[_]).length<=_
    rw[aAc];simp only[aAd,List.length_nil];omega
  ·have:=h1 y hy2;omega
def Ln (w:World) (tb:Nat) (ob:Obj):Prop:=w.heap[tb]? =some ob
structure TrS (w1 w:World) (r:Res) (ev tv rv:Value) (bb wb:Nat) (T:Option (Nat×Obj)) (ns:List Nd):Prop where
 bbl:bb<w1.heap.size
 box:w1.heap[bb]? =some (.cells (bJ r ev tv rv) 49 (0,0))
 lists:ResL w1 r ev tv rv
 g:GlobT w1
 few:Few ns
 wr:∃nv ms,WrS w1 w wb nv ms/\nds ms=ns/\∀tb ob,T=some (tb,ob)->Ln w tb ob/\¬RdF wb nv ms tb
theorem TrS.below {w1 w:World} {r:Res} {ev tv rv:Value} {bb wb:Nat} {T:Option (Nat×Obj)} {ns:List Nd} (h:TrS w1 w r ev tv rv bb wb T ns):Below w1.heap.size w1 w:=by
 obtain ⟨nv,ms,hw,_,_⟩:=h.wr;exact hw.below
theorem TrS.later {w1 w w2:World} {r:Res} {ev tv rv:Value} {bb wb:Nat} {T:Option (Nat×Obj)} {ns:List Nd} (h:TrS w1 w r ev tv rv bb wb T ns) (hb:Below w.heap.size w w2):TrS w1 w2 r ev tv rv bb wb T ns:=by
 obtain ⟨nv,ms,hw,e,ht⟩:=h.wr;exact ⟨h.bbl,h.box,h.lists,h.g,h.few,nv,ms,hw.later hb,e,fun tb ob q=>⟨(hb.block _ (ag (ht tb ob q).1)).trans (ht tb ob q).1,(ht tb ob q).2⟩⟩
theorem TrS.glob {w1 w:World} {r:Res} {ev tv rv:Value} {bb wb:Nat} {T:Option (Nat×Obj)} {ns:List Nd} (h:TrS w1 w r ev tv rv bb wb T ns):GlobT w:=h.g.later h.below
theorem TrS.cells {w1 w:World} {r:Res} {ev tv rv:Value} {bb wb:Nat} {T:Option (Nat×Obj)} {ns:List Nd} (h:TrS w1 w r ev tv rv bb wb T ns):
 w.cell? ⟨bb,0,none⟩=some (.int .i64 r.kind)/\w.cell? ⟨bb,1,none⟩=some (.string r.name)/\w.cell? ⟨bb,2,none⟩=some ev/\w.cell? ⟨bb,3,none⟩=some tv/\w.cell? ⟨bb,4,none⟩=some (.string r.host)/\w.cell? ⟨bb,5,none⟩=some rv/\w.cell? ⟨bb,6,none⟩=some (.string r.route)/\w.cell? ⟨bb,7,none⟩=some (.bool r.del):=by
 have hb:w.heap[bb]? =some (.cells (bJ r ev tv rv) 49 (0,0)):=(h.below.block _ h.bbl).trans h.box;exact ⟨af hb 0,af hb 1,af hb 2,af hb 3,af hb 4,af hb 5,af hb 6,af hb 7⟩
theorem TrS.kid {w1 w:World} {r:Res} {ev tv rv:Value} {bb wb:Nat} {T:Option (Nat×Obj)} {ns:List Nd} (h:TrS w1 w r ev tv rv bb wb T ns) {ms:List NdM} (e:nds ms=ns) {p:Nat} (hp:p<ns.length) (hl:ns.length<1048576):∃m,ms[p]? =some m/\m.nd.kids.length<1048576:=by
 have hp2:p<ms.length:=by rw[<-bt,e];exact hp
 obtain ⟨m,hm⟩:∃m,ms[p]? =some m:=au hp2;refine ⟨m,hm,?_⟩;have h1:=eS hm;have h2:m.nd∈nds ms:=by unfold nds;exact List.mem_map_of_mem (List.mem_of_getElem? hm)
 rw[e]at h2;have:=h.few _ h2;omega
theorem TrS.put {w1 w w':World} {r:Res} {ev tv rv:Value} {bb wb:Nat} {T:Option (Nat×Obj)} {ns ns2:List Nd} (h:TrS w1 w r ev tv rv bb wb T ns) (hf:Few ns2) {nv:Value} {ms:List NdM} (ht:∀tb ob,T=some (tb,ob)->Ln w tb ob/\¬RdF wb nv ms tb) (hp:gg w1 w wb nv ms ns2 w'):TrS w1 w' r ev tv rv bb wb T ns2:=by
 obtain ⟨nv2,ms2,a,b,c,d⟩:=hp;refine ⟨h.bbl,h.box,h.lists,h.g,hf,nv2,ms2,a,b,fun tb ob q=> ?_⟩;obtain ⟨q1,q2⟩:=ht tb ob q;have hlt:=ag q1;refine ⟨(c.block _ hlt q2).trans q1,fun e=> ?_⟩;rcases e with e|e
 ·exact q2 (.inl e)
 ·rcases d tb e with z|z
  ·exact q2 (.inr z)
  ·omega
theorem TrS.copy {w1 w:World} {r:Res} {ev tv rv:Value} {bb wb:Nat} {ns:List Nd} (h:TrS w1 w r ev tv rv bb wb none ns) (c:Array Value) (t:TypeId):TrS w1 (w.alloc (.cells c t)) r ev tv rv bb wb (some (w.heap.size,.cells c t (0,0))) ns:=by
 obtain ⟨nv,ms,hw,e,ht⟩:=h.wr;refine ⟨h.bbl,h.box,h.lists,h.g,h.few,nv,ms,hw.later ((aAb _ _).alloc (aAa _) _),e,fun tb ob q=> ?_⟩;obtain ⟨rfl,rfl⟩:=Prod.mk.inj (aAf q);exact ⟨ah _,fun q=>Nat.lt_irrefl _ (hw.rd_lt q).2⟩
theorem TrS.drop {w1 w:World} {r:Res} {ev tv rv:Value} {bb wb:Nat} {T:Option (Nat×Obj)} {ns:List Nd} (h:TrS w1 w r ev tv rv bb wb T ns):TrS w1 w r ev tv rv bb wb none ns:=by
 obtain ⟨nv,ms,hw,e,ht⟩:=h.wr;exact ⟨h.bbl,h.box,h.lists,h.g,h.few,nv,ms,hw,e,nofun⟩
theorem TrS.held {w1 w:World} {r:Res} {ev tv rv:Value} {bb wb tb:Nat} {ob:Obj} {ns:List Nd} (h:TrS w1 w r ev tv rv bb wb (some (tb,ob)) ns):w.heap[tb]? =some ob:=by
 obtain ⟨nv,ms,hw,e,ht⟩:=h.wr;exact (ht tb ob rfl).1
theorem TrS.eq {w1 w:World} {r:Res} {ev tv rv:Value} {bb wb:Nat} {T:Option (Nat×Obj)} {ns ns2:List Nd} (h:TrS w1 w r ev tv rv bb wb T ns) (e:ns=ns2):TrS w1 w r ev tv rv bb wb T ns2:=by rw[<-e];exact h
theorem eu {w1 w:World} {r:Res} {ev tv rv:Value} {bb wb:Nat} {T:Option (Nat×Obj)} {ns:List Nd} (h:TrS w1 w r ev tv rv bb wb T ns) (hl:ns.length<1048576) (p:Nat) (hp:p<ns.length) (key:ByteArray) (hkey:key.size<=1048576) (s:ByteArray) (hs:s.size<=1048576):
 Calls Tryz.prog 71 #[.pointer (some ⟨wb,0,none⟩),.int .i64 (p:Int),.string key,.string s] w
  fun x w'=>(∃v,x= .returned v)/\TrS w1 w' r ev tv rv bb wb T (aI ns p (aJ key s .nil)):=by
 obtain ⟨nv,ms,hw,e,ht⟩:=h.wr;refine (DY hw h.glob.gl p (h.kid e hp hl) key hkey s hs (by rw[<-bt,e];exact hl)).mono ?_;rintro x w' ⟨hx,hp2⟩;rw[e]at hp2;refine ⟨hx,h.put ?_ ht hp2⟩;unfold aJ;rw[<-x8 hp];exact uu h.few rfl
theorem kR {w1 w:World} {r:Res} {ev tv rv:Value} {bb wb:Nat} {T:Option (Nat×Obj)} {ns:List Nd} (h:TrS w1 w r ev tv rv bb wb T ns) (hl:ns.length<1048576) (p:Nat) (hp:p<ns.length) (kind:Int) (hk:I64 kind) (key:ByteArray) (hkey:key.size<=1048576):
 Calls Tryz.prog 70 #[.pointer (some ⟨wb,0,none⟩),.int .i64 (p:Int),.int .i64 kind,.string key] w
  fun x w'=>x= .returned (.int .i64 (ns.length:Int))/\TrS w1 w' r ev tv rv bb wb T (aI ns p (.br kind key .nil .nil)):=by
 obtain ⟨nv,ms,hw,e,ht⟩:=h.wr;have hn:ms.length=ns.length:=by rw[<-bt,e]
 refine (xp hw (some p) (fun i hi=>by cases hi;exact h.kid e hp hl) kind hk key hkey (by rw[hn];exact hl)).mono ?_;rintro x w' ⟨hx,hp2⟩;rw[e,x9 hp]at hp2;rw[hn]at hx;refine ⟨hx,h.put ?_ ht hp2⟩;rw[<-x9 hp];exact uu h.few rfl
theorem tY (l:List ByteArray) (e:ByteArray):dR (l++[e])=(dR l).app (aJ ⟨#[]⟩ e .nil):=by
 induction l with
 |nil=>rfl
 |cons a r ih=>show aJ ⟨#[]⟩ a (dR (r++[e]))=_;rw[ih];rfl
theorem yW (wt:Nat->ByteArray) (l:List Tgt) (e:Tgt):gF wt (l++[e])=(gF wt l).app (.br 2 ⟨#[]⟩ (pU wt e) .nil):=by
 induction l with
 |nil=>rfl
 |cons a r ih=>show Fo.br 2 ⟨#[]⟩ (pU wt a) (gF wt (r++[e]))=_;rw[ih];rfl
theorem qw (act:Bool) (l:List Rul) (e:Rul):cZ act (l++[e])=(cZ act l).app (.br 2 ⟨#[]⟩ (pV act e) .nil):=by
 induction l with
 |nil=>rfl
 |cons a r ih=>show Fo.br 2 ⟨#[]⟩ (pV act a) (cZ act (r++[e]))=_;rw[ih];rfl
theorem z9 (l:List ByteArray):(dR l).size=l.length:=by
 induction l with
 |nil=>exact Fo.size_nil
 |cons a r ih=>show (aJ ⟨#[]⟩ a (dR r)).size=_;unfold aJ;rw[Fo.size_sc,ih,aAd];omega
theorem Ia (wt:Nat->ByteArray) (t:Tgt):(pU wt t).size=2:=by
 unfold pU aJ
 split<;>rw[Fo.size_sc,Fo.size_sc,Fo.size_nil]
theorem It (act:Bool) (t:Rul):(pV act t).size=3:=by
 unfold pV aJ
 split<;>rw[Fo.size_sc,Fo.size_sc,Fo.size_sc,Fo.size_nil]
theorem Ek (wt:Nat->ByteArray) (l:List Tgt):(gF wt l).size=3*l.length:=by
 induction l with
 |nil=>exact Fo.size_nil
 |cons a r ih=>show (Fo.br 2 ⟨#[]⟩ (pU wt a) (gF wt r)).size=_;rw[Fo.size_br,Ia,ih,aAd];omega
theorem xG (act:Bool) (l:List Rul):(cZ act l).size=4*l.length:=by
 induction l with
 |nil=>exact Fo.size_nil
 |cons a r ih=>show (Fo.br 2 ⟨#[]⟩ (pV act a) (cZ act r)).size=_;rw[Fo.size_br,It,ih,aAd];omega
structure ResZ (r:Res):Prop where
 kind:I64 r.kind
 name:r.name.size<=1048576
 host:r.host.size<=1048576
 route:r.route.size<=1048576
 e:∀x∈r.endps,x.size<=1048576
 t:∀x∈r.targets,x.service.size<=1048576/\x.split.size<=1048576/\x.weight<18446744073709551616
 u:∀x∈r.rules,x.path.size<=1048576/\x.method.size<=1048576/\x.split.size<=1048576
 n:r.endps.length+3*r.targets.length+4*r.rules.length+8<=1048576
