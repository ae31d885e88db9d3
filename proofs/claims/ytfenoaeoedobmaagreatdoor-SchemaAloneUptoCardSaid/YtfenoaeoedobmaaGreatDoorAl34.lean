/-
Parts of a proof, one behind the other (laid dense by a program of mine: pack.py).
-/
import Derived.Lib.Repeat
import Derived.Test.YtfenoaeoedobmaaGreatDoorAl33
set_option linter.unusedVariables false
set_option linter.unusedSimpArgs false
set_option maxHeartbeats 4000000
set_option maxRecDepth 20000
namespace Go.Proofs.YtfenoaeoedobmaaGreatDoor
open Go Ieee
def Dec (x:Nat) (M:Nat) (k:Int) (er:Int):Prop:=
 (er=0∧ -22≤k∧k≤22∧Sol x k M∧∀k',k<k'→k'≤22→∀M',¬Sol x k' M')∨(er=2∧M=0∧k=0∧∀k',-22≤k'→k'≤22→∀M',¬Sol x k' M')
theorem Dec.unique {x M M':Nat} {k k' er er':Int} (h:Dec x M k er) (h':Dec x M' k' er'):M=M'∧k=k'∧er=er':=by
 rcases h with ⟨rfl,a1,a2,a3,a4⟩|⟨rfl,rfl,rfl,a4⟩
 ·rcases h' with ⟨rfl,b1,b2,b3,b4⟩|⟨rfl,rfl,rfl,b4⟩
  ·rcases Int.lt_trichotomy k k' with q|rfl|q
   ·exact absurd b3 (a4 k' q b2 M')
   ·exact ⟨Sol.unique a1 a2 a3 b3,rfl,rfl⟩
   ·exact absurd a3 (b4 k q a2 M)
  ·exact absurd a3 (b4 k a1 a2 M)
 ·rcases h' with ⟨rfl,b1,b2,b3,b4⟩|⟨rfl,rfl,rfl,b4⟩
  ·exact absurd b3 (a4 k' b1 b2 M')
  ·exact ⟨rfl,rfl,rfl⟩
abbrev MOST2:Nat:=4835858800541171712
theorem FV_most:MOST2<INF∧FV MOST2=2000000000000000*2 ^ kU:=by decide+kernel
theorem FV_max:FV 9218868437227405311=9007199254740991*2 ^ (kU+971):=by decide+kernel
theorem FV_le_max {x:Nat} (hx:x<INF):FV x≤FV 9218868437227405311:=by
 rw[FV_max];have hk:=kU_eq;unfold INF at hx;by_cases h:1≤x / 4503599627370496
 ·obtain ⟨kept,k1,k2,k0,k3⟩:=FV_exp rfl h;rw[k3];exact Nat.mul_le_mul (by omega) (Nat.pow_le_pow_right (by decide) (by omega))
 ·have:FV x=x:=by unfold FV;rw[if_pos (by omega)]
  rw[this];exact Nat.le_trans (show x≤9007199254740991 by omega) (Nat.le_mul_of_pos_right _ (Nat.two_pow_pos _))
theorem bound_up {F A U:Nat} (h:F*KK≤A*1152921504606847492) (hA:A≤1000000000000000*U):F≤2000000000000000*U:=by
 refine Nat.le_of_mul_le_mul_right (Nat.le_trans h ?_) (show 0<KK by decide);refine Nat.le_trans (Nat.mul_le_mul_right _ hA) ?_;rw[Nat.mul_right_comm,Nat.mul_right_comm 2000000000000000];exact Nat.mul_le_mul_right _ (by decide)
theorem Sol.not_most {U:Nat} (hUe:U=2 ^ kU) {x M:Nat} {k kk:Int} (h:Sol x k M) (hx:x<INF) (hk1: -22≤k) (hkk:k≤kk) (hk2:kk≤22) {g1 G:Nat} (hg:Guess x kk.toNat (-kk).toNat g1 G):
 G<INF∧FV G≤2000000000000000*U:=by
 obtain ⟨h1,h2,_⟩:=h.guess hUe hx hk1 hkk hk2 hg;exact ⟨h1,bound_up h2 (Nat.mul_le_mul_right _ (Nat.le_of_lt h.2.1))⟩
theorem e1032 (A:Nat):A*1032=2*(A*516):=by omega
theorem lin_up (f a c u:Nat) (h:f≤a+c) (e3:2*c<u):2*f<2*a+u:=by omega
theorem lin_dn (f a b c u:Nat) (h2:b≤f) (e2:a=b+c) (e3:2*c<u):2*a≤2*f+u:=by omega
theorem near_half {F A U:Nat} (hU:0<U) (h:F*KK≤A*1152921504606847492) (h2:A*1152921504606846460≤F*KK) (hA:A≤1000000000000000*U):2*F<2*A+U∧2*A≤2*F+U:=by
 have e1:A*1152921504606847492=A*KK+A*516:=by rw[←Nat.mul_add]
 have e2:A*KK=A*1152921504606846460+A*516:=by rw[←Nat.mul_add]
 have e3:A*1032<U*KK:=by
  refine Nat.lt_of_le_of_lt (Nat.mul_le_mul_right _ hA) ?_;rw[Nat.mul_right_comm,Nat.mul_comm U];exact Nat.mul_lt_mul_of_pos_right (by decide) hU
 rw[e1032]at e3;constructor
 ·refine Nat.lt_of_mul_lt_mul_right (a:=KK) ?_;rw[Nat.add_mul,Nat.mul_assoc,Nat.mul_assoc];rw[e1]at h;exact lin_up _ _ _ _ h e3
 ·refine Nat.le_of_mul_le_mul_right (c:=KK) ?_ (by decide);rw[Nat.add_mul,Nat.mul_assoc,Nat.mul_assoc];exact lin_dn _ _ _ _ _ h2 e2 e3
theorem Sol.rounds {U:Nat} (hUe:U=2 ^ kU) {x M:Nat} {k:Int} (h:Sol x k M) (hx:x<INF) (hk1: -22≤k) (hk2:k≤22) {g1 G:Nat} (hg:Guess x k.toNat (-k).toNat g1 G):(2*FV G+U) / (2*U)=M:=by
 obtain ⟨_,_,hU⟩:=U_facts hUe;obtain ⟨_,h2,h3⟩:=h.guess hUe hx hk1 (Int.le_refl k) hk2 hg;obtain ⟨a1,a2⟩:=near_half hU h2 (h3 rfl) (Nat.mul_le_mul_right _ (Nat.le_of_lt h.2.1));have e1:M*(2*U)=2*(M*U):=by ac_rfl
 rw[Nat.div_eq_iff (by omega)];rw[e1];generalize M*U=A at*;omega
theorem guess_int {U:Nat} (hUe:U=2 ^ kU) {G:Nat} (hG:G<INF) (hm:FV G≤2000000000000000*U):
 G / 4503599627370496<1075∧floatToIntVal .f64 (roundW G) .u64=some (((2*FV G+U) / (2*U):Nat):Int)∧(2*FV G+U) / (2*U)≤3000000000000000:=by
 obtain ⟨_,_,hU⟩:=U_facts hUe;have hk:=kU_eq;have h1:G / 4503599627370496<1075:=by
  rcases Nat.lt_or_ge (G / 4503599627370496) 1075 with h|h
  ·exact h
  ·obtain ⟨kept,k1,k2,k0,k3⟩:=FV_exp (b:=G) rfl (by omega);have h5:2 ^ kU≤2 ^ (G / 4503599627370496-1):=Nat.pow_le_pow_right (by decide) (by omega);rw[←hUe]at h5;have h6:4503599627370496*U≤FV G:=by rw[k3];exact Nat.mul_le_mul k1 h5
   have h7:4503599627370496*U≤2000000000000000*U:=Nat.le_trans h6 hm;have:=Nat.le_of_mul_le_mul_right h7 hU;omega
 obtain ⟨r1,r2⟩:=round_ok hUe h1;have hn:(2*FV G+U) / (2*U)≤3000000000000000:=by
  have:(2*FV G+U) / (2*U)<3000000000000001:=by
   rw[Nat.div_lt_iff_lt_mul (by omega)];generalize FV G=F at*;omega
  omega
 refine ⟨h1,?_,hn⟩;unfold floatToIntVal;rw[toInt_FV r1,r2,←hUe,Nat.mul_div_cancel _ hU];generalize (2*FV G+U) / (2*U)=n at*;have hr:IntKind.u64.min≤(n:Int)∧(n:Int)≤IntKind.u64.max:=by
  have e1:IntKind.u64.min=0:=by decide
  have e2:IntKind.u64.max=18446744073709551615:=by decide+kernel
  rw[e1,e2];omega
 show (if IntKind.u64.min≤(n:Int)∧(n:Int)≤IntKind.u64.max then some (n:Int) else none)=_
 rw[if_pos hr]
theorem gt_most {G:Nat} (hG:G≤INF) {U:Nat} (hUe:U=2 ^ kU):(FloatKind.f64.format.order G MOST2==some .gt)=decide (¬(G<INF∧FV G≤2000000000000000*U)):=by
 rcases Nat.lt_or_eq_of_le hG with h|rfl
 ·rw[gt_FV h FV_most.1,FV_most.2,←hUe];congr 1;simp only[eq_iff_iff];constructor
  ·rintro q ⟨_,q2⟩;omega
  ·intro q;rcases Nat.lt_or_ge (2000000000000000*U) (FV G) with q2|q2
   ·exact q2
   ·exact absurd ⟨h,q2⟩ q
 ·have:¬(INF<INF∧FV INF≤2000000000000000*U):=fun q=>absurd q.1 (Nat.lt_irrefl _);rw[dT this]
  decide+kernel
end Go.Proofs.YtfenoaeoedobmaaGreatDoor
namespace Go.Proofs.YtfenoaeoedobmaaGreatDoor
open Go Go.RowKit
def DecPost (x:Nat) (w:World) (e:Ending) (w':World):Prop:=
 ∃(M:Nat) (k er:Int),e= .returned (.tuple #[.int .u64 M,.int .i64 k,.int .i64 er])∧w'=w∧Dec x M k er
theorem dec_none {x:Nat} {w:World} (h:∀k',-22≤k'→k'≤22→∀M',¬Sol x k' M'):DecPost x w (.returned (.tuple #[.int .u64 0,.int .i64 0,.int .i64 2])) w:=
 ⟨0,0,2,rfl,rfl,.inr ⟨rfl,rfl,rfl,h⟩⟩
theorem dec_some {x M:Nat} {k:Int} {w:World} (hk1: -22≤k) (hk2:k≤22) (h:Sol x k M) (hn:∀k',k<k'→k'≤22→∀M',¬Sol x k' M'):DecPost x w (.returned (.tuple #[.int .u64 M,.int .i64 k,.int .i64 0])) w:=
 ⟨M,k,0,rfl,rfl,.inl ⟨rfl,hk1,hk2,h,hn⟩⟩
theorem conv_run {b:Nat} {n:Int} (h:floatToIntVal .f64 b .u64=some n):∀w,(convert 56 184 (.float .f64 b)).run Tryz.prog w= .ok (.int .u64 n) w:=fun w=>
 run_convert_float_int w 56 184 .f64 .u64 b n (by kernel_rfl) Tryz.underlying184 h
theorem decimal_walk (w:World) (x:Nat) (hx:x<INF) (hx0:0<FV x):Calls Tryz.prog 186 #[.float .f64 x] w fun e w'=>DecPost x w e w':=by
 have Hx:=hid hx;obtain ⟨U,hUe,-,-,-⟩:=exU;have hpos:(FloatKind.f64.format.order x 0==some .gt)=true:=by
  rw[gt_FV hx (by decide),FV_zero,dT hx0]
 have hinf:(FloatKind.f64.format.order x 9218868437227405311==some .gt)=false:=by
  rw[gt_FV hx (by decide),dF (Nat.not_lt.2 (FV_le_max hx))]
 have Hinf:=hid (isInf_walk w x _ hinf);have HUe:=hid hUe;clear hx hx0 hinf hUe;go_enter Tryz.func186,Tryz.ntmps186
 go_wp2_with fail
 refine Hinf.out.mono ?_;rintro e w' ⟨rfl,rfl⟩;clear Hinf;go_wp2
 go_loopw [5] (fun i wr=>∃k:Int,i= .int .i64 k∧w'=wr∧Hid (-23≤k∧k≤22∧∀k',k<k'→k'≤22→∀M',¬Sol x k' M')) (fun i _=>(intOf i+23).toNat)
 case atStart=>exact ⟨22,rfl,rfl,by omega,by omega,fun k' h1 h2=>absurd h1 (by omega)⟩
 case round=>
  obtain ⟨k,rfl,rfl,hk⟩:=hrel;by_cases hlow: -22≤k
  ·rcases (show 0<k∨k=0∨k<0 by omega) with h0|h0|h0
   ·obtain ⟨kn,rfl⟩:∃kn:Nat,k=(kn:Int):=⟨k.toNat,by omega⟩;have hkb:kn≤22:=by have:=hk.out.2.1;omega
    have hkb2: -(kn:Int)<0:=by omega
    obtain ⟨g1,G,hg⟩:=guess_ex Hx.out (show kn<23 by have:=hk.out.2.1;omega) (show 0<23 by omega);have Hg:=hid (show Guess x ((kn:Int)).toNat (-(kn:Int)).toNat g1 G by rw[show ((kn:Int)).toNat=kn by omega,show (-(kn:Int)).toNat=0 by omega];exact hg);have Ht1:=hid (ten_walk w' kn (by have:=hk.out.2.1;omega));have Ht2:Hid (Calls Tryz.prog 155 #[.int .i64 0] w' fun e w''=>e= .returned (.float .f64 (tenW 0))∧w''=w'):=hid (ten_walk w' 0 (by decide))
    have hq:=quo_run hg.quo;have hm:=mul_run hg.mul;have hmost:=gt_most hg.l2 HUe.out;clear hg;have Hlow:=hid hlow
    go_wp2_with fail
    refine Ht1.out.mono ?_;rintro e w1 ⟨rfl,hw1⟩;obtain rfl:=hw1.symm;clear Ht1
    go_wp2_with fail
    refine Ht2.out.mono ?_;rintro e w1 ⟨rfl,hw1⟩;obtain rfl:=hw1.symm;clear Ht2;by_cases hb:G<INF∧FV G≤2000000000000000*U
    ·rw[dF (fun h=>h hb)]at hmost;obtain ⟨r1,r2,r3⟩:=guess_int HUe.out hb.1 hb.2;have hrnd:∀M',Sol x (kn:Int) M'→(2*FV G+U) / (2*U)=M':=fun M' hs=>hs.rounds HUe.out Hx.out Hlow.out hk.out.2.1 Hg.out;have Hrnd:=hid hrnd;generalize (2*FV G+U) / (2*U)=n at*;have hcv:=conv_run r2;have Hr:=hid (round_walk w' G r1);have Hn:=hid (near_walk w' x Hx.out (kn:Int) Hlow.out hk.out.2.1 n r3);clear hb r1 r2 r3 hrnd
     go_wp2_with fail
     refine Hr.out.mono ?_;rintro e w1 ⟨rfl,hw1⟩;obtain rfl:=hw1.symm;clear Hr
     go_wp2_with fail
     refine Hn.out.mono ?_;rintro e w1 ⟨M,ok,rfl,hw1,hcase⟩;obtain rfl:=hw1.symm;have Hcase:=hid hcase;clear Hn hcase;cases ok with
     |true=>
      go_wp2
      go_ret3
      rcases Hcase.out with ⟨_,hs⟩|⟨hno,_⟩
      ·exact dec_some Hlow.out hk.out.2.1 hs hk.out.2.2
      ·cases hno
     |false=>
      go_wp2;go_roundw
      case rel=>
       refine ⟨(kn:Int)-1,by first|rfl|go_num,(by first|rfl|trivial),?_⟩;have h1:=Hlow.out;have h2:=hk.out;refine ⟨by omega,by omega,fun k' q1 q2 M' hs=> ?_⟩;by_cases hkk:k'=(kn:Int)
       ·subst hkk;rcases Hcase.out with ⟨hno,_⟩|⟨_,hw⟩
        ·cases hno
        ·have:=Hrnd.out M' hs;exact hw M' hs (by omega)
       ·exact h2.2.2 k' (by omega) q2 M' hs
      case measure=>
       have h1:=Hlow.out;simp[intOf]<;>omega
    ·rw[dT hb]at hmost;have hres:DecPost x w' (.returned (.tuple #[.int .u64 0,.int .i64 0,.int .i64 2])) w':=dec_none (fun k' q1 q2 M' hs=>by
      by_cases hkk:(kn:Int)<k'
      ·exact hk.out.2.2 k' hkk q2 M' hs
      ·exact hb (hs.not_most HUe.out Hx.out q1 (by omega) hk.out.2.1 Hg.out))
     clear hb;go_wp2
     go_ret3
     exact hres
   ·obtain rfl:k=0:=by omega
    obtain ⟨g1,G,hg⟩:=guess_ex Hx.out (show 0<23 by omega) (show 0<23 by omega);have Hg:=hid (show Guess x ((0:Int)).toNat (-(0:Int)).toNat g1 G from hg);have Ht1:Hid (Calls Tryz.prog 155 #[.int .i64 0] w' fun e w''=>e= .returned (.float .f64 (tenW 0))∧w''=w'):=hid (ten_walk w' 0 (by decide));have Ht2:=Ht1;have hq:=quo_run hg.quo;have hm:=mul_run hg.mul;have hmost:=gt_most hg.l2 HUe.out
    clear hg;have Hlow:=hid hlow
    go_wp2_with fail
    refine Ht1.out.mono ?_;rintro e w1 ⟨rfl,hw1⟩;obtain rfl:=hw1.symm;clear Ht1
    go_wp2_with fail
    refine Ht2.out.mono ?_;rintro e w1 ⟨rfl,hw1⟩;obtain rfl:=hw1.symm;clear Ht2;by_cases hb:G<INF∧FV G≤2000000000000000*U
    ·rw[dF (fun h=>h hb)]at hmost;obtain ⟨r1,r2,r3⟩:=guess_int HUe.out hb.1 hb.2;have hrnd:∀M',Sol x (0:Int) M'→(2*FV G+U) / (2*U)=M':=fun M' hs=>hs.rounds HUe.out Hx.out Hlow.out hk.out.2.1 Hg.out;have Hrnd:=hid hrnd;generalize (2*FV G+U) / (2*U)=n at*;have hcv:=conv_run r2;have Hr:=hid (round_walk w' G r1);have Hn:=hid (near_walk w' x Hx.out (0:Int) Hlow.out hk.out.2.1 n r3);clear hb r1 r2 r3 hrnd
     go_wp2_with fail
     refine Hr.out.mono ?_;rintro e w1 ⟨rfl,hw1⟩;obtain rfl:=hw1.symm;clear Hr
     go_wp2_with fail
     refine Hn.out.mono ?_;rintro e w1 ⟨M,ok,rfl,hw1,hcase⟩;obtain rfl:=hw1.symm;have Hcase:=hid hcase;clear Hn hcase;cases ok with
     |true=>
      go_wp2
      go_ret3
      rcases Hcase.out with ⟨_,hs⟩|⟨hno,_⟩
      ·exact dec_some Hlow.out hk.out.2.1 hs hk.out.2.2
      ·cases hno
     |false=>
      go_wp2;go_roundw
      case rel=>
       refine ⟨(0:Int)-1,by first|rfl|go_num,(by first|rfl|trivial),?_⟩;have h1:=Hlow.out;have h2:=hk.out;refine ⟨by omega,by omega,fun k' q1 q2 M' hs=> ?_⟩;by_cases hkk:k'=(0:Int)
       ·subst hkk;rcases Hcase.out with ⟨hno,_⟩|⟨_,hw⟩
        ·cases hno
        ·have:=Hrnd.out M' hs;exact hw M' hs (by omega)
       ·exact h2.2.2 k' (by omega) q2 M' hs
      case measure=>
       have h1:=Hlow.out;simp[intOf]<;>omega
    ·rw[dT hb]at hmost;have hres:DecPost x w' (.returned (.tuple #[.int .u64 0,.int .i64 0,.int .i64 2])) w':=dec_none (fun k' q1 q2 M' hs=>by
      by_cases hkk:(0:Int)<k'
      ·exact hk.out.2.2 k' hkk q2 M' hs
      ·exact hb (hs.not_most HUe.out Hx.out q1 (by omega) hk.out.2.1 Hg.out))
     clear hb;go_wp2
     go_ret3
     exact hres
   ·obtain ⟨kn,rfl⟩:∃kn:Nat,k= -(kn:Int):=⟨(-k).toNat,by omega⟩;have hkb:kn≤22:=by omega
    have hkb2:0<kn:=by omega
    obtain ⟨g1,G,hg⟩:=guess_ex Hx.out (show 0<23 by omega) (show kn<23 by omega);have Hg:=hid (show Guess x (-(kn:Int)).toNat (-(-(kn:Int))).toNat g1 G by rw[show (-(kn:Int)).toNat=0 by omega,show (-(-(kn:Int))).toNat=kn by omega];exact hg);have Ht1:Hid (Calls Tryz.prog 155 #[.int .i64 0] w' fun e w''=>e= .returned (.float .f64 (tenW 0))∧w''=w'):=hid (ten_walk w' 0 (by decide))
    have Ht2:=hid (ten_walk w' kn (by omega));have hneg:¬(0:Int)≤ -(kn:Int):=by omega
    have hneg2: -(kn:Int)<0:=by omega
    have hq:=quo_run hg.quo;have hm:=mul_run hg.mul;have hmost:=gt_most hg.l2 HUe.out;clear hg;have Hlow:=hid hlow
    go_wp2_with fail
    refine Ht1.out.mono ?_;rintro e w1 ⟨rfl,hw1⟩;obtain rfl:=hw1.symm;clear Ht1
    go_wp2_with fail
    refine Ht2.out.mono ?_;rintro e w1 ⟨rfl,hw1⟩;obtain rfl:=hw1.symm;clear Ht2;by_cases hb:G<INF∧FV G≤2000000000000000*U
    ·rw[dF (fun h=>h hb)]at hmost;obtain ⟨r1,r2,r3⟩:=guess_int HUe.out hb.1 hb.2;have hrnd:∀M',Sol x (-(kn:Int)) M'→(2*FV G+U) / (2*U)=M':=fun M' hs=>hs.rounds HUe.out Hx.out Hlow.out hk.out.2.1 Hg.out;have Hrnd:=hid hrnd;generalize (2*FV G+U) / (2*U)=n at*;have hcv:=conv_run r2;have Hr:=hid (round_walk w' G r1);have Hn:=hid (near_walk w' x Hx.out (-(kn:Int)) Hlow.out hk.out.2.1 n r3);clear hb r1 r2 r3 hrnd
     go_wp2_with fail
     refine Hr.out.mono ?_;rintro e w1 ⟨rfl,hw1⟩;obtain rfl:=hw1.symm;clear Hr
     go_wp2_with fail
     refine Hn.out.mono ?_;rintro e w1 ⟨M,ok,rfl,hw1,hcase⟩;obtain rfl:=hw1.symm;have Hcase:=hid hcase;clear Hn hcase;cases ok with
     |true=>
      go_wp2
      go_ret3
      rcases Hcase.out with ⟨_,hs⟩|⟨hno,_⟩
      ·exact dec_some Hlow.out hk.out.2.1 hs hk.out.2.2
      ·cases hno
     |false=>
      go_wp2;go_roundw
      case rel=>
       refine ⟨(-(kn:Int))-1,by first|rfl|go_num,(by first|rfl|trivial),?_⟩;have h1:=Hlow.out;have h2:=hk.out;refine ⟨by omega,by omega,fun k' q1 q2 M' hs=> ?_⟩;by_cases hkk:k'=(-(kn:Int))
       ·subst hkk;rcases Hcase.out with ⟨hno,_⟩|⟨_,hw⟩
        ·cases hno
        ·have:=Hrnd.out M' hs;exact hw M' hs (by omega)
       ·exact h2.2.2 k' (by omega) q2 M' hs
      case measure=>
       have h1:=Hlow.out;simp[intOf]<;>omega
    ·rw[dT hb]at hmost;have hres:DecPost x w' (.returned (.tuple #[.int .u64 0,.int .i64 0,.int .i64 2])) w':=dec_none (fun k' q1 q2 M' hs=>by
      by_cases hkk:(-(kn:Int))<k'
      ·exact hk.out.2.2 k' hkk q2 M' hs
      ·exact hb (hs.not_most HUe.out Hx.out q1 (by omega) hk.out.2.1 Hg.out))
     clear hb;go_wp2
     go_ret3
     exact hres
  ·have hres:DecPost x w' (.returned (.tuple #[.int .u64 0,.int .i64 0,.int .i64 2])) w':=dec_none (fun k' q1 q2 M' hs=>hk.out.2.2 k' (by omega) q2 M' hs);go_wp2
   go_ret3
   exact hres
theorem self_eq {r:Nat} (h:r≤INF):(FloatKind.f64.format.order r r==some .eq)=true:=by
 rcases Nat.lt_or_eq_of_le h with h|rfl
 ·rw[eq_FV h h,dT rfl]
 ·decide+kernel
theorem nDigits_le:∀(k u:Nat),u<10 ^ (k+1)→Lib.nDigits u≤k+1:=by
 intro k
 induction k with
 |zero=>intro u h;rw[Lib.nDigits_small (by simpa using h)];exact Nat.le_refl _
 |succ k ih=>
  intro u h;by_cases hs:u<10
  ·rw[Lib.nDigits_small hs];omega
  ·rw[Lib.nDigits_big hs];have:u / 10<10 ^ (k+1):=by
    rw[Nat.div_lt_iff_lt_mul (by decide)];rw[Nat.pow_succ]at h;exact h
   have:=ih _ this;omega
def realT (M:Nat) (k:Int):List UInt8:=
 if 0≤k then
  if (Lib.nDigits M:Int)+k+1≤15 then Lib.decDigits M++List.replicate k.toNat 48++[46,48]
  else (Lib.decDigits M).take 1++[46]++(if Lib.nDigits M=1 then [48] else (Lib.decDigits M).drop 1)++[101]++Lib.decDigits (k+(Lib.nDigits M:Int)-1).toNat
 else
  (List.replicate (1-k-(Lib.nDigits M:Int)).toNat 48++Lib.decDigits M).take ((max (1-k) (Lib.nDigits M:Int))+k).toNat++[46]++
   (List.replicate (1-k-(Lib.nDigits M:Int)).toNat 48++Lib.decDigits M).drop ((max (1-k) (Lib.nDigits M:Int))+k).toNat
def absW (x:Nat):Nat:=if 9223372036854775808≤x then negW x else x
def signS (x:Nat):ByteArray:=if 9223372036854775808≤x then ⟨#[45]⟩ else ⟨#[]⟩
def signL (x:Nat):List UInt8:=if 9223372036854775808≤x then [45] else []
theorem signS_list (x:Nat):(signS x).data.toList=signL x:=by
 unfold signS signL;split<;>rfl
theorem signS_size (x:Nat):(signS x).size≤1:=by
 unfold signS;split
 ·exact Nat.le_refl _
 ·exact Nat.zero_le _
theorem negW_eq {x:Nat} (h1:9223372036854775808≤x) (h2:x<18446744073709551616):negW x=x-9223372036854775808:=by
 unfold negW Op.negFloat
 show x ^^^ 2 ^ 63=x-9223372036854775808
 have e:x=2 ^ 63+(x-9223372036854775808):=by omega
 have hy:x-9223372036854775808<2 ^ 63:=by omega
 generalize x-9223372036854775808=y at*;subst e;apply Nat.eq_of_testBit_eq;intro i;rw[Nat.testBit_xor,Nat.testBit_two_pow];by_cases hi:63=i
 ·subst hi;rw[Nat.testBit_lt_two_pow hy];rw[Nat.testBit_two_pow_add_eq,Nat.testBit_lt_two_pow hy];rfl
 ·rcases Nat.lt_or_gt_of_ne hi with h|h
  ·have h3:y<2 ^ i:=Nat.lt_of_lt_of_le hy (Nat.pow_le_pow_right (by decide) (Nat.le_of_lt h));have h4:2 ^ 63+y<2 ^ i:=by
    have:2 ^ 64≤2 ^ i:=Nat.pow_le_pow_right (by decide) h;omega
   rw[Nat.testBit_lt_two_pow h3,Nat.testBit_lt_two_pow h4];simp[hi]
  ·rw[Nat.testBit_two_pow_add_gt h];simp[hi]
theorem absW_lt {x:Nat} (h:x<18446744073709551616):absW x<9223372036854775808:=by
 unfold absW
 split
 ·rename_i h1
  rw[negW_eq h1 h];omega
 ·omega
theorem signbit_walk (w:World) (x:Nat) (hx:x<18446744073709551616):Calls Tryz.prog 184 #[.float .f64 x] w fun e w'=>e= .returned (.bool (decide (9223372036854775808≤x)))∧w'=w:=by
 have hb:=bits_run x;by_cases h:9223372036854775808≤x
 ·have h1:IntKind.i64.wrap (x:Int)=(x:Int)-18446744073709551616:=by rw[IntKind.wrap_i64];omega
  have h2:(x:Int)-18446744073709551616<0:=by omega
  rw[dT h];clear h hx;go_enter Tryz.func184,Tryz.ntmps184;go_wp2;go_ret;exact ⟨rfl,rfl⟩
 ·have h1:IntKind.i64.wrap (x:Int)=(x:Int):=by rw[IntKind.wrap_i64];omega
  have h2:¬(x:Int)<0:=by omega
  rw[dF h];clear h hx;go_enter Tryz.func184,Tryz.ntmps184;go_wp2;go_ret;exact ⟨rfl,rfl⟩
def RealS (x:Nat) (l:List UInt8) (er:Int):Prop:=
 (INF<absW x∧l=[46,110,97,110]∧er=0)∨
 (absW x=INF∧l=signL x++[46,105,110,102]∧er=0)∨
 (absW x=0∧l=signL x++[48,46,48]∧er=0)∨
 (absW x<INF∧0<absW x∧∃M k e,Dec (absW x) M k e∧(e=2∧l=[]∧er=2∨e=0∧l=signL x++realT M k∧er=0))
def RealPost (x:Nat) (w:World) (e:Ending) (w':World):Prop:=
 ∃(s:ByteArray) (er:Int),e= .returned (.tuple #[.string s,.int .i64 er])∧Below w.heap.size w w'∧RealS x s.data.toList er
theorem nan_order {y:Nat} (h1:INF<y) (h2:y<9223372036854775808):FloatKind.f64.format.order y y=none:=by
 have hr:∃f,Ieee.double.read y= .nan false f:=by
  refine ⟨y-INF,?_⟩;unfold Ieee.Format.read;rw[c_sign,c_bin,c_inf];have e1:y % 9223372036854775808=y:=Nat.mod_eq_of_lt h2;have e2:(y / 9223372036854775808 % 2==1)=false:=by
   have:y / 9223372036854775808=0:=Nat.div_eq_of_lt h2;rw[this];rfl
  unfold INF at*;simp only[e1,e2];rw[if_neg (by omega),if_neg (by omega),if_neg (by omega)]
 obtain ⟨f,hf⟩:=hr
 show Ieee.double.order y y=none
 unfold Ieee.Format.order;rw[hf];rfl
theorem FV_pos {y:Nat} (h:0<y):0<FV y:=by
 unfold FV
 split
 ·exact h
 ·exact Nat.mul_pos (by omega) (Nat.two_pow_pos _)
theorem max_gt {y:Nat} (h:y<INF):(FloatKind.f64.format.order y 9218868437227405311==some .gt)=false:=by
 rw[gt_FV h (by decide),dF (Nat.not_lt.2 (FV_le_max h))]
theorem Sol.bounds {x M:Nat} {k:Int} (h:Sol x k M):1≤M∧Lib.nDigits M≤15:=
 ⟨h.1,nDigits_le 14 M h.2.1⟩
abbrev Tab (w:World):Prop:=Lib.TabIs Tryz.prog w "internal/strconv.uint64pow10" .u64 Lib.pow10Tab
theorem cat_ok {a b:ByteArray} (ha:a.size≤1000) (hb:b.size≤1000):a.size+b.size≤9223372036854775807:=by omega
theorem cat_size (a b:ByteArray):(a++b).size=a.size+b.size:=by
 have h:(a++b).data.toList=a.data.toList++b.data.toList:=ByteArray.toList_data_append;rw[←size_list,h,List.length_append,size_list,size_list]
theorem cat_list (a b:ByteArray):(a++b).data.toList=a.data.toList++b.data.toList:=ByteArray.toList_data_append
theorem repeat_noughts (n:Nat):Lib.repeatL [48] n=List.replicate n 48:=by
 induction n with
 |zero=>rfl
 |succ n ih=>rw[List.replicate_succ,Lib.repeatL,ih];rfl
theorem real64_walk (w:World) (x:Nat) (hx:x<18446744073709551616) (htab:Tab w):
 Calls Tryz.prog 152 #[.float .f64 x] w fun e w'=>RealPost x w e w':=by
 obtain ⟨b,hb⟩:∃b,b=decide (9223372036854775808≤x):=⟨_,rfl⟩;have hsb:=signbit_walk w x hx;rw[←hb]at hsb;have Hsb:=hid hsb;have Hb:=hid hb;clear hsb hb;have hy:=absW_lt hx;have Htab:=hid htab;have hng:=neg_run x;clear htab;go_enter Tryz.func152,Tryz.ntmps152
 go_wp2_with fail
 refine Hsb.out.mono ?_;rintro e w1 ⟨rfl,hw⟩;obtain rfl:=hw.symm;clear Hsb
 go_upto_if 12 with (fail)
 go_cut [0,4] from 11 (fun s0 s4 wc'=>s0= .float .f64 (absW x)∧s4= .string (signS x)∧wc'=w)
 case first=>
  cases b with
  |true=>
   have h:=of_decide_eq_true Hb.out.symm;have h2:absW x=negW x:=if_pos h;have h3:signS x=⟨#[45]⟩:=if_pos h;clear h hx hy;go_wp2
   go_meet
   case rel=>exact ⟨by rw[h2],by rw[h3],(by first|rfl|trivial)⟩
  |false=>
   have h:=of_decide_eq_false Hb.out.symm;have h2:absW x=x:=if_neg h;have h3:signS x=⟨#[]⟩:=if_neg h;clear h hx hy;go_wp2
   go_meet
   case rel=>exact ⟨by rw[h2],by rw[h3],(by first|rfl|trivial)⟩
 case rest=>
  obtain ⟨rfl,rfl,hw⟩:=hcut;obtain rfl:=hw.symm;have hsz:=signS_size x;have hsl:=signS_list x;have hR:∀(s:ByteArray) er w',Below w.heap.size w w'→RealS x s.data.toList er→RealPost x w (.returned (.tuple #[.string s,.int .i64 er])) w':=fun s er w' h1 h2=>⟨s,er,rfl,h1,h2⟩;unfold RealS at hR;generalize signS x=sg at*;generalize signL x=sl at*;generalize hyy:absW x=y at*;have HR:=hid hR;have Hsl:=hid hsl
  clear hR hyy hng hx hsl;rcases Nat.lt_trichotomy y INF with hlt|rfl|hgt
  ·have e1:(FloatKind.f64.format.order y y != some .eq)=false:=by rw[bne,self_eq (Nat.le_of_lt hlt)];rfl
   have Hi:=hid (isInf_walk w y _ (max_gt hlt));by_cases h0:y=0
   ·subst h0;have e2:(FloatKind.f64.format.order 0 0==some .eq)=true:=by decide+kernel
    have hc:=cat_ok (a:=sg) (b:=⟨#[48,46,48]⟩) (by omega) (by decide);clear hlt hy
    go_wp2_with fail
    refine Hi.out.mono ?_;rintro e w1 ⟨rfl,hw⟩;obtain rfl:=hw.symm;go_wp2
    go_ret2
    exact HR.out (sg++⟨#[48,46,48]⟩) 0 w (Below.refl _ _) (.inr (.inr (.inl ⟨(by first|rfl|trivial),by rw[cat_list,Hsl.out],rfl⟩)))
   ·have hpos:0<y:=by omega
    have e2:(FloatKind.f64.format.order y 0==some .eq)=false:=by
     rw[eq_FV hlt (by decide),FV_zero,dF];have:=FV_pos hpos;omega
    have Hd:=hid (decimal_walk w y hlt (FV_pos hpos));have Hc:=hid (And.intro hlt hpos);clear h0 hpos hlt hy
    go_wp2_with fail
    refine Hi.out.mono ?_;rintro e w1 ⟨rfl,hw⟩;obtain rfl:=hw.symm;clear Hi
    go_wp2_with fail
    refine Hd.out.mono ?_;rintro e w1 ⟨M,k,er,rfl,hw,hdec⟩;obtain rfl:=hw.symm;clear Hd;rcases hdec with ⟨rfl,k1,k2,hsol,hno⟩|⟨rfl,rfl,rfl,hno⟩
    ·have hdec:Dec y M k 0:= .inl ⟨rfl,k1,k2,hsol,hno⟩;have Hdec:=hid hdec;obtain ⟨m1,m2⟩:=hsol.bounds;have hM64:M<18446744073709551616:=Nat.lt_trans hsol.2.1 (by decide);obtain ⟨ds,hds⟩:∃ds:ByteArray,ds=⟨(Lib.decDigits M).toArray⟩:=⟨_,rfl⟩;have Hf:=hid (formatUint_walk M hM64 w Htab.out);rw[←hds]at Hf;have hdl:ds.data.toList=Lib.decDigits M:=by rw[hds]
     have hdn:ds.size=Lib.nDigits M:=by rw[←size_list,hdl,Lib.decDigits_length]
     have d1:1≤ds.size:=by rw[hdn];exact Lib.nDigits_pos M
     have d2:ds.size≤15:=by omega
     have hres:∀(s:ByteArray) w',Below w.heap.size w w'→s.data.toList=sl++realT M k→RealPost x w (.returned (.tuple #[.string s,.int .i64 0])) w':=fun s w' h1 h2=>
      HR.out s 0 w' h1 (.inr (.inr (.inr ⟨Hc.out.1,Hc.out.2,M,k,0,hdec,.inr ⟨rfl,h2,rfl⟩⟩)))
     have Hres:=hid hres;have Hdl:=hid hdl;have Hdn:=hid hdn;clear hdec hno hsol hM64 hds hdl hdn hres HR Hdec m2
     go_wp2_with fail
     refine Hf.out.mono ?_;rintro e w1 ⟨rfl,hb1⟩;clear Hf;by_cases h0:0≤k
     ·obtain ⟨kn,rfl⟩:∃kn:Nat,k=(kn:Int):=⟨k.toNat,by omega⟩;by_cases hs:(ds.size:Int)+(kn:Int)+1≤15
      ·have Hr:=hid (Tryz.strings_Repeat ⟨#[48]⟩ kn w1 (by omega) (by show 1*kn≤_;omega));obtain ⟨rs,hrs⟩:∃rs:ByteArray,rs=⟨(Lib.repeatL (⟨#[48]⟩:ByteArray).data.toList kn).toArray⟩:=⟨_,rfl⟩;rw[←hrs]at Hr;have hrl:rs.data.toList=List.replicate kn 48:=by rw[hrs];exact repeat_noughts kn
       have hrn:rs.size≤22:=by rw[←size_list,hrl,List.length_replicate];omega
       have Hrl:=hid hrl;clear hrs hrl;have c1:=cat_ok (a:=sg) (b:=ds) (by omega) (by omega);have c2:=cat_ok (a:=sg++ds) (b:=rs) (by rw[cat_size];omega) (by omega);have c3:=cat_ok (a:=sg++ds++rs) (b:=⟨#[46,48]⟩) (by rw[cat_size,cat_size];omega) (by decide);have Hs:=hid hs;have Hb1:=hid hb1;clear hb1
       go_wp2_with fail
       refine Hr.out.mono ?_;rintro e w2 ⟨rfl,hb2⟩;clear Hr;have Hb2:=hid hb2;clear hb2;go_wp2
       go_ret2
       refine Hres.out _ _ (Hb1.out.trans (Hb2.out.mono Hb1.out.size)) ?_;rw[cat_list,cat_list,cat_list,Hsl.out,Hdl.out,Hrl.out];unfold realT;rw[if_pos (by omega),if_pos (by rw[←Hdn.out];exact Hs.out)];simp
      ·obtain ⟨p,hp⟩:∃p:Nat,p=kn+ds.size-1:=⟨_,rfl⟩;have hpi:(kn:Int)+(ds.size:Int)-1=(p:Int):=by omega
       have hw1:IntKind.i64.wrap ((kn:Int)+(ds.size:Int))=(kn:Int)+(ds.size:Int):=by rw[IntKind.wrap_i64];omega
       have hw2:IntKind.i64.wrap ((kn:Int)+(ds.size:Int)-1)=(p:Int):=by rw[IntKind.wrap_i64];omega
       have hi:=fun w1=> Tryz.strconv_Itoa_small p (by omega) w1;obtain ⟨ps,hps⟩:∃ps:ByteArray,ps=⟨(Lib.decDigits p).toArray⟩:=⟨_,rfl⟩;rw[←hps]at hi;have hpl:ps.data.toList=Lib.decDigits p:=by rw[hps]
       have hpn:ps.size≤2:=by rw[←size_list,hpl,Lib.decDigits_length];exact nDigits_le 1 p (by omega)
       have Hi2:=hid hi;have Hpl:=hid hpl;have Hp:=hid hp;have Hpi:=hid hpi;have x1:=ext_size ds 0 1;have x2:=ext_size ds 1 ds.size;have xl1:(ds.extract 0 1).data.toList=(Lib.decDigits M).take 1:=by rw[ext_list,Hdl.out];rfl
       have xl2:(ds.extract 1 ds.size).data.toList=(Lib.decDigits M).drop 1:=by rw[ext_from,Hdl.out]
       have Hxl1:=hid xl1;have Hxl2:=hid xl2;have Hs:=hid hs;have Hb1:=hid hb1;clear hi hps hpl hp hpi xl1 xl2 hb1;have d1':(1:Int)≤(ds.size:Int):=by omega
       have hres2:∀(rest:ByteArray),rest.data.toList=(if Lib.nDigits M=1 then [48] else (Lib.decDigits M).drop 1)→(sg++ds.extract 0 1++⟨#[46]⟩++rest++⟨#[101]⟩++ps).data.toList=sl++realT M kn:=by
        intro rest hr;rw[cat_list,cat_list,cat_list,cat_list,cat_list,Hsl.out,Hxl1.out,hr,Hpl.out];unfold realT;rw[if_pos (show (0:Int)≤(kn:Int) by omega),if_neg (show ¬(Lib.nDigits M:Int)+(kn:Int)+1≤15 by rw[←Hdn.out];exact Hs.out),←Hdn.out,Hp.out];have:(kn+ds.size-1:Nat)=((kn:Int)+(ds.size:Int)-1).toNat:=by omega
        rw[this];simp
       have Hres2:=hid hres2;clear hres2;by_cases hn1:ds.size=1
       ·have g1:((ds.size:Int)==1)=true:=by simp;omega
        have c1:=cat_ok (a:=sg) (b:=ds.extract 0 1) (by omega) (by omega);have c2:=cat_ok (a:=sg++ds.extract 0 1) (b:=⟨#[46]⟩) (by rw[cat_size];omega) (by decide);have c3:=cat_ok (a:=sg++ds.extract 0 1++⟨#[46]⟩) (b:=⟨#[48]⟩) (by rw[cat_size,cat_size];show _+_+1≤1000;omega) (by decide);have c4:=cat_ok (a:=sg++ds.extract 0 1++⟨#[46]⟩++⟨#[48]⟩) (b:=⟨#[101]⟩) (by rw[cat_size,cat_size,cat_size];show _+_+1+1≤1000;omega) (by decide)
        have c5:=cat_ok (a:=sg++ds.extract 0 1++⟨#[46]⟩++⟨#[48]⟩++⟨#[101]⟩) (b:=ps) (by rw[cat_size,cat_size,cat_size,cat_size];show _+_+1+1+1≤1000;omega) (by omega);have Hn1:=hid hn1;clear hn1
        go_wp2_with fail
        go_quiet (exact Calls.quiet_of_same (Hi2.out _));clear Hi2;go_wp2
        go_ret2
        refine Hres.out _ _ (Hb1.out.trans ⟨rfl,rfl,rfl,Nat.le_refl _,fun _ _=>rfl⟩) (Hres2.out _ ?_);rw[←Hdn.out,if_pos Hn1.out]
       ·have g1:((ds.size:Int)==1)=false:=by simp;omega
        have c1:=cat_ok (a:=sg) (b:=ds.extract 0 1) (by omega) (by omega);have c2:=cat_ok (a:=sg++ds.extract 0 1) (b:=⟨#[46]⟩) (by rw[cat_size];omega) (by decide);have c3:=cat_ok (a:=sg++ds.extract 0 1++⟨#[46]⟩) (b:=ds.extract 1 ds.size) (by rw[cat_size,cat_size];show _+_+1≤1000;omega) (by omega);have c4:=cat_ok (a:=sg++ds.extract 0 1++⟨#[46]⟩++ds.extract 1 ds.size) (b:=⟨#[101]⟩) (by rw[cat_size,cat_size,cat_size];show _+_+1+_≤1000;omega) (by decide)
        have c5:=cat_ok (a:=sg++ds.extract 0 1++⟨#[46]⟩++ds.extract 1 ds.size++⟨#[101]⟩) (b:=ps) (by rw[cat_size,cat_size,cat_size,cat_size];show _+_+1+_+1≤1000;omega) (by omega);have Hn1:=hid hn1;clear hn1
        go_wp2_with fail
        go_quiet (exact Calls.quiet_of_same (Hi2.out _));clear Hi2;go_wp2
        go_ret2
        refine Hres.out _ _ (Hb1.out.trans ⟨rfl,rfl,rfl,Nat.le_refl _,fun _ _=>rfl⟩) (Hres2.out _ ?_);rw[←Hdn.out,if_neg Hn1.out,Hxl2.out]
     ·have hk0:k<0:=by omega
      have hk1:¬(0≤k):=h0;obtain ⟨z,hz⟩:∃z,z=(1-k-(ds.size:Int)).toNat:=⟨_,rfl⟩;obtain ⟨q,hq⟩:∃q,q=(max (1-k) (ds.size:Int)+k).toNat:=⟨_,rfl⟩;have Hr:=hid (Tryz.strings_Repeat ⟨#[48]⟩ z w1 (by omega) (by show 1*z≤_;omega));obtain ⟨rs,hrs⟩:∃rs:ByteArray,rs=⟨(Lib.repeatL (⟨#[48]⟩:ByteArray).data.toList z).toArray⟩:=⟨_,rfl⟩;rw[←hrs]at Hr;have hrl:rs.data.toList=List.replicate z 48:=by rw[hrs];exact repeat_noughts z
      have hrz:rs.size=z:=by rw[←size_list,hrl,List.length_replicate]
      have hrn:rs.size≤22:=by omega
      have hz1:(z:Int)=max (1-k-(ds.size:Int)) 0:=by omega
      rw[hz1]at Hr;have hw1:IntKind.i64.wrap (1-k-(ds.size:Int))=1-k-(ds.size:Int):=by rw[IntKind.wrap_i64];omega
      have hSs:(rs++ds).size=z+ds.size:=by rw[cat_size,hrz]
      have c0:=cat_ok (a:=rs) (b:=ds) (by omega) (by omega);have hw2:IntKind.i64.wrap (((rs++ds).size:Int)+k)=(q:Int):=by rw[IntKind.wrap_i64,hSs];omega
      have hq1:q≤(rs++ds).size:=by omega
      have hq2:(q:Int)≤((rs++ds).size:Int):=by omega
      have hq3:(0:Int)≤(q:Int):=by omega
      have hS2:(rs++ds).size≤40:=by omega
      have hSl:(rs++ds).data.toList=List.replicate z 48++Lib.decDigits M:=by rw[cat_list,hrl,Hdl.out]
      have hfin:((rs++ds).extract 0 q).data.toList=(List.replicate z 48++Lib.decDigits M).take q∧((rs++ds).extract q (rs++ds).size).data.toList=(List.replicate z 48++Lib.decDigits M).drop q:=by
       rw[ext_list,ext_from,hSl];exact ⟨rfl,rfl⟩
      have x1:=ext_size (rs++ds) 0 q;have x2:=ext_size (rs++ds) q (rs++ds).size;have Hfin:=hid hfin;have Hz:=hid hz;have Hq:=hid hq;have Hb1:=hid hb1;clear hrs hrl hrz hb1 hz1 hz hq hfin hSl hSs
      go_wp2_with fail
      refine Hr.out.mono ?_;rintro e w2 ⟨rfl,hb2⟩;clear Hr hw1;have Hb2:=hid hb2;clear hb2;go_wp2;generalize rs++ds=S at*;have c1:=cat_ok (a:=sg) (b:=S.extract 0 q) (by omega) (by omega);have c2:=cat_ok (a:=sg++S.extract 0 q) (b:=⟨#[46]⟩) (by rw[cat_size];omega) (by decide);have c3:=cat_ok (a:=sg++S.extract 0 q++⟨#[46]⟩) (b:=S.extract q S.size) (by rw[cat_size,cat_size];show _+_+1≤1000;omega) (by omega)
      go_quiet (fail);go_wp2
      go_ret2
      refine Hres.out _ _ ((Hb1.out.trans (Hb2.out.mono Hb1.out.size)).trans ⟨rfl,rfl,rfl,Nat.le_refl _,fun _ _=>rfl⟩) ?_;rw[cat_list,cat_list,cat_list,Hsl.out,Hfin.out.1,Hfin.out.2];unfold realT;rw[if_neg (show ¬0≤k by omega),←Hdn.out,←Hz.out,←Hq.out];simp
    ·have hdec:Dec y 0 0 2:= .inr ⟨rfl,rfl,rfl,hno⟩;have Hdec:=hid hdec;clear hdec hno;go_wp2
     go_ret2
     exact HR.out ⟨#[]⟩ 2 w (Below.refl _ _) (.inr (.inr (.inr ⟨Hc.out.1,Hc.out.2,0,0,2,Hdec.out,.inl ⟨rfl,rfl,rfl⟩⟩)))
  ·have e1:(FloatKind.f64.format.order INF INF != some .eq)=false:=by decide+kernel
   have Hi:=hid (isInf_walk w INF true (by decide+kernel));have hc:=cat_ok (a:=sg) (b:=⟨#[46,105,110,102]⟩) (by omega) (by decide);clear hy
   go_wp2_with fail
   refine Hi.out.mono ?_;rintro e w1 ⟨rfl,hw⟩;obtain rfl:=hw.symm;go_wp2
   go_ret2
   exact HR.out (sg++⟨#[46,105,110,102]⟩) 0 w (Below.refl _ _) (.inr (.inl ⟨(by first|rfl|trivial),by rw[cat_list,Hsl.out],rfl⟩))
  ·have e1:(FloatKind.f64.format.order y y != some .eq)=true:=by rw[nan_order hgt hy];rfl
   have Hg:=hid hgt;clear hgt hy;go_wp2
   go_ret2
   exact HR.out ⟨#[46,110,97,110]⟩ 0 w (Below.refl _ _) (.inl ⟨Hg.out,rfl,rfl⟩)
def PrintS (v:Val) (l:List UInt8) (q:Bool) (er:Int):Prop:=
 (v.kind=1∧l=[110,117,108,108]∧q=false∧er=0)∨
 (v.kind=2∧l=(if v.bool=true then [116,114,117,101] else [102,97,108,115,101])∧q=false∧er=0)∨
 (v.kind=3∧l=Lib.itoa v.int∧q=false∧er=0)∨
 (v.kind=4∧RealS v.real l er∧q=false)∨
 (v.kind=5∧l=v.text.data.toList∧q=((readS v.text false).kind != 5)∧er=0)∨
 ((v.kind<1∨5<v.kind)∧l=[]∧q=false∧er=2)
def PrintPost (v:Val) (w:World) (e:Ending) (w':World):Prop:=
 ∃(s:ByteArray) (q:Bool) (er:Int),e= .returned (.tuple #[.string s,.bool q,.int .i64 er])∧Below w.heap.size w w'∧PrintS v s.data.toList q er
structure Val.Ok (v:Val):Prop where
 i1: -9223372036854775808≤v.int
 i2:v.int≤9223372036854775807
 r:v.real<18446744073709551616
 t:v.text.size≤2097152
structure PW (w w':World):Prop where
 below:Below w.heap.size w w'
 laid:RangeLaid w'
 lt:w.heap.size<w'.heap.size
theorem PW.first {w w':World} (h:Below w.heap.size w w') (hl:RangeLaid w') (hs:w.heap.size<w'.heap.size):PW w w':=⟨h,hl,hs⟩
theorem s_first {w w1:World} {v:Value} (h:w1.cell? ⟨w.heap.size,4,none⟩=some v) (hk:PW w w1):w1.drew.cell? ⟨w.heap.size,4,none⟩=some v∧PW w w1.drew:=
 ⟨h,⟨hk.below.trans ⟨rfl,rfl,rfl,Nat.le_refl _,fun _ _=>rfl⟩,hk.laid,hk.lt⟩⟩
theorem s_laid {w w1:World} {v:Value} (h:w1.cell? ⟨w.heap.size,4,none⟩=some v∧PW w w1):RangeLaid w1:=h.2.laid
theorem s_step {w w1 w2:World} {v:Value} (hh:w1.cell? ⟨w.heap.size,4,none⟩=some v∧PW w w1) (hb:Below w1.heap.size w1 w2):w2.cell? ⟨w.heap.size,4,none⟩=some v∧PW w w2:=by
 obtain ⟨h,hk⟩:=hh;refine ⟨(hb.cell (p:=⟨w.heap.size,4,none⟩) hk.lt).trans h,hk.below.trans (hb.mono hk.below.size),?_,Nat.lt_of_lt_of_le hk.lt hb.size⟩;obtain ⟨ev,q1,q2⟩:=hk.laid;exact ⟨ev,(hb.cell (p:=⟨4,0,none⟩) (lt_of_cell q1)).trans q1,q2⟩
theorem print_walk (w:World) (v:Val) (hv:v.Ok) (htab:Tab w) (hl:RangeLaid w):
 Calls Tryz.prog 113 #[v.v] w fun e w'=>PrintPost v w e w':=by
 obtain ⟨kd,b,i,x,t⟩:=v;obtain ⟨i1,i2,hr,ht⟩:=hv;have hres:∀(s:ByteArray) q er w',Below w.heap.size w w'→PrintS ⟨kd,b,i,x,t⟩ s.data.toList q er→PrintPost ⟨kd,b,i,x,t⟩ w (.returned (.tuple #[.string s,.bool q,.int .i64 er])) w':=fun s q er w' h1 h2=>⟨s,q,er,rfl,h1,h2⟩;have Hres:=hid hres;clear hres;unfold Val.v valV;dsimp only at i1 i2 hr ht ⊢;have hB1:=(Below.refl w.heap.size w).alloc (Nat.le_refl _) (.cells #[.int .i64 kd,.bool b,.int .i64 i,.float .f64 x,.string t] 91)
 have HB1:=hid hB1;clear hB1;have Htab:=hid (Lib.tabIs_alloc htab (.cells #[.int .i64 kd,.bool b,.int .i64 i,.float .f64 x,.string t] 91));have Hl:=hid (rangeLaid_alloc hl (.cells #[.int .i64 kd,.bool b,.int .i64 i,.float .f64 x,.string t] 91));clear htab hl;by_cases k1:kd=1
 ·subst k1;go_enter Tryz.func113,Tryz.ntmps113;go_wp2
  go_ret3
  exact Hres.out _ _ _ _ HB1.out (.inl ⟨rfl,rfl,rfl,rfl⟩)
 by_cases k2:kd=2
 ·subst k2;clear k1;have Hf:=hid (fun w=> Tryz.strconv_FormatBool b w);go_enter Tryz.func113,Tryz.ntmps113
  go_wp2_with fail
  refine (Hf.out _).mono ?_;rintro e w1 ⟨rfl,hw⟩;obtain rfl:=hw.symm;clear Hf;go_wp2
  go_ret3
  exact Hres.out _ _ _ _ HB1.out (.inr (.inl ⟨rfl,by cases b<;>rfl,rfl,rfl⟩))
 by_cases k3:kd=3
 ·subst k3;clear k1 k2;have Hf:=hid (Tryz.strconv_FormatInt_10 i i1 i2 _ Htab.out);go_enter Tryz.func113,Tryz.ntmps113
  go_wp2_with fail
  refine Hf.out.mono ?_;rintro e w1 ⟨rfl,n,os,hw⟩;have hB2:=below_grow (w.alloc (.cells #[.int .i64 3,.bool b,.int .i64 i,.float .f64 x,.string t] 91)) n os;rw[←hw]at hB2;have HB2:=hid hB2;clear Hf hw hB2;go_wp2
  go_ret3
  exact Hres.out _ _ _ _ (HB1.out.trans (HB2.out.mono HB1.out.size)) (.inr (.inr (.inl ⟨rfl,rfl,rfl,rfl⟩)))
 by_cases k4:kd=4
 ·subst k4;clear k1 k2 k3;have Hf:=hid (real64_walk _ x hr Htab.out);go_enter Tryz.func113,Tryz.ntmps113
  go_wp2_with fail
  refine Hf.out.mono ?_;rintro e w1 ⟨s,er,rfl,hb2,hs⟩;have HB2:=hid hb2;have Hs:=hid hs;clear Hf hs hb2;go_wp2
  go_ret3
  exact Hres.out _ _ _ _ (HB1.out.trans (HB2.out.mono HB1.out.size)) (.inr (.inr (.inr (.inl ⟨rfl,Hs.out,rfl⟩))))
 by_cases k5:kd=5
 ·subst k5;clear k1 k2 k3 k4;have hf:=fun w1 hl=>read_walk w1 t ht false hl;unfold ReadPost at hf;have Hk:Hid (∀q,q=((readS t false).kind != 5)→∀w',Below w.heap.size w w'→PrintPost ⟨5,b,i,x,t⟩ w (.returned (.tuple #[.string t,.bool q,.int .i64 0])) w'):=hid fun q hq w' h=>Hres.out t q 0 w' h (.inr (.inr (.inr (.inr (.inl ⟨rfl,rfl,hq,rfl⟩)))));generalize readS t false=rv at hf Hk;obtain ⟨kk,bb,ii,xx,tt⟩:=rv
  unfold Val.v valV at hf;dsimp only at hf Hk;have hfield:∀w',(Instr.field 91 (.agg #[.int .i64 kk,.bool bb,.int .i64 ii,.float .f64 xx,.string tt]) 0).run Tryz.prog w'= .ok (.int .i64 kk) w':=fun _=>by kernel_rfl
  have Hf:=hid hf;clear hf;go_enter Tryz.func113,Tryz.ntmps113
  go_wp2_with fail
  have hK0:=PW.first HB1.out Hl.out (by simp);have ht0:(w.alloc (.cells #[.int .i64 5,.bool b,.int .i64 i,.float .f64 x,.string t] 91)).cell? ⟨w.heap.size,4,none⟩=some (.string t):=by simp
  go_region_held3 (fun w'=>w'.cell? ⟨w.heap.size,4,none⟩=some (.string t)∧PW w w') (first|exact s_first ht0 hK0|(refine s_step ?_ hb;assumption)|(constructor<;>assumption))
   (first|(go_at_call 44;refine (Hf.out _ ?_).mono ?_;(refine s_laid (w:=w) (v:= .string t) ?_;assumption);rintro e w' ⟨rfl,hb⟩))
  all_goals go_wp2
  all_goals go_ret3
  all_goals exact Hk.out _ rfl _ (by first|exact (show _∧PW w _ from by assumption).2.below|exact PW.below (by assumption))
 ·have q1:(kd==1)=false:=beq_eq_false_iff_ne.2 k1;have q2:(kd==2)=false:=beq_eq_false_iff_ne.2 k2;have q3:(kd==3)=false:=beq_eq_false_iff_ne.2 k3;have q4:(kd==4)=false:=beq_eq_false_iff_ne.2 k4;have q5:(kd==5)=false:=beq_eq_false_iff_ne.2 k5;have ho:kd<1∨5<kd:=by omega
  have Ho:=hid ho;clear k1 k2 k3 k4 k5 ho;go_enter Tryz.func113,Tryz.ntmps113;go_wp2
  go_ret3
  exact Hres.out _ _ _ _ HB1.out (.inr (.inr (.inr (.inr (.inr ⟨Ho.out,rfl,rfl,rfl⟩)))))
end Go.Proofs.YtfenoaeoedobmaaGreatDoor
