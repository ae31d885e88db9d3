/-
Parts of a proof.
-/
import Derived.Test.YtfenoaeoedobmaaGreatDoorChecked
import Derived.WalkKit
import Derived.ProofKit
import Derived.Lib.Hide
import Derived.Laws.Bits64b
import Derived.Laws.Externs
import Derived.Test.YtfenoaeoedobmaaGreatDoorOw01
set_option linter.unusedVariables false
set_option linter.unusedSimpArgs false
set_option maxHeartbeats 1000000
set_option maxRecDepth 4000
namespace Go.Proofs.YtfenoaeoedobmaaGreatDoor
open Go Go.RowKit
theorem ll {a b r:Nat} (h:floatBits .mul .f64 a b=some r):∀t w,(binOp .mul t (.float .f64 a) (.float .f64 b)).run Tryz.prog w= .ok (.float .f64 r) w:=fun t w=>run_float_arith w .mul t .f64 a b r h
theorem nR {a b r:Nat} (h:floatBits .quo .f64 a b=some r):∀t w,(binOp .quo t (.float .f64 a) (.float .f64 b)).run Tryz.prog w= .ok (.float .f64 r) w:=fun t w=>run_float_arith w .quo t .f64 a b r h
theorem gG (w:World) (k:Nat) (hk:k<23):Calls Tryz.prog 155 #[.int .i64 k] w fun e w'=>e= .returned (.float .f64 (iU k))/\w'=w:=by
 have Hk:=hid hk;go_enter Tryz.func155,Tryz.ntmps155;go_wp2
 go_loop [3,5] (fun x i=>∃j:Nat,i= .int .i64 j/\j<=k/\x= .float .f64 (iU j)) (fun _ i=>k-(intOf i).toNat)
 case atStart=>exact ⟨0,rfl,Nat.zero_le _,rfl⟩
 case round=>
  obtain ⟨j,rfl,hj,rfl⟩:=hrel;by_cases hlt:j<k
  ·have hop:=ll (fy j (by have:=Hk.o;omega)).2.2;go_wp2;go_round
   case rel=>exact ⟨j+1,by go_num,by omega,rfl⟩
   case measure=>simp[intOf];omega
  ·obtain rfl:j=k:=by omega
   go_wp2;go_ret;exact ⟨rfl,rfl⟩
def Bad (m:Nat) (k:Int):Prop:=1000000000000000<=m\/k< -22\/22<k
instance (m:Nat) (k:Int):Decidable (Bad m k):=inferInstanceAs (Decidable (_\/_\/_))
def scR (m:Nat) (k:Int):Nat:=if Bad m k then 0 else scW m k
def scE (m:Nat) (k:Int):Int:=if Bad m k then 2 else 0
theorem jr (w:World) (m:Nat) (k:Int):Calls Tryz.prog 118 #[.int .u64 m,.int .i64 k] w fun e w'=>e= .returned (.tuple #[.float .f64 (scR m k),.int .i64 (scE m k)])/\w'=w:=by
 unfold scR scE;by_cases hb:Bad m k
 ·rw[if_pos hb,if_pos hb];by_cases h1:(1000000000000000:Int)<=(m:Int)
  ·clear hb;go_enter Tryz.func118,Tryz.ntmps118;go_wp2
   go_ret2
   exact ⟨rfl,rfl⟩
  ·by_cases h2:k< -22
   ·clear hb;go_enter Tryz.func118,Tryz.ntmps118;go_wp2
    go_ret2
    exact ⟨rfl,rfl⟩
   ·have h3:22<k:=by unfold Bad at hb;omega
    clear hb;go_enter Tryz.func118,Tryz.ntmps118;go_wp2
    go_ret2
    exact ⟨rfl,rfl⟩
 ·rw[if_neg hb,if_neg hb];have h1:¬(1000000000000000:Int)<=(m:Int):=by unfold Bad at hb;omega
  have h2:¬k< -22:=by unfold Bad at hb;omega
  have h3:¬22<k:=by unfold Bad at hb;omega
  have hm:m<1000000000000000:=by omega
  by_cases h0:0<=k
  ·obtain ⟨kn,rfl⟩:∃kn:Nat,k=(kn:Int):=⟨k.toNat,by omega⟩;have hop:=ll (Bt hm h0 (by omega)).1;have Ht:=hid (gG w kn (by omega));rw[show ((kn:Int)).toNat=kn by omega]at hop;clear hb hm;go_enter Tryz.func118,Tryz.ntmps118
   go_wp2_with fail
   refine Ht.o.mono ?_;rintro e w' ⟨rfl,rfl⟩;go_wp2
   go_ret2
   exact ⟨rfl,rfl⟩
  ·obtain ⟨kn,hkn⟩:∃kn:Nat,-k=(kn:Int):=⟨(-k).toNat,by omega⟩;have hop:=nR (Bu hm h0 (by omega)).1;have Ht:=hid (gG w kn (by omega));rw[show (-k).toNat=kn by omega]at hop;rw[<-hkn]at Ht;clear hb hm hkn;go_enter Tryz.func118,Tryz.ntmps118
   go_wp2_with fail
   refine Ht.o.mono ?_;rintro e w' ⟨rfl,rfl⟩;go_wp2
   go_ret2
   exact ⟨rfl,rfl⟩
end Go.Proofs.YtfenoaeoedobmaaGreatDoor
namespace Go.Proofs.YtfenoaeoedobmaaGreatDoor
open Go Ieee
theorem u9 (a s:Nat) (ha:a<18446744073709551616) (hs:s<=52):bits .andNot .u64 (a:Int) ((2 ^ s-1:Nat):Int)=((a / 2 ^ s*2 ^ s:Nat):Int):=by
 have e:(BitVec.ofInt 64 (a:Int)&&& ~~~ BitVec.ofInt 64 ((2 ^ s-1:Nat):Int)).toNat=a / 2 ^ s*2 ^ s:=by
  rw[BitVec.ofInt_natCast,BitVec.ofInt_natCast];apply Nat.eq_of_testBit_eq;intro i;rw[BitVec.testBit_toNat,BitVec.getLsbD_and,BitVec.getLsbD_not,BitVec.getLsbD_ofNat,BitVec.getLsbD_ofNat,Nat.testBit_two_pow_sub_one,<-Nat.shiftRight_eq_div_pow,<-Nat.shiftLeft_eq,Nat.testBit_shiftLeft,Nat.testBit_shiftRight];by_cases h64:i<64
  ·by_cases hi:i<s
   ·simp[h64,hi];intro h;omega
   ·have e1:s+(i-s)=i:=by omega
    have e2:s<=i:=by omega
    rw[e1];simp[h64,hi,e2]
  ·have:a.testBit i=false:=Nat.testBit_lt_two_pow (Nat.lt_of_lt_of_le ha (by
    have:2 ^ 64<=2 ^ i:=Nat.pow_le_pow_right (by decide) (by omega);omega))
   have e2:s<=i:=by omega
   have e1:s+(i-s)=i:=by omega
   rw[e1];simp[h64,this]
 show IntKind.u64.wrap ((BitVec.ofInt 64 (a:Int)&&& ~~~ BitVec.ofInt 64 ((2 ^ s-1:Nat):Int)).toNat:Int)=_
 rw[e,IntKind.wrap_u64];have:=Nat.div_mul_le_self a (2 ^ s);omega
theorem wU:∀d,d<52->(2251799813685248:Int) / 2 ^ d=((2 ^ (51-d):Nat):Int):=by decide+kernel
theorem wF:∀d,d<52->(4503599627370495:Int) / 2 ^ d=((2 ^ (52-d)-1:Nat):Int):=by decide+kernel
theorem dbl (k:Nat) (h:1<=k):2*2 ^ (k-1)=2 ^ k:=by
 obtain ⟨j,rfl⟩:∃j,k=j+1:=⟨k-1,by omega⟩;rw[Nat.add_sub_cancel,Nat.pow_succ,Nat.mul_comm]
def lZ (b:Nat):Nat:=
 if b / 4503599627370496<1023 then (if b / 4503599627370496=1022 then 4607182418800017408 else 0)
 else (b+2 ^ (1074-b / 4503599627370496)) / 2 ^ (1075-b / 4503599627370496)*2 ^ (1075-b / 4503599627370496)
theorem JN:FV 4607182418800017408=2 ^ kU:=by decide+kernel
theorem sC:FV 0=0:=rfl
theorem pP {b e:Nat} (he:e=b / 4503599627370496) (h1:1<=e):∃kept,4503599627370496<=kept/\kept<9007199254740992/\b=(e-1)*4503599627370496+kept/\FV b=kept*2 ^ (e-1):=by
 refine ⟨4503599627370496+b % 4503599627370496,by omega,by omega,by omega,?_⟩;unfold FV;rw[if_neg (by omega),<-he]
theorem BE {U:Nat} (hUe:U=2 ^ kU) {b:Nat} (hb:b / 4503599627370496<1075):lZ b<INF/\FV (lZ b)=(2*FV b+U) / (2*U)*U:=by
 obtain ⟨_,_,hU⟩:=j6 hUe;have hk:=lA;obtain ⟨e,he⟩:=ex (b / 4503599627370496);unfold lZ;rw[<-he]at hb |-;by_cases h1:e<1023
 ·rw[if_pos h1];by_cases h2:e=1022
  ·rw[if_pos h2,JN,<-hUe];obtain ⟨kept,k1,k2,_,k3⟩:=pP he (by omega);have e1:2 ^ 53*2 ^ (e-1)=U:=by rw[hUe];exact cg (by omega)
   have e2:2*FV b<2*U/\U<=2*FV b:=by
    rw[k3,<-e1];generalize 2 ^ (e-1)=z at*;have a1:kept*z<=9007199254740991*z:=Nat.mul_le_mul_right _ (by omega);have a2:4503599627370496*z<=kept*z:=Nat.mul_le_mul_right _ k1;generalize kept*z=y at*;have hz:0<z:=by
     rcases Nat.eq_zero_or_pos z with h|h
     ·rw[h]at e1;omega
     ·exact h
    constructor<;>omega
   have e3:(2*FV b+U) / (2*U)=1:=by
    rw[Nat.div_eq_iff (by omega)];omega
   rw[e3,Nat.one_mul];exact ⟨by decide,rfl⟩
  ·rw[if_neg h2];have e2:2*FV b<U:=by
    by_cases h0:1<=e
    ·obtain ⟨kept,k1,k2,_,k3⟩:=pP he h0;have e1:2 ^ 53*2 ^ (e-1)<=2 ^ (kU-1):=by
      rw[<-Nat.pow_add];exact Nat.pow_le_pow_right (by decide) (by omega)
     have e4:2*2 ^ (kU-1)=U:=(dbl kU (by omega)).trans hUe.symm;rw[k3];have hz:0<2 ^ (e-1):=Nat.two_pow_pos _;generalize 2 ^ (e-1)=z at*;have a1:kept*z<=9007199254740991*z:=Nat.mul_le_mul_right _ (by omega);generalize kept*z=y at*;omega
    ·have hlt:b<4503599627370496:=by omega
     have:FV b=b:=by unfold FV;rw[if_pos hlt]
     rw[this];have:2 ^ 53<=2 ^ kU:=Nat.pow_le_pow_right (by decide) (by omega);rw[<-hUe]at this;omega
   have e3:(2*FV b+U) / (2*U)=0:=Nat.div_eq_of_lt (by omega);rw[e3,Nat.zero_mul];exact ⟨by decide,sC⟩
 ·rw[if_neg h1];obtain ⟨kept,k1,k2,k0,k3⟩:=pP he (by omega);obtain ⟨s,hs⟩:=ex (1075-e);rw[<-hs,show 1074-e=s-1 by omega];have hs1:1<=s:=by omega
  have hS:0<2 ^ s:=Nat.two_pow_pos _;have hhalf:2*2 ^ (s-1)=2 ^ s:=dbl s hs1;have h52:2 ^ (52-s)*2 ^ s=4503599627370496:=cg (c:=52) (by omega);have hUs:2 ^ s*2 ^ (e-1)=U:=by rw[hUe];exact cg (by omega)
  have hz:0<2 ^ (e-1):=Nat.two_pow_pos _;obtain ⟨n,hn⟩:=ex ((kept+2 ^ (s-1)) / 2 ^ s);have hr:(b+2 ^ (s-1)) / 2 ^ s*2 ^ s=(e-1)*4503599627370496+n*2 ^ s:=by
   rw[k0,hn,<-h52];have:(e-1)*(2 ^ (52-s)*2 ^ s)+kept+2 ^ (s-1)=kept+2 ^ (s-1)+(e-1)*2 ^ (52-s)*2 ^ s:=by
    rw[<-Nat.mul_assoc];omega
   rw[this,Nat.add_mul_div_right _ _ hS,Nat.add_mul,Nat.mul_assoc];omega
  have hlo:4503599627370496<=n*2 ^ s:=by
   rw[<-h52];refine Nat.mul_le_mul_right _ ?_;rw[hn,Nat.le_div_iff_mul_le hS,h52];omega
  have hhi:n*2 ^ s<=9007199254740992:=by
   have q:n<2*2 ^ (52-s)+1:=by
    rw[hn,Nat.div_lt_iff_lt_mul hS,Nat.add_mul,Nat.mul_assoc,h52];omega
   have q2:n<=2*2 ^ (52-s):=by omega
   have:=Nat.mul_le_mul_right (2 ^ s) q2;rw[Nat.mul_assoc,h52]at this;exact this
  rw[hr,GD _ _ hlo hhi];refine ⟨by unfold INF;omega,?_⟩;have hm:(2*FV b+U) / (2*U)=n:=by
   rw[k3,<-hUs,hn];have q1:2*(kept*2 ^ (e-1))+2 ^ s*2 ^ (e-1)=(kept+2 ^ (s-1))*(2*2 ^ (e-1)):=by
    rw[<-hhalf,Nat.add_mul];have:2*(kept*2 ^ (e-1))=kept*(2*2 ^ (e-1)):=by ac_rfl
    rw[this];congr 1
    ac_rfl
   have q2:2*(2 ^ s*2 ^ (e-1))=2 ^ s*(2*2 ^ (e-1)):=by ac_rfl
   rw[q1,q2,Nat.mul_div_mul_right _ _ (by omega)]
  rw[hm,<-hUs]
  ac_rfl
end Go.Proofs.YtfenoaeoedobmaaGreatDoor
namespace Go.Proofs.YtfenoaeoedobmaaGreatDoor
open Go Go.RowKit
theorem uW (b:Nat) (w:World):(callFunc 204 #[.float .f64 b]).run Tryz.prog w= .ok (.value (.int .u64 (b:Int))) w:=by
 rw[run_callFunc_extern Tryz.func204 (by kernel_rfl) (by kernel_rfl) (by kernel_rfl) (show Extern.find Tryz.f204 =some Extern.MathFloatBits.float64bits by kernel_rfl)];rfl
theorem ez (b:Nat) (w:World):(callFunc 114 #[.int .u64 (b:Int)]).run Tryz.prog w= .ok (.value (.float .f64 b)) w:=by
 rw[run_callFunc_extern Tryz.func114 (by kernel_rfl) (by kernel_rfl) (by kernel_rfl) (show Extern.find Tryz.f114 =some Extern.MathFloatBits.float64frombits by kernel_rfl)];rfl
theorem kJ (w:World) (x:Nat) (b:Bool) (hb:(FloatKind.f64.format.order x 9218868437227405311==some .gt)=b):Calls Tryz.prog 185 #[.float .f64 x,.int .i64 1] w fun e w'=>e= .returned (.bool b)/\w'=w:=by
 go_enter Tryz.func185,Tryz.ntmps185;go_wp2;go_ret;exact ⟨rfl,rfl⟩
theorem Ce:∀w:World,(callFunc 114 #[.int .u64 4607182418800017408]).run Tryz.prog w= .ok (.value (.float .f64 4607182418800017408)) w:=ez 4607182418800017408
theorem yB:∀w:World,(callFunc 114 #[.int .u64 0]).run Tryz.prog w= .ok (.value (.float .f64 0)) w:=ez 0
theorem kB (w:World) (b:Nat) (hb:b / 4503599627370496<1075):Calls Tryz.prog 207 #[.float .f64 b] w fun e w'=>e= .returned (.float .f64 (lZ b))/\w'=w:=by
 obtain ⟨e,he⟩:=ex (b / 4503599627370496);have hlt:b<4841369599423283200:=by omega
 have hE:bits BinOp.and IntKind.u64 ((b:Int) / 4503599627370496) 2047=(e:Int):=by
  have e1:(b:Int) / 4503599627370496=(e:Int):=by omega
  have e2:e&&& 2047=e:=by
   rw[show 2047=2 ^ 11-1 from rfl,Nat.and_two_pow_sub_one_eq_mod,Nat.mod_eq_of_lt (by omega)]
  rw[e1];have:=bits_and_u64_nat e 2047 (by omega) (by decide);rw[e2]at this;exact this
 have hZ:bits BinOp.and IntKind.u64 (b:Int) 9223372036854775808=0:=by
  have:=bits_and_u64_nat b 9223372036854775808 (by omega) (by decide);have e2:b&&& 9223372036854775808=0:=by
   apply Nat.eq_of_testBit_eq;intro i;rw[Nat.testBit_and,show 9223372036854775808=2 ^ 63 from rfl,Nat.testBit_two_pow,Nat.zero_testBit];by_cases hi:63=i
   ·subst hi;rw[Nat.testBit_lt_two_pow (by omega)];rfl
   ·simp[hi]
  rw[e2]at this;exact this
 have hO:bits BinOp.or IntKind.u64 0 4607182418800017408=4607182418800017408:=by decide+kernel
 have hd1:=uW b;unfold lZ;rw[<-he]at hb |-;by_cases h1:e<1023
 ·have n1:(e:Int)<1023:=by omega
  rw[if_pos h1];by_cases h2:e=1022
  ·rw[if_pos h2];have n2:((e:Int)==1022)=true:=by simp[h2]
   have hd2:=Ce;clear hlt he hb h1 h2;go_enter Tryz.func207,Tryz.ntmps207;go_wp2;go_ret;exact ⟨rfl,rfl⟩
  ·rw[if_neg h2];have n2:((e:Int)==1022)=false:=by simp;omega
   have hd2:=yB;clear hlt he hb h1 h2 hO;go_enter Tryz.func207,Tryz.ntmps207;go_wp2;go_ret;exact ⟨rfl,rfl⟩
 ·rw[if_neg h1];have n1:¬(e:Int)<1023:=by omega
  have n2:(e:Int)<1075:=by omega
  have a1:=wU (e-1023) (by omega);have a2:=wF (e-1023) (by omega);rw[show 51-(e-1023)=1074-e by omega]at a1;rw[show 52-(e-1023)=1075-e by omega]at a2;have hp:2 ^ (1074-e)<=2 ^ 51:=Nat.pow_le_pow_right (by decide) (by omega);obtain ⟨c,hc⟩:=ex (b+2 ^ (1074-e));have hcb:c<18446744073709551616:=by omega
  have hW:IntKind.u64.wrap ((b:Int)+2251799813685248 / 2 ^ (e-1023))=(c:Int):=by
   rw[a1,IntKind.wrap_u64];omega
  have hA:bits BinOp.andNot IntKind.u64 (c:Int) (4503599627370495 / 2 ^ (e-1023))=((c / 2 ^ (1075-e)*2 ^ (1075-e):Nat):Int):=by
   rw[a2];exact u9 c _ hcb (by omega)
  rw[<-hc];have hd2:=ez (c / 2 ^ (1075-e)*2 ^ (1075-e));generalize c / 2 ^ (1075-e)*2 ^ (1075-e)=r at*;clear hlt he hb h1 hO hZ hc hcb hp a1 a2;go_enter Tryz.func207,Tryz.ntmps207;go_wp2;go_ret;exact ⟨rfl,rfl⟩
theorem xF {m:Nat} {k:Int} (h:Bad m k):scE m k=2:=if_pos h
theorem Bv {m:Nat} {k:Int} (h:¬Bad m k):scE m k=0:=if_neg h
theorem lX {m:Nat} {k:Int} (h:¬Bad m k):scR m k=scW m k:=if_neg h
def DU (x:Nat) (k:Int) (g:Nat) (w:World) (e:Ending) (w':World):Prop:=
 ∃(M:Nat) (ok:Bool),e= .returned (.tuple #[.int .u64 M,.bool ok])/\w'=w/\((ok=true/\Sol x k M)\/(ok=false/\∀M,Sol x k M->¬(g<=M+2/\M<=g+2)))
theorem mh (w:World) (x:Nat) (hx:x<INF) (k:Int) (hk1: -22<=k) (hk2:k<=22) (g:Nat) (hg:g<=3000000000000000):
 Calls Tryz.prog 206 #[.float .f64 x,.int .i64 k,.int .u64 g] w fun e w'=>DU x k g w e w':=by
 have Hx:=hid hx;have Hk1:=hid hk1;have Hk2:=hid hk2;have Hg:=hid hg;clear hx hk1 hk2;obtain ⟨fr,hfr⟩:∃fr:Nat,fr=if 3<g then g-2 else 1:=⟨_,rfl⟩
 have Hfr:=hid hfr;have hwrap:IntKind.u64.wrap ((g:Int)+2)=((g+2:Nat):Int):=by rw[IntKind.wrap_u64];omega
 have hwin:∀M,Sol x k M->g<=M+2->fr<=M:=by
  intro M hM hgM;have:=hM.1;rw[hfr]
  split<;>omega
 have Hwin:=hid hwin;have hfr1:1<=fr/\fr<=g+3:=by rw[hfr];split<;>omega
 have Hfr1:=hid hfr1;clear hwin hfr1;by_cases h3:3<g
 ·have hd:decide ((3:Int)<(g:Int))=true:=by simp;omega
  have hst:(if 3<g then (g:Int)-2 else 1)=(fr:Int):=by rw[hfr];split<;>omega
  have Hst:=hid hst;clear hfr hst;go_enter Tryz.func206,Tryz.ntmps206;go_wp2
  go_loopw [9] (fun i wr=>∃m:Nat,i= .int .u64 m/\w=wr/\Hid (fr<=m/\m<=g+3/\∀M,fr<=M->M<m->¬Sol x k M)) (fun i _=>g+3-(intOf i).toNat)
  case atStart=>
   refine ⟨fr,?_,rfl,aAa _,Hfr1.o.2,fun M h1 h2=>absurd h1 (by omega)⟩;have:=Hst.o;rw[if_pos h3]at this;rw[<-this]
  case round=>
   obtain ⟨m,rfl,rfl,hm⟩:=hrel;by_cases hlt:m<=g+2
   ·have hle:(m:Int)<=(g:Int)+2:=by omega
    have Hs:=hid (jr w m k);have Hlt:=hid hlt;clear hlt
    go_wp2_with fail
    refine Hs.o.mono ?_;rintro e w' ⟨rfl,rfl⟩;clear Hs;by_cases hbad:Bad m k
    ·have hE:(scE m k==0)=false:=by rw[xF hbad];rfl
     have hns:¬Sol x k m:=by
      rintro ⟨_,q,_⟩;have:=Hk1.o;have:=Hk2.o;rcases hbad with h|h|h<;>omega
     have Hns:=hid hns;have hnw:IntKind.u64.wrap ((m:Int)+1)=((m+1:Nat):Int):=by have:=Hg.o;have:=Hlt.o;rw[IntKind.wrap_u64];omega
     clear hbad hns;go_wp2;go_roundw
     case rel=>
      refine ⟨m+1,by first|rfl|(rw[hnw])|(go_num),(by first|rfl|trivial),?_⟩;have q:=hm.o;have:=Hlt.o;refine ⟨by omega,by omega,fun M h1 h2=> ?_⟩;rcases Nat.lt_or_ge M m with h|h
      ·exact q.2.2 M h1 h
      ·obtain rfl:M=m:=by omega
       exact Hns.o
     case measure=>have:=Hlt.o;simp[intOf];omega
    ·have hE:(scE m k==0)=true:=by rw[Bv hbad];rfl
     have hm1:1<=m:=aAe Hfr1.o.1 hm.o.1;have hml:m<1000000000000000:=by unfold Bad at hbad;omega
     obtain ⟨U,hUe,_⟩:=exU;have hlti:=(kY hUe hm1 hml Hk1.o Hk2.o).1;have hcmp:=uv hlti Hx.o;rw[<-lX hbad]at hcmp;by_cases hs:FV (scW m k)=FV x
     ·have hsol:Sol x k m:=⟨hm1,hml,hs⟩;rw[dT (by rw[lX hbad];exact hs)]at hcmp;have Hsol:=hid hsol;clear hs hsol hlti hml hm1 hbad hUe;go_wp2
      go_ret2
      exact ⟨m,true,rfl,rfl,.inl ⟨rfl,Hsol.o⟩⟩
     ·have hns:¬Sol x k m:=fun h=>hs h.2.2;rw[dF (by rw[lX hbad];exact hs)]at hcmp;have Hns:=hid hns;have hnw:IntKind.u64.wrap ((m:Int)+1)=((m+1:Nat):Int):=by have:=Hg.o;have:=Hlt.o;rw[IntKind.wrap_u64];omega
      clear hs hns hlti hml hm1 hbad hUe;go_wp2;go_roundw
      case rel=>
       refine ⟨m+1,by first|rfl|(rw[hnw])|(go_num),(by first|rfl|trivial),?_⟩;have q:=hm.o;have:=Hlt.o;refine ⟨by omega,by omega,fun M h1 h2=> ?_⟩;rcases Nat.lt_or_ge M m with h|h
       ·exact q.2.2 M h1 h
       ·obtain rfl:M=m:=by omega
        exact Hns.o
      case measure=>have:=Hlt.o;simp[intOf];omega
   ·have hle:¬(m:Int)<=(g:Int)+2:=by omega
    have Hlt:=hid hlt;clear hlt;go_wp2
    go_ret2
    refine ⟨0,false,rfl,rfl,.inr ⟨rfl,fun M hM hw=> ?_⟩⟩;have:=Hlt.o;exact hm.o.2.2 M (Hwin.o M hM hw.1) (by omega) hM
 ·have hd:decide ((3:Int)<(g:Int))=false:=by simp;omega
  have hst:(if 3<g then (g:Int)-2 else 1)=(fr:Int):=by rw[hfr];split<;>omega
  have Hst:=hid hst;clear hfr hst;go_enter Tryz.func206,Tryz.ntmps206;go_wp2
  go_loopw [9] (fun i wr=>∃m:Nat,i= .int .u64 m/\w=wr/\Hid (fr<=m/\m<=g+3/\∀M,fr<=M->M<m->¬Sol x k M)) (fun i _=>g+3-(intOf i).toNat)
  case atStart=>
   refine ⟨fr,?_,rfl,aAa _,Hfr1.o.2,fun M h1 h2=>absurd h1 (by omega)⟩;have:=Hst.o;rw[if_neg h3]at this;rw[<-this]
  case round=>
   obtain ⟨m,rfl,rfl,hm⟩:=hrel;by_cases hlt:m<=g+2
   ·have hle:(m:Int)<=(g:Int)+2:=by omega
    have Hs:=hid (jr w m k);have Hlt:=hid hlt;clear hlt
    go_wp2_with fail
    refine Hs.o.mono ?_;rintro e w' ⟨rfl,rfl⟩;clear Hs;by_cases hbad:Bad m k
    ·have hE:(scE m k==0)=false:=by rw[xF hbad];rfl
     have hns:¬Sol x k m:=by
      rintro ⟨_,q,_⟩;have:=Hk1.o;have:=Hk2.o;rcases hbad with h|h|h<;>omega
     have Hns:=hid hns;have hnw:IntKind.u64.wrap ((m:Int)+1)=((m+1:Nat):Int):=by have:=Hg.o;have:=Hlt.o;rw[IntKind.wrap_u64];omega
     clear hbad hns;go_wp2;go_roundw
     case rel=>
      refine ⟨m+1,by first|rfl|(rw[hnw])|(go_num),(by first|rfl|trivial),?_⟩;have q:=hm.o;have:=Hlt.o;refine ⟨by omega,by omega,fun M h1 h2=> ?_⟩;rcases Nat.lt_or_ge M m with h|h
      ·exact q.2.2 M h1 h
      ·obtain rfl:M=m:=by omega
       exact Hns.o
     case measure=>have:=Hlt.o;simp[intOf];omega
    ·have hE:(scE m k==0)=true:=by rw[Bv hbad];rfl
     have hm1:1<=m:=aAe Hfr1.o.1 hm.o.1;have hml:m<1000000000000000:=by unfold Bad at hbad;omega
     obtain ⟨U,hUe,_⟩:=exU;have hlti:=(kY hUe hm1 hml Hk1.o Hk2.o).1;have hcmp:=uv hlti Hx.o;rw[<-lX hbad]at hcmp;by_cases hs:FV (scW m k)=FV x
     ·have hsol:Sol x k m:=⟨hm1,hml,hs⟩;rw[dT (by rw[lX hbad];exact hs)]at hcmp;have Hsol:=hid hsol;clear hs hsol hlti hml hm1 hbad hUe;go_wp2
      go_ret2
      exact ⟨m,true,rfl,rfl,.inl ⟨rfl,Hsol.o⟩⟩
     ·have hns:¬Sol x k m:=fun h=>hs h.2.2;rw[dF (by rw[lX hbad];exact hs)]at hcmp;have Hns:=hid hns;have hnw:IntKind.u64.wrap ((m:Int)+1)=((m+1:Nat):Int):=by have:=Hg.o;have:=Hlt.o;rw[IntKind.wrap_u64];omega
      clear hs hns hlti hml hm1 hbad hUe;go_wp2;go_roundw
      case rel=>
       refine ⟨m+1,by first|rfl|(rw[hnw])|(go_num),(by first|rfl|trivial),?_⟩;have q:=hm.o;have:=Hlt.o;refine ⟨by omega,by omega,fun M h1 h2=> ?_⟩;rcases Nat.lt_or_ge M m with h|h
       ·exact q.2.2 M h1 h
       ·obtain rfl:M=m:=by omega
        exact Hns.o
      case measure=>have:=Hlt.o;simp[intOf];omega
   ·have hle:¬(m:Int)<=(g:Int)+2:=by omega
    have Hlt:=hid hlt;clear hlt;go_wp2
    go_ret2
    refine ⟨0,false,rfl,rfl,.inr ⟨rfl,fun M hM hw=> ?_⟩⟩;have:=Hlt.o;exact hm.o.2.2 M (Hwin.o M hM hw.1) (by omega) hM
end Go.Proofs.YtfenoaeoedobmaaGreatDoor
namespace Go.Proofs.YtfenoaeoedobmaaGreatDoor
open Go Ieee
def Dec (x:Nat) (M:Nat) (k:Int) (er:Int):Prop:=
 (er=0/\ -22<=k/\k<=22/\Sol x k M/\∀k',k<k'->k'<=22->∀M',¬Sol x k' M')\/(er=2/\M=0/\k=0/\∀k',-22<=k'->k'<=22->∀M',¬Sol x k' M')
theorem Dec.unique {x M M':Nat} {k k' er er':Int} (h:Dec x M k er) (h':Dec x M' k' er'):M=M'/\k=k'/\er=er':=by
 rcases h with ⟨rfl,a1,a2,a3,a4⟩|⟨rfl,rfl,rfl,a4⟩
 ·rcases h' with ⟨rfl,b1,b2,b3,b4⟩|⟨rfl,rfl,rfl,b4⟩
  ·rcases Int.lt_trichotomy k k' with q|rfl|q
   ·exact absurd b3 (a4 k' q b2 M')
   ·exact ⟨Sol.unique a1 a2 a3 b3,rfl,rfl⟩
   ·exact absurd a3 (b4 k q a2 M)
  ·exact absurd a3 (b4 k a1 a2 M)
 ·rcases h' with ⟨rfl,b1,b2,b3,b4⟩|⟨rfl,rfl,rfl,b4⟩
  ·exact absurd b3 (a4 k' b1 b2 M')
  ·exact ⟨rfl,rfl,rfl⟩
abbrev DW:Nat:=4835858800541171712
theorem yA:DW<INF/\FV DW=2000000000000000*2 ^ kU:=by decide+kernel
theorem JO:FV 9218868437227405311=9007199254740991*2 ^ (kU+971):=by decide+kernel
theorem q7 {x:Nat} (hx:x<INF):FV x<=FV 9218868437227405311:=by
 rw[JO];have hk:=lA;unfold INF at hx;by_cases h:1<=x / 4503599627370496
 ·obtain ⟨kept,k1,k2,k0,k3⟩:=pP rfl h;rw[k3];exact Nat.mul_le_mul (by omega) (Nat.pow_le_pow_right (by decide) (by omega))
 ·have:FV x=x:=by unfold FV;rw[if_pos (by omega)]
  rw[this];exact aAe (show x<=9007199254740991 by omega) (Nat.le_mul_of_pos_right _ (Nat.two_pow_pos _))
theorem DM {F A U:Nat} (h:F*KK<=A*1152921504606847492) (hA:A<=1000000000000000*U):F<=2000000000000000*U:=by
 refine Nat.le_of_mul_le_mul_right (aAe h ?_) (show 0<KK by decide);refine aAe (Nat.mul_le_mul_right _ hA) ?_;rw[Nat.mul_right_comm,Nat.mul_right_comm 2000000000000000];exact Nat.mul_le_mul_right _ (by decide)
theorem Sol.not_most {U:Nat} (hUe:U=2 ^ kU) {x M:Nat} {k kk:Int} (h:Sol x k M) (hx:x<INF) (hk1: -22<=k) (hkk:k<=kk) (hk2:kk<=22) {g1 G:Nat} (hg:Guess x kk.toNat (-kk).toNat g1 G):
 G<INF/\FV G<=2000000000000000*U:=by
 obtain ⟨h1,h2,_⟩:=h.guess hUe hx hk1 hkk hk2 hg;exact ⟨h1,DM h2 (Nat.mul_le_mul_right _ (Nat.le_of_lt h.2.1))⟩
theorem Lc (A:Nat):A*1032=2*(A*516):=by omega
theorem I7 (f a c u:Nat) (h:f<=a+c) (e3:2*c<u):2*f<2*a+u:=by omega
theorem I8 (f a b c u:Nat) (h2:b<=f) (e2:a=b+c) (e3:2*c<u):2*a<=2*f+u:=by omega
theorem zQ {F A U:Nat} (hU:0<U) (h:F*KK<=A*1152921504606847492) (h2:A*1152921504606846460<=F*KK) (hA:A<=1000000000000000*U):2*F<2*A+U/\2*A<=2*F+U:=by
 have e1:A*1152921504606847492=A*KK+A*516:=by rw[<-Nat.mul_add]
 have e2:A*KK=A*1152921504606846460+A*516:=by rw[<-Nat.mul_add]
 have e3:A*1032<U*KK:=by
  refine Nat.lt_of_le_of_lt (Nat.mul_le_mul_right _ hA) ?_;rw[Nat.mul_right_comm,Nat.mul_comm U];exact Nat.mul_lt_mul_of_pos_right (by decide) hU
 rw[Lc]at e3;constructor
 ·refine Nat.lt_of_mul_lt_mul_right (a:=KK) ?_;rw[Nat.add_mul,Nat.mul_assoc,Nat.mul_assoc];rw[e1]at h;exact I7 _ _ _ _ h e3
 ·refine Nat.le_of_mul_le_mul_right (c:=KK) ?_ (by decide);rw[Nat.add_mul,Nat.mul_assoc,Nat.mul_assoc];exact I8 _ _ _ _ _ h2 e2 e3
theorem Sol.rounds {U:Nat} (hUe:U=2 ^ kU) {x M:Nat} {k:Int} (h:Sol x k M) (hx:x<INF) (hk1: -22<=k) (hk2:k<=22) {g1 G:Nat} (hg:Guess x k.toNat (-k).toNat g1 G):(2*FV G+U) / (2*U)=M:=by
 obtain ⟨_,_,hU⟩:=j6 hUe;obtain ⟨_,h2,h3⟩:=h.guess hUe hx hk1 (Int.le_refl k) hk2 hg;obtain ⟨a1,a2⟩:=zQ hU h2 (h3 rfl) (Nat.mul_le_mul_right _ (Nat.le_of_lt h.2.1));have e1:M*(2*U)=2*(M*U):=by ac_rfl
 rw[Nat.div_eq_iff (by omega)];rw[e1];generalize M*U=A at*;omega
theorem my {U:Nat} (hUe:U=2 ^ kU) {G:Nat} (hG:G<INF) (hm:FV G<=2000000000000000*U):
 G / 4503599627370496<1075/\floatToIntVal .f64 (lZ G) .u64=some (((2*FV G+U) / (2*U):Nat):Int)/\(2*FV G+U) / (2*U)<=3000000000000000:=by
 obtain ⟨_,_,hU⟩:=j6 hUe;have hk:=lA;have h1:G / 4503599627370496<1075:=by
  rcases Nat.lt_or_ge (G / 4503599627370496) 1075 with h|h
  ·exact h
  ·obtain ⟨kept,k1,k2,k0,k3⟩:=pP (b:=G) rfl (by omega);have h5:2 ^ kU<=2 ^ (G / 4503599627370496-1):=Nat.pow_le_pow_right (by decide) (by omega);rw[<-hUe]at h5;have h6:4503599627370496*U<=FV G:=by rw[k3];exact Nat.mul_le_mul k1 h5
   have h7:4503599627370496*U<=2000000000000000*U:=aAe h6 hm;have:=Nat.le_of_mul_le_mul_right h7 hU;omega
 obtain ⟨r1,r2⟩:=BE hUe h1;have hn:(2*FV G+U) / (2*U)<=3000000000000000:=by
  have:(2*FV G+U) / (2*U)<3000000000000001:=by
   rw[Nat.div_lt_iff_lt_mul (by omega)];generalize FV G=F at*;omega
  omega
 refine ⟨h1,?_,hn⟩;unfold floatToIntVal;rw[sQ r1,r2,<-hUe,Nat.mul_div_cancel _ hU];generalize (2*FV G+U) / (2*U)=n at*;have hr:IntKind.u64.min<=(n:Int)/\(n:Int)<=IntKind.u64.max:=by
  have e1:IntKind.u64.min=0:=by decide
  have e2:IntKind.u64.max=18446744073709551615:=by decide+kernel
  rw[e1,e2];omega
 show (if IntKind.u64.min<=(n:Int)/\(n:Int)<=IntKind.u64.max then some (n:Int) else none)=_
 rw[if_pos hr]
theorem rW {G:Nat} (hG:G<=INF) {U:Nat} (hUe:U=2 ^ kU):(FloatKind.f64.format.order G DW==some .gt)=decide (¬(G<INF/\FV G<=2000000000000000*U)):=by
 rcases Nat.lt_or_eq_of_le hG with h|rfl
 ·rw[yi h yA.1,yA.2,<-hUe];congr 1;simp only[eq_iff_iff];constructor
  ·rintro q ⟨_,q2⟩;omega
  ·intro q;rcases Nat.lt_or_ge (2000000000000000*U) (FV G) with q2|q2
   ·exact q2
   ·exact absurd ⟨h,q2⟩ q
 ·have:¬(INF<INF/\FV INF<=2000000000000000*U):=fun q=>absurd q.1 (Nat.lt_irrefl _);rw[dT this]
  decide+kernel
end Go.Proofs.YtfenoaeoedobmaaGreatDoor
namespace Go.Proofs.YtfenoaeoedobmaaGreatDoor
open Go Go.RowKit
def jc (x:Nat) (w:World) (e:Ending) (w':World):Prop:=
 ∃(M:Nat) (k er:Int),e= .returned (.tuple #[.int .u64 M,.int .i64 k,.int .i64 er])/\w'=w/\Dec x M k er
theorem lF {x:Nat} {w:World} (h:∀k',-22<=k'->k'<=22->∀M',¬Sol x k' M'):jc x w (.returned (.tuple #[.int .u64 0,.int .i64 0,.int .i64 2])) w:=
 ⟨0,0,2,rfl,rfl,.inr ⟨rfl,rfl,rfl,h⟩⟩
theorem pr {x M:Nat} {k:Int} {w:World} (hk1: -22<=k) (hk2:k<=22) (h:Sol x k M) (hn:∀k',k<k'->k'<=22->∀M',¬Sol x k' M'):jc x w (.returned (.tuple #[.int .u64 M,.int .i64 k,.int .i64 0])) w:=
 ⟨M,k,0,rfl,rfl,.inl ⟨rfl,hk1,hk2,h,hn⟩⟩
theorem py {b:Nat} {n:Int} (h:floatToIntVal .f64 b .u64=some n):∀w,(convert 56 184 (.float .f64 b)).run Tryz.prog w= .ok (.int .u64 n) w:=fun w=>
 run_convert_float_int w 56 184 .f64 .u64 b n (by kernel_rfl) Tryz.underlying184 h
theorem si (w:World) (x:Nat) (hx:x<INF) (hx0:0<FV x):Calls Tryz.prog 186 #[.float .f64 x] w fun e w'=>jc x w e w':=by
 have Hx:=hid hx;obtain ⟨U,hUe,-,-,-⟩:=exU;have hpos:(FloatKind.f64.format.order x 0==some .gt)=true:=by
  rw[yi hx (by decide),sC,dT hx0]
 have hinf:(FloatKind.f64.format.order x 9218868437227405311==some .gt)=false:=by
  rw[yi hx (by decide),dF (Nat.not_lt.2 (q7 hx))]
 have Hinf:=hid (kJ w x _ hinf);have HUe:=hid hUe;clear hx hx0 hinf hUe;go_enter Tryz.func186,Tryz.ntmps186
 go_wp2_with fail
 refine Hinf.o.mono ?_;rintro e w' ⟨rfl,rfl⟩;clear Hinf;go_wp2
 go_loopw [5] (fun i wr=>∃k:Int,i= .int .i64 k/\w'=wr/\Hid (-23<=k/\k<=22/\∀k',k<k'->k'<=22->∀M',¬Sol x k' M')) (fun i _=>(intOf i+23).toNat)
 case atStart=>exact ⟨22,rfl,rfl,by omega,by omega,fun k' h1 h2=>absurd h1 (by omega)⟩
 case round=>
  obtain ⟨k,rfl,rfl,hk⟩:=hrel;by_cases hlow: -22<=k
  ·rcases (show 0<k\/k=0\/k<0 by omega) with h0|h0|h0
   ·obtain ⟨kn,rfl⟩:∃kn:Nat,k=(kn:Int):=⟨k.toNat,by omega⟩;have hkb:kn<=22:=by have:=hk.o.2.1;omega
    have hkb2: -(kn:Int)<0:=by omega
    obtain ⟨g1,G,hg⟩:=pj Hx.o (show kn<23 by have:=hk.o.2.1;omega) (show 0<23 by omega);have Hg:=hid (show Guess x ((kn:Int)).toNat (-(kn:Int)).toNat g1 G by rw[show ((kn:Int)).toNat=kn by omega,show (-(kn:Int)).toNat=0 by omega];exact hg);have Ht1:=hid (gG w' kn (by have:=hk.o.2.1;omega));have Ht2:Hid (Calls Tryz.prog 155 #[.int .i64 0] w' fun e w''=>e= .returned (.float .f64 (iU 0))/\w''=w'):=hid (gG w' 0 (by decide))
    have hq:=nR hg.quo;have hm:=ll hg.mul;have hmost:=rW hg.l2 HUe.o;clear hg;have Hlow:=hid hlow
    go_wp2_with fail
    refine Ht1.o.mono ?_;rintro e w1 ⟨rfl,hw1⟩;obtain rfl:=hw1.symm;clear Ht1
    go_wp2_with fail
    refine Ht2.o.mono ?_;rintro e w1 ⟨rfl,hw1⟩;obtain rfl:=hw1.symm;clear Ht2;by_cases hb:G<INF/\FV G<=2000000000000000*U
    ·rw[dF (fun h=>h hb)]at hmost;obtain ⟨r1,r2,r3⟩:=my HUe.o hb.1 hb.2;have hrnd:∀M',Sol x (kn:Int) M'->(2*FV G+U) / (2*U)=M':=fun M' hs=>hs.rounds HUe.o Hx.o Hlow.o hk.o.2.1 Hg.o;have Hrnd:=hid hrnd;generalize (2*FV G+U) / (2*U)=n at*;have hcv:=py r2;have Hr:=hid (kB w' G r1);have Hn:=hid (mh w' x Hx.o (kn:Int) Hlow.o hk.o.2.1 n r3);clear hb r1 r2 r3 hrnd
     go_wp2_with fail
     refine Hr.o.mono ?_;rintro e w1 ⟨rfl,hw1⟩;obtain rfl:=hw1.symm;clear Hr
     go_wp2_with fail
     refine Hn.o.mono ?_;rintro e w1 ⟨M,ok,rfl,hw1,hcase⟩;obtain rfl:=hw1.symm;have Hcase:=hid hcase;clear Hn hcase;cases ok with
     |true=>
      go_wp2
      go_ret3
      rcases Hcase.o with ⟨_,hs⟩|⟨hno,_⟩
      ·exact pr Hlow.o hk.o.2.1 hs hk.o.2.2
      ·cases hno
     |false=>
      go_wp2;go_roundw
      case rel=>
       refine ⟨(kn:Int)-1,by first|rfl|go_num,(by first|rfl|trivial),?_⟩;have h1:=Hlow.o;have h2:=hk.o;refine ⟨by omega,by omega,fun k' q1 q2 M' hs=> ?_⟩;by_cases hkk:k'=(kn:Int)
       ·subst hkk;rcases Hcase.o with ⟨hno,_⟩|⟨_,hw⟩
        ·cases hno
        ·have:=Hrnd.o M' hs;exact hw M' hs (by omega)
       ·exact h2.2.2 k' (by omega) q2 M' hs
      case measure=>
       have h1:=Hlow.o;simp[intOf]<;>omega
    ·rw[dT hb]at hmost;have hres:jc x w' (.returned (.tuple #[.int .u64 0,.int .i64 0,.int .i64 2])) w':=lF (fun k' q1 q2 M' hs=>by
      by_cases hkk:(kn:Int)<k'
      ·exact hk.o.2.2 k' hkk q2 M' hs
      ·exact hb (hs.not_most HUe.o Hx.o q1 (by omega) hk.o.2.1 Hg.o))
     clear hb;go_wp2
     go_ret3
     exact hres
   ·obtain rfl:k=0:=by omega
    obtain ⟨g1,G,hg⟩:=pj Hx.o (show 0<23 by omega) (show 0<23 by omega);have Hg:=hid (show Guess x ((0:Int)).toNat (-(0:Int)).toNat g1 G from hg);have Ht1:Hid (Calls Tryz.prog 155 #[.int .i64 0] w' fun e w''=>e= .returned (.float .f64 (iU 0))/\w''=w'):=hid (gG w' 0 (by decide));have Ht2:=Ht1;have hq:=nR hg.quo;have hm:=ll hg.mul;have hmost:=rW hg.l2 HUe.o
    clear hg;have Hlow:=hid hlow
    go_wp2_with fail
    refine Ht1.o.mono ?_;rintro e w1 ⟨rfl,hw1⟩;obtain rfl:=hw1.symm;clear Ht1
    go_wp2_with fail
    refine Ht2.o.mono ?_;rintro e w1 ⟨rfl,hw1⟩;obtain rfl:=hw1.symm;clear Ht2;by_cases hb:G<INF/\FV G<=2000000000000000*U
    ·rw[dF (fun h=>h hb)]at hmost;obtain ⟨r1,r2,r3⟩:=my HUe.o hb.1 hb.2;have hrnd:∀M',Sol x (0:Int) M'->(2*FV G+U) / (2*U)=M':=fun M' hs=>hs.rounds HUe.o Hx.o Hlow.o hk.o.2.1 Hg.o;have Hrnd:=hid hrnd;generalize (2*FV G+U) / (2*U)=n at*;have hcv:=py r2;have Hr:=hid (kB w' G r1);have Hn:=hid (mh w' x Hx.o (0:Int) Hlow.o hk.o.2.1 n r3);clear hb r1 r2 r3 hrnd
     go_wp2_with fail
     refine Hr.o.mono ?_;rintro e w1 ⟨rfl,hw1⟩;obtain rfl:=hw1.symm;clear Hr
     go_wp2_with fail
     refine Hn.o.mono ?_;rintro e w1 ⟨M,ok,rfl,hw1,hcase⟩;obtain rfl:=hw1.symm;have Hcase:=hid hcase;clear Hn hcase;cases ok with
     |true=>
      go_wp2
      go_ret3
      rcases Hcase.o with ⟨_,hs⟩|⟨hno,_⟩
      ·exact pr Hlow.o hk.o.2.1 hs hk.o.2.2
      ·cases hno
     |false=>
      go_wp2;go_roundw
      case rel=>
       refine ⟨(0:Int)-1,by first|rfl|go_num,(by first|rfl|trivial),?_⟩;have h1:=Hlow.o;have h2:=hk.o;refine ⟨by omega,by omega,fun k' q1 q2 M' hs=> ?_⟩;by_cases hkk:k'=(0:Int)
       ·subst hkk;rcases Hcase.o with ⟨hno,_⟩|⟨_,hw⟩
        ·cases hno
        ·have:=Hrnd.o M' hs;exact hw M' hs (by omega)
       ·exact h2.2.2 k' (by omega) q2 M' hs
      case measure=>
       have h1:=Hlow.o;simp[intOf]<;>omega
    ·rw[dT hb]at hmost;have hres:jc x w' (.returned (.tuple #[.int .u64 0,.int .i64 0,.int .i64 2])) w':=lF (fun k' q1 q2 M' hs=>by
      by_cases hkk:(0:Int)<k'
      ·exact hk.o.2.2 k' hkk q2 M' hs
      ·exact hb (hs.not_most HUe.o Hx.o q1 (by omega) hk.o.2.1 Hg.o))
     clear hb;go_wp2
     go_ret3
     exact hres
   ·obtain ⟨kn,rfl⟩:∃kn:Nat,k= -(kn:Int):=⟨(-k).toNat,by omega⟩;have hkb:kn<=22:=by omega
    have hkb2:0<kn:=by omega
    obtain ⟨g1,G,hg⟩:=pj Hx.o (show 0<23 by omega) (show kn<23 by omega);have Hg:=hid (show Guess x (-(kn:Int)).toNat (-(-(kn:Int))).toNat g1 G by rw[show (-(kn:Int)).toNat=0 by omega,show (-(-(kn:Int))).toNat=kn by omega];exact hg);have Ht1:Hid (Calls Tryz.prog 155 #[.int .i64 0] w' fun e w''=>e= .returned (.float .f64 (iU 0))/\w''=w'):=hid (gG w' 0 (by decide))
    have Ht2:=hid (gG w' kn (by omega));have hneg:¬(0:Int)<= -(kn:Int):=by omega
    have hneg2: -(kn:Int)<0:=by omega
    have hq:=nR hg.quo;have hm:=ll hg.mul;have hmost:=rW hg.l2 HUe.o;clear hg;have Hlow:=hid hlow
    go_wp2_with fail
    refine Ht1.o.mono ?_;rintro e w1 ⟨rfl,hw1⟩;obtain rfl:=hw1.symm;clear Ht1
    go_wp2_with fail
    refine Ht2.o.mono ?_;rintro e w1 ⟨rfl,hw1⟩;obtain rfl:=hw1.symm;clear Ht2;by_cases hb:G<INF/\FV G<=2000000000000000*U
    ·rw[dF (fun h=>h hb)]at hmost;obtain ⟨r1,r2,r3⟩:=my HUe.o hb.1 hb.2;have hrnd:∀M',Sol x (-(kn:Int)) M'->(2*FV G+U) / (2*U)=M':=fun M' hs=>hs.rounds HUe.o Hx.o Hlow.o hk.o.2.1 Hg.o;have Hrnd:=hid hrnd;generalize (2*FV G+U) / (2*U)=n at*;have hcv:=py r2;have Hr:=hid (kB w' G r1);have Hn:=hid (mh w' x Hx.o (-(kn:Int)) Hlow.o hk.o.2.1 n r3);clear hb r1 r2 r3 hrnd
     go_wp2_with fail
     refine Hr.o.mono ?_;rintro e w1 ⟨rfl,hw1⟩;obtain rfl:=hw1.symm;clear Hr
     go_wp2_with fail
     refine Hn.o.mono ?_;rintro e w1 ⟨M,ok,rfl,hw1,hcase⟩;obtain rfl:=hw1.symm;have Hcase:=hid hcase;clear Hn hcase;cases ok with
     |true=>
      go_wp2
      go_ret3
      rcases Hcase.o with ⟨_,hs⟩|⟨hno,_⟩
      ·exact pr Hlow.o hk.o.2.1 hs hk.o.2.2
      ·cases hno
     |false=>
      go_wp2;go_roundw
      case rel=>
       refine ⟨(-(kn:Int))-1,by first|rfl|go_num,(by first|rfl|trivial),?_⟩;have h1:=Hlow.o;have h2:=hk.o;refine ⟨by omega,by omega,fun k' q1 q2 M' hs=> ?_⟩;by_cases hkk:k'=(-(kn:Int))
       ·subst hkk;rcases Hcase.o with ⟨hno,_⟩|⟨_,hw⟩
        ·cases hno
        ·have:=Hrnd.o M' hs;exact hw M' hs (by omega)
       ·exact h2.2.2 k' (by omega) q2 M' hs
      case measure=>
       have h1:=Hlow.o;simp[intOf]<;>omega
    ·rw[dT hb]at hmost;have hres:jc x w' (.returned (.tuple #[.int .u64 0,.int .i64 0,.int .i64 2])) w':=lF (fun k' q1 q2 M' hs=>by
      by_cases hkk:(-(kn:Int))<k'
      ·exact hk.o.2.2 k' hkk q2 M' hs
      ·exact hb (hs.not_most HUe.o Hx.o q1 (by omega) hk.o.2.1 Hg.o))
     clear hb;go_wp2
     go_ret3
     exact hres
  ·have hres:jc x w' (.returned (.tuple #[.int .u64 0,.int .i64 0,.int .i64 2])) w':=lF (fun k' q1 q2 M' hs=>hk.o.2.2 k' (by omega) q2 M' hs);go_wp2
   go_ret3
   exact hres
