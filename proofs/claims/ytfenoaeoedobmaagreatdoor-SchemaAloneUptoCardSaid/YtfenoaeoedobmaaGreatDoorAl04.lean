/-
Parts of a proof, one behind the other (laid dense by a program of mine: pack.py).
-/
import Derived.Test.YtfenoaeoedobmaaGreatDoorChecked
import Derived.ProofKit
import Derived.Lib.Strings
import Derived.Deep.Cut
import Derived.Test.YtfenoaeoedobmaaGreatDoorAl03
set_option linter.unusedVariables false
set_option linter.unusedSimpArgs false
set_option maxHeartbeats 1000000
namespace Go.Proofs.YtfenoaeoedobmaaGreatDoor
open Go Ieee
def scW (m:Nat) (k:Int):Nat:=
 if 0≤k then (floatBits .mul .f64 (floatOfInt .f64 (m:Int)) (tenW k.toNat)).getD 0 else (floatBits .quo .f64 (floatOfInt .f64 (m:Int)) (tenW (-k).toNat)).getD 0
theorem ten_pos {k:Nat} (h:k<23):0<FV (tenW k):=by
 rw[(tenW_ok k h).2.1];exact Nat.mul_pos (Nat.pow_pos (by decide)) (Nat.two_pow_pos _)
theorem sc_mul {m:Nat} {k:Int} (hm:m<1000000000000000) (h0:0≤k) (hk:k≤22):floatBits .mul .f64 (floatOfInt .f64 (m:Int)) (tenW k.toNat)=some (scW m k)∧scW m k≤INF:=by
 obtain ⟨r,h1,h2⟩:=mul_some (Nat.le_of_lt (ofU_FV (show m<9007199254740992 by omega)).1) (tenW_ok k.toNat (by omega)).1 (ten_pos (by omega));unfold scW;rw[if_pos h0,h1];exact ⟨rfl,h2⟩
theorem sc_div {m:Nat} {k:Int} (hm:m<1000000000000000) (h0:¬0≤k) (hk: -22≤k):floatBits .quo .f64 (floatOfInt .f64 (m:Int)) (tenW (-k).toNat)=some (scW m k)∧scW m k≤INF:=by
 obtain ⟨r,h1,h2⟩:=div_some (Nat.le_of_lt (ofU_FV (show m<9007199254740992 by omega)).1) (tenW_ok (-k).toNat (by omega)).1 (ten_pos (by omega));unfold scW;rw[if_neg h0,h1];exact ⟨rfl,h2⟩
theorem ten_le {k:Nat} (h:k<23):10 ^ k≤2 ^ 74:=Nat.le_trans (Nat.pow_le_pow_right (by decide) (show k≤22 by omega)) (by decide)
theorem pw {a b:Nat} (h:a≤b):2 ^ a≤2 ^ b:=Nat.pow_le_pow_right (by decide) h
theorem U_facts {U:Nat} (h:U=2 ^ kU):2 ^ 52≤U∧2 ^ 250≤U∧0<U:=by
 obtain ⟨V,hV,h1,h2,h3⟩:=exU;rw[←hV]at h;rw[h];exact ⟨h1,h2,h3⟩
theorem sc_near {U:Nat} (hUe:U=2 ^ kU) {m:Nat} {k:Int} (hm0:1≤m) (hm:m<1000000000000000) (hk1: -22≤k) (hk2:k≤22):
 scW m k<INF∧FV (scW m k)*10 ^ (-k).toNat*1152921504606846976≤m*10 ^ k.toNat*U*1152921504606847169∧m*10 ^ k.toNat*U*1152921504606846783≤FV (scW m k)*10 ^ (-k).toNat*1152921504606846976:=by
 obtain ⟨u52,u250,hU⟩:=U_facts hUe;obtain ⟨a1,a2⟩:=ofU_FV (show m<9007199254740992 by omega);rw[←hUe]at a2;have hm50:m≤2 ^ 50:=Nat.le_trans (Nat.le_of_lt hm) (by decide);by_cases h0:0≤k
 ·obtain ⟨b1,b2,_⟩:=tenW_ok k.toNat (by omega);rw[←hUe]at b2;have e0:(-k).toNat=0:=by omega
  have ht:=ten_le (show k.toNat<23 by omega);have ht0:0<10 ^ k.toNat:=Nat.pow_pos (by decide);obtain ⟨g1,g2⟩:=sc_mul hm h0 hk2;rw[e0,Nat.pow_zero,Nat.mul_one];generalize 10 ^ k.toNat=N at*;have hX:FV (floatOfInt .f64 (m:Int))*FV (tenW k.toNat)=m*N*U*U:=by rw[a2,b2];ac_rfl
  have hmt:1≤m*N:=Nat.mul_pos hm0 ht0;have hmt2:m*N≤2 ^ 250:=Nat.le_trans (Nat.mul_le_mul hm50 ht) (by decide);have lo:U*2 ^ 52≤m*N*U*U:=by
   rw[Nat.mul_assoc];exact Nat.le_trans (Nat.mul_le_mul_left _ u52) (Nat.le_mul_of_pos_left _ hmt)
  have hi:m*N*U*U≤U*U*2 ^ 250:=by
   rw[Nat.mul_assoc,Nat.mul_comm];exact Nat.mul_le_mul_left _ hmt2
  obtain ⟨r,h1,h2,h3,h4⟩:=mul_nearU hUe a1 b1 (by rw[hX];exact lo) (by rw[hX];exact hi);obtain rfl:=Option.some.inj (g1.symm.trans h1);rw[hX]at h3 h4;generalize m*N*U=A at*;refine ⟨h2,?_,?_⟩
  ·have:=Nat.le_of_mul_le_mul_right (show FV (scW m k)*9007199254740992*U≤A*9007199254740993*U by rw[Nat.mul_right_comm,Nat.mul_right_comm A];exact h3) hU;exact ratio _ _ 9007199254740992 9007199254740993 _ _ (by decide) this (by decide+kernel)
  ·have:=Nat.le_of_mul_le_mul_right (show A*9007199254740991*U≤FV (scW m k)*9007199254740992*U by rw[Nat.mul_right_comm,Nat.mul_right_comm (FV (scW m k))];exact h4) hU;exact ratio _ _ 9007199254740991 9007199254740992 _ _ (by decide) this (by decide+kernel)
 ·obtain ⟨b1,b2,_⟩:=tenW_ok (-k).toNat (by omega);rw[←hUe]at b2;have e0:k.toNat=0:=by omega
  have ht:=ten_le (show (-k).toNat<23 by omega);have ht0:0<10 ^ (-k).toNat:=Nat.pow_pos (by decide);have hb0:=ten_pos (show (-k).toNat<23 by omega);obtain ⟨g1,g2⟩:=sc_div hm h0 hk1;rw[e0,Nat.pow_zero,Nat.mul_one];generalize 10 ^ (-k).toNat=N at*;have lo:N*U*2 ^ 54≤m*U*U:=by
   rw[Nat.mul_right_comm];refine Nat.mul_le_mul_right _ ?_;refine Nat.le_trans (Nat.mul_le_mul_right _ ht) ?_;refine Nat.le_trans (show 2 ^ 74*2 ^ 54≤2 ^ 250 by decide) ?_;exact Nat.le_trans u250 (Nat.le_mul_of_pos_left _ hm0)
  have hi:m*U*U≤N*U*(U*2 ^ 250):=by
   have h1:m≤N*2 ^ 250:=Nat.le_trans hm50 (Nat.le_trans (by decide) (Nat.le_mul_of_pos_left _ ht0));have h2:=Nat.mul_le_mul_right (U*U) h1;have e1:m*(U*U)=m*U*U:=(Nat.mul_assoc ..).symm;have e2:∀z:Nat,N*z*(U*U)=N*U*(U*z):=fun z=>by ac_rfl
   rw[e1,e2]at h2;exact h2
  obtain ⟨r,h1,h2,h3,h4⟩:=div_nearU hUe a1 b1 hb0 (by rw[a2,b2];exact lo) (by rw[a2,b2];exact hi);obtain rfl:=Option.some.inj (g1.symm.trans h1);rw[a2,b2]at h3 h4;have e3:∀z x:Nat,x*N*z*U=x*(N*U)*z:=fun z x=>by ac_rfl
  have e4:∀z:Nat,m*U*z*U=m*U*U*z:=fun z=>by ac_rfl
  refine ⟨h2,?_,?_⟩
  ·refine Nat.le_of_mul_le_mul_right ?_ hU;rw[e3,e4];exact h3
  ·refine Nat.le_of_mul_le_mul_right ?_ hU;rw[e3,e4];exact h4
theorem sc_mono {m m':Nat} {k:Int} (hm0:1≤m) (hlt:m<m') (hm:m'<1000000000000000) (hk1: -22≤k) (hk2:k≤22):FV (scW m k)<FV (scW m' k):=by
 obtain ⟨U,hUe,_,_,hU⟩:=exU;obtain ⟨_,h1,_⟩:=sc_near hUe hm0 (by omega) hk1 hk2;obtain ⟨_,_,h2⟩:=sc_near hUe (show 1≤m' by omega) hm hk1 hk2;have hN:0<10 ^ k.toNat*U:=Nat.mul_pos (Nat.pow_pos (by decide)) hU;rw[Nat.mul_assoc m]at h1;rw[Nat.mul_assoc m']at h2;generalize 10 ^ k.toNat*U=N at*;have h3:m*N*1152921504606847169<m'*N*1152921504606846783:=by
  rw[Nat.mul_right_comm,Nat.mul_right_comm m'];exact Nat.mul_lt_mul_of_pos_right (by omega) hN
 have h4:=Nat.lt_of_le_of_lt h1 (Nat.lt_of_lt_of_le h3 h2);rw[Nat.mul_assoc,Nat.mul_assoc (FV (scW m' k))]at h4;exact Nat.lt_of_mul_lt_mul_right h4
abbrev KK:Nat:=1152921504606846976
theorem chain_up (A B C n m K a b c:Nat) (hK:0<K) (h1:A*K≤B*n*a) (h2:B*m*K≤C*b) (hk:K*(a*b)≤c*(K*K)):A*m*K≤C*n*c:=by
 refine ratio _ _ (K*K) (a*b) _ _ (Nat.mul_pos hK hK) ?_ hk;have q1:=Nat.mul_le_mul_right (m*K) h1;have q2:=Nat.mul_le_mul_right (n*a) h2;have r1:A*m*(K*K)=A*K*(m*K):=by ac_rfl
 have r2:B*n*a*(m*K)=B*m*K*(n*a):=by ac_rfl
 have r3:C*b*(n*a)=C*n*(a*b):=by ac_rfl
 rw[r1,←r3];exact Nat.le_trans q1 (r2 ▸ q2)
theorem chain_down (A B C n m K a b c:Nat) (hab:0<a*b) (h1:B*n*a≤A*K) (h2:C*b≤B*m*K) (hk:c*(K*K)≤K*(a*b)):C*n*c≤A*m*K:=by
 refine ratio _ _ (a*b) (K*K) _ _ hab ?_ hk;have q1:=Nat.mul_le_mul_right (m*K) h1;have q2:=Nat.mul_le_mul_right (n*a) h2;have r1:C*n*(a*b)=C*b*(n*a):=by ac_rfl
 have r2:B*n*a*(m*K)=B*m*K*(n*a):=by ac_rfl
 have r3:A*K*(m*K)=A*m*(K*K):=by ac_rfl
 rw[r1,←r3];exact Nat.le_trans q2 (r2 ▸ q1)
structure Guess (x p q g1 G:Nat):Prop where
 quo:floatBits .quo .f64 x (tenW p)=some g1
 mul:floatBits .mul .f64 g1 (tenW q)=some G
 l1:g1≤INF
 l2:G≤INF
theorem guess_ex {x p q:Nat} (hx:x<INF) (hp:p<23) (hq:q<23):∃g1 G,Guess x p q g1 G:=by
 obtain ⟨g1,h1,l1⟩:=div_some (Nat.le_of_lt hx) (tenW_ok p hp).1 (ten_pos hp);obtain ⟨G,h2,l2⟩:=mul_some l1 (tenW_ok q hq).1 (ten_pos hq);exact ⟨g1,G,h1,h2,l1,l2⟩
theorem guess_near {U:Nat} (hUe:U=2 ^ kU) {x p q g1 G:Nat} (hg:Guess x p q g1 G) (hx:x<INF) (hp:p<23) (hq:q<23) (lo:U≤FV x*2 ^ 100) (hi:FV x≤U*2 ^ 130):
 G<INF∧FV G*10 ^ p*KK≤FV x*10 ^ q*1152921504606847298∧FV x*10 ^ q*1152921504606846654≤FV G*10 ^ p*KK:=by
 obtain ⟨u52,u250,hU⟩:=U_facts hUe;obtain ⟨p1,p2,_⟩:=tenW_ok p hp;obtain ⟨q1,q2,_⟩:=tenW_ok q hq;rw[←hUe]at p2 q2;have hpl:=ten_le hp;have hql:=ten_le hq;have hp0:0<10 ^ p:=Nat.pow_pos (by decide);have hq0:0<10 ^ q:=Nat.pow_pos (by decide);have hpp:=ten_pos hp;obtain ⟨hquo,hmul,l1,l2⟩:=hg;generalize 10 ^ p=N at*;generalize 10 ^ q=D at*;have hx150:2 ^ 150≤FV x:=by
  have h1:2 ^ 150*2 ^ 100≤FV x*2 ^ 100:=Nat.le_trans (show 2 ^ 150*2 ^ 100≤2 ^ 250 by decide) (Nat.le_trans u250 lo);exact Nat.le_of_mul_le_mul_right h1 (by decide)
 have lo1:N*U*2 ^ 54≤FV x*U:=by
  rw[Nat.mul_right_comm];exact Nat.mul_le_mul_right _ (Nat.le_trans (Nat.mul_le_mul_right _ hpl) (Nat.le_trans (by decide) hx150))
 have hi1:FV x*U≤N*U*(U*2 ^ 250):=by
  have h1:FV x≤N*(U*2 ^ 250):=Nat.le_trans hi (Nat.le_trans (Nat.mul_le_mul_left U (by decide)) (Nat.le_mul_of_pos_left _ hp0));rw[Nat.mul_right_comm N];exact Nat.mul_le_mul_right _ h1
 obtain ⟨r,e1,b1,b2,b3⟩:=div_nearU hUe hx p1 hpp (by rw[p2];exact lo1) (by rw[p2];exact hi1);obtain rfl:=Option.some.inj (hquo.symm.trans e1);rw[p2]at b2 b3;have c2:FV g1*N*1152921504606846976≤FV x*1152921504606847169:=by
  refine Nat.le_of_mul_le_mul_right ?_ hU;have s1:∀z:Nat,FV g1*N*z*U=FV g1*(N*U)*z:=fun z=>by ac_rfl
  rw[s1,Nat.mul_right_comm (FV x)];exact b2
 have c3:FV x*1152921504606846783≤FV g1*N*1152921504606846976:=by
  refine Nat.le_of_mul_le_mul_right ?_ hU;have s1:∀z:Nat,FV g1*N*z*U=FV g1*(N*U)*z:=fun z=>by ac_rfl
  rw[s1,Nat.mul_right_comm (FV x)];exact b3
 have g52:2 ^ 52≤FV g1:=by
  rcases Nat.lt_or_ge (FV g1) (2 ^ 52) with h|h
  ·have h1:FV g1*N*1152921504606846976≤2 ^ 52*2 ^ 74*1152921504606846976:=Nat.mul_le_mul_right _ (Nat.mul_le_mul (Nat.le_of_lt h) hpl);have h2:2 ^ 150*1152921504606846783≤FV x*1152921504606846783:=Nat.mul_le_mul_right _ hx150;have h3:=Nat.le_trans h2 (Nat.le_trans c3 h1);exact absurd h3 (by decide)
  ·exact h
 have gU:FV g1*D≤U*2 ^ 250:=by
  have h1:FV g1≤U*2 ^ 131:=by
   have h2:FV g1*1152921504606846976≤U*2 ^ 131*1152921504606846976:=by
    have h3:FV g1*1152921504606846976≤FV g1*N*1152921504606846976:=Nat.mul_le_mul_right _ (Nat.le_mul_of_pos_right _ hp0);have h4:FV x*1152921504606847169≤U*2 ^ 130*1152921504606847169:=Nat.mul_le_mul_right _ hi;have h5:U*2 ^ 130*1152921504606847169≤U*2 ^ 131*1152921504606846976:=by
     rw[Nat.mul_assoc,Nat.mul_assoc];exact Nat.mul_le_mul_left _ (by decide)
    exact Nat.le_trans h3 (Nat.le_trans c2 (Nat.le_trans h4 h5))
   exact Nat.le_of_mul_le_mul_right h2 (by decide)
  refine Nat.le_trans (Nat.mul_le_mul h1 hql) ?_;rw[Nat.mul_assoc];exact Nat.mul_le_mul_left _ (by decide)
 have hX:FV g1*FV (tenW q)=FV g1*D*U:=by rw[q2,Nat.mul_assoc]
 have lo2:U*2 ^ 52≤FV g1*D*U:=by
  rw[Nat.mul_comm];exact Nat.mul_le_mul_right _ (Nat.le_trans g52 (Nat.le_mul_of_pos_right _ hq0))
 have hi2:FV g1*D*U≤U*U*2 ^ 250:=by
  rw[Nat.mul_right_comm U];exact Nat.mul_le_mul_right _ gU
 obtain ⟨r2,e2,d1,d2,d3⟩:=mul_nearU hUe b1 q1 (by rw[hX];exact lo2) (by rw[hX];exact hi2);obtain rfl:=Option.some.inj (hmul.symm.trans e2);rw[hX]at d2 d3;have f2:FV G*9007199254740992≤FV g1*D*9007199254740993:=by
  refine Nat.le_of_mul_le_mul_right ?_ hU;rw[Nat.mul_right_comm (FV G),Nat.mul_right_comm (FV g1*D)];exact d2
 have f3:FV g1*D*9007199254740991≤FV G*9007199254740992:=by
  refine Nat.le_of_mul_le_mul_right ?_ hU;rw[Nat.mul_right_comm (FV G),Nat.mul_right_comm (FV g1*D)];exact d3
 have f4:FV G*1152921504606846976≤FV g1*D*1152921504606847104:=ratio _ _ 9007199254740992 9007199254740993 _ _ (by decide) f2 (by decide+kernel);have f5:FV g1*D*1152921504606846848≤FV G*1152921504606846976:=ratio _ _ 9007199254740991 9007199254740992 _ _ (by decide) f3 (by decide+kernel);exact ⟨d1,chain_up (FV G) (FV g1) (FV x) D N 1152921504606846976 1152921504606847104 1152921504606847169 1152921504606847298 (by decide) f4 c2 (by decide+kernel),
  chain_down (FV G) (FV g1) (FV x) D N 1152921504606846976 1152921504606846848 1152921504606846783 1152921504606846654 (by decide) f5 c3 (by decide+kernel)⟩
def Sol (x:Nat) (k:Int) (M:Nat):Prop:=1≤M∧M<1000000000000000∧FV (scW M k)=FV x
theorem Sol.unique {x M M':Nat} {k:Int} (hk1: -22≤k) (hk2:k≤22) (h:Sol x k M) (h':Sol x k M'):M=M':=by
 rcases Nat.lt_trichotomy M M' with q|q|q
 ·have:=sc_mono h.1 q h'.2.1 hk1 hk2;rw[h.2.2,h'.2.2]at this;omega
 ·exact q
 ·have:=sc_mono h'.1 q h.2.1 hk1 hk2;rw[h.2.2,h'.2.2]at this;omega
theorem Sol.guess {U:Nat} (hUe:U=2 ^ kU) {x M:Nat} {k kk:Int} (h:Sol x k M) (hx:x<INF) (hk1: -22≤k) (hkk:k≤kk) (hk2:kk≤22) {g1 G:Nat} (hg:Guess x kk.toNat (-kk).toNat g1 G):
 G<INF∧FV G*KK≤M*U*1152921504606847492∧(kk=k→M*U*1152921504606846460≤FV G*KK):=by
 obtain ⟨u52,u250,hU⟩:=U_facts hUe;obtain ⟨m1,m2,m3⟩:=h;obtain ⟨_,s1,s2⟩:=sc_near hUe m1 m2 hk1 (by omega);rw[m3]at s1 s2;have hm50:M≤2 ^ 50:=Nat.le_trans (Nat.le_of_lt m2) (by decide);have n1:=ten_le (show k.toNat<23 by omega);have n2:=ten_le (show (-k).toNat<23 by omega);have z1:0<10 ^ k.toNat:=Nat.pow_pos (by decide);have z2:0<10 ^ (-k).toNat:=Nat.pow_pos (by decide);have z3:0<10 ^ kk.toNat:=Nat.pow_pos (by decide)
 have z4:0<10 ^ (-kk).toNat:=Nat.pow_pos (by decide);have hcross:10 ^ k.toNat*10 ^ (-kk).toNat≤10 ^ kk.toNat*10 ^ (-k).toNat:=by
  rw[←Nat.pow_add,←Nat.pow_add];exact Nat.pow_le_pow_right (by decide) (by omega)
 have lo:U≤FV x*2 ^ 100:=by
  have h1:U*1152921504606846783≤M*10 ^ k.toNat*U*1152921504606846783:=Nat.mul_le_mul_right _ (Nat.le_mul_of_pos_left _ (Nat.mul_pos m1 z1));have h2:FV x*10 ^ (-k).toNat*1152921504606846976≤FV x*2 ^ 74*1152921504606846976:=Nat.mul_le_mul_right _ (Nat.mul_le_mul_left _ n2);have h3:FV x*2 ^ 74*1152921504606846976≤FV x*2 ^ 100*1152921504606846783:=by
   rw[Nat.mul_assoc,Nat.mul_assoc];exact Nat.mul_le_mul_left _ (by decide)
  exact Nat.le_of_mul_le_mul_right (Nat.le_trans h1 (Nat.le_trans s2 (Nat.le_trans h2 h3))) (by decide)
 have hi:FV x≤U*2 ^ 130:=by
  have h1:FV x*1152921504606846976≤FV x*10 ^ (-k).toNat*1152921504606846976:=Nat.mul_le_mul_right _ (Nat.le_mul_of_pos_right _ z2);have h2:M*10 ^ k.toNat*U*1152921504606847169≤U*2 ^ 130*1152921504606846976:=by
   rw[Nat.mul_comm _ U,Nat.mul_assoc,Nat.mul_assoc U];refine Nat.mul_le_mul_left _ ?_;exact Nat.le_trans (Nat.mul_le_mul_right _ (Nat.mul_le_mul hm50 n1)) (by decide)
  exact Nat.le_of_mul_le_mul_right (Nat.le_trans h1 (Nat.le_trans s1 h2)) (by decide)
 obtain ⟨g0,g2,g3⟩:=guess_near hUe hg hx (by omega) (by omega) lo hi;refine ⟨g0,?_,?_⟩
 ·have h1:=chain_up (FV G*10 ^ kk.toNat) (FV x) (M*10 ^ k.toNat*U) (10 ^ (-kk).toNat) (10 ^ (-k).toNat) 1152921504606846976 1152921504606847298 1152921504606847169 1152921504606847492 (by decide) g2 s1 (by decide+kernel);generalize 10 ^ k.toNat=P at*;generalize 10 ^ (-k).toNat=P' at*;generalize 10 ^ kk.toNat=R at*;generalize 10 ^ (-kk).toNat=R' at*;refine Nat.le_of_mul_le_mul_right ?_ (Nat.mul_pos z3 z2)
  have r1:∀z:Nat,FV G*z*(R*P')=FV G*R*P'*z:=fun z=>by ac_rfl
  have r2:∀z:Nat,M*P*U*R'*z=M*U*z*(P*R'):=fun z=>by ac_rfl
  rw[r1];refine Nat.le_trans h1 ?_;rw[r2];exact Nat.mul_le_mul_left _ hcross
 ·rintro rfl;have h1:=chain_down (FV G*10 ^ kk.toNat) (FV x) (M*10 ^ kk.toNat*U) (10 ^ (-kk).toNat) (10 ^ (-kk).toNat) 1152921504606846976 1152921504606846654 1152921504606846783 1152921504606846460 (by decide) g3 s2 (by decide+kernel);generalize 10 ^ kk.toNat=R at*;generalize 10 ^ (-kk).toNat=R' at*;refine Nat.le_of_mul_le_mul_right ?_ (Nat.mul_pos z1 z2);have r1:∀z:Nat,FV G*z*(R*R')=FV G*R*R'*z:=fun z=>by ac_rfl
  have r2:∀z:Nat,M*R*U*R'*z=M*U*z*(R*R'):=fun z=>by ac_rfl
  rw[r1,←r2];exact h1
end Go.Proofs.YtfenoaeoedobmaaGreatDoor
namespace Go.Proofs.YtfenoaeoedobmaaGreatDoor
open Go Go.RowKit
theorem mul_run {a b r:Nat} (h:floatBits .mul .f64 a b=some r):∀t w,(binOp .mul t (.float .f64 a) (.float .f64 b)).run Tryz.prog w= .ok (.float .f64 r) w:=fun t w=>run_float_arith w .mul t .f64 a b r h
theorem quo_run {a b r:Nat} (h:floatBits .quo .f64 a b=some r):∀t w,(binOp .quo t (.float .f64 a) (.float .f64 b)).run Tryz.prog w= .ok (.float .f64 r) w:=fun t w=>run_float_arith w .quo t .f64 a b r h
theorem ten_walk (w:World) (k:Nat) (hk:k<23):Calls Tryz.prog 155 #[.int .i64 k] w fun e w'=>e= .returned (.float .f64 (tenW k))∧w'=w:=by
 have Hk:=hid hk;go_enter Tryz.func155,Tryz.ntmps155;go_wp2
 go_loop [3,5] (fun x i=>∃j:Nat,i= .int .i64 j∧j≤k∧x= .float .f64 (tenW j)) (fun _ i=>k-(intOf i).toNat)
 case atStart=>exact ⟨0,rfl,Nat.zero_le _,rfl⟩
 case round=>
  obtain ⟨j,rfl,hj,rfl⟩:=hrel;by_cases hlt:j<k
  ·have hop:=mul_run (tenW_ok j (by have:=Hk.out;omega)).2.2;go_wp2;go_round
   case rel=>exact ⟨j+1,by go_num,by omega,rfl⟩
   case measure=>simp[intOf];omega
  ·obtain rfl:j=k:=by omega
   go_wp2;go_ret;exact ⟨rfl,rfl⟩
def Bad (m:Nat) (k:Int):Prop:=1000000000000000≤m∨k< -22∨22<k
instance (m:Nat) (k:Int):Decidable (Bad m k):=inferInstanceAs (Decidable (_∨_∨_))
def scR (m:Nat) (k:Int):Nat:=if Bad m k then 0 else scW m k
def scE (m:Nat) (k:Int):Int:=if Bad m k then 2 else 0
theorem scaled_walk (w:World) (m:Nat) (k:Int):Calls Tryz.prog 118 #[.int .u64 m,.int .i64 k] w fun e w'=>e= .returned (.tuple #[.float .f64 (scR m k),.int .i64 (scE m k)])∧w'=w:=by
 unfold scR scE;by_cases hb:Bad m k
 ·rw[if_pos hb,if_pos hb];by_cases h1:(1000000000000000:Int)≤(m:Int)
  ·clear hb;go_enter Tryz.func118,Tryz.ntmps118;go_wp2
   go_ret2
   exact ⟨rfl,rfl⟩
  ·by_cases h2:k< -22
   ·clear hb;go_enter Tryz.func118,Tryz.ntmps118;go_wp2
    go_ret2
    exact ⟨rfl,rfl⟩
   ·have h3:22<k:=by unfold Bad at hb;omega
    clear hb;go_enter Tryz.func118,Tryz.ntmps118;go_wp2
    go_ret2
    exact ⟨rfl,rfl⟩
 ·rw[if_neg hb,if_neg hb];have h1:¬(1000000000000000:Int)≤(m:Int):=by unfold Bad at hb;omega
  have h2:¬k< -22:=by unfold Bad at hb;omega
  have h3:¬22<k:=by unfold Bad at hb;omega
  have hm:m<1000000000000000:=by omega
  by_cases h0:0≤k
  ·obtain ⟨kn,rfl⟩:∃kn:Nat,k=(kn:Int):=⟨k.toNat,by omega⟩;have hop:=mul_run (sc_mul hm h0 (by omega)).1;have Ht:=hid (ten_walk w kn (by omega));rw[show ((kn:Int)).toNat=kn by omega]at hop;clear hb hm;go_enter Tryz.func118,Tryz.ntmps118
   go_wp2_with fail
   refine Ht.out.mono ?_;rintro e w' ⟨rfl,rfl⟩;go_wp2
   go_ret2
   exact ⟨rfl,rfl⟩
  ·obtain ⟨kn,hkn⟩:∃kn:Nat,-k=(kn:Int):=⟨(-k).toNat,by omega⟩;have hop:=quo_run (sc_div hm h0 (by omega)).1;have Ht:=hid (ten_walk w kn (by omega));rw[show (-k).toNat=kn by omega]at hop;rw[←hkn]at Ht;clear hb hm hkn;go_enter Tryz.func118,Tryz.ntmps118
   go_wp2_with fail
   refine Ht.out.mono ?_;rintro e w' ⟨rfl,rfl⟩;go_wp2
   go_ret2
   exact ⟨rfl,rfl⟩
def isD (c:UInt8):Bool:=decide (48≤c.toNat)&&decide (c.toNat≤57)
theorem isD_iff (c:UInt8):isD c=true↔48≤c.toNat∧c.toNat≤57:=by simp[isD]
def allD (l:List UInt8):Bool:= !l.isEmpty&&l.all isD
theorem size_list (s:ByteArray):s.data.toList.length=s.size:=by rw[Array.length_toList];rfl
theorem get_list (s:ByteArray) (k:Nat) (h:k<s.size):s[k]=s.data.toList[k]'(by rw[size_list];exact h):=rfl
theorem take_next (s:ByteArray) (k:Nat) (h:k<s.size):s.data.toList.take (k+1)=s.data.toList.take k++[s[k]]:=by
 rw[List.take_succ_eq_append_getElem (by rw[size_list];exact h),get_list s k h]
def valS (l:List UInt8):Nat:=l.foldl (fun m c=>min (m*10+(c.toNat-48)) 1000000000000000000) 0
theorem valS_snoc (l:List UInt8) (c:UInt8):valS (l++[c])=min (valS l*10+(c.toNat-48)) 1000000000000000000:=by simp[valS]
theorem valS_le (l:List UInt8):valS l≤1000000000000000000:=by
 rcases List.eq_nil_or_concat l with rfl|⟨r,c,rfl⟩
 ·exact Nat.zero_le _
 ·rw[List.concat_eq_append,valS_snoc];exact Nat.min_le_right _ _
theorem tw_self {l:List UInt8} (h:l.all isD=true):l.takeWhile isD=l:=by
 have h2:∀x∈l,isD x=true:=by simpa using h
 have:=List.takeWhile_append_of_pos (p:=isD) (l₁:=l) (l₂:=[]) h2
 simpa using this
theorem tw_all {l:List UInt8} {k:Nat} (h:(l.take k).all isD=true) (hk:l.length≤k):l.takeWhile isD=l.take k:=by
 rw[List.take_of_length_le hk]at h ⊢;exact tw_self h
theorem tw_stop {s:ByteArray} {k:Nat} (h:(s.data.toList.take k).all isD=true) (hk:k<s.size) (hn:¬isD s[k]=true):s.data.toList.takeWhile isD=s.data.toList.take k:=by
 have e:s.data.toList=s.data.toList.take k++s[k]::s.data.toList.drop (k+1):=by
  rw[get_list s k hk,←List.drop_eq_getElem_cons (by rw[size_list];exact hk),List.take_append_drop]
 have h2:∀x∈s.data.toList.take k,isD x=true:=by simpa using h
 conv=>lhs;rw[e]
 rw[List.takeWhile_append_of_pos h2,List.takeWhile_cons_of_neg hn,List.append_nil]
theorem digits_walk (w:World) (s:ByteArray) (hmax:s.size≤maxLen) (n m:Nat) (hn:(s.data.toList.takeWhile isD).length=n) (hm:valS (s.data.toList.takeWhile isD)=m):
 Calls Tryz.prog 116 #[.string s] w fun e w'=>e= .returned (.tuple #[.int .i64 n,.int .u64 m])∧w'=w:=by
 have Hn:=hid hn;have Hm:=hid hm;clear hn hm;have hle:s.size≤9223372036854775807:=by unfold maxLen at hmax;omega
 go_enter Tryz.func116,Tryz.ntmps116;go_wp2
 go_loopw [4,5] (fun i v wr=>∃k v':Nat,i= .int .i64 k∧v= .int .u64 v'∧w=wr∧Hid (k≤s.size∧(s.data.toList.take k).all isD=true∧v'=valS (s.data.toList.take k))) (fun i _ _=>s.size-(intOf i).toNat)
 case atStart=>exact ⟨0,0,rfl,rfl,rfl,Nat.zero_le _,rfl,rfl⟩
 case round=>
  obtain ⟨k,v',rfl,rfl,rfl,hk⟩:=hrel;by_cases hlt:k<s.size
  ·by_cases hd:isD s[k]=true
   ·have hd2:=(isD_iff _).1 hd;have n1:(48:Int)≤(s[k].toNat:Int):=by omega
    have n2:(s[k].toNat:Int)≤57:=by omega
    have hv:=valS_le (s.data.toList.take k);rw[←hk.out.2.2]at hv;obtain ⟨d,hdd⟩:∃d:Nat,d=s[k].toNat-48:=⟨_,rfl⟩;obtain ⟨t,ht⟩:∃t:Nat,t=v'*10:=⟨_,rfl⟩;obtain ⟨u,hu⟩:∃u:Nat,u=t+d:=⟨_,rfl⟩;have hsub:IntKind.u8.wrap ((s[k].toNat:Int)-48)=(d:Int):=by
     rw[IntKind.wrap_u8];omega
    have hmul:IntKind.u64.wrap ((v':Int)*10)=(t:Int):=by rw[IntKind.wrap_u64];omega
    have hadd:IntKind.u64.wrap ((t:Int)+IntKind.u64.wrap (d:Int))=(u:Int):=by rw[IntKind.wrap_u64,IntKind.wrap_u64];omega
    obtain ⟨v2,hv2⟩:∃v2:Nat,v2=min u 1000000000000000000:=⟨_,rfl⟩;have hmin:(if (1000000000000000000:Int)<(u:Int) then (1000000000000000000:Int) else (u:Int))=(v2:Int):=by split<;>omega
    have Hnew:=hid (show v2=valS (s.data.toList.take (k+1)) by rw[take_next s k hlt,valS_snoc,←hk.out.2.2,hv2,hu,ht,hdd]);have Hd:=hid hd;clear hd hd2 hv hdd ht hu hv2;go_wp2;go_roundw
    case rel=>
     refine ⟨k+1,v2,rfl,by first|rfl|(rw[←hmin]),(by first|rfl|trivial),by omega,?_,Hnew.out⟩;rw[take_next s k hlt,List.all_append,hk.out.2.1];simp[Hd.out]
    case measure=>simp[intOf];omega
   ·have htw:=tw_stop hk.out.2.1 hlt hd;have hkn:k=n:=by rw[←Hn.out,htw,List.length_take,size_list];omega
    have hvm:v'=m:=by rw[←Hm.out,htw];exact hk.out.2.2
    subst hkn;subst hvm;by_cases n1:(48:Int)≤(s[k].toNat:Int)
    ·have n2:¬(s[k].toNat:Int)≤57:=by
      rw[isD_iff]at hd;omega
     clear hd htw;go_wp2
     go_ret2
     exact ⟨rfl,rfl⟩
    ·clear hd htw;go_wp2
     go_ret2
     exact ⟨rfl,rfl⟩
  ·have htw:=tw_all hk.out.2.1 (by rw[size_list];have:=hk.out.1;omega);have hkn:k=n:=by rw[←Hn.out,htw,List.length_take,size_list];have:=hk.out.1;omega
   have hvm:v'=m:=by rw[←Hm.out,htw];exact hk.out.2.2
   subst hkn;subst hvm;clear htw;go_wp2
   go_ret2
   exact ⟨rfl,rfl⟩
def minusL:List UInt8→List UInt8×Bool
 |[]=>([],false)
 |c::r=>if c=45 then (r,true) else (c::r,false)
theorem ext_list (s:ByteArray) (a b:Nat):(s.extract a b).data.toList=(s.data.toList.drop a).take (b-a):=by
 rw[ByteArray.data_extract,Array.toList_extract]
theorem ext_from (s:ByteArray) (a:Nat):(s.extract a s.size).data.toList=s.data.toList.drop a:=by
 rw[ext_list,List.take_of_length_le (by rw[List.length_drop,size_list];exact Nat.le_refl _)]
theorem ext_size (s:ByteArray) (a b:Nat):(s.extract a b).size≤s.size:=by
 rw[←size_list,ext_list,←size_list,List.length_take,List.length_drop];omega
theorem list_cons (s:ByteArray) (h:0<s.size):s.data.toList=s[0]::s.data.toList.drop 1:=by
 have:=List.drop_eq_getElem_cons (l:=s.data.toList) (i:=0) (by rw[size_list];exact h);rw[List.drop_zero]at this;rw[get_list s 0 h];exact this
def wholeL (l:List UInt8):Bool:=allD l&&(decide (l.head? ≠some 48)||decide (l.length=1))
def numN (l:List UInt8):Nat:=l.foldl (fun n c=>10*n+(c.toNat-48)) 0
def cutL (l:List UInt8) (c:UInt8):List UInt8×List UInt8×Bool:=
 if l.all (· != c)=true then (l,[],false) else (l.takeWhile (· != c),(l.dropWhile (· != c)).drop 1,true)
def intR (l:List UInt8):Option Int:=
 if wholeL (minusL l).1=false then none
 else if (minusL l).2=true then
  if (minusL l).1=[48] then none
  else if numN (minusL l).1≤9223372036854775808∧0<numN (minusL l).1 then some (-(numN (minusL l).1:Int)) else none
 else if numN (minusL l).1≤9223372036854775807 then some (numN (minusL l).1:Int) else none
theorem whole_all {l:List UInt8} (h:wholeL l=true):l.all isD=true:=by
 unfold wholeL allD at h;simp only[Bool.and_eq_true]at h;exact h.1.2
def powR (powered:Bool) (tail:List UInt8):Option Int:=
 if powered=true then
  if allD (minusL tail).1=true∧(minusL tail).1.length≤2 then some (if (minusL tail).2=true then -(numN (minusL tail).1:Int) else (numN (minusL tail).1:Int)) else none
 else some 0
def decR (l:List UInt8):Option (Nat×Int×Bool):=
 let m:=minusL l
 let c:=cutL m.1 101
 let d:=cutL c.1 46
 if d.2.2=true∧wholeL d.1=true∧allD d.2.1=true then
  match powR c.2.2 c.2.1 with
  |some k=>if numN (d.1++d.2.1)≤999999999999999∧d.2.1.length≤200∧¬Bad (numN (d.1++d.2.1)) (k-(d.2.1.length:Int)) then some (numN (d.1++d.2.1),k-(d.2.1.length:Int),m.2) else none
  |none=>none
 else none
theorem numN_lt_acc:∀(l:List UInt8) (acc:Nat),l.all isD=true→l.foldl (fun n c=>10*n+(c.toNat-48)) acc<(acc+1)*10 ^ l.length:=by
 intro l
 induction l with
 |nil=>intro acc _;simp
 |cons c r ih=>
  intro acc h;rw[List.all_cons]at h;simp only[Bool.and_eq_true]at h;have h2:=(isD_iff c).1 h.1;have h1:=ih (10*acc+(c.toNat-48)) h.2;rw[List.foldl_cons,List.length_cons,Nat.pow_succ];refine Nat.lt_of_lt_of_le h1 ?_;have h3:10*acc+(c.toNat-48)+1≤(acc+1)*10:=by omega
  generalize 10*acc+(c.toNat-48)+1=z at*;have:=Nat.mul_le_mul_right (10 ^ r.length) h3;rw[Nat.mul_assoc,Nat.mul_comm 10 (10 ^ r.length)]at this;exact this
theorem numN_lt {l:List UInt8} (h:l.all isD=true):numN l<10 ^ l.length:=by
 have:=numN_lt_acc l 0 h
 simpa[numN] using this
theorem allD_all {l:List UInt8} (h:allD l=true):l.all isD=true:=by
 unfold allD at h;simp only[Bool.and_eq_true]at h;exact h.2
def negW (x:Nat):Nat:=Op.negFloat .f64 x
theorem neg_run (x:Nat):∀w,(Op.unary .neg (.float .f64 x)).run Tryz.prog w= .ok (.float .f64 (negW x)) w:=fun _=>rfl
end Go.Proofs.YtfenoaeoedobmaaGreatDoor
