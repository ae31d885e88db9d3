/-
Parts of a proof.
-/
import Derived.Test.YtfenoaeoedobmaaGreatDoorOn10
import Derived.Test.YtfenoaeoedobmaaGreatDoorOn43
set_option linter.unusedVariables false
set_option linter.unusedSimpArgs false
namespace Go.Proofs.YtfenoaeoedobmaaGreatDoor
open Go Go.RowKit
theorem oe {d:Nat} (h:d<10):(UInt8.ofNat (48+d)).toNat=48+d:=by
 rw[UInt8.toNat_ofNat'];omega
theorem u9 {d:Nat} (h:d<10):isD (UInt8.ofNat (48+d))=true:=by
 rw[mh,oe h];omega
theorem Nv (b:List UInt8):∀acc:Nat,b.foldl (fun n c=>10*n+(c.toNat-48)) acc=acc*10 ^ b.length+numN b:=by
 induction b with
 |nil=>intro acc;simp[numN]
 |cons c r ih=>
  intro acc;unfold numN;rw[List.foldl_cons,List.foldl_cons,ih,ih (10*0+(c.toNat-48)),aBk,Nat.pow_succ,Nat.add_mul,Nat.add_mul];have:10*acc*10 ^ r.length=acc*(10 ^ r.length*10):=by ac_rfl
  rw[this];omega
theorem nz (a b:List UInt8):numN (a++b)=numN a*10 ^ b.length+numN b:=by
 conv=>lhs;unfold numN
 rw[List.foldl_append,Nv];rfl
theorem qA (j:Nat):numN (List.replicate j 48)=0:=by
 induction j with
 |zero=>rfl
 |succ j ih=>
  rw[List.replicate_succ]
  show numN ([48]++List.replicate j 48)=0
  rw[nz,ih]
  show 0*_+0=0
  omega
theorem kD (j:Nat):(List.replicate j (48:UInt8)).all isD=true:=by
 rw[List.all_eq_true];intro x hx;rw[(List.mem_replicate.1 hx).2]
 decide
theorem rf (u:Nat):(Lib.decDigits u).all isD=true:=by
 induction u using Nat.strongRecOn with
 |_ u ih=>
  rw[Lib.decDigits];by_cases h:u<10
  ·rw[dif_pos h,List.all_cons,u9 h,List.all_nil];rfl
  ·rw[dif_neg h,List.all_append,ih (u / 10) (by omega),List.all_cons,u9 (Nat.mod_lt u (by decide:10>0)),List.all_nil];rfl
theorem q9 (u:Nat):numN (Lib.decDigits u)=u:=by
 induction u using Nat.strongRecOn with
 |_ u ih=>
  rw[Lib.decDigits];by_cases h:u<10
  ·rw[dif_pos h]
   show 10*0+((UInt8.ofNat (48+u)).toNat-48)=u
   rw[oe h];omega
  ·rw[dif_neg h,JZ,ih (u / 10) (by omega),oe (Nat.mod_lt u (by decide))];omega
theorem km (u:Nat):∃c r,Lib.decDigits u=c::r/\isD c=true/\(1<=u->c≠48)/\r.all isD=true/\r.length+1=Lib.nDigits u:=by
 induction u using Nat.strongRecOn with
 |_ u ih=>
  by_cases h:u<10
  ·refine ⟨UInt8.ofNat (48+u),[],Lib.decDigits_one h,u9 h,fun h1 q=> ?_,rfl,by rw[Lib.nDigits_small h];rfl⟩;have:=congrArg UInt8.toNat q;rw[oe h]at this;have e:(48:UInt8).toNat=48:=rfl;omega
  ·obtain ⟨c,r,h1,h2,h3,h4,h5⟩:=ih (u / 10) (by omega);refine ⟨c,r++[UInt8.ofNat (48+u % 10)],?_,h2,fun _=>h3 (by omega),?_,?_⟩
   ·rw[Lib.decDigits,dif_neg h,h1];rfl
   ·rw[List.all_append,h4,List.all_cons,u9 (Nat.mod_lt u (by decide:10>0)),List.all_nil];rfl
   ·rw[Lib.nDigits_big h,aBj,<-h5];rfl
theorem zA (u:Nat):bY (Lib.decDigits u)=true:=by
 obtain ⟨c,r,h1,h2,h3,h4,h5⟩:=km u;have ha:=rf u;rw[h1]at ha |-;unfold bY ky;rw[ha];by_cases hu:1<=u
 ·have:=h3 hu;simp[this]
 ·have h0:u=0:=by omega
  subst h0;rw[Lib.nDigits_small (by decide)]at h5;have:r=[]:=List.eq_nil_of_length_eq_zero (by omega);subst this;simp
theorem mc {l:List UInt8} {c:UInt8} {r:List UInt8} (b:Bool) (h:l=c::r) (hc:isD c=true):bn ((if b=true then [45] else [])++l)=(l,b):=by
 subst h;cases b with
 |true=>rfl
 |false=>
  have:c≠45:=by rintro rfl;cases hc
  show (if c=45 then (r,true) else (c::r,false))=_
  rw[if_neg this]
theorem wC {s:ByteArray} {c:UInt8} {r:List UInt8} (b:Bool) (hc:isD c=true) (h:s.data.toList=(if b=true then [45] else [])++c::r):aZ s false=kC s:=by
 have hd:∀e:UInt8,isD e=false->c≠e:=fun e he q=>by rw[q,he]at hc;cases hc
 have n1:=hd 126 (by decide);have n2:=hd 110 (by decide);have n3:=hd 116 (by decide);have n4:=hd 102 (by decide);have n5:=hd 46 (by decide);have n6:=hd 45 (by decide);unfold aZ;rw[h];cases b<;>simp[n1,n2,n3,n4,n5,n6]
theorem Kv {n:Int} (h1: -9223372036854775808<=n) (h2:n<=9223372036854775807):nF (Lib.itoa n)=some n:=by
 unfold Lib.itoa;by_cases h:n<0
 ·rw[if_pos h];obtain ⟨c,r,e1,e2,e3,e4,e5⟩:=km n.natAbs;have hm:=mc true e1 e2;have CZ:bn (45::Lib.decDigits n.natAbs)=(Lib.decDigits n.natAbs,true):=hm;have hne:Lib.decDigits n.natAbs≠[48]:=by
   intro q;have:=q9 n.natAbs;rw[q]at this;have e:numN [48]=0:=rfl;omega
  unfold nF;rw[CZ];simp only[zA];rw[if_neg (by simp),if_pos trivial,if_neg hne,q9,if_pos (by omega)];congr 1;omega
 ·rw[if_neg h];obtain ⟨c,r,e1,e2,e3,e4,e5⟩:=km n.toNat;have hm:=mc false e1 e2;have CZ:bn (Lib.decDigits n.toNat)=(Lib.decDigits n.toNat,false):=hm;unfold nF;rw[CZ];simp only[zA];rw[if_neg (by simp),if_neg (by simp),q9,if_pos (by omega)];congr 1;omega
theorem Ks (n:Int):∃b c r,isD c=true/\Lib.itoa n=(if b=true then [45] else [])++c::r:=by
 unfold Lib.itoa;by_cases h:n<0
 ·rw[if_pos h];obtain ⟨c,r,e1,e2,e3,e4,e5⟩:=km n.natAbs;exact ⟨true,c,r,e2,by rw[e1];rfl⟩
 ·rw[if_neg h];obtain ⟨c,r,e1,e2,e3,e4,e5⟩:=km n.toNat;exact ⟨false,c,r,e2,by rw[e1];rfl⟩
theorem Rn {m:Nat} {k:Int} (mP:1<=m) (eP: -22<=k):∀j:Nat,m*10 ^ j<1000000000000000->k+j<=22->scW (m*10 ^ j) k=scW m (k+j):=by
 intro j
 induction j with
 |zero=>intro _ _;simp
 |succ j ih=>
  intro h1 h2;have hp:0<10 ^ j:=Nat.pow_pos (by decide);rw[Nat.pow_succ,<-Nat.mul_assoc]at h1 |-;have h3:m*10 ^ j<1000000000000000:=by omega
  have kZ:1<=m*10 ^ j:=Nat.mul_pos mP hp;have aN:k+1<=22:=by omega
  rw[Ev kZ h1 eP aN];have:∀k':Int,k'=k+1-> -22<=k'->scW (m*10 ^ j) k'=scW m (k'+j):=by
   intro k' Sy hl;subst Sy;clear ih
   revert h3
   have aux:∀(i:Nat) (q:Int),-22<=q->m*10 ^ i<1000000000000000->q+i<=22->scW (m*10 ^ i) q=scW m (q+i):=by
    intro i
    induction i with
    |zero=>intro q _ _ _;simp
    |succ i ih2=>
     intro q q1 q2 q3;have CU:0<10 ^ i:=Nat.pow_pos (by decide);rw[Nat.pow_succ,<-Nat.mul_assoc]at q2 |-;rw[Ev (Nat.mul_pos mP CU) q2 q1 (by omega),ih2 (q+1) (by omega) (by omega) (by omega)];congr 1;omega
   intro h3;exact aux j (k+1) hl h3 (by omega)
  rw[this (k+1) rfl (by omega)];congr 1;omega
theorem vw {d b:List UInt8} {neg:Bool} {p k:Int} {m:Nat} (h1:numN (d++b)=m) (h2:m<1000000000000000) (h3:b.length<=200) (h4:p-(b.length:Int)=k) (h5: -22<=k) (h6:k<=22):DB d b neg (some p)=some (m,k,neg):=by
 unfold DB;dsimp only;rw[h1,h4,if_pos];refine ⟨by omega,h3,?_⟩;unfold Bad;omega
theorem yu {b:List UInt8} (hb:b.all isD=true) (v:List UInt8):(b++101::v).takeWhile isD=b:=by
 have h2:∀x∈b,isD x=true:=by simpa using hb
 rw[List.takeWhile_append_of_pos h2,List.takeWhile_cons_of_neg (by decide),List.append_nil]
theorem JM {p:Nat} (h:p<100):Ct true (Lib.decDigits p)=some (p:Int):=by
 obtain ⟨c,r,e1,e2,e3,e4,e5⟩:=km p;have hm:=mc false e1 e2;have CZ:bn (Lib.decDigits p)=(Lib.decDigits p,false):=hm;have ht:=kz (rf p);have hl:=Lib.decDigits_length p;have hn:=iz 1 p (by omega);rw[Cs CZ,ht,if_pos,q9]
 ·rfl
 ·have:=Lib.nDigits_pos p;omega
theorem wg {M:Nat} {k:Int} (h1:1<=M) (h2:M<1000000000000000) (eP: -22<=k) (eZ:k<=22) (neg:Bool):
 (∃c r,isD c=true/\gx M k=c::r)/\nF ((if neg=true then [45] else [])++gx M k)=none/\∃m' k',kx ((if neg=true then [45] else [])++gx M k)=some (m',k',neg)/\scW m' k'=scW M k:=by
 obtain ⟨c,r,e1,e2,e3,e4,e5⟩:=km M;have OZ:=e3 h1;have ZH:=iz 14 M h2;have aN:=Lib.lt_pow_nDigits M;have OB:=q9 M;have Wr:=rf M;have hlen:=Lib.decDigits_length M;have xd:=Lib.nDigits_pos M;obtain ⟨n,hn⟩:=ex (Lib.nDigits M);rw[<-hn]at ZH aN hlen xd e5;have key:∃d t,gx M k=d++46::t/\bY d=true/\∃m' k',(∀l,bn l=(d++46::t,neg)->kx l=some (m',k',neg))/\scW m' k'=scW M k:=by
  unfold gx;rw[<-hn];by_cases h0:0<=k
  ·rw[if_pos h0];by_cases hs:(n:Int)+k+1<=15
   ·rw[if_pos hs];refine ⟨Lib.decDigits M++List.replicate k.toNat 48,[48],by simp,?_,M*10 ^ (k.toNat+1),-1,?_,?_⟩
    ·unfold bY ky;rw[List.all_append,Wr,kD,e1];simp[OZ]
    ·intro l hl;have hw:bY (Lib.decDigits M++List.replicate k.toNat 48)=true:=by
      unfold bY ky;rw[List.all_append,Wr,kD,e1];simp[OZ]
     rw[Bh hl hw (by decide) (by decide)];refine vw ?_ ?_ (by decide) (by decide) (by decide) (by decide)
     ·show numN (Lib.decDigits M++List.replicate k.toNat 48++[48])=_
      rw[nz,nz,OB,qA,List.length_replicate,Nat.pow_succ]
      show (M*10 ^ k.toNat+0)*10 ^ 1+0=_
      rw[Nat.add_zero,Nat.add_zero,Nat.pow_one,Nat.mul_assoc]
     ·have q:M*10 ^ (k.toNat+1)<10 ^ n*10 ^ (k.toNat+1):=Nat.mul_lt_mul_of_pos_right aN (Nat.pow_pos (by decide));rw[<-Nat.pow_add]at q;exact Nat.lt_of_lt_of_le q (Nat.pow_le_pow_right (by decide) (show n+(k.toNat+1)<=15 by omega))
    ·have q:M*10 ^ (k.toNat+1)<10 ^ n*10 ^ (k.toNat+1):=Nat.mul_lt_mul_of_pos_right aN (Nat.pow_pos (by decide));rw[<-Nat.pow_add]at q;have q2:=Nat.lt_of_lt_of_le q (Nat.pow_le_pow_right (by decide) (show n+(k.toNat+1)<=15 by omega));rw[Rn h1 (by decide) (k.toNat+1) q2 (by omega)];congr 1;omega
   ·rw[if_neg hs,e1];have hp:(k+(n:Int)-1).toNat<100:=by omega
    have Zz:=JM hp;have hw:bY [c]=true:=by
     unfold bY ky;simp[e2]
    by_cases oB:n=1
    ·rw[if_pos oB];have hr:r=[]:=List.eq_nil_of_length_eq_zero (by omega);subst hr;rw[e1]at OB;refine ⟨[c],[48]++101::Lib.decDigits (k+(n:Int)-1).toNat,by simp,hw,M*10,k-1,?_,?_⟩
     ·intro l hl;have ht:=yu (b:=[48]) (by decide) (Lib.decDigits (k+(n:Int)-1).toNat);rw[Bg hl hw (by rw[ht];decide) (by rw[ht]),ht,Zz];refine vw ?_ ?_ (by decide) ?_ (by omega) (by omega)
      ·rw[nz,OB];rfl
      ·have:n<=1:=by omega
       have:10 ^ n<=10 ^ 1:=Nat.pow_le_pow_right (by decide) this;omega
      ·show ((k+(n:Int)-1).toNat:Int)-1=_
       omega
     ·have:n<=1:=by omega
      have:10 ^ n<=10 ^ 1:=Nat.pow_le_pow_right (by decide) this;rw[Ev h1 (by omega) (by omega) (by omega)];congr 1;omega
    ·rw[if_neg oB];refine ⟨[c],r++101::Lib.decDigits (k+(n:Int)-1).toNat,by simp,hw,M,k,?_,rfl⟩;intro l hl;have ht:=yu (b:=r) e4 (Lib.decDigits (k+(n:Int)-1).toNat);rw[Bg hl hw (by rw[ht];omega) (by rw[ht]),ht,Zz];refine vw ?_ h2 (by omega) ?_ eP eZ
     ·show numN (c::r)=_
      rw[<-e1,OB]
     ·have:r.length=n-1:=by omega
      rw[this];omega
  ·rw[if_neg h0];obtain ⟨z,hz⟩:∃z,z=(1-k-(n:Int)).toNat:=⟨_,rfl⟩;rw[<-hz];obtain ⟨q,hq⟩:∃q,q=(max (1-k) (n:Int)+k).toNat:=⟨_,rfl⟩;rw[<-hq];have Ud:(List.replicate z (48:UInt8)++Lib.decDigits M).length=z+n:=by
    rw[aBj,List.length_replicate,hlen]
   have hSnum:numN (List.replicate z (48:UInt8)++Lib.decDigits M)=M:=by
    rw[nz,qA,OB,Nat.zero_mul,Nat.zero_add]
   have Is:(List.replicate z (48:UInt8)++Lib.decDigits M).all isD=true:=by
    rw[List.all_append,kD,Wr];rfl
   have WJ:z=0->(List.replicate z (48:UInt8)++Lib.decDigits M).head? ≠some 48:=by
    intro qL;rw[qL,e1];simp[OZ]
   generalize List.replicate z (48:UInt8)++Lib.decDigits M=S at*;have hq1:1<=q:=by omega
   have hqz:q<=z+n:=by omega
   have gv:(S.drop q).length=(-k).toNat:=by rw[List.length_drop,Ud];omega
   have AT:(S.take q).length=q:=by rw[List.length_take,Ud];omega
   have hda:(S.take q).all isD=true:=by
    rw[List.all_eq_true]at Is |-;exact fun x hx=>Is x (List.mem_of_mem_take hx)
   have C5:(S.drop q).all isD=true:=by
    rw[List.all_eq_true]at Is |-;exact fun x hx=>Is x (List.mem_of_mem_drop hx)
   have hw:bY (S.take q)=true:=by
    unfold bY;rw[vB hda (by omega),Bool.true_and];by_cases qL:z=0
    ·have:(S.take q).head? =S.head? :=by
      cases S with
      |nil=>simp
      |cons a b=>
       rw[show q=(q-1)+1 by omega,List.take_succ_cons];rfl
     rw[this];simp[WJ qL]
    ·have:(S.take q).length=1:=by omega
     simp[this]
   refine ⟨S.take q,S.drop q,by simp,hw,M,k,?_,rfl⟩;intro l hl;have ht:=kz C5;rw[Bh hl hw (by rw[ht];omega) (by rw[ht]),ht];refine vw ?_ h2 (by omega) (by omega) eP eZ;rw[List.take_append_drop,hSnum]
 obtain ⟨d,t,k1,k2,m',k',k3,k4⟩:=key;have hdne:=IN (mY k2);have OX:=iq k2;cases hd:d with
 |nil=>exact absurd hd hdne
 |cons a b=>
  have ha:isD a=true:=by
   rw[hd]at OX;simp only[List.all_cons,Bool.and_eq_true]at OX;exact OX.1
  have hR:gx M k=a::(b++46::t):=by rw[k1,hd];rfl
  have hm:=mc neg hR ha;refine ⟨⟨a,_,ha,hR⟩,?_,m',k',k3 _ (by rw[hm,k1]),k4⟩;refine sG hm ?_;rw[k1];cases hw:bY (d++46::t) with
  |false=>rfl
  |true=>
   have:=iq hw;rw[List.all_append,List.all_cons]at this;simp[isD]at this
theorem yX (x:Nat):mL (mL x)=x:=by
 show (x ^^^ 2 ^ 63) ^^^ 2 ^ 63=x
 rw[Nat.xor_assoc,Nat.xor_self,Nat.xor_zero]
theorem P8 (x:Nat):x=if decide (9223372036854775808<=x)=true then mL (mq x) else mq x:=by
 unfold mq;by_cases h:9223372036854775808<=x
 ·rw[dT h,if_pos rfl,if_pos h,yX]
 ·rw[dF h,if_neg (by simp),if_neg h]
theorem vQ (x:Nat):ng x=if decide (9223372036854775808<=x)=true then [45] else []:=by
 unfold ng;by_cases h:9223372036854775808<=x
 ·rw[if_pos h,dT h,if_pos rfl]
 ·rw[if_neg h,dF h,if_neg (by simp)]
def Bm (x:Nat):Nat:=if INF<mq x then Ff else x
theorem RR:mL INF=wD:=by decide+kernel
theorem Cj {x:Nat} {l:List UInt8} (h:o8 x l 0) {s:ByteArray} (hs:s.data.toList=l):aZ s false=⟨4,false,0,Bm x,⟨#[]⟩⟩:=by
 have hx:=P8 x;unfold Bm;rcases h with ⟨h1,h2,h3⟩|⟨h1,h2,h3⟩|⟨h1,h2,h3⟩|⟨h1,h2,M,k,e,hd,h3⟩
 ·rw[if_pos h1];unfold aZ;rw[hs,h2];simp
 ·rw[if_neg (by rw[h1];exact Nat.lt_irrefl _)];rw[h1]at hx;rw[vQ]at h2;unfold aZ;rw[hs,h2];cases hb:decide (9223372036854775808<=x) with
  |true=>
   rw[hb,if_pos rfl,RR]at hx;rw[hx];simp
  |false=>
   rw[hb,if_neg (by simp)]at hx;rw[hx];simp[Fy]
 ·rw[if_neg (by rw[h1];exact Nat.not_lt.2 (Nat.zero_le _))];rw[h1]at hx;rw[vQ]at h2;have hw:=wC (s:=s) (c:=48) (r:=[46,48]) (decide (9223372036854775808<=x)) (by decide) (by rw[hs,h2]);rw[hw];unfold kC;rw[hs,h2];cases hb:decide (9223372036854775808<=x) with
  |true=>
   rw[hb,if_pos rfl]at hx;have e1:nF ((if true=true then [45] else [])++[48,46,48])=none:=by decide+kernel
   have e2:kx ((if true=true then [45] else [])++[48,46,48])=some (0,-1,true):=by decide+kernel
   have e3:scW 0 (-1)=0:=by decide+kernel
   rw[e1,e2];simp only[e3];rw[if_pos trivial,<-hx]
  |false=>
   rw[hb,if_neg (by simp)]at hx;have e1:nF ((if false=true then [45] else [])++[48,46,48])=none:=by decide+kernel
   have e2:kx ((if false=true then [45] else [])++[48,46,48])=some (0,-1,false):=by decide+kernel
   have e3:scW 0 (-1)=0:=by decide+kernel
   rw[e1,e2];simp only[e3];rw[if_neg (by simp),<-hx]
 ·rcases h3 with ⟨_,_,h4⟩|⟨he,h2l,_⟩
  ·cases h4
  ·subst he;rcases hd with ⟨_,k1,k2,qN,lG⟩|⟨h4,_⟩
   ·rw[if_neg (by omega)];rw[vQ]at h2l;obtain ⟨⟨c,r,hc,hr⟩,r1,m',k',r2,r3⟩:=wg qN.1 qN.2.1 k1 k2 (decide (9223372036854775808<=x));have hw:=wC (s:=s) (c:=c) (r:=r) (decide (9223372036854775808<=x)) hc (by rw[hs,h2l,hr]);have hy:scW m' k'=mq x:=by rw[r3];exact Qq qN.2.2
    rw[hw];unfold kC;rw[hs,h2l,r1,r2];dsimp only;rw[hy,<-hx]
   ·cases h4
theorem yY:∀{l:List UInt8},l.all bB=true->cZ l=l.length
 |[],_=>rfl
 |c::r,h=>by
  simp only[List.all_cons,Bool.and_eq_true]at h;rw[wI h.1,yY h.2,aBk]
theorem IG:∀{l:List UInt8},(∀c∈l,c.toNat≠32)->aS l=l
 |[],_=>rfl
 |c::r,h=>by
  unfold aS;rw[if_neg (fun q=>h c (List.mem_cons_self ..) q.1),IG fun d hd=>h d (List.mem_cons_of_mem _ hd)]
theorem yC:∀{l:List UInt8},(∀c∈l,c.toNat≠32)->aQ l=l
 |[],_=>rfl
 |c::r,h=>by
  unfold aQ;rw[if_neg (fun q=>h c (List.mem_cons_self ..) q.2),yC fun d hd=>h d (List.mem_cons_of_mem _ hd)]
theorem xB:∀{l:List UInt8},(∀c∈l,c.toNat≠58)->mm l=false
 |[],_=>rfl
 |[c],h=>dF (h c (List.mem_cons_self ..))
 |c::d::r,h=>by
  unfold mm;rw[dF (fun q=>h c (List.mem_cons_self ..) q.1),xB fun x hx=>h x (List.mem_cons_of_mem _ hx)];rfl
theorem EW {l:List UInt8} {c:UInt8} {r:List UInt8} (hl:l=c::r) (hc:isD c=true) (ha:l.all bB=true):ey l=true:=by
 have hd:48<=c.toNat/\c.toNat<=57:=by simpa[isD] using hc
 have hn:∀x∈l,bB x=true:=List.all_eq_true.1 ha;have hx:∀x∈l,∀n,n=34\/n=39\/n=35\/n=32\/n=10\/n<32\/n=127->x.toNat≠n:=fun x hx n q=>j5 (hn x hx) n q;have C9:∀x∈l,x.toNat≠58:=fun x hx e=>by
  have:=hn x hx;unfold bB at this;rw[decide_eq_true_iff]at this;omega
 have s0:dJ l=0:=yD fun x q=>⟨by
  rcases Nat.lt_or_ge x.toNat 32 with g|g
  ·exact absurd rfl (hx x q x.toNat (by omega))
  ·exact g,hx x q 127 (by omega)⟩
 have m0:fW l=false:=by
  rw[hl];unfold fW
  split
  ·rename_i a b d e q
   injection q with q
   rw[dF (fun g=>by rw[<-q]at g;omega)];rfl
  ·rfl
 have k0:aP l=0:=by rw[hl];exact fH (by omega)
 have d0:eB l=false:=by
  rw[hl];unfold eB
  split
  ·rfl
  ·rename_i x q;injection q with q;exact dF (by rw[<-q];omega)
  ·rename_i x y z q;injection q with q;exact dF (fun g=>by rw[<-q]at g;omega)
 have o0:bW l=false:=by rw[hl];exact dF (by omega)
 have q0:eY l=false:=by rw[hl];exact dF (by omega)
 have b0:Lm l=false:=by
  rw[hl]
  show rA c=false
  have key:∀n<256,48<=n->n<=57->rA (UInt8.ofNat n)=false:=by decide+kernel
  have:=key c.toNat c.toNat_lt hd.1 hd.2
  rwa [UInt8.ofNat_toNat]at this
 have i0:cB l (l.length+1) 0=([],0):=by
  unfold cB;rw[List.drop_zero,if_neg (fun q=>by rw[d0]at q;exact absurd q.2 (by decide))]
 have y0:pE l= .ok none:=by
  unfold pE;rw[if_neg (by rw[q0];decide),yY ha,List.drop_length,if_neg (fun q=>absurd q.2.2 (by decide))]
 have p0:fJ l=some l:=by
  have e:aQ (aS l)=l:=by rw[IG fun x q=>hx x q 32 (by omega),yC fun x q=>hx x q 32 (by omega)]
  unfold fJ;rw[b0,d0,e,xB C9,if_neg (by simp),if_neg (by
   rintro (q|q)
   ·cases q
   ·rw[hl]at q;injection q with q;rw[q]at hd;exact absurd hd (by decide))]
 have e0:ig l= .ok (some (l,false)):=by
  unfold ig;rw[if_neg (by rw[o0];decide),if_neg (by rw[q0];decide),p0]
 have r0:cM l 1= .ok [⟨4,1,0,l,false⟩]:=by
  unfold cM;rw[s0,if_neg (by decide),if_neg (by rw[m0];decide),k0,i0];unfold eR;rw[List.drop_zero,if_neg (by rw[o0];decide),y0];unfold dN;rw[List.drop_zero,e0];rfl
 unfold ey;rw[r0];simp
theorem Ob {c:UInt8} (h:isD c=true):bB c=true:=by
 unfold isD at h;unfold bB;simp only[Bool.and_eq_true,decide_eq_true_eq]at h;exact dT (by omega)
theorem td {l:List UInt8} (h:l.all isD=true):l.all bB=true:=by
 rw[List.all_eq_true]at h |-;exact fun x hx=>Ob (h x hx)
theorem EI (M:Nat) (k:Int):(gx M k).all bB=true:=by
 have h1:=td (rf M);have h2:∀j,(List.replicate j (48:UInt8)).all bB=true:=fun j=>td (kD j);have h3:∀(n:Nat) (l:List UInt8),l.all bB=true->(l.take n).all bB=true:=fun n l h=>by
  rw[List.all_eq_true]at h |-;exact fun x hx=>h x (List.mem_of_mem_take hx)
 have h4:∀(n:Nat) (l:List UInt8),l.all bB=true->(l.drop n).all bB=true:=fun n l h=>by
  rw[List.all_eq_true]at h |-;exact fun x hx=>h x (List.mem_of_mem_drop hx)
 have h5:=fun p=>td (rf p);have c1:bB 46=true:=by decide
 have c2:bB 48=true:=by decide
 have c3:bB 101=true:=by decide
 unfold gx
 repeat' split
 ·simp[h1,h2,c1,c2]
 ·simp only[List.all_append,List.all_cons,List.all_nil,h3 _ _ h1,h5,c1,c2,c3,Bool.and_true]
 ·simp only[List.all_append,List.all_cons,List.all_nil,h3 _ _ h1,h4 _ _ h1,h5,c1,c3,Bool.and_true]
 ·have hs:(List.replicate (1-k-(Lib.nDigits M:Int)).toNat (48:UInt8)++Lib.decDigits M).all bB=true:=by rw[List.all_append,h2,h1];rfl
  simp only[List.all_append,List.all_cons,List.all_nil,h3 _ _ hs,h4 _ _ hs,c1,Bool.and_true]
theorem E3 {a b:Nat} (ha:a<INF) (hb:b<INF) (h:(FloatKind.f64.format.order a b==some .eq)=true):a=b:=by
 rw[xn ha hb]at h;exact Qq (of_decide_eq_true h)
theorem p8:∀n:Nat,n<101->ey (Lib.itoa (n:Int))=true/\p9 (floatOfInt .f64 (n:Int))=some n/\floatOfInt .f64 (n:Int)<INF:=by decide+kernel
theorem EJ {n:Nat} (hn:n<101) {s:ByteArray} (hs:s.data.toList=Lib.itoa (n:Int)):bD (jq aR s)= .ok (floatOfInt .f64 (n:Int)):=by
 obtain ⟨b,c,r,hc,hr⟩:=Ks (n:Int);have h1:aZ s false=⟨3,false,(n:Int),0,⟨#[]⟩⟩:=by
  rw[wC b hc (by rw[hs,hr])];unfold kC;rw[hs,Kv (by omega) (by omega)]
 have e1:aZ s (!true)=⟨3,false,(n:Int),0,⟨#[]⟩⟩:=h1;unfold bD jq;dsimp only;rw[hs,(p8 n hn).1,e1,if_neg (fun q=>q rfl)];dsimp only;rw[if_pos rfl,if_neg (show ¬((n:Int)<0\/100<(n:Int)) by omega)]
theorem NV {P:Nat->Prop}:∀(n:Nat),P n->∃m,P m/\∀j,j<m->¬P j:=fun n=>by
 induction n using Nat.strongRecOn with
 |ind n ih=>
  intro h;by_cases q:∃j,j<n/\P j
  ·obtain ⟨j,a,b⟩:=q;exact ih j a b
  ·exact ⟨n,h,fun j hj hp=>q ⟨j,hj,hp⟩⟩
theorem Xc {x m:Nat} {k:Int} (h1: -22<=k) (h2:k<=22) (h:Sol x k m):∃M K,Dec x M K 0:=by
 obtain ⟨j,⟨M,hM⟩,hj⟩:=NV (P:=fun j:Nat=>∃M,Sol x (22-(j:Int)) M) (22-k).toNat ⟨m,by rw[show 22-(((22-k).toNat:Nat):Int)=k by omega];exact h⟩;have OO:j<=(22-k).toNat:=Nat.le_of_not_lt fun q=>hj _ q ⟨m,by rw[show 22-(((22-k).toNat:Nat):Int)=k by omega];exact h⟩;refine ⟨M,22-(j:Int),.inl ⟨rfl,by omega,by omega,hM,fun k' a b M' q=>hj (22-k').toNat (by omega) ⟨M',by rw[show 22-(((22-k').toNat:Nat):Int)=k' by omega];exact q⟩⟩⟩
theorem yQ {s:ByteArray} {q:Bool} (hk:(aZ s q).kind=4) (hc:mR (aZ s q).real=true):∃m k b,¬Bad m k/\(aZ s q).real=(if b=true then mL (scW m k) else scW m k):=by
 have zn:(kC s).kind=4->∃m k b,¬Bad m k/\(kC s).real=(if b=true then mL (scW m k) else scW m k):=by
  unfold kC
  split
  ·intro h;cases h
  ·split
   ·rename_i m k b hd
    refine fun _=>⟨m,k,b,?_,rfl⟩;unfold kx at hd;dsimp only at hd
    split at hd
    ·split at hd
     ·split at hd
      ·rename_i hc
       simp only[Option.some.injEq,Prod.mk.injEq]at hd;obtain ⟨rfl,rfl,rfl⟩:=hd;exact hc.2.2
      ·cases hd
     ·cases hd
    ·cases hd
   ·intro h;cases h
 have z1:mR Ff=false:=by decide+kernel
 have z2:mR Fy=false:=by decide+kernel
 have z3:mR wD=false:=by decide+kernel
 unfold aZ at hk hc |-
 repeat' split at hk
 all_goals first
  |exact zn hk
  |(exact absurd hk (by decide))
  |skip
 all_goals simp_all
theorem yG {k:Int} (h1: -22<=k) (h2:k<=22):scW 0 k=0:=by
 have key:∀j:Nat,j<45->scW 0 ((j:Int)-22)=0:=by decide+kernel
 have:=key (k+22).toNat (by omega);rw[show (((k+22).toNat:Nat):Int)-22=k by omega]at this;exact this
theorem GX {y:Nat} (h:y<9223372036854775808):mL y=9223372036854775808+y:=by
 have h2:=Au (x:=9223372036854775808+y) (by omega) (by omega);rw[Nat.add_sub_cancel_left]at h2;have h3:=congrArg mL h2;rw[yX]at h3;exact h3.symm
theorem GO {s:ByteArray} {q:Bool} (hk:(aZ s q).kind=4) (hc:mR (aZ s q).real=true):(aZ s q).real<18446744073709551616:=by
 obtain ⟨m,k,b,_,hr⟩:=yQ hk hc;rw[hr]
 split
 ·by_cases q:scW m k<9223372036854775808
  ·rw[GX q];omega
  ·have:=Ey m k;rw[Au (by omega) this];omega
 ·exact Ey m k
theorem ph {x n:Nat} (hn:n<101) (hx:floatOfInt .f64 (n:Int)=x):bD (jq aR (wtF x))= .ok x:=by
 subst hx;have hs:(⟨(Lib.itoa (n:Int)).toArray⟩:ByteArray).data.toList=Lib.itoa (n:Int):=rfl;rw[zP (s:=⟨(Lib.itoa (n:Int)).toArray⟩) (by unfold WT;rw[(p8 n hn).2.1])];exact EJ hn hs
theorem BN {nd:Nd} {x:Nat} (h:bD nd= .ok x):bD (jq aR (wtF x))= .ok x:=by
 unfold bD at h
 split at h
 ·cases h
 split at h
 ·split at h
  ·cases h
  ·rename_i hb
   injection h with h
   obtain ⟨n,hn⟩:∃n:Nat,(aZ nd.text nd.quoted).int=(n:Int):=⟨(aZ nd.text nd.quoted).int.toNat,by omega⟩;rw[hn]at h hb;exact ph (by omega) h
 split at h
 ·rename_i hk
  split at h
  ·rename_i hc
   injection h with h
   obtain ⟨m,k,b,fq,hr⟩:=yQ hk hc;have aN:=GO hk hc;generalize (aZ nd.text nd.quoted).real=z at*;by_cases hz:(FloatKind.f64.format.order z 0==some .eq)=true
   ·unfold eF at h;rw[if_pos hz]at h;exact ph (n:=0) (by decide) (by rw[<-h];decide+kernel)
   ·have hf:=rp aN hc;have e:eF z=z:=by unfold eF;rw[if_neg hz]
    rw[e]at h hf;subst h;unfold Bad at fq;have qL:z≠0:=fun q=>hz (by rw[q];decide+kernel);have hINF:z<9223372036854775808:=by unfold INF at hf;omega
    have xR:z=scW m k:=by
     cases b with
     |false=>exact hr
     |true=>
      rw[if_pos rfl]at hr
      exfalso
      by_cases q:scW m k<9223372036854775808
      ·rw[GX q]at hr;omega
      ·by_cases m0:m=0
       ·rw[m0,yG (by omega) (by omega)]at q;omega
       ·have:=(oo rfl (show 1<=m by omega) (by omega) (by omega) (by omega) (k:=k)).1;unfold INF at this;omega
    have kZ:1<=m:=by
     rcases Nat.eq_zero_or_pos m with q|q
     ·rw[q,yG (by omega) (by omega)]at xR;exact absurd xR qL
     ·exact q
    cases hw:p9 z with
    |some n=>
     unfold p9 at hw;rw[if_pos hc]at hw;obtain ⟨i,hi,hfi⟩:=xE aN hc;rw[hfi]at hw;simp only at hw
     split at hw
     ·rename_i ho
      injection hw with hw
      rw[Int.toNat_natCast]at hw;subst hw;exact ph (by omega) (E3 (p8 i (by omega)).2.2 hf ho)
     ·cases hw
    |none=>
     obtain ⟨M,K,hD⟩:=Xc (x:=z) (show -22<=k by omega) (by omega) ⟨kZ,by omega,by rw[xR]⟩;have ha:mq z=z:=by unfold mq;rw[if_neg (by omega)]
     have hS:o8 z (gx M K) 0:= .inr (.inr (.inr ⟨by rw[ha];exact hf,by rw[ha];omega,M,K,0,by rw[ha];exact hD,.inr ⟨rfl,by unfold ng;rw[if_neg (by omega)];rfl,rfl⟩⟩));have hs:(⟨(gx M K).toArray⟩:ByteArray).data.toList=gx M K:=rfl;rw[zP (s:=⟨(gx M K).toArray⟩) (by unfold WT;rw[hw];exact ⟨0,hS⟩)];have Zw:=Cj hS hs;rcases hD with ⟨_,d1,d2,d3,_⟩|⟨d0,_⟩
     ·obtain ⟨c,r,hc1,mT⟩:=(wg d3.1 d3.2.1 d1 d2 false).1;have hp:=EW mT hc1 (EI M K);have hcr:Bm z=z:=by unfold Bm;rw[if_neg (by rw[ha];omega)]
      have e1:aZ ⟨(gx M K).toArray⟩ (!true)=⟨4,false,0,z,⟨#[]⟩⟩:=by rw[show (!true)=false from rfl,Zw,hcr]
      unfold bD jq;dsimp only;rw[hp,e1,if_neg (fun q=>q rfl)];dsimp only;rw[if_neg (by decide:¬(4:Int)=3),if_pos rfl,if_pos hc,e]
     ·cases d0
  ·cases h
 ·cases h
