/-
Parts of a proof.
-/
import Derived.WalkKit
import Derived.Lib.Hide
import Derived.Laws.FloatArith
import Derived.WalkLawsBesides
set_option linter.unusedVariables false
set_option linter.unusedSimpArgs false
namespace Go.Proofs.YtfenoaeoedobmaaGreatDoor
open Go Go.RowKit
theorem aAa (n : Nat) : n ≤ n := Nat.le_refl n
theorem aAb (B : Nat) (w : World) : Below B w w := Below.refl B w
theorem aAc {α : Type} {l m : List α} : (l ++ m).length = l.length + m.length := List.length_append
theorem aAd {α : Type} {a : α} {l : List α} : (a :: l).length = l.length + 1 := List.length_cons
theorem aAe {a b c : Nat} (h : a ≤ b) (k : b ≤ c) : a ≤ c := Nat.le_trans h k
theorem aAf {α : Type} {a b : α} (h : some a = some b) : a = b := Option.some.inj h
theorem aAg {α : Type} {l : List α} {i : Nat} (h : i < l.length) : l[i]? = some l[i] := List.getElem?_eq_getElem h
theorem aAh {α : Type} {l : List α} {i : Nat} {a : α} (h : l[i]? = some a) : ∃ h : i < l.length, l[i] = a := List.getElem?_eq_some_iff.1 h
theorem hid {p : Prop} (h : p) : Hid p := Lib.hid h
theorem _root_.Go.RowKit.Hid.o {p : Prop} (h : Hid p) : p := h
theorem ex {α : Sort _} (a : α) : ∃ x, x = a := ⟨a, rfl⟩
theorem bF {α : Type} [BEq α] [LawfulBEq α] {a b : α} (h : a ≠ b) : (a == b) = false := beq_eq_false_iff_ne.2 h
theorem dF {p : Prop} [Decidable p] (h : ¬ p) : decide p = false := decide_eq_false h
theorem dT {p : Prop} [Decidable p] (h : p) : decide p = true := decide_eq_true h
theorem cS {P : Program} {f : FuncId} {args : Array Value} {w : World} {v : Ending} {Q : Ending -> World -> Prop} (h : Calls P f args w fun e w' => e = v /\ w' = w) (hq : Q v w) : Calls P f args w Q := h.mono fun _ _ ⟨a, b⟩ => by rw [a, b]; exact hq
theorem sA {α : Type} (l : List α) (i : Nat) (x : α) : l.toArray.setIfInBounds i x = (l.set i x).toArray := List.setIfInBounds_toArray ..
theorem sZ {α : Type} (l : List α) (a x : α) : (a :: l).set 0 x = x :: l := rfl
theorem sS {α : Type} (l : List α) (a x : α) (n : Nat) : (a :: l).set (n + 1) x = a :: l.set n x := rfl
end Go.Proofs.YtfenoaeoedobmaaGreatDoor
namespace Go.Proofs.YtfenoaeoedobmaaGreatDoor
open Go Ieee
def FV (r:Nat):Nat:=if r<4503599627370496 then r else (4503599627370496+r % 4503599627370496)*2 ^ (r / 4503599627370496-1)
abbrev INF:Nat:=9218868437227405312
theorem sn:double.signWeight=9223372036854775808:=by decide+kernel
theorem pD:double.binade=4503599627370496:=by decide+kernel
theorem ko:double.infRung=INF:=by decide+kernel
theorem ja:double.leastPlace= -1074:=by decide+kernel
theorem xm:double.fractionBits=52:=rfl
theorem dJ (r:Nat) (h:r<INF):∃mag up:Nat,double.read r= .number false mag ((up:Int)-1074)/\FV r=mag*2 ^ up:=by
 unfold INF at h;have h1:(r / 9223372036854775808 % 2==1)=false:=by
  have:r / 9223372036854775808=0:=Nat.div_eq_of_lt (by omega);rw[this];rfl
 have h2:r % 9223372036854775808=r:=Nat.mod_eq_of_lt (by omega);unfold Format.read FV;simp only[sn,pD,ko,ja,h1,h2,INF];by_cases hb:r<4503599627370496
 ·rw[if_pos hb,if_pos hb];exact ⟨r,0,by simp,by simp⟩
 ·rw[if_neg hb,if_neg hb,if_pos h];exact ⟨_,r / 4503599627370496-1,by simp only[Datum.number.injEq,true_and];omega,rfl⟩
theorem tF:double.read INF= .infinity false:=by decide+kernel
theorem dy (r:Nat):double.word false r=r:=by
 unfold Format.word;rw[if_neg (by decide)]
theorem IA (y z c d:Nat) (h:2*c=d):2*y*c*z=y*z*d:=by
 subst h;simp only[Nat.mul_assoc,Nat.mul_comm,Nat.mul_left_comm]
theorem GD (L kept:Nat) (h1:4503599627370496<=kept) (h2:kept<=9007199254740992):FV (L*4503599627370496+kept)=kept*2 ^ L:=by
 unfold FV;rw[if_neg (by omega)];by_cases h:kept=9007199254740992
 ·subst h;have e1:(L*4503599627370496+9007199254740992) % 4503599627370496=0:=by omega
  have e2:(L*4503599627370496+9007199254740992) / 4503599627370496-1=L+1:=by omega
  rw[e1,e2,Nat.pow_succ];omega
 ·have e1:(L*4503599627370496+kept) % 4503599627370496=kept-4503599627370496:=by omega
  have e2:(L*4503599627370496+kept) / 4503599627370496-1=L:=by omega
  rw[e1,e2];have e3:4503599627370496+(kept-4503599627370496)=kept:=by omega
  rw[e3]
theorem cg {a b c:Nat} (h:a+b=c):2 ^ a*2 ^ b=2 ^ c:=by rw[<-h,Nat.pow_add]
theorem lq {a b:Nat} (h:2 ^ a<2 ^ b):a<b:=(Nat.pow_lt_pow_iff_right (by decide:1<2)).1 h
theorem pt (n d:Nat) (hd:d<=n.log2+2):2*(Toward.even.cut false n d*2 ^ d)<=2*n+2 ^ d/\2*n<=2*(Toward.even.cut false n d*2 ^ d)+2 ^ d:=by
 have hmin:min d (n.log2+2)=d:=Nat.min_eq_left hd;unfold Toward.cut;simp only[hmin,Nat.one_shiftLeft];have hg:0<2 ^ d:=Nat.two_pow_pos _;generalize 2 ^ d=g at*;have h1:=Nat.div_add_mod n g;have h2:=Nat.mod_lt n hg;generalize n / g=q at*;generalize n % g=s at*;have e:∀b:Bool,(q+b.toNat)*g=g*q+b.toNat*g:=fun b=>by rw[Nat.add_mul,Nat.mul_comm q g]
 rw[e];by_cases hlt:g<2*s
 ·have:(decide (g<2*s)||(g==2*s&&q % 2==1))=true:=by simp[hlt]
  rw[this];simp only[Bool.toNat_true];omega
 ·by_cases heq:g=2*s
  ·cases hb:(decide (g<2*s)||(g==2*s&&q % 2==1)) with
   |true=>simp only[Bool.toNat_true];omega
   |false=>simp only[Bool.toNat_false];omega
  ·have:(decide (g<2*s)||(g==2*s&&q % 2==1))=false:=by simp[hlt,heq]
   rw[this];simp only[Bool.toNat_false];omega
theorem km (n:Nat):Toward.even.cut false n 0=n:=by
 have:=pt n 0 (by omega);simp at this;omega
theorem iY (mag:Nat) (place:Int) (T P:Nat) (hP:place=(P:Int)-T) (hT:1074<=T) (lo:2 ^ (T-1022)<=mag*2 ^ P) (hi:mag*2 ^ P<2 ^ (T+1023)):
 double.nearest false mag place<INF/\FV (double.nearest false mag place)*2 ^ (T-1074)*9007199254740992<=mag*2 ^ P*9007199254740993/\
  mag*2 ^ P*9007199254740991<=FV (double.nearest false mag place)*2 ^ (T-1074)*9007199254740992/\
  (mag<9007199254740992->FV (double.nearest false mag place)*2 ^ (T-1074)=mag*2 ^ P):=by
 have hm:mag≠0:=by
  rintro rfl;have:=Nat.two_pow_pos (T-1022);omega
 obtain ⟨g,hgd⟩:=ex (mag.log2);have hg1:2 ^ g<=mag:=by rw[hgd];exact Nat.log2_self_le hm
 have hg2:mag<2 ^ (g+1):=by rw[hgd];exact Nat.lt_log2_self
 have hPpos:0<2 ^ P:=Nat.two_pow_pos _;have ea:T-1022<g+1+P:=lq (Nat.lt_of_le_of_lt lo (by rw[Nat.pow_add];exact Nat.mul_lt_mul_of_pos_right hg2 hPpos));have eb:g+P<T+1023:=lq (Nat.lt_of_le_of_lt (by rw[Nat.pow_add];exact Nat.mul_le_mul_right _ hg1) hi);have hlast:max (place+(mag.log2:Int)-(double.fractionBits:Int)) double.leastPlace=(P:Int)-T+g-52:=by
  rw[xm,ja,<-hgd,hP];omega
 obtain ⟨L,hL⟩:=ex (P+g+1022-T);have hLz:((P:Int)-T+g-52-double.leastPlace).toNat=L:=by rw[ja];omega
 have key:∃kept,4503599627370496<=kept/\kept<=9007199254740992/\double.nearest false mag place=L*4503599627370496+kept/\
  kept*2 ^ (P+g-52)*9007199254740992<=mag*2 ^ P*9007199254740993/\mag*2 ^ P*9007199254740991<=kept*2 ^ (P+g-52)*9007199254740992/\(mag<9007199254740992->kept*2 ^ (P+g-52)=mag*2 ^ P):=by
  have hnear:∀kept,Toward.even.cut false (mag <<< (place-((P:Int)-T+g-52)).toNat) (((P:Int)-T+g-52)-place).toNat=kept->kept<=9007199254740992->double.nearest false mag place=L*4503599627370496+kept:=by
   intro kept hk hk2;unfold Format.nearest;rw[if_neg hm];dsimp only;rw[hlast,hLz,hk,pD,ko,dy];exact Nat.min_eq_left (by unfold INF;omega)
  by_cases hg:g<=52
  ·have s1:(place-((P:Int)-T+g-52)).toNat=52-g:=by omega
   have s2:(((P:Int)-T+g-52)-place).toNat=0:=by omega
   have hkept:Toward.even.cut false (mag <<< (52-g)) 0=mag*2 ^ (52-g):=by rw[km,Nat.shiftLeft_eq]
   have k1:4503599627370496<=mag*2 ^ (52-g):=by
    have:2 ^ g*2 ^ (52-g)=2 ^ 52:=cg (by omega);have h:=Nat.mul_le_mul_right (2 ^ (52-g)) hg1;omega
   have k2:mag*2 ^ (52-g)<=9007199254740992:=by
    have:2 ^ (g+1)*2 ^ (52-g)=2 ^ 53:=cg (by omega);have h:=Nat.mul_le_mul_right (2 ^ (52-g)) (Nat.le_of_lt hg2);omega
   have k3:mag*2 ^ (52-g)*2 ^ (P+g-52)=mag*2 ^ P:=by
    rw[Nat.mul_assoc,cg (show 52-g+(P+g-52)=P by omega)]
   refine ⟨_,k1,k2,hnear _ (by rw[s1,s2];exact hkept) k2,?_,?_,fun _=>k3⟩<;>rw[k3]<;>omega
  ·have s1:(place-((P:Int)-T+g-52)).toNat=0:=by omega
   have s2:(((P:Int)-T+g-52)-place).toNat=g-52:=by omega
   obtain ⟨c1,c2⟩:=pt mag (g-52) (by omega);generalize hk:Toward.even.cut false mag (g-52)=kept at c1 c2;have hd:0<2 ^ (g-52):=Nat.two_pow_pos _;have e1:2 ^ (g-52)*4503599627370496=2 ^ g:=cg (b:=52) (by omega);have e2:2 ^ (g-52)*9007199254740992=2 ^ (g+1):=cg (b:=53) (by omega);have hPd:2 ^ (P+g-52)=2 ^ (g-52)*2 ^ P:=(cg (by omega)).symm;have k1:4503599627370496<=kept:=by
    rcases Nat.lt_or_ge kept 4503599627370496 with h|h
    ·have:=Nat.mul_le_mul_right (2 ^ (g-52)) (Nat.le_sub_one_of_lt h);have q:(4503599627370496-1)*2 ^ (g-52)+2 ^ (g-52)=2 ^ g:=by rw[<-e1];omega
     omega
    ·exact h
   have k2:kept<=9007199254740992:=by
    rcases Nat.lt_or_ge 9007199254740992 kept with h|h
    ·have:=Nat.mul_le_mul_right (2 ^ (g-52)) h;have q:(9007199254740992).succ*2 ^ (g-52)=2 ^ (g+1)+2 ^ (g-52):=by rw[<-e2];omega
     omega
    ·exact h
   refine ⟨kept,k1,k2,hnear _ (by rw[s1,s2];simpa using hk) k2,?_,?_,fun hlt=> ?_⟩
   ·rw[hPd,<-Nat.mul_assoc];generalize kept*2 ^ (g-52)=y at*;have hz:2*y*4503599627370496<=mag*9007199254740993:=by omega
    have:=Nat.mul_le_mul_right (2 ^ P) hz;generalize 2 ^ P=z at*;rw[IA y z _ _ (show 2*4503599627370496=9007199254740992 from rfl),Nat.mul_right_comm mag]at this;exact this
   ·rw[hPd,<-Nat.mul_assoc];generalize kept*2 ^ (g-52)=y at*;have hz:mag*9007199254740991<=y*9007199254740992:=by omega
    have:=Nat.mul_le_mul_right (2 ^ P) hz;generalize 2 ^ P=z at*;rw[Nat.mul_right_comm y,Nat.mul_right_comm mag]at this;exact this
   ·have:2 ^ 53<=2 ^ g:=Nat.pow_le_pow_right (by decide) (by omega);omega
 obtain ⟨kept,k1,k2,hr,h1,h2,h3⟩:=key;rw[hr,GD L kept k1 k2];have hex:2 ^ L*2 ^ (T-1074)=2 ^ (P+g-52):=cg (by omega);rw[Nat.mul_assoc kept,hex];exact ⟨by unfold INF;omega,h1,h2,h3⟩
theorem oK (mag:Nat) (place:Int):double.nearest false mag place<=INF:=by
 unfold Format.nearest
 split
 ·rw[dy];exact Nat.zero_le _
 ·dsimp only;rw[ko,dy];exact Nat.min_le_right _ _
def kU:Nat:=1074
theorem lA:kU=1074:=rfl
theorem Dc:FloatKind.f64.format=double:=rfl
theorem mul_eq {a b m ua n ub:Nat} (ha:double.read a= .number false m ((ua:Int)-1074)) (hb:double.read b= .number false n ((ub:Int)-1074)):
 floatBits .mul .f64 a b=some (double.nearest false (m*n) (((ua+ub:Nat):Int)-(kU+kU:Nat))):=by
 have hk:=lA
 show double.mul a b=_
 unfold Format.mul;rw[ha,hb]
 show some (double.nearest (false ^^ false) (m*n) ((ua:Int)-1074+((ub:Int)-1074)))=_
 have e:(ua:Int)-1074+((ub:Int)-1074)=((ua+ub:Nat):Int)-(kU+kU:Nat):=by omega
 rw[e];rfl
theorem Cx {a b:Nat} (ha:a<INF) (hb:b<INF) (lo:2 ^ (kU+52)<=FV a*FV b) (hi:FV a*FV b<2 ^ (kU+kU+1023)):
 ∃r,floatBits .mul .f64 a b=some r/\r<INF/\FV r*2 ^ kU*9007199254740992<=FV a*FV b*9007199254740993/\FV a*FV b*9007199254740991<=FV r*2 ^ kU*9007199254740992:=by
 have hk:=lA;obtain ⟨m,ua,hra,hva⟩:=dJ a ha;obtain ⟨n,ub,hrb,hvb⟩:=dJ b hb;have e:FV a*FV b=m*n*2 ^ (ua+ub):=by rw[hva,hvb,Nat.pow_add,Nat.mul_mul_mul_comm]
 rw[e]at lo hi |-;obtain ⟨h1,h2,h3,_⟩:=iY (m*n) _ (kU+kU) (ua+ub) rfl (by omega) (by rw[show kU+kU-1022=kU+52 by omega];exact lo) hi;rw[show kU+kU-1074=kU by omega]at h2 h3;exact ⟨_,mul_eq hra hrb,h1,h2,h3⟩
theorem tS {a b:Nat} (ha:a<=INF) (hb:b<INF) (hb0:0<FV b):∃r,floatBits .mul .f64 a b=some r/\r<=INF:=by
 obtain ⟨n,ub,hrb,hvb⟩:=dJ b hb;rcases Nat.lt_or_eq_of_le ha with h|rfl
 ·obtain ⟨m,ua,hra,hva⟩:=dJ a h;exact ⟨_,mul_eq hra hrb,oK _ _⟩
 ·have hn:n≠0:=by rintro rfl;rw[Nat.zero_mul]at hvb;omega
  refine ⟨INF,?_,aAa _⟩
  show double.mul INF b=_
  unfold Format.mul;rw[tF,hrb]
  show (if n=0 then none else some (Datum.infinity (false ^^ false))).map double.write=_
  rw[if_neg hn]
  show some (double.word false double.infRung)=_
  rw[dy,ko]
theorem alg1 (R U W n s Z m c c1 e e1:Nat) (hW:0<W) (h1:R*(U*W)*c<=s*Z*c1) (h2:s*n*e1<=e*(m*W)):R*(n*U)*(c*e1)<=m*Z*(e*c1):=by
 refine Nat.le_of_mul_le_mul_right ?_ hW;have q1:=Nat.mul_le_mul_right (n*e1) h1;have q2:=Nat.mul_le_mul_right (Z*c1) h2;have r1:R*(n*U)*(c*e1)*W=R*(U*W)*c*(n*e1):=by ac_rfl
 have r2:s*Z*c1*(n*e1)=s*n*e1*(Z*c1):=by ac_rfl
 have r3:e*(m*W)*(Z*c1)=m*Z*(e*c1)*W:=by ac_rfl
 rw[r1,<-r3];exact aAe q1 (r2 ▸ q2)
theorem alg2 (R U W n s Z m c c0 e e2:Nat) (hW:0<W) (h1:s*Z*c0<=R*(U*W)*c) (h2:e*(m*W)<=s*n*e2):m*Z*(e*c0)<=R*(n*U)*(c*e2):=by
 refine Nat.le_of_mul_le_mul_right ?_ hW;have q1:=Nat.mul_le_mul_right (n*e2) h1;have q2:=Nat.mul_le_mul_right (Z*c0) h2;have r1:R*(n*U)*(c*e2)*W=R*(U*W)*c*(n*e2):=by ac_rfl
 have r2:s*Z*c0*(n*e2)=s*n*e2*(Z*c0):=by ac_rfl
 have r3:e*(m*W)*(Z*c0)=m*Z*(e*c0)*W:=by ac_rfl
 rw[r1,<-r3];exact aAe (r2 ▸ q2) q1
theorem div_eq {a b m ua n ub:Nat} (ha:double.read a= .number false m ((ua:Int)-1074)) (hb:double.read b= .number false n ((ub:Int)-1074)) (hn:n≠0):
 floatBits .quo .f64 a b=some (double.nearest false (2*(m <<< (54+n.log2-m.log2) / n)+(m <<< (54+n.log2-m.log2) % n != 0).toNat) (((ua+kU:Nat):Int)-((ub+(54+n.log2-m.log2)+kU+1:Nat):Int))):=by
 have hk:=lA
 show double.div a b=_
 unfold Format.div;rw[ha,hb];unfold Datum.quotient;dsimp only;rw[if_neg hn]
 show some (double.nearest (false ^^ false) (2*(m <<< (54+n.log2-m.log2) / n)+(m <<< (54+n.log2-m.log2) % n != 0).toNat) ((ua:Int)-1074-((ub:Int)-1074)-((54+n.log2-m.log2:Nat):Int)-1))=_
 have e:(ua:Int)-1074-((ub:Int)-1074)-((54+n.log2-m.log2:Nat):Int)-1=((ua+kU:Nat):Int)-((ub+(54+n.log2-m.log2)+kU+1:Nat):Int):=by omega
 rw[e];rfl
theorem uH {a b:Nat} (ha:a<=INF) (hb:b<INF) (hb0:0<FV b):∃r,floatBits .quo .f64 a b=some r/\r<=INF:=by
 obtain ⟨n,ub,hrb,hvb⟩:=dJ b hb;have hn:n≠0:=by rintro rfl;rw[Nat.zero_mul]at hvb;omega
 rcases Nat.lt_or_eq_of_le ha with h|rfl
 ·obtain ⟨m,ua,hra,hva⟩:=dJ a h;exact ⟨_,div_eq hra hrb hn,oK _ _⟩
 ·refine ⟨INF,?_,aAa _⟩
  show double.div INF b=_
  unfold Format.div;rw[tF,hrb]
  show some (double.word (false ^^ false) double.infRung)=_
  show some (double.word false double.infRung)=_
  rw[dy,ko]
theorem p4 (n a b c:Nat):4*(n*2 ^ a*2 ^ b*2 ^ c)=2 ^ (2+a+b+c)*n:=by
 rw[Nat.pow_add,Nat.pow_add,Nat.pow_add,show (2:Nat) ^ 2=4 from rfl]
 ac_rfl
theorem eadd (u k m:Nat):2+u+(k+1016)+m=u+k+1018+m:=by omega
theorem num0 (x y n e e1:Nat) (he:e=e1+1) (h1:x<=y+n) (h2:n*e<=x):x*e1<=e*y:=by
 subst he;have h:=Nat.mul_le_mul_right (e1+1) h1;rw[Nat.add_mul,Nat.mul_succ x]at h;rw[Nat.mul_comm (e1+1) y];generalize n*(e1+1)=p at*;generalize y*(e1+1)=q at*;omega
theorem KP (x y n e e2:Nat) (he:e2=e+1) (h1:y<=x+n) (h2:n*e<=x):e*y<=x*e2:=by
 subst he;have h:=Nat.mul_le_mul_right e h1;rw[Nat.add_mul]at h;rw[Nat.mul_succ,Nat.mul_comm e y];generalize n*e=p at*;generalize y*e=q at*;omega
theorem ratio (Y A p q K K1:Nat) (hp:0<p) (h:Y*p<=A*q) (hk:K*q<=K1*p):Y*K<=A*K1:=by
 refine Nat.le_of_mul_le_mul_right ?_ hp;have q1:=Nat.mul_le_mul_right K h;have q2:=Nat.mul_le_mul_left A hk;have r1:Y*K*p=Y*p*K:=by ac_rfl
 have r2:A*q*K=A*(K*q):=by ac_rfl
 have r3:A*(K1*p)=A*K1*p:=by ac_rfl
 rw[r1,<-r3];exact aAe q1 (r2 ▸ q2)
theorem Dz {a b:Nat} (ha:a<INF) (hb:b<INF) (hb0:0<FV b) (lo:FV b*2 ^ 54<=FV a*2 ^ kU) (hi:FV a*2 ^ kU<=FV b*2 ^ (kU+1016)):
 ∃r,floatBits .quo .f64 a b=some r/\r<INF/\FV r*FV b*1152921504606846976<=FV a*2 ^ kU*1152921504606847169/\FV a*2 ^ kU*1152921504606846783<=FV r*FV b*1152921504606846976:=by
 have hk:=lA;obtain ⟨m,ua,hra,hva⟩:=dJ a ha;obtain ⟨n,ub,hrb,hvb⟩:=dJ b hb;have hn:n≠0:=by rintro rfl;rw[Nat.zero_mul]at hvb;omega
 have hm:m≠0:=by
  rintro rfl;rw[hva,Nat.zero_mul,Nat.zero_mul]at lo;have:=Nat.mul_pos hb0 (Nat.two_pow_pos 54);omega
 have heq:=div_eq hra hrb hn;obtain ⟨more,hmore⟩:=ex (54+n.log2-m.log2);rw[<-hmore,Nat.shiftLeft_eq]at heq;obtain ⟨d,hd⟩:=ex (m*2 ^ more);rw[<-hd]at heq;obtain ⟨s,hs⟩:=ex (2*(d / n)+(d % n != 0).toNat);rw[<-hs]at heq;have hn0:0<n:=Nat.pos_of_ne_zero hn;have hdm:=Nat.div_add_mod d n;have hml:=Nat.mod_lt d hn0;have hbig:n*2 ^ 53<=d:=by
  have h1:2 ^ m.log2<=m:=Nat.log2_self_le hm;have h2:n<2 ^ (n.log2+1):=Nat.lt_log2_self;have h3:2 ^ m.log2*2 ^ more<=d:=by rw[hd];exact Nat.mul_le_mul_right _ h1
  rw[<-Nat.pow_add]at h3;have h4:2 ^ (n.log2+54)<=2 ^ (m.log2+more):=Nat.pow_le_pow_right (by decide) (by omega);have h5:n*2 ^ 53<=2 ^ (n.log2+1)*2 ^ 53:=Nat.mul_le_mul_right _ (Nat.le_of_lt h2);rw[cg (show n.log2+1+53=n.log2+54 by omega)]at h5;exact aAe h5 (aAe h4 h3)
 have hq:2 ^ 53<=d / n:=(Nat.le_div_iff_mul_le hn0).2 (by rw[Nat.mul_comm];exact hbig);have hs54:2 ^ 54<=s:=by rw[hs];omega
 have hsn:s*n<=2*d+n/\2*d<=s*n+n:=by
  rw[hs,Nat.add_mul,Nat.mul_assoc,Nat.mul_comm (d / n) n];by_cases h0:d % n=0
  ·have e0:(d % n != 0).toNat=0:=by simp[h0]
   rw[e0,Nat.zero_mul];omega
  ·have e0:(d % n != 0).toNat=1:=by simp[h0]
   rw[e0,Nat.one_mul];omega
 have hnd:n<=d:=aAe (Nat.le_mul_of_pos_right n (Nat.two_pow_pos 53)) hbig;have hs54n:n*18014398509481984<=s*n:=by
  have:=Nat.mul_le_mul_right n hs54;rw[Nat.mul_comm n];exact this
 have h2d:2*d=m*2 ^ (more+1):=by rw[hd,Nat.pow_succ];ac_rfl
 have hX:∀k,s*n*2 ^ k=s*2 ^ k*n:=fun k=>Nat.mul_right_comm ..;have ha1:FV a*2 ^ kU=m*2 ^ (ua+kU):=by rw[hva,Nat.mul_assoc,<-Nat.pow_add]
 have hda:d*2 ^ (ua+kU)=FV a*2 ^ kU*2 ^ more:=by rw[ha1,hd,Nat.mul_right_comm]
 have blo:2 ^ (ub+more+kU+1-1022)<=s*2 ^ (ua+kU):=by
  have h1:d*2 ^ (ua+kU)<=s*n*2 ^ (ua+kU):=Nat.mul_le_mul_right _ (by omega);have h2:FV b*2 ^ 54*2 ^ more<=FV a*2 ^ kU*2 ^ more:=Nat.mul_le_mul_right _ lo;have h3:FV b*2 ^ 54*2 ^ more=2 ^ (ub+54+more)*n:=by
   rw[hvb,Nat.mul_assoc,Nat.mul_assoc,<-Nat.pow_add,<-Nat.pow_add,Nat.mul_comm,Nat.add_assoc]
  rw[hda,hX]at h1;rw[h3]at h2;have h4:=Nat.le_of_mul_le_mul_right (aAe h2 h1) hn0;exact aAe (Nat.pow_le_pow_right (by decide) (by omega)) h4
 have bhi:s*2 ^ (ua+kU)<2 ^ (ub+more+kU+1+1023):=by
  have h1:s*n*2 ^ (ua+kU)<=4*d*2 ^ (ua+kU):=Nat.mul_le_mul_right _ (by omega);have h2:FV a*2 ^ kU*2 ^ more<=FV b*2 ^ (kU+1016)*2 ^ more:=Nat.mul_le_mul_right _ hi;have h3:4*(FV b*2 ^ (kU+1016)*2 ^ more)=2 ^ (ub+kU+1018+more)*n:=by
   rw[hvb,p4,eadd]
  rw[Nat.mul_assoc 4,hda,hX]at h1;have h4:s*2 ^ (ua+kU)*n<=2 ^ (ub+kU+1018+more)*n:=by
   rw[<-h3];exact aAe h1 (Nat.mul_le_mul_left 4 h2)
  have h5:=Nat.le_of_mul_le_mul_right h4 hn0;exact Nat.lt_of_le_of_lt h5 (Nat.pow_lt_pow_right (by decide) (by omega))
 obtain ⟨n1,n2,n3,_⟩:=iY s _ (ub+more+kU+1) (ua+kU) rfl (by omega) blo bhi;have eT:2 ^ (ub+more+kU+1-1074)=2 ^ ub*2 ^ (more+1):=(cg (by omega)).symm;rw[eT]at n2 n3;have hW:0<2 ^ (more+1):=Nat.two_pow_pos _;have v1:=num0 (s*n) (2*d) n 18014398509481984 18014398509481983 rfl hsn.1 hs54n;have v2:=KP (s*n) (2*d) n 18014398509481984 18014398509481985 rfl hsn.2 hs54n;rw[h2d]at v1 v2;have u1:=alg1 _ _ _ n s _ m _ _ _ _ hW n2 v1
 have u2:=alg2 _ _ _ n s _ m _ _ _ _ hW n3 v2;rw[<-hvb,<-ha1]at u1 u2;exact ⟨_,heq,n1,ratio _ _ (9007199254740992*18014398509481983) (18014398509481984*9007199254740993) 1152921504606846976 1152921504606847169 (by decide+kernel) u1 (by decide+kernel),
  ratio _ _ (18014398509481984*9007199254740991) (9007199254740992*18014398509481985) 1152921504606846783 1152921504606846976 (by decide+kernel) u2 (by decide+kernel)⟩
theorem Ks (k:Nat):2 ^ (k+250)<2 ^ (k+1023):=Nat.pow_lt_pow_right (by decide) (by omega)
theorem IG (k:Nat):2 ^ (k+250)<=2 ^ (k+1016):=Nat.pow_le_pow_right (by decide) (by omega)
theorem qM {U:Nat} (hU:U=2 ^ kU) {a b:Nat} (ha:a<INF) (hb:b<INF) (lo:U*2 ^ 52<=FV a*FV b) (hi:FV a*FV b<=U*U*2 ^ 250):
 ∃r,floatBits .mul .f64 a b=some r/\r<INF/\FV r*U*9007199254740992<=FV a*FV b*9007199254740993/\FV a*FV b*9007199254740991<=FV r*U*9007199254740992:=by
 have lo':2 ^ (kU+52)<=FV a*FV b:=by rw[Nat.pow_add,<-hU];exact lo
 have hi':FV a*FV b<=2 ^ (kU+kU+250):=by rw[Nat.pow_add,Nat.pow_add,<-hU];exact hi
 have hi2:FV a*FV b<2 ^ (kU+kU+1023):=Nat.lt_of_le_of_lt hi' (Ks (kU+kU));rw[hU];exact Cx ha hb lo' hi2
theorem qW {U:Nat} (hU:U=2 ^ kU) {a b:Nat} (ha:a<INF) (hb:b<INF) (hb0:0<FV b) (lo:FV b*2 ^ 54<=FV a*U) (hi:FV a*U<=FV b*(U*2 ^ 250)):
 ∃r,floatBits .quo .f64 a b=some r/\r<INF/\FV r*FV b*1152921504606846976<=FV a*U*1152921504606847169/\FV a*U*1152921504606846783<=FV r*FV b*1152921504606846976:=by
 have hi':FV a*2 ^ kU<=FV b*2 ^ (kU+250):=by rw[Nat.pow_add,<-hU];exact hi
 have hi2:FV a*2 ^ kU<=FV b*2 ^ (kU+1016):=aAe hi' (Nat.mul_le_mul_left _ (IG kU));rw[hU]at lo |-;exact Dz ha hb hb0 lo hi2
theorem exU:∃U:Nat,U=2 ^ kU/\2 ^ 52<=U/\2 ^ 250<=U/\0<U:=
 ⟨_,rfl,Nat.pow_le_pow_right (by decide) (by unfold kU;decide),Nat.pow_le_pow_right (by decide) (by unfold kU;decide),Nat.two_pow_pos _⟩
theorem cmp3 (x y k:Nat) (hk:0<k):compare ((x:Nat):Int) ((y:Nat):Int)=compare (x*k) (y*k):=by
 rcases Nat.lt_trichotomy x y with h|h|h
 ·have h2:x*k<y*k:=Nat.mul_lt_mul_of_pos_right h hk;rw[Int.compare_eq_lt.2 (by omega),Nat.compare_eq_lt.2 h2]
 ·subst h;rw[Int.compare_eq_eq.2 rfl,Nat.compare_eq_eq.2 rfl]
 ·have h2:y*k<x*k:=Nat.mul_lt_mul_of_pos_right h hk;rw[Int.compare_eq_gt.2 (by omega),Nat.compare_eq_gt.2 h2]
theorem oH {a b:Nat} (ha:a<INF) (hb:b<INF):double.order a b=some (compare (FV a) (FV b)):=by
 obtain ⟨m,ua,hra,hva⟩:=dJ a ha;obtain ⟨n,ub,hrb,hvb⟩:=dJ b hb;unfold Format.order;rw[hra,hrb]
 show some (compare (signed false m ((ua:Int)-1074-min ((ua:Int)-1074) ((ub:Int)-1074)).toNat) (signed false n ((ub:Int)-1074-min ((ua:Int)-1074) ((ub:Int)-1074)).toNat))=_
 have e1:((ua:Int)-1074-min ((ua:Int)-1074) ((ub:Int)-1074)).toNat=ua-min ua ub:=by omega
 have e2:((ub:Int)-1074-min ((ua:Int)-1074) ((ub:Int)-1074)).toNat=ub-min ua ub:=by omega
 rw[e1,e2];have s1:∀x k:Nat,signed false x k=((x*2 ^ k:Nat):Int):=fun x k=>by unfold signed;rw[if_neg (by decide),Nat.shiftLeft_eq]
 rw[s1,s1,cmp3 _ _ (2 ^ min ua ub) (Nat.two_pow_pos _),Nat.mul_assoc,Nat.mul_assoc,cg (show ua-min ua ub+min ua ub=ua by omega),cg (show ub-min ua ub+min ua ub=ub by omega),hva,hvb]
theorem uv {a b:Nat} (ha:a<INF) (hb:b<INF):(FloatKind.f64.format.order a b==some .eq)=decide (FV a=FV b):=by
 rw[Dc,oH ha hb];rcases Nat.lt_trichotomy (FV a) (FV b) with h|h|h
 ·rw[Nat.compare_eq_lt.2 h,dF (by omega)];rfl
 ·rw[Nat.compare_eq_eq.2 h,dT h];rfl
 ·rw[Nat.compare_eq_gt.2 h,dF (by omega)];rfl
theorem KU {a b:Nat} (ha:a<INF) (hb:b<INF):(FloatKind.f64.format.order a b==some .lt)=decide (FV a<FV b):=by
 rw[Dc,oH ha hb];rcases Nat.lt_trichotomy (FV a) (FV b) with h|h|h
 ·rw[Nat.compare_eq_lt.2 h,dT h];rfl
 ·rw[Nat.compare_eq_eq.2 h,dF (by omega)];rfl
 ·rw[Nat.compare_eq_gt.2 h,dF (by omega)];rfl
theorem yi {a b:Nat} (ha:a<INF) (hb:b<INF):(FloatKind.f64.format.order a b==some .gt)=decide (FV b<FV a):=by
 rw[Dc,oH ha hb];rcases Nat.lt_trichotomy (FV a) (FV b) with h|h|h
 ·rw[Nat.compare_eq_lt.2 h,dF (by omega)];rfl
 ·rw[Nat.compare_eq_eq.2 h,dF (by omega)];rfl
 ·rw[Nat.compare_eq_gt.2 h,dT h];rfl
theorem sQ {r:Nat} (h:r<INF):(FloatKind.f64.decode r).toInt .zero=some ((FV r / 2 ^ kU:Nat):Int):=by
 have hk:=lA;obtain ⟨m,up,hr,hv⟩:=dJ r h;have hd:FloatKind.f64.decode r= .number false m ((up:Int)-1074):=hr;rw[hd]
 show some (signed false (Toward.zero.cut false (m <<< ((up:Int)-1074).toNat) (-((up:Int)-1074)).toNat) 0)=_
 have s1:∀x k:Nat,signed false x k=((x*2 ^ k:Nat):Int):=fun x k=>by unfold signed;rw[if_neg (by decide),Nat.shiftLeft_eq]
 have hc:∀n d:Nat,Toward.zero.cut false n d=n / 2 ^ d:=by
  intro n d;unfold Toward.cut;simp only[Nat.one_shiftLeft,Bool.toNat_false,Nat.add_zero];by_cases hd:d<=n.log2+2
  ·rw[Nat.min_eq_left hd]
  ·rw[Nat.min_eq_right (by omega)];have h1:n<2 ^ (n.log2+1):=Nat.lt_log2_self;have h2:2 ^ (n.log2+1)<=2 ^ (n.log2+2):=Nat.pow_le_pow_right (by decide) (by omega);have h3:2 ^ (n.log2+1)<=2 ^ d:=Nat.pow_le_pow_right (by decide) (by omega);rw[Nat.div_eq_of_lt (Nat.lt_of_lt_of_le h1 h2),Nat.div_eq_of_lt (Nat.lt_of_lt_of_le h1 h3)]
 rw[hc,s1,Nat.shiftLeft_eq,Nat.pow_zero,Nat.mul_one,hv];congr 2;by_cases hu:kU<=up
 ·have e1:((up:Int)-1074).toNat=up-kU:=by omega
  have e2:(-((up:Int)-1074)).toNat=0:=by omega
  rw[e1,e2,Nat.pow_zero,Nat.div_one,<-cg (show up-kU+kU=up by omega),<-Nat.mul_assoc,Nat.mul_div_cancel _ (Nat.two_pow_pos _)]
 ·have e1:((up:Int)-1074).toNat=0:=by omega
  have e2:(-((up:Int)-1074)).toNat=kU-up:=by omega
  rw[e1,e2,Nat.pow_zero,Nat.mul_one,<-cg (show kU-up+up=kU by omega),Nat.mul_div_mul_right _ _ (Nat.two_pow_pos _)]
theorem wo {m:Nat} (h:m<9007199254740992):floatOfInt .f64 (m:Int)<INF/\FV (floatOfInt .f64 (m:Int))=m*2 ^ kU:=by
 have hk:=lA;have e:floatOfInt .f64 (m:Int)=double.nearest false m 0:=by
  show double.nearest (decide ((m:Int)<0)) m 0=_
  rw[dF (by omega)]
 rw[e];by_cases h0:m=0
 ·subst h0;have:double.nearest false 0 0=0:=by
   unfold Format.nearest;rw[if_pos rfl,dy]
  rw[this];exact ⟨by decide,by unfold FV;rw[if_pos (by decide),Nat.zero_mul]⟩
 ·have lo:2 ^ (kU-1022)<=m*2 ^ kU:=aAe (Nat.pow_le_pow_right (by decide) (by omega)) (Nat.le_mul_of_pos_left _ (by omega));have hi:m*2 ^ kU<2 ^ (kU+1023):=by
   have h1:m*2 ^ kU<2 ^ 53*2 ^ kU:=Nat.mul_lt_mul_of_pos_right h (Nat.two_pow_pos _);rw[<-Nat.pow_add]at h1;exact Nat.lt_of_lt_of_le h1 (Nat.pow_le_pow_right (by decide) (by omega))
  obtain ⟨h1,_,_,h4⟩:=iY m 0 kU kU (by omega) (by omega) lo hi;have h5:=h4 h;rw[show kU-1074=0 by omega,Nat.pow_zero,Nat.mul_one]at h5;exact ⟨h1,h5⟩
def iU:Nat->Nat
 |0=>4607182418800017408
 |k+1=>(floatBits .mul .f64 (iU k) 4621819117588971520).getD 0
theorem fy:∀k,k<23->iU k<INF/\FV (iU k)=10 ^ k*2 ^ kU/\(floatBits .mul .f64 (iU k) 4621819117588971520=some (iU (k+1))):=by
 decide+kernel
def scW (m:Nat) (k:Int):Nat:=
 if 0<=k then (floatBits .mul .f64 (floatOfInt .f64 (m:Int)) (iU k.toNat)).getD 0 else (floatBits .quo .f64 (floatOfInt .f64 (m:Int)) (iU (-k).toNat)).getD 0
theorem jP {k:Nat} (h:k<23):0<FV (iU k):=by
 rw[(fy k h).2.1];exact Nat.mul_pos (Nat.pow_pos (by decide)) (Nat.two_pow_pos _)
theorem Bt {m:Nat} {k:Int} (hm:m<1000000000000000) (h0:0<=k) (hk:k<=22):floatBits .mul .f64 (floatOfInt .f64 (m:Int)) (iU k.toNat)=some (scW m k)/\scW m k<=INF:=by
 obtain ⟨r,h1,h2⟩:=tS (Nat.le_of_lt (wo (show m<9007199254740992 by omega)).1) (fy k.toNat (by omega)).1 (jP (by omega));unfold scW;rw[if_pos h0,h1];exact ⟨rfl,h2⟩
theorem Bu {m:Nat} {k:Int} (hm:m<1000000000000000) (h0:¬0<=k) (hk: -22<=k):floatBits .quo .f64 (floatOfInt .f64 (m:Int)) (iU (-k).toNat)=some (scW m k)/\scW m k<=INF:=by
 obtain ⟨r,h1,h2⟩:=uH (Nat.le_of_lt (wo (show m<9007199254740992 by omega)).1) (fy (-k).toNat (by omega)).1 (jP (by omega));unfold scW;rw[if_neg h0,h1];exact ⟨rfl,h2⟩
theorem lT {k:Nat} (h:k<23):10 ^ k<=2 ^ 74:=aAe (Nat.pow_le_pow_right (by decide) (show k<=22 by omega)) (by decide)
theorem pw {a b:Nat} (h:a<=b):2 ^ a<=2 ^ b:=Nat.pow_le_pow_right (by decide) h
theorem j6 {U:Nat} (h:U=2 ^ kU):2 ^ 52<=U/\2 ^ 250<=U/\0<U:=by
 obtain ⟨V,hV,h1,h2,h3⟩:=exU;rw[<-hV]at h;rw[h];exact ⟨h1,h2,h3⟩
theorem kY {U:Nat} (hUe:U=2 ^ kU) {m:Nat} {k:Int} (hm0:1<=m) (hm:m<1000000000000000) (hk1: -22<=k) (hk2:k<=22):
 scW m k<INF/\FV (scW m k)*10 ^ (-k).toNat*1152921504606846976<=m*10 ^ k.toNat*U*1152921504606847169/\m*10 ^ k.toNat*U*1152921504606846783<=FV (scW m k)*10 ^ (-k).toNat*1152921504606846976:=by
 obtain ⟨u52,u250,hU⟩:=j6 hUe;obtain ⟨a1,a2⟩:=wo (show m<9007199254740992 by omega);rw[<-hUe]at a2;have hm50:m<=2 ^ 50:=aAe (Nat.le_of_lt hm) (by decide);by_cases h0:0<=k
 ·obtain ⟨b1,b2,_⟩:=fy k.toNat (by omega);rw[<-hUe]at b2;have e0:(-k).toNat=0:=by omega
  have ht:=lT (show k.toNat<23 by omega);have ht0:0<10 ^ k.toNat:=Nat.pow_pos (by decide);obtain ⟨g1,g2⟩:=Bt hm h0 hk2;rw[e0,Nat.pow_zero,Nat.mul_one];generalize 10 ^ k.toNat=N at*;have hX:FV (floatOfInt .f64 (m:Int))*FV (iU k.toNat)=m*N*U*U:=by rw[a2,b2];ac_rfl
  have hmt:1<=m*N:=Nat.mul_pos hm0 ht0;have hmt2:m*N<=2 ^ 250:=aAe (Nat.mul_le_mul hm50 ht) (by decide);have lo:U*2 ^ 52<=m*N*U*U:=by
   rw[Nat.mul_assoc];exact aAe (Nat.mul_le_mul_left _ u52) (Nat.le_mul_of_pos_left _ hmt)
  have hi:m*N*U*U<=U*U*2 ^ 250:=by
   rw[Nat.mul_assoc,Nat.mul_comm];exact Nat.mul_le_mul_left _ hmt2
  obtain ⟨r,h1,h2,h3,h4⟩:=qM hUe a1 b1 (by rw[hX];exact lo) (by rw[hX];exact hi);obtain rfl:=aAf (g1.symm.trans h1);rw[hX]at h3 h4;generalize m*N*U=A at*;refine ⟨h2,?_,?_⟩
  ·have:=Nat.le_of_mul_le_mul_right (show FV (scW m k)*9007199254740992*U<=A*9007199254740993*U by rw[Nat.mul_right_comm,Nat.mul_right_comm A];exact h3) hU;exact ratio _ _ 9007199254740992 9007199254740993 _ _ (by decide) this (by decide+kernel)
  ·have:=Nat.le_of_mul_le_mul_right (show A*9007199254740991*U<=FV (scW m k)*9007199254740992*U by rw[Nat.mul_right_comm,Nat.mul_right_comm (FV (scW m k))];exact h4) hU;exact ratio _ _ 9007199254740991 9007199254740992 _ _ (by decide) this (by decide+kernel)
 ·obtain ⟨b1,b2,_⟩:=fy (-k).toNat (by omega);rw[<-hUe]at b2;have e0:k.toNat=0:=by omega
  have ht:=lT (show (-k).toNat<23 by omega);have ht0:0<10 ^ (-k).toNat:=Nat.pow_pos (by decide);have hb0:=jP (show (-k).toNat<23 by omega);obtain ⟨g1,g2⟩:=Bu hm h0 hk1;rw[e0,Nat.pow_zero,Nat.mul_one];generalize 10 ^ (-k).toNat=N at*;have lo:N*U*2 ^ 54<=m*U*U:=by
   rw[Nat.mul_right_comm];refine Nat.mul_le_mul_right _ ?_;refine aAe (Nat.mul_le_mul_right _ ht) ?_;refine aAe (show 2 ^ 74*2 ^ 54<=2 ^ 250 by decide) ?_;exact aAe u250 (Nat.le_mul_of_pos_left _ hm0)
  have hi:m*U*U<=N*U*(U*2 ^ 250):=by
   have h1:m<=N*2 ^ 250:=aAe hm50 (aAe (by decide) (Nat.le_mul_of_pos_left _ ht0));have h2:=Nat.mul_le_mul_right (U*U) h1;have e1:m*(U*U)=m*U*U:=(Nat.mul_assoc ..).symm;have e2:∀z:Nat,N*z*(U*U)=N*U*(U*z):=fun z=>by ac_rfl
   rw[e1,e2]at h2;exact h2
  obtain ⟨r,h1,h2,h3,h4⟩:=qW hUe a1 b1 hb0 (by rw[a2,b2];exact lo) (by rw[a2,b2];exact hi);obtain rfl:=aAf (g1.symm.trans h1);rw[a2,b2]at h3 h4;have e3:∀z x:Nat,x*N*z*U=x*(N*U)*z:=fun z x=>by ac_rfl
  have e4:∀z:Nat,m*U*z*U=m*U*U*z:=fun z=>by ac_rfl
  refine ⟨h2,?_,?_⟩
  ·refine Nat.le_of_mul_le_mul_right ?_ hU;rw[e3,e4];exact h3
  ·refine Nat.le_of_mul_le_mul_right ?_ hU;rw[e3,e4];exact h4
theorem xE {m m':Nat} {k:Int} (hm0:1<=m) (hlt:m<m') (hm:m'<1000000000000000) (hk1: -22<=k) (hk2:k<=22):FV (scW m k)<FV (scW m' k):=by
 obtain ⟨U,hUe,_,_,hU⟩:=exU;obtain ⟨_,h1,_⟩:=kY hUe hm0 (by omega) hk1 hk2;obtain ⟨_,_,h2⟩:=kY hUe (show 1<=m' by omega) hm hk1 hk2;have hN:0<10 ^ k.toNat*U:=Nat.mul_pos (Nat.pow_pos (by decide)) hU;rw[Nat.mul_assoc m]at h1;rw[Nat.mul_assoc m']at h2;generalize 10 ^ k.toNat*U=N at*;have h3:m*N*1152921504606847169<m'*N*1152921504606846783:=by
  rw[Nat.mul_right_comm,Nat.mul_right_comm m'];exact Nat.mul_lt_mul_of_pos_right (by omega) hN
 have h4:=Nat.lt_of_le_of_lt h1 (Nat.lt_of_lt_of_le h3 h2);rw[Nat.mul_assoc,Nat.mul_assoc (FV (scW m' k))]at h4;exact Nat.lt_of_mul_lt_mul_right h4
abbrev KK:Nat:=1152921504606846976
theorem uS (A B C n m K a b c:Nat) (hK:0<K) (h1:A*K<=B*n*a) (h2:B*m*K<=C*b) (hk:K*(a*b)<=c*(K*K)):A*m*K<=C*n*c:=by
 refine ratio _ _ (K*K) (a*b) _ _ (Nat.mul_pos hK hK) ?_ hk;have q1:=Nat.mul_le_mul_right (m*K) h1;have q2:=Nat.mul_le_mul_right (n*a) h2;have r1:A*m*(K*K)=A*K*(m*K):=by ac_rfl
 have r2:B*n*a*(m*K)=B*m*K*(n*a):=by ac_rfl
 have r3:C*b*(n*a)=C*n*(a*b):=by ac_rfl
 rw[r1,<-r3];exact aAe q1 (r2 ▸ q2)
theorem pB (A B C n m K a b c:Nat) (hab:0<a*b) (h1:B*n*a<=A*K) (h2:C*b<=B*m*K) (hk:c*(K*K)<=K*(a*b)):C*n*c<=A*m*K:=by
 refine ratio _ _ (a*b) (K*K) _ _ hab ?_ hk;have q1:=Nat.mul_le_mul_right (m*K) h1;have q2:=Nat.mul_le_mul_right (n*a) h2;have r1:C*n*(a*b)=C*b*(n*a):=by ac_rfl
 have r2:B*n*a*(m*K)=B*m*K*(n*a):=by ac_rfl
 have r3:A*K*(m*K)=A*m*(K*K):=by ac_rfl
 rw[r1,<-r3];exact aAe q2 (r2 ▸ q1)
structure Guess (x p q g1 G:Nat):Prop where
 quo:floatBits .quo .f64 x (iU p)=some g1
 mul:floatBits .mul .f64 g1 (iU q)=some G
 l1:g1<=INF
 l2:G<=INF
theorem pj {x p q:Nat} (hx:x<INF) (hp:p<23) (hq:q<23):∃g1 G,Guess x p q g1 G:=by
 obtain ⟨g1,h1,l1⟩:=uH (Nat.le_of_lt hx) (fy p hp).1 (jP hp);obtain ⟨G,h2,l2⟩:=tS l1 (fy q hq).1 (jP hq);exact ⟨g1,G,h1,h2,l1,l2⟩
theorem wW {U:Nat} (hUe:U=2 ^ kU) {x p q g1 G:Nat} (hg:Guess x p q g1 G) (hx:x<INF) (hp:p<23) (hq:q<23) (lo:U<=FV x*2 ^ 100) (hi:FV x<=U*2 ^ 130):
 G<INF/\FV G*10 ^ p*KK<=FV x*10 ^ q*1152921504606847298/\FV x*10 ^ q*1152921504606846654<=FV G*10 ^ p*KK:=by
 obtain ⟨u52,u250,hU⟩:=j6 hUe;obtain ⟨p1,p2,_⟩:=fy p hp;obtain ⟨q1,q2,_⟩:=fy q hq;rw[<-hUe]at p2 q2;have hpl:=lT hp;have hql:=lT hq;have hp0:0<10 ^ p:=Nat.pow_pos (by decide);have hq0:0<10 ^ q:=Nat.pow_pos (by decide);have hpp:=jP hp;obtain ⟨hquo,hmul,l1,l2⟩:=hg;generalize 10 ^ p=N at*;generalize 10 ^ q=D at*;have hx150:2 ^ 150<=FV x:=by
  have h1:2 ^ 150*2 ^ 100<=FV x*2 ^ 100:=aAe (show 2 ^ 150*2 ^ 100<=2 ^ 250 by decide) (aAe u250 lo);exact Nat.le_of_mul_le_mul_right h1 (by decide)
 have lo1:N*U*2 ^ 54<=FV x*U:=by
  rw[Nat.mul_right_comm];exact Nat.mul_le_mul_right _ (aAe (Nat.mul_le_mul_right _ hpl) (aAe (by decide) hx150))
 have hi1:FV x*U<=N*U*(U*2 ^ 250):=by
  have h1:FV x<=N*(U*2 ^ 250):=aAe hi (aAe (Nat.mul_le_mul_left U (by decide)) (Nat.le_mul_of_pos_left _ hp0));rw[Nat.mul_right_comm N];exact Nat.mul_le_mul_right _ h1
 obtain ⟨r,e1,b1,b2,b3⟩:=qW hUe hx p1 hpp (by rw[p2];exact lo1) (by rw[p2];exact hi1);obtain rfl:=aAf (hquo.symm.trans e1);rw[p2]at b2 b3;have c2:FV g1*N*1152921504606846976<=FV x*1152921504606847169:=by
  refine Nat.le_of_mul_le_mul_right ?_ hU;have s1:∀z:Nat,FV g1*N*z*U=FV g1*(N*U)*z:=fun z=>by ac_rfl
  rw[s1,Nat.mul_right_comm (FV x)];exact b2
 have c3:FV x*1152921504606846783<=FV g1*N*1152921504606846976:=by
  refine Nat.le_of_mul_le_mul_right ?_ hU;have s1:∀z:Nat,FV g1*N*z*U=FV g1*(N*U)*z:=fun z=>by ac_rfl
  rw[s1,Nat.mul_right_comm (FV x)];exact b3
 have g52:2 ^ 52<=FV g1:=by
  rcases Nat.lt_or_ge (FV g1) (2 ^ 52) with h|h
  ·have h1:FV g1*N*1152921504606846976<=2 ^ 52*2 ^ 74*1152921504606846976:=Nat.mul_le_mul_right _ (Nat.mul_le_mul (Nat.le_of_lt h) hpl);have h2:2 ^ 150*1152921504606846783<=FV x*1152921504606846783:=Nat.mul_le_mul_right _ hx150;have h3:=aAe h2 (aAe c3 h1);exact absurd h3 (by decide)
  ·exact h
 have gU:FV g1*D<=U*2 ^ 250:=by
  have h1:FV g1<=U*2 ^ 131:=by
   have h2:FV g1*1152921504606846976<=U*2 ^ 131*1152921504606846976:=by
    have h3:FV g1*1152921504606846976<=FV g1*N*1152921504606846976:=Nat.mul_le_mul_right _ (Nat.le_mul_of_pos_right _ hp0);have h4:FV x*1152921504606847169<=U*2 ^ 130*1152921504606847169:=Nat.mul_le_mul_right _ hi;have h5:U*2 ^ 130*1152921504606847169<=U*2 ^ 131*1152921504606846976:=by
     rw[Nat.mul_assoc,Nat.mul_assoc];exact Nat.mul_le_mul_left _ (by decide)
    exact aAe h3 (aAe c2 (aAe h4 h5))
   exact Nat.le_of_mul_le_mul_right h2 (by decide)
  refine aAe (Nat.mul_le_mul h1 hql) ?_;rw[Nat.mul_assoc];exact Nat.mul_le_mul_left _ (by decide)
 have hX:FV g1*FV (iU q)=FV g1*D*U:=by rw[q2,Nat.mul_assoc]
 have lo2:U*2 ^ 52<=FV g1*D*U:=by
  rw[Nat.mul_comm];exact Nat.mul_le_mul_right _ (aAe g52 (Nat.le_mul_of_pos_right _ hq0))
 have hi2:FV g1*D*U<=U*U*2 ^ 250:=by
  rw[Nat.mul_right_comm U];exact Nat.mul_le_mul_right _ gU
 obtain ⟨r2,e2,d1,d2,d3⟩:=qM hUe b1 q1 (by rw[hX];exact lo2) (by rw[hX];exact hi2);obtain rfl:=aAf (hmul.symm.trans e2);rw[hX]at d2 d3;have f2:FV G*9007199254740992<=FV g1*D*9007199254740993:=by
  refine Nat.le_of_mul_le_mul_right ?_ hU;rw[Nat.mul_right_comm (FV G),Nat.mul_right_comm (FV g1*D)];exact d2
 have f3:FV g1*D*9007199254740991<=FV G*9007199254740992:=by
  refine Nat.le_of_mul_le_mul_right ?_ hU;rw[Nat.mul_right_comm (FV G),Nat.mul_right_comm (FV g1*D)];exact d3
 have f4:FV G*1152921504606846976<=FV g1*D*1152921504606847104:=ratio _ _ 9007199254740992 9007199254740993 _ _ (by decide) f2 (by decide+kernel);have f5:FV g1*D*1152921504606846848<=FV G*1152921504606846976:=ratio _ _ 9007199254740991 9007199254740992 _ _ (by decide) f3 (by decide+kernel);exact ⟨d1,uS (FV G) (FV g1) (FV x) D N 1152921504606846976 1152921504606847104 1152921504606847169 1152921504606847298 (by decide) f4 c2 (by decide+kernel),
  pB (FV G) (FV g1) (FV x) D N 1152921504606846976 1152921504606846848 1152921504606846783 1152921504606846654 (by decide) f5 c3 (by decide+kernel)⟩
def Sol (x:Nat) (k:Int) (M:Nat):Prop:=1<=M/\M<1000000000000000/\FV (scW M k)=FV x
theorem Sol.unique {x M M':Nat} {k:Int} (hk1: -22<=k) (hk2:k<=22) (h:Sol x k M) (h':Sol x k M'):M=M':=by
 rcases Nat.lt_trichotomy M M' with q|q|q
 ·have:=xE h.1 q h'.2.1 hk1 hk2;rw[h.2.2,h'.2.2]at this;omega
 ·exact q
 ·have:=xE h'.1 q h.2.1 hk1 hk2;rw[h.2.2,h'.2.2]at this;omega
theorem Sol.guess {U:Nat} (hUe:U=2 ^ kU) {x M:Nat} {k kk:Int} (h:Sol x k M) (hx:x<INF) (hk1: -22<=k) (hkk:k<=kk) (hk2:kk<=22) {g1 G:Nat} (hg:Guess x kk.toNat (-kk).toNat g1 G):
 G<INF/\FV G*KK<=M*U*1152921504606847492/\(kk=k->M*U*1152921504606846460<=FV G*KK):=by
 obtain ⟨u52,u250,hU⟩:=j6 hUe;obtain ⟨m1,m2,m3⟩:=h;obtain ⟨_,s1,s2⟩:=kY hUe m1 m2 hk1 (by omega);rw[m3]at s1 s2;have hm50:M<=2 ^ 50:=aAe (Nat.le_of_lt m2) (by decide);have n1:=lT (show k.toNat<23 by omega);have n2:=lT (show (-k).toNat<23 by omega);have z1:0<10 ^ k.toNat:=Nat.pow_pos (by decide);have z2:0<10 ^ (-k).toNat:=Nat.pow_pos (by decide);have z3:0<10 ^ kk.toNat:=Nat.pow_pos (by decide)
 have z4:0<10 ^ (-kk).toNat:=Nat.pow_pos (by decide);have hcross:10 ^ k.toNat*10 ^ (-kk).toNat<=10 ^ kk.toNat*10 ^ (-k).toNat:=by
  rw[<-Nat.pow_add,<-Nat.pow_add];exact Nat.pow_le_pow_right (by decide) (by omega)
 have lo:U<=FV x*2 ^ 100:=by
  have h1:U*1152921504606846783<=M*10 ^ k.toNat*U*1152921504606846783:=Nat.mul_le_mul_right _ (Nat.le_mul_of_pos_left _ (Nat.mul_pos m1 z1));have h2:FV x*10 ^ (-k).toNat*1152921504606846976<=FV x*2 ^ 74*1152921504606846976:=Nat.mul_le_mul_right _ (Nat.mul_le_mul_left _ n2);have h3:FV x*2 ^ 74*1152921504606846976<=FV x*2 ^ 100*1152921504606846783:=by
   rw[Nat.mul_assoc,Nat.mul_assoc];exact Nat.mul_le_mul_left _ (by decide)
  exact Nat.le_of_mul_le_mul_right (aAe h1 (aAe s2 (aAe h2 h3))) (by decide)
 have hi:FV x<=U*2 ^ 130:=by
  have h1:FV x*1152921504606846976<=FV x*10 ^ (-k).toNat*1152921504606846976:=Nat.mul_le_mul_right _ (Nat.le_mul_of_pos_right _ z2);have h2:M*10 ^ k.toNat*U*1152921504606847169<=U*2 ^ 130*1152921504606846976:=by
   rw[Nat.mul_comm _ U,Nat.mul_assoc,Nat.mul_assoc U];refine Nat.mul_le_mul_left _ ?_;exact aAe (Nat.mul_le_mul_right _ (Nat.mul_le_mul hm50 n1)) (by decide)
  exact Nat.le_of_mul_le_mul_right (aAe h1 (aAe s1 h2)) (by decide)
 obtain ⟨g0,g2,g3⟩:=wW hUe hg hx (by omega) (by omega) lo hi;refine ⟨g0,?_,?_⟩
 ·have h1:=uS (FV G*10 ^ kk.toNat) (FV x) (M*10 ^ k.toNat*U) (10 ^ (-kk).toNat) (10 ^ (-k).toNat) 1152921504606846976 1152921504606847298 1152921504606847169 1152921504606847492 (by decide) g2 s1 (by decide+kernel);generalize 10 ^ k.toNat=P at*;generalize 10 ^ (-k).toNat=P' at*;generalize 10 ^ kk.toNat=R at*;generalize 10 ^ (-kk).toNat=R' at*;refine Nat.le_of_mul_le_mul_right ?_ (Nat.mul_pos z3 z2)
  have r1:∀z:Nat,FV G*z*(R*P')=FV G*R*P'*z:=fun z=>by ac_rfl
  have r2:∀z:Nat,M*P*U*R'*z=M*U*z*(P*R'):=fun z=>by ac_rfl
  rw[r1];refine aAe h1 ?_;rw[r2];exact Nat.mul_le_mul_left _ hcross
 ·rintro rfl;have h1:=pB (FV G*10 ^ kk.toNat) (FV x) (M*10 ^ kk.toNat*U) (10 ^ (-kk).toNat) (10 ^ (-kk).toNat) 1152921504606846976 1152921504606846654 1152921504606846783 1152921504606846460 (by decide) g3 s2 (by decide+kernel);generalize 10 ^ kk.toNat=R at*;generalize 10 ^ (-kk).toNat=R' at*;refine Nat.le_of_mul_le_mul_right ?_ (Nat.mul_pos z1 z2);have r1:∀z:Nat,FV G*z*(R*R')=FV G*R*R'*z:=fun z=>by ac_rfl
  have r2:∀z:Nat,M*R*U*R'*z=M*U*z*(R*R'):=fun z=>by ac_rfl
  rw[r1,<-r2];exact h1
