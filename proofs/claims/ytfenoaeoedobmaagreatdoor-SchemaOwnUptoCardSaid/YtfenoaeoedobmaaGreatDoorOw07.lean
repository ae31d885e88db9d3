/-
Parts of a proof.
-/
import Derived.Deep.CutRange
import Derived.Test.YtfenoaeoedobmaaGreatDoorOw06
set_option linter.unusedVariables false
set_option linter.unusedSimpArgs false
set_option maxHeartbeats 8000000
namespace Go.Proofs.YtfenoaeoedobmaaGreatDoor
open Go Go.RowKit Ieee
def nK:Nat:=4636737291354636288
def ji (r:Nat):Bool:=((FloatKind.f64.format.order r 0==some .gt)||(FloatKind.f64.format.order r 0==some .eq))&&((FloatKind.f64.format.order r nK==some .lt)||(FloatKind.f64.format.order r nK==some .eq))
def ey (r:Nat):Nat:=if (FloatKind.f64.format.order r 0==some .eq)=true then 0 else r
theorem AH (m d:Nat) (hm:0<m):Toward.even.cut false (m*2 ^ d) d=m:=by
 have hp:0<2 ^ d:=Nat.two_pow_pos d;have hl:d<=(m*2 ^ d).log2+2:=by
  have h1:2 ^ d<=m*2 ^ d:=Nat.le_mul_of_pos_left _ hm;have h2:d<=(m*2 ^ d).log2:=by
   rw[Nat.le_log2 (Nat.pos_iff_ne_zero.1 (Nat.lt_of_lt_of_le hp h1))];exact h1
  omega
 obtain ⟨c1,c2⟩:=pt (m*2 ^ d) d hl;generalize Toward.even.cut false (m*2 ^ d) d=k at*;have e1:2*k*2 ^ d<=(2*m+1)*2 ^ d:=by rw[Nat.add_mul,Nat.mul_assoc,Nat.mul_assoc,Nat.one_mul];exact c1
 have e2:2*m*2 ^ d<=(2*k+1)*2 ^ d:=by rw[Nat.add_mul,Nat.mul_assoc,Nat.mul_assoc,Nat.one_mul];exact c2
 have g1:=Nat.le_of_mul_le_mul_right e1 hp;have g2:=Nat.le_of_mul_le_mul_right e2 hp;omega
theorem CB {m:Nat} (h1:4503599627370496<=m) (h2:m<9007199254740992):m.log2=52:=by
 have a:52<=m.log2:=(Nat.le_log2 (by omega)).2 h1;have b:m.log2<53:=(Nat.log2_lt (by omega)).2 h2;omega
theorem wH (m d:Nat) (hm:0<m):(m*2 ^ d).log2=m.log2+d:=by
 have hp:0<2 ^ d:=Nat.two_pow_pos d;have h0:m*2 ^ d≠0:=Nat.ne_of_gt (Nat.mul_pos hm hp);refine Nat.le_antisymm ?_ ?_
 ·refine Nat.le_of_lt_succ ((Nat.log2_lt h0).2 ?_);have:m<2 ^ (m.log2+1):=Nat.lt_log2_self;rw[show (m.log2+d).succ=(m.log2+1)+d by omega,Nat.pow_add 2 (m.log2+1) d];exact Nat.mul_lt_mul_of_pos_right this hp
 ·refine (Nat.le_log2 h0).2 ?_;rw[Nat.pow_add];exact Nat.mul_le_mul_right _ (Nat.log2_self_le (by omega))
theorem zP {x:Nat} (h:x<INF):double.nearest false (FV x) (-1074)=x:=by
 unfold INF at h;unfold FV;by_cases hb:x<4503599627370496
 ·rw[if_pos hb];unfold Format.nearest;by_cases h0:x=0
  ·rw[if_pos h0,h0];exact dy 0
  ·rw[if_neg h0];dsimp only;have hl:x.log2<52:=(Nat.log2_lt h0).2 hb;rw[xm,ja,pD,ko,show max ((-1074:Int)+(x.log2:Int)-((52:Nat):Int)) (-1074)= -1074 by omega,show ((-1074:Int)- -1074).toNat=0 from rfl,Nat.shiftLeft_zero,km,dy];unfold INF;omega
 ·rw[if_neg hb];obtain ⟨e,he⟩:=ex (x / 4503599627370496-1);obtain ⟨m,hm⟩:=ex (4503599627370496+x % 4503599627370496);rw[<-he,<-hm];have m1:4503599627370496<=m:=by omega
  have m2:m<9007199254740992:=by omega
  have hx:x=e*4503599627370496+m:=by omega
  have hl:(m*2 ^ e).log2=52+e:=by rw[wH m e (by omega),CB m1 m2]
  have h0:m*2 ^ e≠0:=Nat.ne_of_gt (Nat.mul_pos (by omega) (Nat.two_pow_pos _));unfold Format.nearest;rw[if_neg h0];dsimp only;rw[hl,xm,ja,pD,ko,show max ((-1074:Int)+((52+e:Nat):Int)-((52:Nat):Int)) (-1074)=(e:Int)-1074 by omega,
   show ((-1074:Int)-((e:Int)-1074)).toNat=0 by omega,show ((e:Int)-1074- -1074).toNat=e by omega,Nat.shiftLeft_zero,AH m e (by omega),dy,<-hx]
  unfold INF;omega
theorem add0 {x:Nat} (h:x<INF):floatBits .add .f64 x 0=some x:=by
 obtain ⟨mag,up,h1,h2⟩:=dJ x h;have h0:double.read 0= .number false 0 (-1074):=by decide+kernel
 unfold floatBits
 show Format.add double x 0=some x
 unfold Format.add;rw[h1,h0];unfold Datum.sum;dsimp only;rw[show min ((up:Int)-1074) (-1074)= -1074 by omega,show ((up:Int)-1074- -1074).toNat=up by omega];have e1:signed false mag up=((mag*2 ^ up:Nat):Int):=by
  unfold signed;rw[if_neg (by decide),Nat.shiftLeft_eq]
 have e2:signed false 0 ((-1074:Int)- -1074).toNat=0:=rfl;rw[e1,e2,Int.add_zero,<-h2];simp only[Option.map_some,Int.natAbs_natCast];unfold Format.write;have e3:(if ((FV x:Nat):Int)=0 then false&&false else decide (((FV x:Nat):Int)<0))=false:=by
  split
  ·rfl
  ·exact dF (by omega)
 rw[e3];dsimp only;rw[zP h]
theorem oG (r:Nat):double.order r 0=(double.read r).order (.number false 0 (-1074)):=by
 unfold Format.order;rw[show double.read 0= .number false 0 (-1074) by decide+kernel]
theorem pC {r:Nat} (hr:r<18446744073709551616) (hc:ji r=true):ey r<INF:=by
 have hH:double.read nK= .number false 7036874417766400 (-46):=by decide+kernel
 unfold ey
 split
 ·decide
 ·rename_i hz
  unfold ji at hc;rw[Bool.and_eq_true,Bool.or_eq_true,Bool.or_eq_true]at hc;obtain ⟨c1,c2⟩:=hc;have c3:double.order r 0=some .gt:=by
   rcases c1 with c1|c1
   ·exact eq_of_beq c1
   ·exact absurd c1 hz
  have c4:double.order r nK=some .lt\/double.order r nK=some .eq:=by
   rcases c2 with c2|c2
   ·exact .inl (eq_of_beq c2)
   ·exact .inr (eq_of_beq c2)
  rw[oG]at c3;unfold Format.order at c4;rw[hH]at c4;cases hs:(r / 9223372036854775808 % 2==1) with
  |false=>
   have hlt:r<9223372036854775808:=by
    have:¬r / 9223372036854775808 % 2=1:=by simpa using hs
    omega
   rcases Nat.lt_or_ge r INF with g|g
   ·exact g
   ·exfalso
    have hrd:double.read r= .infinity false\/∃f,double.read r= .nan false f:=by
     unfold Format.read;simp only[sn,pD,ko,ja,hs];rw[Nat.mod_eq_of_lt hlt];unfold INF at*;rw[if_neg (by omega),if_neg (by omega)]
     split
     ·exact .inl rfl
     ·exact .inr ⟨_,rfl⟩
    rcases hrd with e|⟨f,e⟩
    ·rw[e]at c4;rcases c4 with c4|c4<;>cases c4
    ·rw[e]at c3;cases c3
  |true=>
   exfalso
   have hrd:(∃m p,double.read r= .number true m p)\/double.read r= .infinity true\/∃f,double.read r= .nan true f:=by
    unfold Format.read;simp only[sn,pD,ko,ja,hs]
    split
    ·exact .inl ⟨_,_,rfl⟩
    ·split
     ·exact .inl ⟨_,_,rfl⟩
     ·split
      ·exact .inr (.inl rfl)
      ·exact .inr (.inr ⟨_,rfl⟩)
   rcases hrd with ⟨m,p,e⟩|e|⟨f,e⟩
   ·rw[e]at c3;unfold Datum.order at c3;dsimp only at c3;rw[Option.some.injEq]at c3;have:=Int.compare_eq_gt.1 c3;unfold signed at this;rw[if_pos rfl,if_neg (by decide)]at this;generalize m <<< (p-min p (-1074)).toNat=a at this;generalize 0 <<< (-1074-min p (-1074)).toNat=b at this;omega
   ·rw[e]at c3;cases c3
   ·rw[e]at c3;cases c3
theorem Gj {r:Nat} (h:(Lit.float .f64 r).wf=true):r<18446744073709551616:=by
 simpa[Lit.wf] using h
theorem vH (m:Nat) (k:Int):scW m k<18446744073709551616:=by
 have key:∀o:Option Nat,(∀r,o=some r->r<18446744073709551616)->o.getD 0<18446744073709551616:=fun o h=>by
  cases o with
  |none=>decide
  |some r=>exact h r rfl
 unfold scW
 split
 ·exact key _ fun r h=>Gj (floatBits_wf h)
 ·exact key _ fun r h=>Gj (floatBits_wf h)
end Go.Proofs.YtfenoaeoedobmaaGreatDoor
namespace Go.Proofs.YtfenoaeoedobmaaGreatDoor
open Go Go.RowKit
theorem BX (s:ByteArray):s.data.toList.length=s.size:=by rw[Array.length_toList];rfl
def pchar (c:UInt8):Bool:=decide (33<=c.toNat/\c.toNat<=126)
def jw (l:List UInt8):Bool:=decide (1<=l.length/\l.length<=256/\l[0]? =some 47)&&l.all pchar
def bY (c:UInt8):Bool:=decide ((65<=c.toNat/\c.toNat<=90)\/(97<=c.toNat/\c.toNat<=122)\/(48<=c.toNat/\c.toNat<=57)\/c.toNat=45\/c.toNat=46)
def bO (c:UInt8):UInt8:=if 65<=c.toNat/\c.toNat<=90 then c+32 else c
def fO (s:ByteArray):ByteArray×Bool:=if 1<=s.size/\s.size<=64/\s.data.toList.all bY=true then (⟨(s.data.toList.map bO).toArray⟩,true) else (⟨#[]⟩,false)
def mI (s:ByteArray):ByteArray:=⟨(Lib.trimSuffix s.data.toList [42]).toArray⟩
def AK (s:ByteArray):Bool:=Lib.hasSuffix s.data.toList [42]
def gP (s:ByteArray):Bool:=(AK s&&(mI s).toList==[])||jw (mI s).data.toList
def kj (s rest:ByteArray) (k:Int):Int×ByteArray:=if (fO rest).2=true then (k,(fO rest).1) else (3,s)
def jz (s:ByteArray):Int×ByteArray:=if (s.toList==[42])=true then (2,⟨#[]⟩) else if Lib.hasPrefix s.data.toList [42,46]=true then kj s (s.extract 2 s.size) 1 else kj s s 0
theorem vU {s:ByteArray} (h:Lib.hasPrefix s.data.toList [42,46]=true):2<=s.size:=by
 have h1:=List.IsPrefix.length_le (by simpa[Lib.hasPrefix] using h:[42,46] <+:s.data.toList);rw[BX]at h1;exact h1
def pS (c:UInt8):Bool:=decide (65<=c.toNat/\c.toNat<=90)
def gi (l:List UInt8):Bool:=l.all pS&&decide (0<l.length/\l.length<=64)
def fm (s:ByteArray):Bool:=(s.toList==[42])||gi s.data.toList
def iL (s:ByteArray):Bool:=decide ((jz s).1≠3)
structure Tgt where
 service:ByteArray
 split:ByteArray
 weight:Nat
structure Rul where
 path:ByteArray
 method:ByteArray
 split:ByteArray
 allow:Bool
structure Res where
 kind:Int
 name:ByteArray
 endps:List ByteArray
 targets:List Tgt
 host:ByteArray
 rules:List Rul
 route:ByteArray
 del:Bool
def Res.zero:Res:=⟨0,⟨#[]⟩,[],[],⟨#[]⟩,[],⟨#[]⟩,false⟩
abbrev Stop:=Int×Int
abbrev R (α:Type):=Except Stop α
def bs (l:List UInt8):ByteArray:=⟨l.toArray⟩
def kKind:ByteArray:=⟨#[107,105,110,100]⟩
def bB:ByteArray:=⟨#[110,97,109,101]⟩
def bu:ByteArray:=⟨#[100,101,108,101,116,101]⟩
def bn:ByteArray:=⟨#[101,110,100,112,111,105,110,116,115]⟩
def cq:ByteArray:=⟨#[116,97,114,103,101,116,115]⟩
def bd:ByteArray:=⟨#[115,101,114,118,105,99,101]⟩
def aU:ByteArray:=⟨#[115,112,108,105,116]⟩
def bD:ByteArray:=⟨#[119,101,105,103,104,116]⟩
def fM:ByteArray:=⟨#[104,111,115,116]⟩
def bX:ByteArray:=⟨#[114,117,108,101,115]⟩
def ed:ByteArray:=⟨#[114,111,117,116,101]⟩
def cm:ByteArray:=⟨#[97,99,116,105,111,110]⟩
def bV:ByteArray:=⟨#[112,97,116,104]⟩
def bA:ByteArray:=⟨#[109,101,116,104,111,100]⟩
def kAllow:ByteArray:=⟨#[97,108,108,111,119]⟩
def kDeny:ByteArray:=⟨#[100,101,110,121]⟩
def ki:ByteArray:=⟨#[42]⟩
def bz (ns:List Nd) (m:Nd) (key:ByteArray):Option Nat:=
 (m.kids.find? fun k=>decide ((ns[k.toNat]!).key=key)).map Int.toNat
def bC (ns:List Nd) (m:Nd) (key:ByteArray):Option Nd:=(bz ns m key).map fun k=>ns[k]!
def bH (ns:List Nd) (m:Nd) (key:ByteArray):R Nd:=
 match bC ns m key with
 |some n=> .ok n
 |none=> .error (m.line,122)
def bG (ns:List Nd) (keys:List ByteArray):List Int->R Unit
 |[]=> .ok ()
 |k::r=>if (ns[k.toNat]!).key∈keys then bG ns keys r else .error ((ns[k.toNat]!).line,121)
def xR (l:List UInt8):Bool:=l.all cG&&decide (0<l.length/\l.length<=64)
def aS (n:Nd) (so:ByteArray->Bool):R ByteArray:=
 if n.kind≠1\/so n.text=false then .error (n.line,123) else .ok n.text
def isName (s:ByteArray):Bool:=xR s.data.toList
def cn (ns:List Nd) (n:Nd) (least most:Nat):R (List Nd):=
 if n.kind≠3 then .error (n.line,123)
 else if n.kids.length<least\/most<n.kids.length then .error (n.line,124)
 else .ok (n.kids.map fun k=>ns[k.toNat]!)
def dS:List Nd->List ByteArray->R (List ByteArray)
 |[],out=> .ok out
 |k::r,out=>
  match aS k isName with
  | .error e=> .error e
  | .ok s=>if s∈out then .error (k.line,91) else dS r (out++[s])
def fG (ns:List Nd) (m:Nd) (r:Res):R Res:=
 match bC ns m bn with
 |none=> .ok r
 |some n=>
  match cn ns n 0 16 with
  | .error e=> .error e
  | .ok l=>
   match dS l [] with
   | .error e=> .error e
   | .ok out=> .ok {r with endps:=out}
def dt (n:Nd):R Unit:=if n.kind≠2 then .error (n.line,123) else .ok ()
def cw (n:Nd):R Nat:=
 if n.kind≠1 then .error (n.line,123)
 else if (aX n.text n.quoted).kind=3 then
  (if (aX n.text n.quoted).int<0\/100<(aX n.text n.quoted).int then .error (n.line,123) else .ok (floatOfInt .f64 (aX n.text n.quoted).int))
 else if (aX n.text n.quoted).kind=4 then
  (if ji (aX n.text n.quoted).real=true then .ok (ey (aX n.text n.quoted).real) else .error (n.line,123))
 else .error (n.line,123)
def eN (ns:List Nd) (l:List Int) (b:Nd):Nd:=
 l.foldl (fun x k=>if (ns[k.toNat]!).key=bd\/(ns[k.toNat]!).key=aU then ns[k.toNat]! else x) b
def dz (ns:List Nd) (k:Nd):R Tgt:=
 match dt k with
 | .error e=> .error e
 | .ok ()=>
 match bG ns [bd,aU,bD] k.kids with
 | .error e=> .error e
 | .ok ()=>
 match (match bC ns k bd,bC ns k aU with
  |none,none=>(.error (k.line,122):R (ByteArray×ByteArray))
  |some _,some b=> .error ((eN ns k.kids b).line,121)
  |some a,none=>(match aS a isName with| .error e=> .error e| .ok s=> .ok (s,⟨#[]⟩))
  |none,some b=>(match aS b isName with| .error e=> .error e| .ok s=> .ok (⟨#[]⟩,s))) with
 | .error e=> .error e
 | .ok (a,b)=>
 match bH ns k bD with
 | .error e=> .error e
 | .ok n=>
 match cw n with
 | .error e=> .error e
 | .ok x=> .ok ⟨a,b,x⟩
def bg (ns:List Nd):List Nd->List Tgt->R (List Tgt)
 |[],out=> .ok out
 |k::r,out=>
  match dz ns k with
  | .error e=> .error e
  | .ok t=>bg ns r (out++[t])
def jq (ns:List Nd) (m:Nd) (r:Res):R Res:=
 match bH ns m cq with
 | .error e=> .error e
 | .ok n=>
 match cn ns n 1 8 with
 | .error e=> .error e
 | .ok l=>
 match bg ns l [] with
 | .error e=> .error e
 | .ok out=> .ok {r with targets:=out}
def gk (s:ByteArray):Bool:=decide (s=kAllow\/s=kDeny)
def fk (ns:List Nd) (act:Bool) (k:Nd):R Rul:=
 match dt k with
 | .error e=> .error e
 | .ok ()=>
 match bG ns [bV,bA,if act=true then cm else aU] k.kids with
 | .error e=> .error e
 | .ok ()=>
 match (if act=true then (match bH ns k cm with| .error e=> .error e| .ok n=>aS n gk) else (.ok ⟨#[]⟩:R ByteArray)) with
 | .error e=> .error e
 | .ok a=>
 match bH ns k bV with
 | .error e=> .error e
 | .ok n=>
 match aS n gP with
 | .error e=> .error e
 | .ok p=>
 match (match bC ns k bA with|some n=>aS n fm|none=>(.ok ki:R ByteArray)) with
 | .error e=> .error e
 | .ok m=>
 match (if act=true then (.ok ⟨#[]⟩:R ByteArray) else (match bH ns k aU with| .error e=> .error e| .ok n=>aS n isName)) with
 | .error e=> .error e
 | .ok s=> .ok ⟨p,m,s,decide (a=kAllow)⟩
def cj (ns:List Nd) (act:Bool):List Nd->List Rul->R (List Rul)
 |[],out=> .ok out
 |k::r,out=>
  match fk ns act k with
  | .error e=> .error e
  | .ok x=>cj ns act r (out++[x])
def ie (ns:List Nd) (act:Bool) (m:Nd) (r:Res):R Res:=
 match bH ns m bX with
 | .error e=> .error e
 | .ok n=>
 match cn ns n 1 16 with
 | .error e=> .error e
 | .ok l=>
 match cj ns act l [] with
 | .error e=> .error e
 | .ok out=> .ok {r with rules:=out}
def ig (ns:List Nd) (m:Nd) (r:Res):R Res:=
 match bH ns m fM with
 | .error e=> .error e
 | .ok n=>
 match aS n iL with
 | .error e=> .error e
 | .ok s=>ie ns false m {r with host:=⟨(s.data.toList.map bO).toArray⟩}
def fA (ns:List Nd) (m:Nd) (r:Res):R Res:=
 match bH ns m ed with
 | .error e=> .error e
 | .ok n=>
 match aS n isName with
 | .error e=> .error e
 | .ok s=>ie ns true m {r with route:=s}
def fK:ByteArray:=⟨#[83,101,114,118,105,99,101]⟩
def mj:ByteArray:=⟨#[83,112,108,105,116]⟩
def ml:ByteArray:=⟨#[82,111,117,116,101]⟩
def jW:ByteArray:=⟨#[80,111,108,105,99,121]⟩
def kindN (n:Nd):Nat:=
 if n.kind≠1 then 0 else if n.text=fK then 1 else if n.text=mj then 2 else if n.text=ml then 3 else if n.text=jW then 4 else 0
def p7 (k:Nat):List ByteArray:=
 if k=1 then [bn] else if k=2 then [cq] else if k=3 then [fM,bX] else [ed,bX]
def qZ (ns:List Nd) (m:Nd) (r:Res) (k:Nat):R Res:=
 match bG ns (kKind::bB::p7 k) m.kids with
 | .error e=> .error e
 | .ok ()=>if k=1 then fG ns m r else if k=2 then jq ns m r else if k=3 then ig ns m r else fA ns m r
def isTrue (n:Nd):Bool:=decide (n.kind=1/\(aX n.text n.quoted).kind=2)&&(aX n.text n.quoted).bool
def fR (ns:List Nd):R Res:=
 if dI ns=false then .error (0,100)
 else
 match dt (ns[0]!) with
 | .error e=> .error e
 | .ok ()=>
 match bH ns (ns[0]!) kKind with
 | .error e=> .error e
 | .ok k=>
 if kindN k=0 then .error (k.line,120)
 else
 match bH ns (ns[0]!) bB with
 | .error e=> .error e
 | .ok n=>
 match aS n isName with
 | .error e=> .error e
 | .ok s=>
 match bC ns (ns[0]!) bu with
 |some x=>
  if isTrue x=false then .error (x.line,123)
  else (match bG ns [kKind,bB,bu] (ns[0]!).kids with
   | .error e=> .error e
   | .ok ()=> .ok {Res.zero with kind:=(kindN k:Int),name:=s,del:=true})
 |none=>qZ ns (ns[0]!) {Res.zero with kind:=(kindN k:Int),name:=s} (kindN k)
def eh:List (List Nd)->Nat->Except (Nat×Stop) (List Res)
 |[],_=> .ok []
 |d::r,i=>
  match fR d with
  | .error e=> .error (i,e)
  | .ok x=>
   match eh r (i+1) with
   | .error e=> .error e
   | .ok l=> .ok (x::l)
theorem mG (c:UInt8):(cG c=true/\(((c.toNat:Int)<97/\(c.toNat:Int)<65/\(c.toNat:Int)<48/\(c.toNat:Int)<=122/\(c.toNat:Int)<=90/\(c.toNat:Int)<=57/\((c.toNat:Int)==95)=false/\((c.toNat:Int)==45)=true/\((c.toNat:Int)==46)=false)\/((c.toNat:Int)<97/\(c.toNat:Int)<65/\(c.toNat:Int)<48/\(c.toNat:Int)<=122/\(c.toNat:Int)<=90/\(c.toNat:Int)<=57/\((c.toNat:Int)==95)=false/\((c.toNat:Int)==45)=false/\((c.toNat:Int)==46)=true)\/((c.toNat:Int)<97/\(c.toNat:Int)<65/\(48:Int)<=(c.toNat:Int)/\(c.toNat:Int)<=122/\(c.toNat:Int)<=90/\(c.toNat:Int)<=57/\((c.toNat:Int)==95)=false/\((c.toNat:Int)==45)=false/\((c.toNat:Int)==46)=false)\/((c.toNat:Int)<97/\(65:Int)<=(c.toNat:Int)/\(48:Int)<=(c.toNat:Int)/\(c.toNat:Int)<=122/\(c.toNat:Int)<=90/\decide ((c.toNat:Int)<=57)=false/\((c.toNat:Int)==95)=false/\((c.toNat:Int)==45)=false/\((c.toNat:Int)==46)=false)\/((c.toNat:Int)<97/\(65:Int)<=(c.toNat:Int)/\(48:Int)<=(c.toNat:Int)/\(c.toNat:Int)<=122/\decide ((c.toNat:Int)<=90)=false/\decide ((c.toNat:Int)<=57)=false/\((c.toNat:Int)==95)=true/\((c.toNat:Int)==45)=false/\((c.toNat:Int)==46)=false)\/((97:Int)<=(c.toNat:Int)/\(65:Int)<=(c.toNat:Int)/\(48:Int)<=(c.toNat:Int)/\(c.toNat:Int)<=122/\decide ((c.toNat:Int)<=90)=false/\decide ((c.toNat:Int)<=57)=false/\((c.toNat:Int)==95)=false/\((c.toNat:Int)==45)=false/\((c.toNat:Int)==46)=false)))\/(cG c=false/\(((c.toNat:Int)<97/\(c.toNat:Int)<65/\(c.toNat:Int)<48/\(c.toNat:Int)<=122/\(c.toNat:Int)<=90/\(c.toNat:Int)<=57/\((c.toNat:Int)==95)=false/\((c.toNat:Int)==45)=false/\((c.toNat:Int)==46)=false)\/((c.toNat:Int)<97/\(c.toNat:Int)<65/\(c.toNat:Int)<48/\(c.toNat:Int)<=122/\(c.toNat:Int)<=90/\(c.toNat:Int)<=57/\((c.toNat:Int)==95)=false/\((c.toNat:Int)==45)=false/\((c.toNat:Int)==46)=false)\/((c.toNat:Int)<97/\(c.toNat:Int)<65/\(48:Int)<=(c.toNat:Int)/\(c.toNat:Int)<=122/\(c.toNat:Int)<=90/\decide ((c.toNat:Int)<=57)=false/\((c.toNat:Int)==95)=false/\((c.toNat:Int)==45)=false/\((c.toNat:Int)==46)=false)\/((c.toNat:Int)<97/\(65:Int)<=(c.toNat:Int)/\(48:Int)<=(c.toNat:Int)/\(c.toNat:Int)<=122/\decide ((c.toNat:Int)<=90)=false/\decide ((c.toNat:Int)<=57)=false/\((c.toNat:Int)==95)=false/\((c.toNat:Int)==45)=false/\((c.toNat:Int)==46)=false)\/((c.toNat:Int)<97/\(65:Int)<=(c.toNat:Int)/\(48:Int)<=(c.toNat:Int)/\(c.toNat:Int)<=122/\decide ((c.toNat:Int)<=90)=false/\decide ((c.toNat:Int)<=57)=false/\((c.toNat:Int)==95)=false/\((c.toNat:Int)==45)=false/\((c.toNat:Int)==46)=false)\/((97:Int)<=(c.toNat:Int)/\(65:Int)<=(c.toNat:Int)/\(48:Int)<=(c.toNat:Int)/\decide ((c.toNat:Int)<=122)=false/\decide ((c.toNat:Int)<=90)=false/\decide ((c.toNat:Int)<=57)=false/\((c.toNat:Int)==95)=false/\((c.toNat:Int)==45)=false/\((c.toNat:Int)==46)=false))):=by
 have hl:=c.toNat_lt;by_cases hy:(45<=c.toNat/\c.toNat<=45)\/(46<=c.toNat/\c.toNat<=46)\/(48<=c.toNat/\c.toNat<=57)\/(65<=c.toNat/\c.toNat<=90)\/(95<=c.toNat/\c.toNat<=95)\/(97<=c.toNat/\c.toNat<=122)
 ·refine .inl ⟨dT (by omega),?_⟩;rcases hy with h|h|h|h|h|h
  ·exact .inl (by simp;omega)
  ·exact .inr (.inl (by simp;omega))
  ·exact .inr (.inr (.inl (by simp;omega)))
  ·exact .inr (.inr (.inr (.inl (by simp;omega))))
  ·exact .inr (.inr (.inr (.inr (.inl (by simp;omega)))))
  ·exact .inr (.inr (.inr (.inr (.inr (by simp;omega)))))
 ·refine .inr ⟨dF (by omega),?_⟩;rcases (show (c.toNat<=44)\/c.toNat=47\/(58<=c.toNat/\c.toNat<=64)\/(91<=c.toNat/\c.toNat<=94)\/c.toNat=96\/123<=c.toNat by omega) with h|h|h|h|h|h
  ·exact .inl (by simp;omega)
  ·exact .inr (.inl (by simp;omega))
  ·exact .inr (.inr (.inl (by simp;omega)))
  ·exact .inr (.inr (.inr (.inl (by simp;omega))))
  ·exact .inr (.inr (.inr (.inr (.inl (by simp;omega)))))
  ·exact .inr (.inr (.inr (.inr (.inr (by simp;omega)))))
theorem Fs (w:World) (s:ByteArray) (i:Nat) (hs:s.size<=1048576) (hi:i<=s.size):
 Calls Tryz.prog 144 #[.string s,.int .i64 (i:Int)] w fun r w'=>r= .returned (.int .i64 ((i+cI (s.data.toList.drop i):Nat):Int))/\w'=w:=by
 obtain ⟨n,hn⟩:=ex (s.size);have Hn:=hid hn;obtain ⟨l,hl⟩:=ex (s.data.toList);have Hl:=hid hl;have Hs:=hid hs;have Hi:=hid hi;rw[<-hl];clear hn hl hs hi;go_enter Tryz.func144,Tryz.ntmps144;go_wp2
 go_loop [1] (fun v=>∃k:Nat,v= .int .i64 (k:Int)/\Hid (k<=n/\i+cI (l.drop i)=k+cI (l.drop k))) (fun v=>n-(intOf v).toNat)
 case atStart=>exact ⟨i,rfl,hid ⟨by rw[Hn.o];exact Hi.o,rfl⟩⟩
 case round=>
  obtain ⟨k,rfl,H⟩:=hrel;have hn:n=s.size:=Hn.o;have hl:l=s.data.toList:=Hl.o;have hs:=Hs.o;by_cases hkn:k<n
  ·obtain ⟨c,hc⟩:=dL (s:=s) (by rw[<-hn];exact hkn);have hidx:=aN (s:=s) (k:Int) rfl hc;have b3:(k:Int)<(s.size:Int):=by omega
   have wk:=aW (z:=(k:Int)+1) (by omega) (by omega);have Hms:=hid (df hkn wk);have Hgo:=hid (fh wk);rcases mG c with ⟨hch,h⟩|⟨hch,h⟩
   ·rcases h with ⟨g0,g1,g2,k0,k1,k2,e0,e1,e2⟩|⟨g0,g1,g2,k0,k1,k2,e0,e1,e2⟩|⟨g0,g1,g2,k0,k1,k2,e0,e1,e2⟩|⟨g0,g1,g2,k0,k1,k2,e0,e1,e2⟩|⟨g0,g1,g2,k0,k1,k2,e0,e1,e2⟩|⟨g0,g1,g2,k0,k1,k2,e0,e1,e2⟩
    all_goals
     have He:=hid (show k+1<=n/\i+cI (l.drop i)=k+1+cI (l.drop (k+1)) from ⟨hkn,by rw[H.o.2,Fg (by rw[hl];exact hc) hch];omega⟩);clear hn hl hs hkn hc hch H wk;go_wp2;go_round
     case rel=>exact ⟨k+1,Hgo.o,He⟩
     case measure=>exact Hms.o
   ·rcases h with ⟨g0,g1,g2,k0,k1,k2,e0,e1,e2⟩|⟨g0,g1,g2,k0,k1,k2,e0,e1,e2⟩|⟨g0,g1,g2,k0,k1,k2,e0,e1,e2⟩|⟨g0,g1,g2,k0,k1,k2,e0,e1,e2⟩|⟨g0,g1,g2,k0,k1,k2,e0,e1,e2⟩|⟨g0,g1,g2,k0,k1,k2,e0,e1,e2⟩
    all_goals
     have He:=hid (show k=i+cI (l.drop i) by rw[H.o.2,Ff (by rw[hl];exact hc) (by rw[hch];decide)];omega);clear hn hl hs hkn hc hch H wk;go_wp2;go_ret;exact ⟨oz (by have:=He.o;omega),rfl⟩
  ·have b3:(s.size:Int)<=(k:Int):=by omega
   have He:=hid (show k=i+cI (l.drop i) by rw[H.o.2,Ct (by rw[hl,an];omega)];omega);clear hn hl hs hkn H;go_wp2;go_ret;exact ⟨oz (by have:=He.o;omega),rfl⟩
theorem Cu {s:ByteArray} {k:Nat} {c:UInt8} (hc:s.data.toList[k]? =some c) (h:cG c=false):isName s=false:=by
 unfold isName xR;rw[Bool.and_eq_false_iff];refine .inl ?_;rw[List.all_eq_false];exact ⟨c,List.mem_of_getElem? hc,by rw[h];decide⟩
theorem tQ {l:List UInt8} (h:∀(j:Nat) (c:UInt8),j<l.length->l[j]? =some c->cG c=true):l.all cG=true:=by
 rw[List.all_eq_true];intro c hc;obtain ⟨j,hj,e⟩:=List.getElem_of_mem hc;exact h j c hj (by rw[aAg hj,e])
theorem Ev (w:World) (s:ByteArray) (hs:s.size<=1048576):
 Calls Tryz.prog 42 #[.string s] w fun r w'=>r= .returned (.bool (isName s))/\w'=w:=by
 obtain ⟨n,hn⟩:=ex (s.size);have Hn:=hid hn;obtain ⟨l,hl⟩:=ex (s.data.toList);have Hl:=hid hl;have Hs:=hid hs;clear hn hl hs;go_enter Tryz.func42,Tryz.ntmps42;go_wp2
 go_loop [7] (fun v=>∃k:Nat,v= .int .i64 (k:Int)/\Hid (k<=n/\∀(j:Nat) (c:UInt8),j<k->l[j]? =some c->cG c=true)) (fun v=>n-(intOf v).toNat)
 case atStart=>exact ⟨0,rfl,hid ⟨Nat.zero_le _,fun j c h=>absurd h (Nat.not_lt_zero _)⟩⟩
 case round=>
  obtain ⟨k,rfl,H⟩:=hrel;have hn:n=s.size:=Hn.o;have hl:l=s.data.toList:=Hl.o;have hs:=Hs.o;by_cases hkn:k<n
  ·obtain ⟨c,hc⟩:=dL (s:=s) (by rw[<-hn];exact hkn);have hidx:=aN (s:=s) (k:Int) rfl hc;have b3:(k:Int)<(s.size:Int):=by omega
   have wk:=aW (z:=(k:Int)+1) (by omega) (by omega);have Hms:=hid (df hkn wk);have Hgo:=hid (fh wk);rcases mG c with ⟨hch,h⟩|⟨hch,h⟩
   ·rcases h with ⟨g0,g1,g2,k0,k1,k2,e0,e1,e2⟩|⟨g0,g1,g2,k0,k1,k2,e0,e1,e2⟩|⟨g0,g1,g2,k0,k1,k2,e0,e1,e2⟩|⟨g0,g1,g2,k0,k1,k2,e0,e1,e2⟩|⟨g0,g1,g2,k0,k1,k2,e0,e1,e2⟩|⟨g0,g1,g2,k0,k1,k2,e0,e1,e2⟩
    all_goals
     have He:=hid (show k+1<=n/\∀(j:Nat) (c:UInt8),j<k+1->l[j]? =some c->cG c=true from ⟨hkn,fun j d hj hd=>by
      by_cases e:j=k
      ·subst e;rw[hl,hc]at hd;obtain rfl:=aAf hd;exact hch
      ·exact H.o.2 j d (by omega) hd⟩)
     clear hn hl hs hkn hc hch H wk;go_wp2;go_round
     case rel=>exact ⟨k+1,Hgo.o,He⟩
     case measure=>exact Hms.o
   ·rcases h with ⟨g0,g1,g2,k0,k1,k2,e0,e1,e2⟩|⟨g0,g1,g2,k0,k1,k2,e0,e1,e2⟩|⟨g0,g1,g2,k0,k1,k2,e0,e1,e2⟩|⟨g0,g1,g2,k0,k1,k2,e0,e1,e2⟩|⟨g0,g1,g2,k0,k1,k2,e0,e1,e2⟩|⟨g0,g1,g2,k0,k1,k2,e0,e1,e2⟩
    all_goals
     have He:=hid (show false=isName s from (Cu hc hch).symm);clear hn hl hs hkn hc hch H wk;go_wp2;go_ret;exact ⟨eD He.o,rfl⟩
  ·have b3:(s.size:Int)<=(k:Int):=by omega
   have hall:s.data.toList.all cG=true:=tQ fun j c hj hc=>H.o.2 j c (by rw[an]at hj;omega) (by rw[hl];exact hc);have hv:isName s=decide (0<s.size/\s.size<=64):=by unfold isName xR;rw[hall,an];rfl
   rcases Nat.eq_zero_or_pos s.size with h0|h0
   ·have q0:s.toList=[]:=by rw[Lib.toList_data];exact List.eq_nil_of_length_eq_zero (by rw[an];exact h0)
    have q1:s.toList.isEmpty=true:=by rw[q0];rfl
    have Q0:=hid q0;have q2:(s.size:Int)<=0:=by omega
    have q3:(!s.toList.isEmpty)=false:=by rw[q1];rfl
    have He:=hid (show false=isName s by rw[hv];exact (dF (by omega)).symm);clear hn hl hs hkn H hall hv h0 q2;go_wp2;go_ret;exact ⟨eD He.o,rfl⟩
   ·have q0:¬s.toList=[]:=by rw[Lib.toList_data];intro h;have q:=congrArg List.length h;rw[an]at q;exact absurd q (Nat.ne_of_gt h0)
    have q1:s.toList.isEmpty=false:=by cases h:s.toList with|nil=>exact absurd h q0|cons a b=>rfl
    have q3:(!s.toList.isEmpty)=true:=by rw[q1];rfl
    have q2:(0:Int)<(s.size:Int):=by omega
    by_cases h64:s.size<=64
    ·have b4:(s.size:Int)<=64:=by omega
     have He:=hid (show true=isName s by rw[hv];exact (dT (by omega)).symm);clear hn hl hs hkn H hall hv h0 h64 q2;go_wp2;go_ret;exact ⟨eD He.o,rfl⟩
    ·have b4:decide ((s.size:Int)<=64)=false:=dF (by omega);have He:=hid (show false=isName s by rw[hv];exact (dF (by omega)).symm);clear hn hl hs hkn H hall hv h0 h64 q2;go_wp2;go_ret;exact ⟨eD He.o,rfl⟩
theorem mv:∀(l:List UInt8) (b:UInt8),0<=Lib.indexByte l b↔l.any (fun c=>decide (c=b))=true
 |[],b=>⟨fun h=>absurd (show (0:Int)<= -1 from h) (by decide),fun h=>by cases h⟩
 |a::l,b=>by
  have ih:=mv l b;have hg:=Lib.indexByte_ge l b;rw[List.any_cons];unfold Lib.indexByte;by_cases h:a=b
  ·rw[if_pos (beq_iff_eq.2 h),dT h];simp
  ·rw[if_neg (fun q=>h (eq_of_beq q)),dF h,Bool.false_or,<-ih];by_cases h1:Lib.indexByte l b= -1
   ·rw[h1]
    decide
   ·rw[if_neg (fun q=>h1 (eq_of_beq q))];omega
theorem Eu (w:World) (s:ByteArray) (hs:s.size<=1048576):
 Calls Tryz.prog 140 #[.string s] w fun r w'=>r= .returned (.int .i64 (eG s.data.toList))/\w'=w:=by
 have Hx:=hid (Tryz.strings_IndexByte s 9 w);by_cases h9:s.data.toList.any (fun c=>decide (c.toNat=9))=true
 ·have hv:eG s.data.toList=80:=by unfold eG;rw[if_pos h9]
  have hi:(0:Int)<=Lib.indexByte s.data.toList (9:Int).toNat.toUInt8:=(mv _ _).2 (by rw[<-h9];congr 1;funext c;exact decide_eq_decide.2 ⟨fun h=>by rw[h];rfl,fun h=>by apply UInt8.toNat_inj.1;rw[h];rfl⟩);rw[hv];clear hv h9 hs;generalize Lib.indexByte s.data.toList (9:Int).toNat.toUInt8=z at*;go_enter Tryz.func140,Tryz.ntmps140
  go_wp2_with fail
  refine cS Hx.o ?_;clear Hx;go_wp2;go_ret;exact ⟨rfl,rfl⟩
 ·have hv:eG s.data.toList=if s.data.toList.any (fun c=>decide (c.toNat<32\/c.toNat=127))=true then 83 else 0:=by unfold eG;rw[if_neg h9]
  have hi:Lib.indexByte s.data.toList (9:Int).toNat.toUInt8<0:=by
   refine Int.not_le.1 fun h=>h9 ?_;rw[<-(mv _ _).1 h];congr 1;funext c;exact decide_eq_decide.2 ⟨fun h=>by apply UInt8.toNat_inj.1;rw[h];rfl,fun h=>by rw[h];rfl⟩
  have Hv:=hid hv;clear hv h9;generalize Lib.indexByte s.data.toList (9:Int).toNat.toUInt8=z at*;obtain ⟨n,hn⟩:=ex (s.size);have Hn:=hid hn;obtain ⟨l,hl⟩:=ex (s.data.toList);have Hl:=hid hl;have Hs:=hid hs;rw[<-hl];rw[<-hl]at Hv;clear hn hl hs;go_enter Tryz.func140,Tryz.ntmps140
  go_wp2_with fail
  refine cS Hx.o ?_;clear Hx;go_wp2
  go_loop [9] (fun v=>∃k:Nat,v= .int .i64 (k:Int)/\Hid (k<=n/\∀(j:Nat) (c:UInt8),j<k->l[j]? =some c->¬(c.toNat<32\/c.toNat=127))) (fun v=>n-(intOf v).toNat)
  case atStart=>exact ⟨0,rfl,hid ⟨Nat.zero_le _,fun j c h=>absurd h (Nat.not_lt_zero _)⟩⟩
  case round=>
   obtain ⟨k,rfl,H⟩:=hrel;have hn:n=s.size:=Hn.o;have hl:l=s.data.toList:=Hl.o;have hs:=Hs.o;by_cases hkn:k<n
   ·obtain ⟨c,hc⟩:=dL (s:=s) (by rw[<-hn];exact hkn);have hidx:=aN (s:=s) (k:Int) rfl hc;have b3:(k:Int)<(s.size:Int):=by omega
    have wk:=aW (z:=(k:Int)+1) (by omega) (by omega);have Hms:=hid (df hkn wk);have Hgo:=hid (fh wk);by_cases hlo:c.toNat<32
    ·have p1:(c.toNat:Int)<32:=by omega
     have He:=hid (show 83=eG l by rw[Hv.o,if_pos];rw[List.any_eq_true];exact ⟨c,List.mem_of_getElem? (by rw[hl];exact hc),dT (.inl hlo)⟩);clear hn hl hs hkn hc hlo H wk;go_wp2;go_ret;exact ⟨oz He.o,rfl⟩
    ·have p1:(32:Int)<=(c.toNat:Int):=by omega
     by_cases hhi:c.toNat=127
     ·have p2:((c.toNat:Int)==127)=true:=by rw[beq_iff_eq];omega
      have He:=hid (show 83=eG l by rw[Hv.o,if_pos];rw[List.any_eq_true];exact ⟨c,List.mem_of_getElem? (by rw[hl];exact hc),dT (.inr hhi)⟩);clear hn hl hs hkn hc hlo hhi H wk;go_wp2;go_ret;exact ⟨oz He.o,rfl⟩
     ·have p2:((c.toNat:Int)==127)=false:=bF (by omega);have He:=hid (show k+1<=n/\∀(j:Nat) (c:UInt8),j<k+1->l[j]? =some c->¬(c.toNat<32\/c.toNat=127) from ⟨hkn,fun j d hj hd=>by
       by_cases e:j=k
       ·subst e;rw[hl,hc]at hd;obtain rfl:=aAf hd;omega
       ·exact H.o.2 j d (by omega) hd⟩)
      clear hn hl hs hkn hc hlo hhi H wk;go_wp2;go_round
      case rel=>exact ⟨k+1,Hgo.o,He⟩
      case measure=>exact Hms.o
   ·have b3:(s.size:Int)<=(k:Int):=by omega
    have He:=hid (show 0=eG l by
     rw[Hv.o,if_neg];rw[List.any_eq_true];rintro ⟨c,hm,hc⟩;obtain ⟨j,hj,e⟩:=List.getElem_of_mem hm;exact H.o.2 j c (by rw[hl,an]at hj;omega) (by rw[aAg hj,e]) (of_decide_eq_true hc))
    clear hn hl hs hkn H;go_wp2;go_ret;exact ⟨oz He.o,rfl⟩
structure RO (w wr:World) (e:TypeId) (sz:Nat) (v:Value) (n:Nat) (xs:List Value):Prop where
 below:Below w.heap.size w wr
 row:wr.ownsRow 0 e sz v n xs
 new:∀g,v.ownBlock=some g->w.heap.size<=g
theorem RO.first (w:World) (e:TypeId) (sz:Nat):RO w w e sz (.slice none 0 0) 0 []:=⟨aAb _ _,World.ownsRow_nil _ _ _ _,nofun⟩
theorem RO.later {w wr w2:World} {e:TypeId} {sz n:Nat} {v:Value} {xs:List Value} (h:RO w wr e sz v n xs) (hb:Below wr.heap.size wr w2):RO w w2 e sz v n xs:=
 ⟨h.below.trans (hb.mono h.below.size),jS h.row hb,h.new⟩
theorem RO.start {w w1:World} {e:TypeId} {sz:Nat} (hb:Below w.heap.size w w1):RO w w1 e sz (.slice none 0 0) 0 []:=(RO.first w e sz).later hb
theorem RO.drewN {w wr:World} {e:TypeId} {sz n:Nat} {v:Value} {xs:List Value} (h:RO w wr e sz v n xs) (k:Nat):RO w (wr.drewN k) e sz v n xs:=⟨bdH h.below k,h.row,h.new⟩
theorem RO.drew {w wr:World} {e:TypeId} {sz n:Nat} {v:Value} {xs:List Value} (h:RO w wr e sz v n xs):RO w wr.drew e sz v n xs:=⟨h.below.drew,h.row,h.new⟩
theorem RO.app {w wr w1 w2:World} {e:TypeId} {sz n m:Nat} {v v':Value} {xs ys:List Value} (h:RO w wr e sz v n xs) (hb1:Below wr.heap.size wr w1) (own2:w2.ownsRow 0 e sz v' m ys) (gr2:w1.grownBy w2 v.ownBlock)
 (new2:∀g,v'.ownBlock=some g->v.ownBlock=some g\/w1.heap.size<=g):RO w w2 e sz v' m ys:=by
 have hb:Below w.heap.size w w1:=h.below.trans (hb1.mono h.below.size);have hm:Mod (fun k=>v.ownBlock=some k) w1 w2:=(Mod.refl _ _).grown gr2 (fun k e _=>e);refine ⟨hb.trans (hm.below hb.size fun k hk=>h.new k hk),own2,fun g hg=> ?_⟩;rcases new2 g hg with q|q
 ·exact h.new g q
 ·exact aAe hb.size q
theorem binfo:(Tryz.prog.info? 5).map (fun i=>(i.zero,i.size,i.bytes))=some (some (.int .u8 0),1,1):=by kernel_rfl
theorem pE (l:List UInt8) (c:UInt8):Lib.byteCells (l++[c])=Lib.byteCells l++[.int .u8 (c.toNat:Int)]:=by simp[Lib.byteCells]
abbrev Gi (w:World) (B:Nat) (v:Value) (l:List UInt8):Prop:=w.ownsRow B 5 1 v l.length (Lib.byteCells l)
theorem jG {w:World} {B:Nat} {v:Value} {l:List UInt8} (h:Gi w B v l):(convert 42 9 v).run Tryz.prog w= .ok (.string ⟨l.toArray⟩) w:=by
 rcases h.2 with ⟨hv,hn⟩|⟨g,cap,cur,hv,_⟩
 ·have hl:l=[]:=List.eq_nil_of_length_eq_zero hn;subst hl;rw[hv];have:=run_convert_bytes_string (P:= Tryz.prog) w 42 9 5 none 0 0 Tryz.underlying42 Tryz.underlying5 Tryz.underlying9;rw[this];simp[Conv.bytesToString,go_sem];rfl
 ·rw[hv];refine run_convert_bytes_back (P:= Tryz.prog) w 42 9 5 ⟨g,0,none⟩ cap l Tryz.underlying42 Tryz.underlying5 Tryz.underlying9 (fun j hj=> ?_);refine h.cells (g:=g) (by rw[hv];rfl) j _ ?_;unfold Lib.byteCells;rw[List.getElem?_map,aAg hj];rfl
abbrev RB (w wr:World) (v:Value) (l:List UInt8):Prop:=RO w wr 5 1 v l.length (Lib.byteCells l)
theorem RB.app {w wr w2:World} {v v':Value} {l:List UInt8} {c:UInt8} {o:Obj} (h:RB w wr v l) (own2:w2.ownsRow 0 5 1 v' (l.length+1) (Lib.byteCells l++[.int .u8 (c.toNat:Int)])) (gr2:(wr.alloc o).grownBy w2 v.ownBlock) (new2:∀g,v'.ownBlock=some g->v.ownBlock=some g\/(wr.alloc o).heap.size<=g):RB w w2 v' (l++[c]):=by
 have:=RO.app h ((aAb _ wr).alloc (aAa _) o) own2 gr2 new2
 show RO w w2 _ 1 v' (l++[c]).length (Lib.byteCells (l++[c]))
 rw[pE,aAc];exact this
theorem dG {w:World} {ops:Array Oper} {rest:List Oper} {o:Oper} {a:Act} {Q:Exit->Act->World->Prop} (hgd:o.guard=none) (s x:Operand)
 (ho:o.op= .call {callee:= .builtin .append,args:=#[s,x],argTypes:=#[42,42]})
 (v:Value) (l:List UInt8) (hs:a.eval s=v) (hown:w.ownsRow 0 5 1 v l.length (Lib.byteCells l)) (g:Nat) (c:UInt8) (hx:a.eval x= .slice (some ⟨g,0,none⟩) 1 1)
 (hnew:w.cell? ⟨g,0,none⟩=some (.int .u8 (c.toNat:Int))) (hlen:l.length<=1000000000)
 (h:∀v' w',w'.ownsRow 0 5 1 v' (l.length+1) (Lib.byteCells l++[.int .u8 (c.toNat:Int)])->w.grownBy w' v.ownBlock->(∀g,v'.ownBlock=some g->v.ownBlock=some g\/w.heap.size<=g)->
  wpList Tryz.prog ops Q rest (a.put o.dst v') w'):wpList Tryz.prog ops Q (o::rest) a w:=by
 obtain ⟨i0,hi5,hz0,hz1,hz2⟩:=info_parts binfo;refine ep w hgd s x 42 ho 5 i0 (.int .u8 0) 1 1 Tryz.underlying42 hi5 hz0 hz1 hz2 rfl (by decide) v l.length (Lib.byteCells l) hs hown (some ⟨g,0,none⟩) 1 1 [.int .u8 (c.toNat:Int)] hx rfl
  (fun hn=>by cases hn) (fun ad had=> ?_) (fun u hu=>by simp at hu;subst hu;rfl) (by unfold maxLen;omega) (by omega) h
 obtain rfl:=aAf had;intro j u hj;cases j with
 |zero=>
  simp only[List.getElem?_cons_zero,Option.some.injEq]at hj;subst hj;exact hnew
 |succ j=>simp at hj
theorem RB.drewN {w wr:World} {v:Value} {l:List UInt8} (h:RB w wr v l) (k:Nat):RB w (wr.drewN k) v l:=RO.drewN h k
theorem RB.drew {w wr:World} {v:Value} {l:List UInt8} (h:RB w wr v l):RB w wr.drew v l:=RO.drew h
abbrev hexes:ByteArray:=⟨#[48,49,50,51,52,53,54,55,56,57,97,98,99,100,101,102]⟩
theorem C2:∀c:Fin 256,Lib.indexByte hexes.data.toList (UInt8.ofNat c.val)=eU (UInt8.ofNat c.val):=by decide+kernel
theorem wT (c:UInt8):Lib.indexByte hexes.data.toList c=eU c:=by
 have:=C2 ⟨c.toNat,c.toNat_lt⟩;rw[UInt8.ofNat_toNat]at this;exact this
theorem yh (c:UInt8): -1<=eU c:=by
 unfold eU
 split
 ·omega
 ·split<;>omega
theorem ye (x:UInt8) (w1:World):Calls Tryz.prog 177 #[.string hexes,.int .u8 (x.toNat:Int)] w1 fun r w'=>r= .returned (.int .i64 (eU x))/\w'=w1:=
 (Tryz.strings_IndexByte hexes (x.toNat:Int) w1).mono fun r w' ⟨hr,hw⟩=>⟨by
  rw[hr];have e:((x.toNat:Int)).toNat.toUInt8=x:=by
   show (x.toNat).toUInt8=x
   simp
  rw[e,wT],hw⟩
theorem IU:∀a b:Fin 16,bits BinOp.or IntKind.i64 (wrap64 ((a.val:Int)*16)) (b.val:Int) % 256=16*(a.val:Int)+(b.val:Int):=by decide+kernel
theorem or_val {h o:UInt8} (h1:0<=eU h) (h2:0<=eU o):bits BinOp.or IntKind.i64 (wrap64 (eU h*16)) (eU o) % 256=((hexB h o).toNat:Int):=by
 rw[C3 h1 h2];have q1:=nV h;have q2:=nV o;generalize eU h=hi at*;generalize eU o=lo at*;obtain ⟨a,rfl⟩:∃a:Fin 16,hi=(a.val:Int):=⟨⟨hi.toNat,by omega⟩,by show hi=(hi.toNat:Int);omega⟩;obtain ⟨b,rfl⟩:∃b:Fin 16,lo=(b.val:Int):=⟨⟨lo.toNat,by omega⟩,by show lo=(lo.toNat:Int);omega⟩;exact IU a b
theorem E9 {W:World} {hi lo:Int} {B:UInt8} (h:bits BinOp.or IntKind.i64 (wrap64 (hi*16)) lo % 256=(B.toNat:Int)):
 (W.alloc (.cells #[.int .u8 (bits BinOp.or IntKind.i64 (wrap64 (hi*16)) lo % 256)] 5)).cell? ⟨W.heap.size,0,none⟩=some (.int .u8 (B.toNat:Int)):=by
 rw[World.cell?_alloc_new,h];rfl
theorem C1 (h o:UInt8):∃(hi lo:Int),(∀w1,Calls Tryz.prog 177 #[.string hexes,.int .u8 (h.toNat:Int)] w1 fun r w'=>r= .returned (.int .i64 hi)/\w'=w1)/\
 (∀w1,Calls Tryz.prog 177 #[.string hexes,.int .u8 (o.toNat:Int)] w1 fun r w'=>r= .returned (.int .i64 lo)/\w'=w1)/\
 (hi=eU h/\lo=eU o)/\(0<=hi->0<=lo->bits BinOp.or IntKind.i64 (wrap64 (hi*16)) lo % 256=((hexB h o).toNat:Int)):=
 ⟨eU h,eU o,ye h,ye o,⟨rfl,rfl⟩,or_val⟩
