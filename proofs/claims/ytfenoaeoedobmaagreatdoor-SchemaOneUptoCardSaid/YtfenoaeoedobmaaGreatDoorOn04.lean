/-
Parts of a proof.
-/
import Derived.Test.YtfenoaeoedobmaaGreatDoorOn03
set_option linter.unusedVariables false
set_option linter.unusedSimpArgs false
namespace Go.Proofs.YtfenoaeoedobmaaGreatDoor
open Go Go.RowKit
def okB (c:UInt8):Prop:=32<=c.toNat/\c.toNat≠127
theorem yD {l:List UInt8} (h:∀c∈l,okB c):dJ l=0:=by
 unfold dJ;rw[if_neg,if_neg]
 ·rw[List.any_eq_true];rintro ⟨c,hc,h2⟩;have:=h c hc;have:=of_decide_eq_true h2;unfold okB at*;omega
 ·rw[List.any_eq_true];rintro ⟨c,hc,h2⟩;have:=h c hc;have:=of_decide_eq_true h2;unfold okB at*;omega
theorem Np {l:List UInt8} (h:dJ l=0):∀c∈l,okB c:=by
 unfold dJ at h
 split at h
 ·cases h
 ·split at h
  ·cases h
  ·rename_i h2
   intro c hc;rw[List.any_eq_true]at h2;unfold okB;refine ⟨?_,fun e=>h2 ⟨c,hc,by rw[e];decide⟩⟩;rcases Nat.lt_or_ge c.toNat 32 with q|q
   ·exact absurd ⟨c,hc,dT (.inl q)⟩ h2
   ·exact q
theorem Tw {c d:UInt8} (h:c.toNat=d.toNat):c=d:=UInt8.toNat_inj.1 h
theorem Ix:∀n<256,(n<32\/n=127)->¬(gk (lJ[n / 16]!)<0\/gk (lJ[n % 16]!)<0)/\hexB (lJ[n / 16]!) (lJ[n % 16]!)=UInt8.ofNat n/\okB (lJ[n / 16]!)/\okB (lJ[n % 16]!):=by
 unfold okB
 decide+kernel
theorem IC (r:List UInt8):∀t:List UInt8,dqL (t.flatMap ic++34::r)=some (t,(t.flatMap ic).length+1)
 |[]=>by
  show dqL (34::r)=_
  unfold dqL;rw[if_pos (by decide)];rfl
 |c::t=>by
  have ih:=IC r t;rw[List.flatMap_cons,List.append_assoc,aBj];generalize t.flatMap ic++34::r=R at ih;generalize (t.flatMap ic).length=N at ih;unfold ic;by_cases h1:c.toNat=34\/c.toNat=92
  ·rw[if_pos h1]
   show dqL (92::c::R)=_
   unfold dqL;rw[if_neg (by decide),if_pos (by decide)];simp only;rw[if_neg (by omega)];have:qU c=some c:=by unfold qU;rw[if_pos h1]
   rw[this];simp only;rw[ih];simp only[Option.map_some,aBk,List.length_nil];congr 2;omega
  ·rw[if_neg h1];by_cases h2:c.toNat=10
   ·rw[if_pos h2]
    show dqL (92::110::R)=_
    unfold dqL;rw[if_neg (by decide),if_pos (by decide)];simp only;rw[if_neg (by decide),show qU 110=some 10 by decide];simp only;rw[ih,show c=10 from Tw h2];simp only[Option.map_some,aBk,List.length_nil];congr 2;omega
   ·rw[if_neg h2];by_cases h3:c.toNat=9
    ·rw[if_pos h3]
     show dqL (92::116::R)=_
     unfold dqL;rw[if_neg (by decide),if_pos (by decide)];simp only;rw[if_neg (by decide),show qU 116=some 9 by decide];simp only;rw[ih,show c=9 from Tw h3];simp only[Option.map_some,aBk,List.length_nil];congr 2;omega
    ·rw[if_neg h3];by_cases h4:c.toNat<32\/c.toNat=127
     ·rw[if_pos h4];obtain ⟨e1,e2,-,-⟩:=Ix c.toNat c.toNat_lt h4;generalize lJ[c.toNat / 16]! =a at*;generalize lJ[c.toNat % 16]! =b at*
      show dqL (92::120::a::b::R)=_
      unfold dqL;rw[if_neg (by decide),if_pos (by decide)];simp only;rw[if_pos (by decide),if_neg e1,ih,e2];simp only[Option.map_some,aBk,List.length_nil,UInt8.ofNat_toNat];congr 2;omega
     ·rw[if_neg h4]
      show dqL (c::R)=_
      unfold dqL;rw[if_neg (fun e=>h1 (.inl e)),if_neg (fun e=>h1 (.inr e)),ih];simp only[Option.map_some,aBk,List.length_nil];congr 2;omega
theorem WV (c:UInt8):∀d∈ic c,okB d:=by
 have q1:okB 92:=by unfold okB;decide
 have q2:okB 110:=by unfold okB;decide
 have q3:okB 116:=by unfold okB;decide
 have q4:okB 120:=by unfold okB;decide
 intro d hd;unfold ic at hd
 split at hd
 ·rename_i h
  simp only[List.mem_cons,List.not_mem_nil,or_false]at hd;rcases hd with rfl|rfl
  ·exact q1
  ·unfold okB;omega
 ·split at hd
  ·simp only[List.mem_cons,List.not_mem_nil,or_false]at hd;rcases hd with rfl|rfl
   ·exact q1
   ·exact q2
  ·split at hd
   ·simp only[List.mem_cons,List.not_mem_nil,or_false]at hd;rcases hd with rfl|rfl
    ·exact q1
    ·exact q3
   ·split at hd
    ·rename_i h
     obtain ⟨-,-,e1,e2⟩:=Ix c.toNat c.toNat_lt h;simp only[List.mem_cons,List.not_mem_nil,or_false]at hd;rcases hd with rfl|rfl|rfl|rfl
     ·exact q1
     ·exact q4
     ·exact e1
     ·exact e2
    ·rename_i h
     simp only[List.mem_cons,List.not_mem_nil,or_false]at hd;subst hd;unfold okB;omega
structure ScalF (s:List UInt8) (x:List UInt8) (q:Bool):Prop where
 skip:aP s=0
 over:bW s=false
 dash:eB s=false
 key:pE s= .ok none
 scal:ig s= .ok (some (x,q))
 bytes:∀c∈s,okB c
theorem VI (t:List UInt8):ScalF (cL t) t true:=by
 have hd:=IC [] t;have hq:dZ (cL t)=some (t,(cL t).length):=by
  unfold cL dZ
  show Option.map _ (if (34:UInt8).toNat=34 then dqL (t.flatMap ic++[34]) else _)=_
  rw[if_pos (by decide),hd];simp
 have hi:eY (cL t)=true:=by unfold cL eY;rfl
 have rT:(cL t).drop (cL t).length=[]:=List.drop_length ..;refine ⟨?_,?_,?_,?_,?_,fun c hc=> ?_⟩
 ·unfold cL;exact fH (by decide)
 ·unfold cL;rfl
 ·show eB (34::(t.flatMap ic++[34]))=false
  cases t.flatMap ic++[34] with
  |nil=>rfl
  |cons d r=>exact dF (fun (h:(34:UInt8).toNat=45/\d.toNat=32)=>absurd h.1 (by decide))
 ·unfold pE;rw[if_pos hi,hq];simp only;rw[rT];rfl
 ·have ho:bW (cL t)=false:=by unfold cL;rfl
  unfold ig;rw[if_neg (by rw[ho];decide),if_pos hi,hq];simp only;rw[rT,show aP ([]:List UInt8)=0 from rfl,Nat.add_zero,rT,if_neg (fun h=>h.1 rfl)]
 ·unfold cL at hc;rcases List.mem_cons.1 hc with rfl|hc
  ·unfold okB;decide
  ·rcases List.mem_append.1 hc with hc|hc
   ·obtain ⟨d,-,uh⟩:=List.mem_flatMap.1 hc;exact WV d c uh
   ·obtain rfl:=List.mem_singleton.1 hc;unfold okB;decide
theorem Jj (l:List UInt8):(aQ l).length<=l.length:=by
 induction l with
 |nil=>exact aBh _
 |cons c r ih=>
  unfold aQ
  split
  ·exact Nat.zero_le _
  ·simp only[aBk];omega
theorem S8 (l:List UInt8):(aS l).length<=l.length:=by
 induction l with
 |nil=>exact aBh _
 |cons c r ih=>
  unfold aS
  split
  ·exact Nat.zero_le _
  ·simp only[aBk];omega
theorem Cu {t x:List UInt8} (h:fJ t=some x):x.length<=t.length:=by
 unfold fJ at h
 split at h
 ·cases h
 ·split at h
  ·cases h
  ·obtain rfl:=aBm h;exact aBl (Jj _) (S8 _)
theorem xo {l:List UInt8} {n:Int} {ts us:List Tok} {i:Nat} (h:dN l n ts i= .ok us):∃v,us=ts++v:=by
 unfold dN at h
 split at h
 ·cases h
 ·injection h with h;exact ⟨[],by rw[<-h];simp⟩
 ·injection h with h;exact ⟨_,h.symm⟩
theorem Jz {l:List UInt8} {n:Int} {ts us:List Tok} {i:Nat} (h:eR l n ts i= .ok us):∃v,us=ts++v:=by
 unfold eR at h
 split at h
 ·injection h with h;exact ⟨[],by rw[<-h];simp⟩
 ·split at h
  ·cases h
  ·exact xo h
  ·obtain ⟨v,hv⟩:=xo h;exact ⟨_,by rw[hv,List.append_assoc]⟩
theorem Kt {l:List UInt8} {f i:Nat} (h:(cB l f i).1=[]):cB l f i=([],i)/\(0<f->¬(bW (l.drop i)=false/\eB (l.drop i)=true)):=by
 cases f with
 |zero=>exact ⟨rfl,fun h=>absurd h (by decide)⟩
 |succ f=>
  unfold cB at h |-
  split
  ·rename_i hc
   rw[if_pos hc]at h;cases h
  ·rename_i hc
   exact ⟨rfl,fun _=>hc⟩
theorem RC {s:List UInt8} (h:ey s=true):ScalF s s false/\s≠[]:=by
 unfold ey at h
 split at h
 ·rename_i t hl
  simp only[Bool.and_eq_true,decide_eq_true_eq,Bool.not_eq_true']at h;obtain ⟨⟨hk,hq⟩,hx⟩:=h;unfold cM at hl
  split at hl
  ·cases hl
  rename_i hs
  split at hl
  ·injection hl with hl
   injection hl with hl _
   rw[<-hl]at hk;exact absurd hk (by decide)
  rename_i hm
  have Zv:dJ s=0:=Decidable.not_not.1 hs;obtain ⟨v,hv⟩:=Jz hl;have KL:(cB s (s.length+1) (aP s)).1=[]:=by
   cases hi:(cB s (s.length+1) (aP s)).1 with
   |nil=>rfl
   |cons c r=>
    rw[hi]at hv;injection hv with hv _
    rw[hv]at hk;exact absurd hk (show ¬(2:Int)=4 by decide)
  obtain ⟨he,fh⟩:=Kt KL;rw[he]at hl;simp only[List.map_nil]at hl;unfold eR at hl
  split at hl
  ·cases hl
  rename_i ho
  have ho0:bW (s.drop (aP s))=false:=by simpa using ho
  have C4:eB (s.drop (aP s))=false:=by
   have:=fh (by omega)
   simpa[ho0] using this
  split at hl
  ·cases hl
  ·rename_i cl
   unfold dN at hl
   split at hl
   ·cases hl
   ·cases hl
   ·rename_i x q Qt
    injection hl with hl
    injection hl with hl _
    have Ib:x=s:=by rw[<-hx,<-hl]
    have X6:q=false:=by rw[<-hq,<-hl]
    subst Ib X6;have hsk:aP x=0:=by
     have jy:=Qt;unfold ig at jy
     split at jy
     ·cases jy
     ·split at jy
      ·split at jy
       ·cases jy
       ·split at jy
        ·cases jy
        ·injection jy with jy
         injection jy with jy
         injection jy with _ jy
         cases jy
      ·split at jy
       ·cases jy
       ·rename_i y hp
        injection jy with jy
        injection jy with jy
        injection jy with jy _
        subst jy;have h1:=Cu hp;have h2:=vP y;rw[List.length_drop]at h1;omega
    rw[hsk,List.drop_zero]at ho0 C4 cl Qt;refine ⟨⟨hsk,ho0,C4,cl,Qt,Np Zv⟩,fun e=> ?_⟩;subst e;exact absurd ho0 (by decide)
  ·rename_i cl
   obtain ⟨v2,Sk⟩:=xo hl;injection Sk with Sk _
   rw[Sk]at hk;exact absurd hk (show ¬(3:Int)=4 by decide)
 ·cases h
def MB (text:ByteArray) (q:Bool):List UInt8:=if q=true then cL text.data.toList else text.data.toList
theorem Vk {text:ByteArray} {q:Bool} (h:IS text q):ScalF (MB text q) text.data.toList q/\Fo.scalQ text q=32::MB text q/\MB text q≠[]:=by
 cases q with
 |true=>exact ⟨VI _,rfl,by show cL _≠[];unfold cL;simp⟩
 |false=>
  have hp:ey text.data.toList=true:=by rcases h with h|h;cases h;exact h
  obtain ⟨h1,h2⟩:=RC hp;refine ⟨h1,?_,h2⟩
  show (if text.data.toList≠[] then _ else _)=_
  rw[if_pos h2];rfl
def fw:Nat->List UInt8
 |0=>[]
 |m+1=>45::32::fw m
def DG:Nat->Nat->List Nat
 |_,0=>[]
 |i,m+1=>i::DG (i+2) m
theorem pO:∀m,(fw m).length=2*m
 |0=>rfl
 |m+1=>by unfold fw;rw[aBk,aBk,pO m];omega
theorem um:∀m,fw (m+1)=fw m++[45,32]
 |0=>rfl
 |m+1=>by
  show 45::32::fw (m+1)=45::32::fw m++[45,32]
  rw[um m];rfl
theorem zF:∀m i,DG i (m+1)=DG i m++[i+2*m]
 |0,i=>rfl
 |m+1,i=>by
  show i::DG (i+2) (m+1)=i::DG (i+2) m++[i+2*(m+1)]
  rw[zF m (i+2),show i+2+2*m=i+2*(m+1) by omega];rfl
structure Cont (c:List UInt8):Prop where
 ne:c≠[]
 skip:aP c=0
 over:bW c=false
 dash:eB c=false
theorem zB {m:Nat} {c:List UInt8} (h:Cont c):aP (fw m++c)=0:=by
 cases m with
 |zero=>exact h.skip
 |succ m=>exact fH (by decide)
theorem CK {c:List UInt8} (h:Cont c):∀(m:Nat) (A:List UInt8) (f:Nat),m+1<=f->cB (A++(fw m++c)) f A.length=(DG A.length m,A.length+2*m)
 |0,A,f,hf=>by
  obtain ⟨f',rfl⟩:∃f',f=f'+1:=⟨f-1,by omega⟩;unfold cB;rw[List.drop_left]
  show (if bW c=false/\eB c=true then _ else _)=_
  rw[if_neg (fun q=>by rw[h.dash]at q;cases q.2)];rfl
 |m+1,A,f,hf=>by
  obtain ⟨f',rfl⟩:∃f',f=f'+1:=⟨f-1,by omega⟩;have ih:=CK h m (A++[45,32]) f' (by omega);unfold cB;have e1:(A++(fw (m+1)++c)).drop (A.length+1)=32::(fw m++c):=by
   rw[<-List.drop_drop,List.drop_left];rfl
  rw[List.drop_left,e1,kB (by decide),zB h,if_pos ⟨show decide ((45:UInt8).toNat=35)=false by decide,show decide ((45:UInt8).toNat=45/\(32:UInt8).toNat=32)=true by decide⟩];have e2:A++(fw (m+1)++c)=A++[45,32]++(fw m++c):=by simp[fw]
  rw[e2,show A.length+1+(0+1)=(A++[45,32]).length by simp,ih];simp[DG];omega
theorem tF {c:List UInt8} (h:aP c=0):∀k,aP (List.replicate k 32++c)=k
 |0=>h
 |k+1=>by
  rw[List.replicate_succ,List.cons_append,kB (by decide),tF h k]
def mg (c0 m n:Nat):List Tok:=(DG c0 m).map fun (c:Nat)=>⟨2,(n:Int),(c:Int),[],false⟩
def dP (c0 m:Nat) (c:List UInt8):List UInt8:=List.replicate c0 32++(fw m++c)
theorem iA (c0 m:Nat) (c:List UInt8):(dP c0 m c).drop (c0+2*m)=c:=by
 unfold dP;rw[<-List.append_assoc,List.drop_left' (by simp[pO])]
theorem RY {c0 m:Nat} {c:List UInt8} (h:Cont c) (hm:0<c0+m\/fW c=false):fW (dP c0 m c)=false:=by
 unfold dP;cases c0 with
 |succ k=>
  rw[List.replicate_succ,List.cons_append];unfold fW
  split
  ·rename_i e
   injection e with e _
   subst e;rw[dF (by intro q;exact absurd q.1 (by decide))];rfl
  ·rfl
 |zero=>
  cases m with
  |succ k=>
   show fW (45::32::(fw k++c))=false
   unfold fW
   split
   ·rename_i e
    injection e with e1 e
    injection e with e2 _
    subst e1 e2;rw[dF (by intro q;exact absurd q.2.1 (by decide))];rfl
   ·rfl
  |zero=>exact hm.resolve_left (by omega)
theorem AF {c0 m:Nat} {c:List UInt8} (h:Cont c) (hb:∀x∈c,okB x) (hm:0<c0+m\/fW c=false) (n:Nat):cM (dP c0 m c) (n:Int)=eR (dP c0 m c) n (mg c0 m n) (c0+2*m):=by
 have hs:dJ (dP c0 m c)=0:=by
  have hd:∀m,∀x∈fw m,okB x:=by
   intro m
   induction m with
   |zero=>intro x hx;cases hx
   |succ m ih=>
    intro x hx;rcases List.mem_cons.1 hx with rfl|hx
    ·unfold okB;decide
    ·rcases List.mem_cons.1 hx with rfl|hx
     ·unfold okB;decide
     ·exact ih x hx
  refine yD fun x hx=> ?_;unfold dP at hx;rcases List.mem_append.1 hx with hx|hx
  ·rw[List.eq_of_mem_replicate hx];unfold okB;decide
  ·rcases List.mem_append.1 hx with hx|hx
   ·exact hd m x hx
   ·exact hb x hx
 have hk:aP (dP c0 m c)=c0:=by unfold dP;exact tF (zB h) c0
 have hl:(dP c0 m c).length=c0+2*m+c.length:=by unfold dP;simp[pO];omega
 have hi:=CK h m (List.replicate c0 32) ((dP c0 m c).length+1) (by omega);rw[List.length_replicate]at hi;unfold cM;rw[if_neg (by rw[hs];decide),if_neg (by rw[RY h hm];decide),hk];unfold dP at hi |-;rw[hi];rfl
theorem GY:∀(key:List UInt8) (r:List UInt8),key.all bB=true->cZ (key++58::r)=key.length
 |[],r,_=>tO (by decide)
 |c::key,r,h=>by
  rw[List.all_cons,Bool.and_eq_true]at h;rw[List.cons_append,wI h.1,GY key r h.2];rfl
theorem j5 {c:UInt8} (h:bB c=true) (n:Nat) (hn:n=34\/n=39\/n=35\/n=32\/n=10\/n<32\/n=127):c.toNat≠n:=by
 unfold bB at h;have:=of_decide_eq_true h;omega
structure KeyF (key:List UInt8):Prop where
 ne:key≠[]
 len:key.length<=64
 all:key.all bB=true
theorem KeyF.cont {key r:List UInt8} (h:KeyF key):Cont (key++58::r)/\fW (key++58::r)=false/\eY (key++58::r)=false:=by
 obtain ⟨hs,-,ha⟩:=h;cases key with
 |nil=>exact absurd rfl hs
 |cons c key=>
  rw[List.all_cons,Bool.and_eq_true]at ha;have hc:∀n,(n=34\/n=39\/n=35\/n=32\/n=10\/n<32\/n=127)->c.toNat≠n:=j5 ha.1;have lH:∀{d e:List UInt8} {x:UInt8},key++58::r=x::e->x.toNat≠32:=by
   intro d e x hx;cases key with
   |nil=>injection hx with hx _;subst hx;decide
   |cons y key=>
    rw[List.all_cons,Bool.and_eq_true]at ha;injection hx with hx _
    subst hx;exact j5 ha.2.1 32 (by omega)
  refine ⟨⟨by simp,fH (hc 32 (by omega)),dF (hc 35 (by omega)),?_⟩,?_,dF (fun q=>q.elim (hc 34 (by omega)) (hc 39 (by omega)))⟩
  ·rw[List.cons_append];generalize hK:key++58::r=K at lH;cases K with
   |nil=>cases key<;>cases hK
   |cons x e=>exact dF (fun q=>lH (d:=[]) rfl q.2)
  ·rw[List.cons_append];unfold fW
   split
   ·rename_i a b d R e
    injection e with _ e
    rw[Bool.and_eq_false_iff];by_cases hd:a.toNat=45/\b.toNat=45/\d.toNat=45
    ·right
     have hR:R≠[]/\aP R=0:=by
      cases key with
      |nil=>injection e with e _;rw[<-e]at hd;exact absurd hd.2.1 (by decide)
      |cons k1 key=>
       rw[List.all_cons,Bool.and_eq_true]at ha;injection e with _ e
       cases key with
       |nil=>injection e with e _;rw[<-e]at hd;exact absurd hd.2.2 (by decide)
       |cons k2 key=>
        rw[List.all_cons,Bool.and_eq_true]at ha;injection e with _ e
        subst e;cases key with
        |nil=>exact ⟨by simp,fH (by decide)⟩
        |cons k3 key=>
         rw[List.all_cons,Bool.and_eq_true]at ha;exact ⟨by simp,fH (j5 ha.2.2.2.1 32 (by omega))⟩
     rw[hR.2,List.drop_zero];cases R with
     |nil=>exact absurd rfl hR.1
     |cons=>rfl
    ·left
     exact dF hd
   ·rfl
theorem KeyF.says {key r:List UInt8} (h:KeyF key) (hr:r=[]\/∃s,r=32::s):pE (key++58::r)= .ok (some (key,false,key.length+1)):=by
 have hp:0<key.length:=List.length_pos_iff.2 h.ne;unfold pE;rw[if_neg (by rw[h.cont.2.2];decide),GY key r h.all];have e1:(key++58::r).drop key.length=58::r:=List.drop_left ..;have e2:(key++58::r).take key.length=key:=List.take_left ..;have e3:cE (58::r)=true:=by
  rcases hr with rfl|⟨s,rfl⟩
  ·decide
  ·rfl
 rw[e1,e2,if_pos ⟨hp,h.len,e3⟩]
theorem KeyF.bytes {key:List UInt8} (h:KeyF key):∀c∈key,okB c:=by
 intro c hc;have:=j5 (List.all_eq_true.1 h.all c hc);unfold okB;refine ⟨?_,this 127 (by omega)⟩;rcases Nat.lt_or_ge c.toNat 32 with q|q
 ·exact absurd rfl (this _ (by omega))
 ·exact q
theorem ScalF.cont {s x:List UInt8} {q:Bool} (h:ScalF s x q) (hn:s≠[]):Cont s:=⟨hn,h.skip,h.over,h.dash⟩
theorem Ki {c0 m:Nat} {s x:List UInt8} {q:Bool} (h:ScalF s x q) (hn:s≠[]) (hm:0<c0+m) (n:Nat):
 cM (dP c0 m s) (n:Int)= .ok (mg c0 m n++[⟨4,n,((c0+2*m:Nat):Int),x,q⟩]):=by
 rw[AF (h.cont hn) h.bytes (.inl hm)];unfold eR;rw[iA,if_neg (by rw[h.over];decide),h.key];simp only;unfold dN;rw[iA,h.scal]
theorem oG {a b:List UInt8} (ha:∀c∈a,okB c) (hb:∀c∈b,okB c):∀c∈a++b,okB c:=fun c hc=>(List.mem_append.1 hc).elim (ha c) (hb c)
theorem zG:∀c∈([]:List UInt8),okB c:=fun c hc=>by cases hc
theorem iE {a:UInt8} {b:List UInt8} (ha:okB a) (hb:∀c∈b,okB c):∀c∈a::b,okB c:=fun c hc=>(List.mem_cons.1 hc).elim (fun e=>e ▸ ha) (hb c)
theorem NS {c0 m:Nat} {key:List UInt8} (h:KeyF key) (n:Nat):
 cM (dP c0 m (key++[58])) (n:Int)= .ok (mg c0 m n++[⟨3,n,((c0+2*m:Nat):Int),key,false⟩]):=by
 obtain ⟨h1,h2,-⟩:=h.cont (r:=[]);rw[AF h1 (oG h.bytes (iE (by unfold okB;decide) zG)) (.inr h2)];unfold eR;rw[iA,if_neg (by rw[h1.over];decide),h.says (.inl rfl)];simp only;have e:(dP c0 m (key++[58])).drop (c0+2*m+(key.length+1))=[]:=by
  rw[<-List.drop_drop,iA];exact List.drop_eq_nil_of_le (by simp)
 unfold dN;rw[e,show aP ([]:List UInt8)=0 from rfl,Nat.add_zero,e];rfl
theorem Kj {c0 m:Nat} {key s x:List UInt8} {q:Bool} (h:KeyF key) (hs:ScalF s x q) (n:Nat):
 cM (dP c0 m (key++58::32::s)) (n:Int)= .ok (mg c0 m n++[⟨3,n,((c0+2*m:Nat):Int),key,false⟩,⟨4,n,((c0+2*m+key.length+2:Nat):Int),x,q⟩]):=by
 obtain ⟨h1,h2,-⟩:=h.cont (r:=32::s);rw[AF h1 (oG h.bytes (iE (by unfold okB;decide) (iE (by unfold okB;decide) hs.bytes))) (.inr h2)];unfold eR;rw[iA,if_neg (by rw[h1.over];decide),h.says (.inr ⟨s,rfl⟩)];simp only;have e:(dP c0 m (key++58::32::s)).drop (c0+2*m+(key.length+1))=32::s:=by
  rw[<-List.drop_drop,iA,<-List.drop_drop,List.drop_left];rfl
 have e2:(dP c0 m (key++58::32::s)).drop (c0+2*m+(key.length+1)+1)=s:=by
  rw[<-List.drop_drop,e];rfl
 rw[e,kB (by decide),hs.skip];unfold dN;rw[show 0+1=1 from rfl,e2,hs.scal];simp only[List.append_assoc,List.singleton_append];rfl
theorem J9 (a b:List Tok):cU (a++b)=cU a+cU b:=by unfold cU;rw[List.filter_append,aBj]
def pR (a:List UInt8) (n:Nat) (ts:List Tok) (b:List UInt8) (m:Nat):Prop:=
 ∀f k acc,a.length<f->∃f',b.length<f'/\iZ f a k n acc=iZ f' b (k+cU ts) m (acc++ts)
theorem pR.refl (a:List UInt8) (n:Nat):pR a n [] a n:=fun f k acc h=>⟨f,h,by simp[cU]⟩
theorem pR.trans {a b c:List UInt8} {n m p:Nat} {ts us:List Tok} (h:pR a n ts b m) (g:pR b m us c p):pR a n (ts++us) c p:=by
 intro f k acc hf;obtain ⟨f1,h1,e1⟩:=h f k acc hf;obtain ⟨f2,h2,e2⟩:=g f1 (k+cU ts) (acc++ts) h1;exact ⟨f2,h2,by rw[e1,e2,J9,List.append_assoc,Nat.add_assoc]⟩
theorem zE:∀(l b:List UInt8),(∀c∈l,c≠10)->dd (l++10::b)=(l,b)
 |[],b,_=>by
  show dd (10::b)=_
  unfold dd;rw[if_pos rfl]
 |c::l,b,h=>by
  have ih:=zE l b (fun x hx=>h x (List.mem_cons_of_mem _ hx));rw[List.cons_append];unfold dd;rw[if_neg (h c (List.mem_cons_self ..)),ih]
theorem om {l b:List UInt8} {n:Nat} {ts:List Tok} (hl:∀c∈l,c≠10) (h:cM l ((n+1:Nat):Int)= .ok ts):pR (l++10::b) n ts b (n+1):=by
 intro f k acc hf;obtain ⟨f',rfl⟩:∃f',f=f'+1:=⟨f-1,by omega⟩;refine ⟨f',by simp at hf;omega,?_⟩
 conv=>lhs;unfold iZ
 rw[if_neg (by simp),zE l b hl];simp only;rw[h]
theorem VO {c:UInt8} (h:okB c):c≠10:=by
 rintro rfl;unfold okB at h;exact absurd h.1 (by decide)
theorem sw {c0 m:Nat} {c:List UInt8} (h:∀x∈c,okB x):∀x∈dP c0 m c,x≠10:=by
 have hd:∀m,∀x∈fw m,x≠10:=by
  intro m
  induction m with
  |zero=>intro x hx;cases hx
  |succ m ih=>
   intro x hx;rcases List.mem_cons.1 hx with rfl|hx
   ·decide
   ·rcases List.mem_cons.1 hx with rfl|hx
    ·decide
    ·exact ih x hx
 intro x hx;unfold dP at hx;rcases List.mem_append.1 hx with hx|hx
 ·rw[List.eq_of_mem_replicate hx];decide
 ·rcases List.mem_append.1 hx with hx|hx
  ·exact hd m x hx
  ·exact VO (h x hx)
namespace Fo
def nl (kind:Int):Fo->Nat
 |nil=>0
 |sc _ _ _ nx=>1+nx.nl kind
 |br kd _ kids nx=>(if kind=2 then 1 else 0)+kids.nl kd+nx.nl kind
def tok (kind:Int) (n col:Nat):Fo->List Tok
 |nil=>[]
 |sc key text q nx=>
  (if kind=2 then [⟨3,n,col,key.data.toList,false⟩,⟨4,n,((col+key.data.toList.length+2:Nat):Int),text.data.toList,q⟩]
   else [⟨2,n,col,[],false⟩,⟨4,n,((col+2:Nat):Int),text.data.toList,q⟩])++nx.tok kind (n+1) col
 |br kd key kids nx=>
  (if kind=2 then ⟨3,n,col,key.data.toList,false⟩::kids.tok kd (n+1) (col+2) else ⟨2,n,col,[],false⟩::kids.tok kd n (col+2))++
   nx.tok kind (n+(if kind=2 then 1 else 0)+kids.nl kd) col
theorem nl_sc (kind:Int) (key text:ByteArray) (q:Bool) (nx:Fo):(sc key text q nx).nl kind=1+nx.nl kind:=rfl
theorem nl_br (kind kd:Int) (key:ByteArray) (kids nx:Fo):(br kd key kids nx).nl kind=(if kind=2 then 1 else 0)+kids.nl kd+nx.nl kind:=rfl
theorem tok_sc (kind:Int) (n col:Nat) (key text:ByteArray) (q:Bool) (nx:Fo):(sc key text q nx).tok kind n col=
 (if kind=2 then [⟨3,n,col,key.data.toList,false⟩,⟨4,n,((col+key.data.toList.length+2:Nat):Int),text.data.toList,q⟩]
  else [⟨2,n,col,[],false⟩,⟨4,n,((col+2:Nat):Int),text.data.toList,q⟩])++nx.tok kind (n+1) col:=rfl
theorem tok_br (kind kd:Int) (n col:Nat) (key:ByteArray) (kids nx:Fo):(br kd key kids nx).tok kind n col=
 (if kind=2 then ⟨3,n,col,key.data.toList,false⟩::kids.tok kd (n+1) (col+2) else ⟨2,n,col,[],false⟩::kids.tok kd n (col+2))++
  nx.tok kind (n+(if kind=2 then 1 else 0)+kids.nl kd) col:=rfl
end Fo
theorem Bu.f {key:ByteArray} (h:Bu 2 key):KeyF key.data.toList:=⟨(h.1 rfl).1,(h.1 rfl).2.1,(h.1 rfl).2.2⟩
theorem H6 {l:List UInt8} (h:KeyF l):nD l=l:=by unfold nD;rw[if_pos ⟨h.ne,h.len,h.all⟩]
theorem tY (c0 m n:Nat):mg c0 (m+1) n=mg c0 m n++[⟨2,n,((c0+2*m:Nat):Int),[],false⟩]:=by
 unfold mg;rw[zF,List.map_append];rfl
theorem wS (c0 m:Nat) (c:List UInt8):dP c0 (m+1) c=dP c0 m (45::32::c):=by
 unfold dP;rw[um];simp
theorem sy (c0 m:Nat) (a b:List UInt8):dP c0 m (a++b)=dP c0 m a++b:=by
 unfold dP;simp
theorem Rm:∀(F:Fo) (kind:Int) (c0 m n:Nat) (b:List UInt8),F≠ .nil->F.Ok kind->(kind=2\/kind=3)->(0<c0+m\/kind=2)->
 pR (dP c0 m (F.txt kind (c0+2*m)++b)) n (mg c0 m (n+1)++F.tok kind (n+1) (c0+2*m)) b (n+F.nl kind):=by
 have next:∀(nx:Fo) (kind:Int) (col n:Nat) (b:List UInt8),(nx≠ .nil->pR (dP col 0 (nx.txt kind (col+2*0)++b)) n (mg col 0 (n+1)++nx.tok kind (n+1) (col+2*0)) b (n+nx.nl kind))->
  pR (nx.full kind col++b) n (nx.tok kind (n+1) col) b (n+nx.nl kind):=by
  intro nx kind col n b h;by_cases hn:nx= .nil
  ·subst hn;exact pR.refl _ _
  ·have:=h hn;rw[Fo.full_some hn,List.append_assoc];exact this
 intro F
 induction F with
 |nil=>intro kind c0 m n b h;exact absurd rfl h
 |sc key text q nx ih=>
  intro kind c0 m n b _ hok hk hcm;obtain ⟨cl,Qt,Qx⟩:=hok;obtain ⟨h1,h2,h3⟩:=Vk Qt;rw[Fo.txt_sc,h2];have lH:=next nx kind (c0+2*m) (n+1) b (fun hn=>ih kind (c0+2*m) 0 (n+1) b hn Qx hk (by omega));rcases hk with rfl|rfl
  ·have Sw:=cl.f;have hl:=om (b:=nx.full 2 (c0+2*m)++b) (sw (oG Sw.bytes (iE (by unfold okB;decide) (iE (by unfold okB;decide) h1.bytes)))) (Kj (c0:=c0) (m:=m) Sw h1 (n+1));have:=hl.trans lH;rw[<-sy]at this;rw[Fo.tok_sc,Fo.nl_sc];unfold Fo.mark;rw[if_pos rfl,if_pos rfl,H6 Sw];simp only[List.append_assoc,List.cons_append,List.nil_append]at this |-
   rw[show n+(1+nx.nl 2)=n+1+nx.nl 2 by omega];exact this
  ·have hl:=om (b:=nx.full 3 (c0+2*m)++b) (sw (c0:=c0) (m:=m+1) h1.bytes) (Ki (c0:=c0) (m:=m+1) h1 h3 (by omega) (n+1));have:=hl.trans lH;rw[wS,<-sy,tY]at this;rw[Fo.tok_sc,Fo.nl_sc];unfold Fo.mark;rw[if_neg (show ¬(3:Int)=2 by decide),if_neg (show ¬(3:Int)=2 by decide)];simp only[List.append_assoc,List.cons_append,List.nil_append]at this |-;rw[show n+(1+nx.nl 3)=n+1+nx.nl 3 by omega]
   exact this
 |br kd key kids nx ihk ih=>
  intro kind c0 m n b _ hok hk hcm;obtain ⟨cl,gu,cg,rR,-,Qx⟩:=hok;rw[Fo.txt_br];rcases hk with rfl|rfl
  ·have Sw:=cl.f;have lH:=next nx 2 (c0+2*m) (n+1+kids.nl kd) b (fun hn=>ih 2 (c0+2*m) 0 (n+1+kids.nl kd) b hn Qx (.inl rfl) (by omega));have nJ:=next kids kd (c0+2*m+2) (n+1) (nx.full 2 (c0+2*m)++b) (fun hn=>ihk kd (c0+2*m+2) 0 (n+1) (nx.full 2 (c0+2*m)++b) hn rR gu (by omega));have hl:=om (b:=kids.full kd (c0+2*m+2)++(nx.full 2 (c0+2*m)++b)) (sw (oG Sw.bytes (iE (by unfold okB;decide) zG))) (NS (c0:=c0) (m:=m) Sw (n+1))
   have:=(hl.trans nJ).trans lH;rw[<-sy]at this;rw[Fo.tok_br,Fo.nl_br];unfold Fo.mark;simp only[if_true];rw[H6 Sw];simp only[List.append_assoc,List.cons_append,List.nil_append]at this |-;rw[show n+(1+kids.nl kd+nx.nl 2)=n+1+kids.nl kd+nx.nl 2 by omega,show n+1+1+kids.nl kd=n+1+kids.nl kd+1 by omega];exact this
  ·have lH:=next nx 3 (c0+2*m) (n+kids.nl kd) b (fun hn=>ih 3 (c0+2*m) 0 (n+kids.nl kd) b hn Qx (.inr rfl) (by omega));have nJ:=ihk kd c0 (m+1) n (nx.full 3 (c0+2*m)++b) cg rR gu (by omega);have:=nJ.trans lH;rw[wS,tY]at this;rw[Fo.tok_br,Fo.nl_br];unfold Fo.mark;simp only[if_neg (show ¬(3:Int)=2 by decide)];simp only[List.append_assoc,List.cons_append,List.nil_append]at this |-
   rw[show n+(0+kids.nl kd+nx.nl 3)=n+kids.nl kd+nx.nl 3 by omega,show n+1+0+kids.nl kd=n+kids.nl kd+1 by omega];exact this
