/-
Parts of a proof.
-/
import Derived.Test.YtfenoaeoedobmaaGreatDoorBk31
set_option linter.unusedVariables false
set_option linter.unusedSimpArgs false
namespace Go.Proofs.YtfenoaeoedobmaaGreatDoor
open Go Go.RowKit
def okB (c:UInt8):Prop:=32<=c.toNat/\c.toNat≠127
theorem aW8 {l:List UInt8} (h:∀c∈l,okB c):aCo l=0:=by
 unfold aCo;rw[if_neg,if_neg]
 ·rw[List.any_eq_true];rintro ⟨c,hc,h2⟩;have:=h c hc;have:=of_decide_eq_true h2;unfold okB at*;omega
 ·rw[List.any_eq_true];rintro ⟨c,hc,h2⟩;have:=h c hc;have:=of_decide_eq_true h2;unfold okB at*;omega
theorem a1i {l:List UInt8} (h:aCo l=0):∀c∈l,okB c:=by
 unfold aCo at h
 split at h
 ·cases h
 ·split at h
  ·cases h
  ·rename_i h2
   intro c hc;rw[List.any_eq_true]at h2;unfold okB;refine ⟨?_,fun e=>h2 ⟨c,hc,by rw[e];decide⟩⟩;rcases Nat.lt_or_ge c.toNat 32 with q|q
   ·exact absurd ⟨c,hc,dT (.inl q)⟩ h2
   ·exact q
theorem u8_eq {c d:UInt8} (h:c.toNat=d.toNat):c=d:=UInt8.toNat_inj.1 h
theorem aW9:∀n<256,(n<32\/n=127)->¬(hexD (hexL[n / 16]!)<0\/hexD (hexL[n % 16]!)<0)/\hexB (hexL[n / 16]!) (hexL[n % 16]!)=UInt8.ofNat n/\okB (hexL[n / 16]!)/\okB (hexL[n % 16]!):=by
 unfold okB
 decide+kernel
theorem aXa (r:List UInt8):∀t:List UInt8,dqL (t.flatMap escQ++34::r)=some (t,(t.flatMap escQ).length+1)
 |[]=>by
  show dqL (34::r)=_
  unfold dqL;rw[if_pos (by decide)];rfl
 |c::t=>by
  have ih:=aXa r t;rw[List.flatMap_cons,List.append_assoc,a7e];generalize t.flatMap escQ++34::r=R at ih;generalize (t.flatMap escQ).length=N at ih;unfold escQ;by_cases h1:c.toNat=34\/c.toNat=92
  ·rw[if_pos h1]
   show dqL (92::c::R)=_
   unfold dqL;rw[if_neg (by decide),if_pos (by decide)];simp only;rw[if_neg (by omega)];have:escC c=some c:=by unfold escC;rw[if_pos h1]
   rw[this];simp only;rw[ih];simp only[Option.map_some,a7f,List.length_nil];congr 2;omega
  ·rw[if_neg h1];by_cases h2:c.toNat=10
   ·rw[if_pos h2]
    show dqL (92::110::R)=_
    unfold dqL;rw[if_neg (by decide),if_pos (by decide)];simp only;rw[if_neg (by decide),show escC 110=some 10 by decide];simp only;rw[ih,show c=10 from u8_eq h2];simp only[Option.map_some,a7f,List.length_nil];congr 2;omega
   ·rw[if_neg h2];by_cases h3:c.toNat=9
    ·rw[if_pos h3]
     show dqL (92::116::R)=_
     unfold dqL;rw[if_neg (by decide),if_pos (by decide)];simp only;rw[if_neg (by decide),show escC 116=some 9 by decide];simp only;rw[ih,show c=9 from u8_eq h3];simp only[Option.map_some,a7f,List.length_nil];congr 2;omega
    ·rw[if_neg h3];by_cases h4:c.toNat<32\/c.toNat=127
     ·rw[if_pos h4];obtain ⟨e1,e2,-,-⟩:=aW9 c.toNat c.toNat_lt h4;generalize hexL[c.toNat / 16]! =a at*;generalize hexL[c.toNat % 16]! =b at*
      show dqL (92::120::a::b::R)=_
      unfold dqL;rw[if_neg (by decide),if_pos (by decide)];simp only;rw[if_pos (by decide),if_neg e1,ih,e2];simp only[Option.map_some,a7f,List.length_nil,UInt8.ofNat_toNat];congr 2;omega
     ·rw[if_neg h4]
      show dqL (c::R)=_
      unfold dqL;rw[if_neg (fun e=>h1 (.inl e)),if_neg (fun e=>h1 (.inr e)),ih];simp only[Option.map_some,a7f,List.length_nil];congr 2;omega
theorem esc_ok (c:UInt8):∀d∈escQ c,okB d:=by
 have q1:okB 92:=by unfold okB;decide
 have q2:okB 110:=by unfold okB;decide
 have q3:okB 116:=by unfold okB;decide
 have q4:okB 120:=by unfold okB;decide
 intro d hd;unfold escQ at hd
 split at hd
 ·rename_i h
  simp only[List.mem_cons,List.not_mem_nil,or_false]at hd;rcases hd with rfl|rfl
  ·exact q1
  ·unfold okB;omega
 ·split at hd
  ·simp only[List.mem_cons,List.not_mem_nil,or_false]at hd;rcases hd with rfl|rfl
   ·exact q1
   ·exact q2
  ·split at hd
   ·simp only[List.mem_cons,List.not_mem_nil,or_false]at hd;rcases hd with rfl|rfl
    ·exact q1
    ·exact q3
   ·split at hd
    ·rename_i h
     obtain ⟨-,-,e1,e2⟩:=aW9 c.toNat c.toNat_lt h;simp only[List.mem_cons,List.not_mem_nil,or_false]at hd;rcases hd with rfl|rfl|rfl|rfl
     ·exact q1
     ·exact q4
     ·exact e1
     ·exact e2
    ·rename_i h
     simp only[List.mem_cons,List.not_mem_nil,or_false]at hd;subst hd;unfold okB;omega
structure ScalF (s:List UInt8) (x:List UInt8) (q:Bool):Prop where
 skip:skipN s=0
 over:overL s=false
 dash:dashL s=false
 key:keyL s= .ok none
 scal:scalL s= .ok (some (x,q))
 bytes:∀c∈s,okB c
theorem quot_f (t:List UInt8):ScalF (aBr t) t true:=by
 have hd:=aXa [] t;have hq:quotL (aBr t)=some (t,(aBr t).length):=by
  unfold aBr quotL
  show Option.map _ (if (34:UInt8).toNat=34 then dqL (t.flatMap escQ++[34]) else _)=_
  rw[if_pos (by decide),hd];simp
 have hi:aC6 (aBr t)=true:=by unfold aBr aC6;rfl
 have hdr:(aBr t).drop (aBr t).length=[]:=List.drop_length ..;refine ⟨?_,?_,?_,?_,?_,fun c hc=> ?_⟩
 ·unfold aBr;exact aC9 (by decide)
 ·unfold aBr;rfl
 ·show dashL (34::(t.flatMap escQ++[34]))=false
  cases t.flatMap escQ++[34] with
  |nil=>rfl
  |cons d r=>exact dF (fun (h:(34:UInt8).toNat=45/\d.toNat=32)=>absurd h.1 (by decide))
 ·unfold keyL;rw[if_pos hi,hq];simp only;rw[hdr];rfl
 ·have ho:overL (aBr t)=false:=by unfold aBr;rfl
  unfold scalL;rw[if_neg (by rw[ho];decide),if_pos hi,hq];simp only;rw[hdr,show skipN ([]:List UInt8)=0 from rfl,Nat.add_zero,hdr,if_neg (fun h=>h.1 rfl)]
 ·unfold aBr at hc;rcases List.mem_cons.1 hc with rfl|hc
  ·unfold okB;decide
  ·rcases List.mem_append.1 hc with hc|hc
   ·obtain ⟨d,-,hd2⟩:=List.mem_flatMap.1 hc;exact esc_ok d c hd2
   ·obtain rfl:=List.mem_singleton.1 hc;unfold okB;decide
theorem aXb (l:List UInt8):(aAo l).length<=l.length:=by
 induction l with
 |nil=>exact a7c _
 |cons c r ih=>
  unfold aAo
  split
  ·exact Nat.zero_le _
  ·simp only[a7f];omega
theorem a50 (l:List UInt8):(aAn l).length<=l.length:=by
 induction l with
 |nil=>exact a7c _
 |cons c r ih=>
  unfold aAn
  split
  ·exact Nat.zero_le _
  ·simp only[a7f];omega
theorem aR6 {t x:List UInt8} (h:aDu t=some x):x.length<=t.length:=by
 unfold aDu at h
 split at h
 ·cases h
 ·split at h
  ·cases h
  ·obtain rfl:=a7h h;exact a7g (aXb _) (a50 _)
theorem aMt {l:List UInt8} {n:Int} {ts us:List Tok} {i:Nat} (h:endL l n ts i= .ok us):∃v,us=ts++v:=by
 unfold endL at h
 split at h
 ·cases h
 ·injection h with h;exact ⟨[],by rw[<-h];simp⟩
 ·injection h with h;exact ⟨_,h.symm⟩
theorem aXc {l:List UInt8} {n:Int} {ts us:List Tok} {i:Nat} (h:restL l n ts i= .ok us):∃v,us=ts++v:=by
 unfold restL at h
 split at h
 ·injection h with h;exact ⟨[],by rw[<-h];simp⟩
 ·split at h
  ·cases h
  ·exact aMt h
  ·obtain ⟨v,hv⟩:=aMt h;exact ⟨_,by rw[hv,List.append_assoc]⟩
theorem aXd {l:List UInt8} {f i:Nat} (h:(aBv l f i).1=[]):aBv l f i=([],i)/\(0<f->¬(overL (l.drop i)=false/\dashL (l.drop i)=true)):=by
 cases f with
 |zero=>exact ⟨rfl,fun h=>absurd h (by decide)⟩
 |succ f=>
  unfold aBv at h |-
  split
  ·rename_i hc
   rw[if_pos hc]at h;cases h
  ·rename_i hc
   exact ⟨rfl,fun _=>hc⟩
theorem a52 {s:List UInt8} (h:aDl s=true):ScalF s s false/\s≠[]:=by
 unfold aDl at h
 split at h
 ·rename_i t hl
  simp only[Bool.and_eq_true,decide_eq_true_eq,Bool.not_eq_true']at h;obtain ⟨⟨hk,hq⟩,hx⟩:=h;unfold lineL at hl
  split at hl
  ·cases hl
  rename_i hs
  split at hl
  ·injection hl with hl
   injection hl with hl _
   rw[<-hl]at hk;exact absurd hk (by decide)
  rename_i hm
  have hs0:aCo s=0:=Decidable.not_not.1 hs;obtain ⟨v,hv⟩:=aXc hl;have hit:(aBv s (s.length+1) (skipN s)).1=[]:=by
   cases hi:(aBv s (s.length+1) (skipN s)).1 with
   |nil=>rfl
   |cons c r=>
    rw[hi]at hv;injection hv with hv _
    rw[hv]at hk;exact absurd hk (show ¬(2:Int)=4 by decide)
  obtain ⟨he,hnd⟩:=aXd hit;rw[he]at hl;simp only[List.map_nil]at hl;unfold restL at hl
  split at hl
  ·cases hl
  rename_i ho
  have ho0:overL (s.drop (skipN s))=false:=by simpa using ho
  have hdash:dashL (s.drop (skipN s))=false:=by
   have:=hnd (by omega)
   simpa[ho0] using this
  split at hl
  ·cases hl
  ·rename_i hkey
   unfold endL at hl
   split at hl
   ·cases hl
   ·cases hl
   ·rename_i x q hsc
    injection hl with hl
    injection hl with hl _
    have hx2:x=s:=by rw[<-hx,<-hl]
    have hq2:q=false:=by rw[<-hq,<-hl]
    subst hx2 hq2;have hsk:skipN x=0:=by
     have hsc2:=hsc;unfold scalL at hsc2
     split at hsc2
     ·cases hsc2
     ·split at hsc2
      ·split at hsc2
       ·cases hsc2
       ·split at hsc2
        ·cases hsc2
        ·injection hsc2 with hsc2
         injection hsc2 with hsc2
         injection hsc2 with _ hsc2
         cases hsc2
      ·split at hsc2
       ·cases hsc2
       ·rename_i y hp
        injection hsc2 with hsc2
        injection hsc2 with hsc2
        injection hsc2 with hsc2 _
        subst hsc2;have h1:=aR6 hp;have h2:=aL1 y;rw[List.length_drop]at h1;omega
    rw[hsk,List.drop_zero]at ho0 hdash hkey hsc;refine ⟨⟨hsk,ho0,hdash,hkey,hsc,a1i hs0⟩,fun e=> ?_⟩;subst e;exact absurd ho0 (by decide)
  ·rename_i hkey
   obtain ⟨v2,hv2⟩:=aMt hl;injection hv2 with hv2 _
   rw[hv2]at hk;exact absurd hk (show ¬(3:Int)=4 by decide)
 ·cases h
def scalS (text:ByteArray) (q:Bool):List UInt8:=if q=true then aBr text.data.toList else text.data.toList
theorem scal_f {text:ByteArray} {q:Bool} (h:ScalG text q):ScalF (scalS text q) text.data.toList q/\Fo.scalQ text q=32::scalS text q/\scalS text q≠[]:=by
 cases q with
 |true=>exact ⟨quot_f _,rfl,by show aBr _≠[];unfold aBr;simp⟩
 |false=>
  have hp:aDl text.data.toList=true:=by rcases h with h|h;cases h;exact h
  obtain ⟨h1,h2⟩:=a52 hp;refine ⟨h1,?_,h2⟩
  show (if text.data.toList≠[] then _ else _)=_
  rw[if_pos h2];rfl
def aC8:Nat->List UInt8
 |0=>[]
 |m+1=>45::32::aC8 m
def cols:Nat->Nat->List Nat
 |_,0=>[]
 |i,m+1=>i::cols (i+2) m
theorem aH4:∀m,(aC8 m).length=2*m
 |0=>rfl
 |m+1=>by unfold aC8;rw[a7f,a7f,aH4 m];omega
theorem aJv:∀m,aC8 (m+1)=aC8 m++[45,32]
 |0=>rfl
 |m+1=>by
  show 45::32::aC8 (m+1)=45::32::aC8 m++[45,32]
  rw[aJv m];rfl
theorem aOn:∀m i,cols i (m+1)=cols i m++[i+2*m]
 |0,i=>rfl
 |m+1,i=>by
  show i::cols (i+2) (m+1)=i::cols (i+2) m++[i+2*(m+1)]
  rw[aOn m (i+2),show i+2+2*m=i+2*(m+1) by omega];rfl
structure Cont (c:List UInt8):Prop where
 ne:c≠[]
 skip:skipN c=0
 over:overL c=false
 dash:dashL c=false
theorem aOo {m:Nat} {c:List UInt8} (h:Cont c):skipN (aC8 m++c)=0:=by
 cases m with
 |zero=>exact h.skip
 |succ m=>exact aC9 (by decide)
theorem aR7 {c:List UInt8} (h:Cont c):∀(m:Nat) (A:List UInt8) (f:Nat),m+1<=f->aBv (A++(aC8 m++c)) f A.length=(cols A.length m,A.length+2*m)
 |0,A,f,hf=>by
  obtain ⟨f',rfl⟩:∃f',f=f'+1:=⟨f-1,by omega⟩;unfold aBv;rw[List.drop_left]
  show (if overL c=false/\dashL c=true then _ else _)=_
  rw[if_neg (fun q=>by rw[h.dash]at q;cases q.2)];rfl
 |m+1,A,f,hf=>by
  obtain ⟨f',rfl⟩:∃f',f=f'+1:=⟨f-1,by omega⟩;have ih:=aR7 h m (A++[45,32]) f' (by omega);unfold aBv;have e1:(A++(aC8 (m+1)++c)).drop (A.length+1)=32::(aC8 m++c):=by
   rw[<-List.drop_drop,List.drop_left];rfl
  rw[List.drop_left,e1,aEt (by decide),aOo h,if_pos ⟨show decide ((45:UInt8).toNat=35)=false by decide,show decide ((45:UInt8).toNat=45/\(32:UInt8).toNat=32)=true by decide⟩];have e2:A++(aC8 (m+1)++c)=A++[45,32]++(aC8 m++c):=by simp[aC8]
  rw[e2,show A.length+1+(0+1)=(A++[45,32]).length by simp,ih];simp[cols];omega
theorem aJw {c:List UInt8} (h:skipN c=0):∀k,skipN (List.replicate k 32++c)=k
 |0=>h
 |k+1=>by
  rw[List.replicate_succ,List.cons_append,aEt (by decide),aJw h k]
def aG7 (c0 m n:Nat):List Tok:=(cols c0 m).map fun (c:Nat)=>⟨2,(n:Int),(c:Int),[],false⟩
def lineB (c0 m:Nat) (c:List UInt8):List UInt8:=List.replicate c0 32++(aC8 m++c)
theorem aDr (c0 m:Nat) (c:List UInt8):(lineB c0 m c).drop (c0+2*m)=c:=by
 unfold lineB;rw[<-List.append_assoc,List.drop_left' (by simp[aH4])]
theorem a54 {c0 m:Nat} {c:List UInt8} (h:Cont c) (hm:0<c0+m\/markL c=false):markL (lineB c0 m c)=false:=by
 unfold lineB;cases c0 with
 |succ k=>
  rw[List.replicate_succ,List.cons_append];unfold markL
  split
  ·rename_i e
   injection e with e _
   subst e;rw[dF (by intro q;exact absurd q.1 (by decide))];rfl
  ·rfl
 |zero=>
  cases m with
  |succ k=>
   show markL (45::32::(aC8 k++c))=false
   unfold markL
   split
   ·rename_i e
    injection e with e1 e
    injection e with e2 _
    subst e1 e2;rw[dF (by intro q;exact absurd q.2.1 (by decide))];rfl
   ·rfl
  |zero=>exact hm.resolve_left (by omega)
theorem aQb {c0 m:Nat} {c:List UInt8} (h:Cont c) (hb:∀x∈c,okB x) (hm:0<c0+m\/markL c=false) (n:Nat):lineL (lineB c0 m c) (n:Int)=restL (lineB c0 m c) n (aG7 c0 m n) (c0+2*m):=by
 have hs:aCo (lineB c0 m c)=0:=by
  have hd:∀m,∀x∈aC8 m,okB x:=by
   intro m
   induction m with
   |zero=>intro x hx;cases hx
   |succ m ih=>
    intro x hx;rcases List.mem_cons.1 hx with rfl|hx
    ·unfold okB;decide
    ·rcases List.mem_cons.1 hx with rfl|hx
     ·unfold okB;decide
     ·exact ih x hx
  refine aW8 fun x hx=> ?_;unfold lineB at hx;rcases List.mem_append.1 hx with hx|hx
  ·rw[List.eq_of_mem_replicate hx];unfold okB;decide
  ·rcases List.mem_append.1 hx with hx|hx
   ·exact hd m x hx
   ·exact hb x hx
 have hk:skipN (lineB c0 m c)=c0:=by unfold lineB;exact aJw (aOo h) c0
 have hl:(lineB c0 m c).length=c0+2*m+c.length:=by unfold lineB;simp[aH4];omega
 have hi:=aR7 h m (List.replicate c0 32) ((lineB c0 m c).length+1) (by omega);rw[List.length_replicate]at hi;unfold lineL;rw[if_neg (by rw[hs];decide),if_neg (by rw[a54 h hm];decide),hk];unfold lineB at hi |-;rw[hi];rfl
theorem aXe:∀(key:List UInt8) (r:List UInt8),key.all aBu=true->nameN (key++58::r)=key.length
 |[],r,_=>aIw (by decide)
 |c::key,r,h=>by
  rw[List.all_cons,Bool.and_eq_true]at h;rw[List.cons_append,aQ2 h.1,aXe key r h.2];rfl
theorem aF2 {c:UInt8} (h:aBu c=true) (n:Nat) (hn:n=34\/n=39\/n=35\/n=32\/n=10\/n<32\/n=127):c.toNat≠n:=by
 unfold aBu at h;have:=of_decide_eq_true h;omega
structure KeyF (key:List UInt8):Prop where
 ne:key≠[]
 len:key.length<=64
 all:key.all aBu=true
theorem KeyF.cont {key r:List UInt8} (h:KeyF key):Cont (key++58::r)/\markL (key++58::r)=false/\aC6 (key++58::r)=false:=by
 obtain ⟨hs,-,ha⟩:=h;cases key with
 |nil=>exact absurd rfl hs
 |cons c key=>
  rw[List.all_cons,Bool.and_eq_true]at ha;have hc:∀n,(n=34\/n=39\/n=35\/n=32\/n=10\/n<32\/n=127)->c.toNat≠n:=aF2 ha.1;have hnext:∀{d e:List UInt8} {x:UInt8},key++58::r=x::e->x.toNat≠32:=by
   intro d e x hx;cases key with
   |nil=>injection hx with hx _;subst hx;decide
   |cons y key=>
    rw[List.all_cons,Bool.and_eq_true]at ha;injection hx with hx _
    subst hx;exact aF2 ha.2.1 32 (by omega)
  refine ⟨⟨by simp,aC9 (hc 32 (by omega)),dF (hc 35 (by omega)),?_⟩,?_,dF (fun q=>q.elim (hc 34 (by omega)) (hc 39 (by omega)))⟩
  ·rw[List.cons_append];generalize hK:key++58::r=K at hnext;cases K with
   |nil=>cases key<;>cases hK
   |cons x e=>exact dF (fun q=>hnext (d:=[]) rfl q.2)
  ·rw[List.cons_append];unfold markL
   split
   ·rename_i a b d R e
    injection e with _ e
    rw[Bool.and_eq_false_iff];by_cases hd:a.toNat=45/\b.toNat=45/\d.toNat=45
    ·right
     have hR:R≠[]/\skipN R=0:=by
      cases key with
      |nil=>injection e with e _;rw[<-e]at hd;exact absurd hd.2.1 (by decide)
      |cons k1 key=>
       rw[List.all_cons,Bool.and_eq_true]at ha;injection e with _ e
       cases key with
       |nil=>injection e with e _;rw[<-e]at hd;exact absurd hd.2.2 (by decide)
       |cons k2 key=>
        rw[List.all_cons,Bool.and_eq_true]at ha;injection e with _ e
        subst e;cases key with
        |nil=>exact ⟨by simp,aC9 (by decide)⟩
        |cons k3 key=>
         rw[List.all_cons,Bool.and_eq_true]at ha;exact ⟨by simp,aC9 (aF2 ha.2.2.2.1 32 (by omega))⟩
     rw[hR.2,List.drop_zero];cases R with
     |nil=>exact absurd rfl hR.1
     |cons=>rfl
    ·left
     exact dF hd
   ·rfl
theorem KeyF.says {key r:List UInt8} (h:KeyF key) (hr:r=[]\/∃s,r=32::s):keyL (key++58::r)= .ok (some (key,false,key.length+1)):=by
 have hp:0<key.length:=List.length_pos_iff.2 h.ne;unfold keyL;rw[if_neg (by rw[h.cont.2.2];decide),aXe key r h.all];have e1:(key++58::r).drop key.length=58::r:=List.drop_left ..;have e2:(key++58::r).take key.length=key:=List.take_left ..;have e3:aBg (58::r)=true:=by
  rcases hr with rfl|⟨s,rfl⟩
  ·decide
  ·rfl
 rw[e1,e2,if_pos ⟨hp,h.len,e3⟩]
theorem KeyF.bytes {key:List UInt8} (h:KeyF key):∀c∈key,okB c:=by
 intro c hc;have:=aF2 (List.all_eq_true.1 h.all c hc);unfold okB;refine ⟨?_,this 127 (by omega)⟩;rcases Nat.lt_or_ge c.toNat 32 with q|q
 ·exact absurd rfl (this _ (by omega))
 ·exact q
theorem ScalF.cont {s x:List UInt8} {q:Bool} (h:ScalF s x q) (hn:s≠[]):Cont s:=⟨hn,h.skip,h.over,h.dash⟩
theorem aXf {c0 m:Nat} {s x:List UInt8} {q:Bool} (h:ScalF s x q) (hn:s≠[]) (hm:0<c0+m) (n:Nat):
 lineL (lineB c0 m s) (n:Int)= .ok (aG7 c0 m n++[⟨4,n,((c0+2*m:Nat):Int),x,q⟩]):=by
 rw[aQb (h.cont hn) h.bytes (.inl hm)];unfold restL;rw[aDr,if_neg (by rw[h.over];decide),h.key];simp only;unfold endL;rw[aDr,h.scal]
theorem aG8 {a b:List UInt8} (ha:∀c∈a,okB c) (hb:∀c∈b,okB c):∀c∈a++b,okB c:=fun c hc=>(List.mem_append.1 hc).elim (ha c) (hb c)
theorem aOp:∀c∈([]:List UInt8),okB c:=fun c hc=>by cases hc
theorem aDs {a:UInt8} {b:List UInt8} (ha:okB a) (hb:∀c∈b,okB c):∀c∈a::b,okB c:=fun c hc=>(List.mem_cons.1 hc).elim (fun e=>e ▸ ha) (hb c)
theorem a1j {c0 m:Nat} {key:List UInt8} (h:KeyF key) (n:Nat):
 lineL (lineB c0 m (key++[58])) (n:Int)= .ok (aG7 c0 m n++[⟨3,n,((c0+2*m:Nat):Int),key,false⟩]):=by
 obtain ⟨h1,h2,-⟩:=h.cont (r:=[]);rw[aQb h1 (aG8 h.bytes (aDs (by unfold okB;decide) aOp)) (.inr h2)];unfold restL;rw[aDr,if_neg (by rw[h1.over];decide),h.says (.inl rfl)];simp only;have e:(lineB c0 m (key++[58])).drop (c0+2*m+(key.length+1))=[]:=by
  rw[<-List.drop_drop,aDr];exact List.drop_eq_nil_of_le (by simp)
 unfold endL;rw[e,show skipN ([]:List UInt8)=0 from rfl,Nat.add_zero,e];rfl
theorem aXg {c0 m:Nat} {key s x:List UInt8} {q:Bool} (h:KeyF key) (hs:ScalF s x q) (n:Nat):
 lineL (lineB c0 m (key++58::32::s)) (n:Int)= .ok (aG7 c0 m n++[⟨3,n,((c0+2*m:Nat):Int),key,false⟩,⟨4,n,((c0+2*m+key.length+2:Nat):Int),x,q⟩]):=by
 obtain ⟨h1,h2,-⟩:=h.cont (r:=32::s);rw[aQb h1 (aG8 h.bytes (aDs (by unfold okB;decide) (aDs (by unfold okB;decide) hs.bytes))) (.inr h2)];unfold restL;rw[aDr,if_neg (by rw[h1.over];decide),h.says (.inr ⟨s,rfl⟩)];simp only;have e:(lineB c0 m (key++58::32::s)).drop (c0+2*m+(key.length+1))=32::s:=by
  rw[<-List.drop_drop,aDr,<-List.drop_drop,List.drop_left];rfl
 have e2:(lineB c0 m (key++58::32::s)).drop (c0+2*m+(key.length+1)+1)=s:=by
  rw[<-List.drop_drop,e];rfl
 rw[e,aEt (by decide),hs.skip];unfold endL;rw[show 0+1=1 from rfl,e2,hs.scal];simp only[List.append_assoc,List.singleton_append];rfl
theorem aXh (a b:List Tok):aBy (a++b)=aBy a+aBy b:=by unfold aBy;rw[List.filter_append,a7e]
def Scan (a:List UInt8) (n:Nat) (ts:List Tok) (b:List UInt8) (m:Nat):Prop:=
 ∀f k acc,a.length<f->∃f',b.length<f'/\aG6 f a k n acc=aG6 f' b (k+aBy ts) m (acc++ts)
theorem Scan.refl (a:List UInt8) (n:Nat):Scan a n [] a n:=fun f k acc h=>⟨f,h,by simp[aBy]⟩
theorem Scan.trans {a b c:List UInt8} {n m p:Nat} {ts us:List Tok} (h:Scan a n ts b m) (g:Scan b m us c p):Scan a n (ts++us) c p:=by
 intro f k acc hf;obtain ⟨f1,h1,e1⟩:=h f k acc hf;obtain ⟨f2,h2,e2⟩:=g f1 (k+aBy ts) (acc++ts) h1;exact ⟨f2,h2,by rw[e1,e2,aXh,List.append_assoc,Nat.add_assoc]⟩
theorem aOq:∀(l b:List UInt8),(∀c∈l,c≠10)->cutB (l++10::b)=(l,b)
 |[],b,_=>by
  show cutB (10::b)=_
  unfold cutB;rw[if_pos rfl]
 |c::l,b,h=>by
  have ih:=aOq l b (fun x hx=>h x (List.mem_cons_of_mem _ hx));rw[List.cons_append];unfold cutB;rw[if_neg (h c (List.mem_cons_self ..)),ih]
theorem aG9 {l b:List UInt8} {n:Nat} {ts:List Tok} (hl:∀c∈l,c≠10) (h:lineL l ((n+1:Nat):Int)= .ok ts):Scan (l++10::b) n ts b (n+1):=by
 intro f k acc hf;obtain ⟨f',rfl⟩:∃f',f=f'+1:=⟨f-1,by omega⟩;refine ⟨f',by simp at hf;omega,?_⟩
 conv=>lhs;unfold aG6
 rw[if_neg (by simp),aOq l b hl];simp only;rw[h]
theorem ok_ten {c:UInt8} (h:okB c):c≠10:=by
 rintro rfl;unfold okB at h;exact absurd h.1 (by decide)
theorem aJx {c0 m:Nat} {c:List UInt8} (h:∀x∈c,okB x):∀x∈lineB c0 m c,x≠10:=by
 have hd:∀m,∀x∈aC8 m,x≠10:=by
  intro m
  induction m with
  |zero=>intro x hx;cases hx
  |succ m ih=>
   intro x hx;rcases List.mem_cons.1 hx with rfl|hx
   ·decide
   ·rcases List.mem_cons.1 hx with rfl|hx
    ·decide
    ·exact ih x hx
 intro x hx;unfold lineB at hx;rcases List.mem_append.1 hx with hx|hx
 ·rw[List.eq_of_mem_replicate hx];decide
 ·rcases List.mem_append.1 hx with hx|hx
  ·exact hd m x hx
  ·exact ok_ten (h x hx)
namespace Fo
def nl (kind:Int):Fo->Nat
 |nil=>0
 |sc _ _ _ nx=>1+nx.nl kind
 |br kd _ kids nx=>(if kind=2 then 1 else 0)+kids.nl kd+nx.nl kind
def tok (kind:Int) (n col:Nat):Fo->List Tok
 |nil=>[]
 |sc key text q nx=>
  (if kind=2 then [⟨3,n,col,key.data.toList,false⟩,⟨4,n,((col+key.data.toList.length+2:Nat):Int),text.data.toList,q⟩]
   else [⟨2,n,col,[],false⟩,⟨4,n,((col+2:Nat):Int),text.data.toList,q⟩])++nx.tok kind (n+1) col
 |br kd key kids nx=>
  (if kind=2 then ⟨3,n,col,key.data.toList,false⟩::kids.tok kd (n+1) (col+2) else ⟨2,n,col,[],false⟩::kids.tok kd n (col+2))++
   nx.tok kind (n+(if kind=2 then 1 else 0)+kids.nl kd) col
theorem nl_sc (kind:Int) (key text:ByteArray) (q:Bool) (nx:Fo):(sc key text q nx).nl kind=1+nx.nl kind:=rfl
theorem nl_br (kind kd:Int) (key:ByteArray) (kids nx:Fo):(br kd key kids nx).nl kind=(if kind=2 then 1 else 0)+kids.nl kd+nx.nl kind:=rfl
theorem tok_sc (kind:Int) (n col:Nat) (key text:ByteArray) (q:Bool) (nx:Fo):(sc key text q nx).tok kind n col=
 (if kind=2 then [⟨3,n,col,key.data.toList,false⟩,⟨4,n,((col+key.data.toList.length+2:Nat):Int),text.data.toList,q⟩]
  else [⟨2,n,col,[],false⟩,⟨4,n,((col+2:Nat):Int),text.data.toList,q⟩])++nx.tok kind (n+1) col:=rfl
theorem tok_br (kind kd:Int) (n col:Nat) (key:ByteArray) (kids nx:Fo):(br kd key kids nx).tok kind n col=
 (if kind=2 then ⟨3,n,col,key.data.toList,false⟩::kids.tok kd (n+1) (col+2) else ⟨2,n,col,[],false⟩::kids.tok kd n (col+2))++
  nx.tok kind (n+(if kind=2 then 1 else 0)+kids.nl kd) col:=rfl
end Fo
theorem KeyG.f {key:ByteArray} (h:KeyG 2 key):KeyF key.data.toList:=⟨(h.1 rfl).1,(h.1 rfl).2.1,(h.1 rfl).2.2⟩
theorem aXi {l:List UInt8} (h:KeyF l):keyQ l=l:=by unfold keyQ;rw[if_pos ⟨h.ne,h.len,h.all⟩]
theorem aJy (c0 m n:Nat):aG7 c0 (m+1) n=aG7 c0 m n++[⟨2,n,((c0+2*m:Nat):Int),[],false⟩]:=by
 unfold aG7;rw[aOn,List.map_append];rfl
theorem aLn (c0 m:Nat) (c:List UInt8):lineB c0 (m+1) c=lineB c0 m (45::32::c):=by
 unfold lineB;rw[aJv];simp
theorem aJz (c0 m:Nat) (a b:List UInt8):lineB c0 m (a++b)=lineB c0 m a++b:=by
 unfold lineB;simp
theorem a55:∀(F:Fo) (kind:Int) (c0 m n:Nat) (b:List UInt8),F≠ .nil->F.Ok kind->(kind=2\/kind=3)->(0<c0+m\/kind=2)->
 Scan (lineB c0 m (F.txt kind (c0+2*m)++b)) n (aG7 c0 m (n+1)++F.tok kind (n+1) (c0+2*m)) b (n+F.nl kind):=by
 have next:∀(nx:Fo) (kind:Int) (col n:Nat) (b:List UInt8),(nx≠ .nil->Scan (lineB col 0 (nx.txt kind (col+2*0)++b)) n (aG7 col 0 (n+1)++nx.tok kind (n+1) (col+2*0)) b (n+nx.nl kind))->
  Scan (nx.full kind col++b) n (nx.tok kind (n+1) col) b (n+nx.nl kind):=by
  intro nx kind col n b h;by_cases hn:nx= .nil
  ·subst hn;exact Scan.refl _ _
  ·have:=h hn;rw[Fo.full_some hn,List.append_assoc];exact this
 intro F
 induction F with
 |nil=>intro kind c0 m n b h;exact absurd rfl h
 |sc key text q nx ih=>
  intro kind c0 m n b _ hok hk hcm;obtain ⟨hkey,hsc,hnx⟩:=hok;obtain ⟨h1,h2,h3⟩:=scal_f hsc;rw[Fo.txt_sc,h2];have hnext:=next nx kind (c0+2*m) (n+1) b (fun hn=>ih kind (c0+2*m) 0 (n+1) b hn hnx hk (by omega));rcases hk with rfl|rfl
  ·have hkf:=hkey.f;have hl:=aG9 (b:=nx.full 2 (c0+2*m)++b) (aJx (aG8 hkf.bytes (aDs (by unfold okB;decide) (aDs (by unfold okB;decide) h1.bytes)))) (aXg (c0:=c0) (m:=m) hkf h1 (n+1));have:=hl.trans hnext;rw[<-aJz]at this;rw[Fo.tok_sc,Fo.nl_sc];unfold Fo.mark;rw[if_pos rfl,if_pos rfl,aXi hkf];simp only[List.append_assoc,List.cons_append,List.nil_append]at this |-
   rw[show n+(1+nx.nl 2)=n+1+nx.nl 2 by omega];exact this
  ·have hl:=aG9 (b:=nx.full 3 (c0+2*m)++b) (aJx (c0:=c0) (m:=m+1) h1.bytes) (aXf (c0:=c0) (m:=m+1) h1 h3 (by omega) (n+1));have:=hl.trans hnext;rw[aLn,<-aJz,aJy]at this;rw[Fo.tok_sc,Fo.nl_sc];unfold Fo.mark;rw[if_neg (show ¬(3:Int)=2 by decide),if_neg (show ¬(3:Int)=2 by decide)];simp only[List.append_assoc,List.cons_append,List.nil_append]at this |-;rw[show n+(1+nx.nl 3)=n+1+nx.nl 3 by omega]
   exact this
 |br kd key kids nx ihk ih=>
  intro kind c0 m n b _ hok hk hcm;obtain ⟨hkey,hkd,hkn,hko,-,hnx⟩:=hok;rw[Fo.txt_br];rcases hk with rfl|rfl
  ·have hkf:=hkey.f;have hnext:=next nx 2 (c0+2*m) (n+1+kids.nl kd) b (fun hn=>ih 2 (c0+2*m) 0 (n+1+kids.nl kd) b hn hnx (.inl rfl) (by omega));have hkids:=next kids kd (c0+2*m+2) (n+1) (nx.full 2 (c0+2*m)++b) (fun hn=>ihk kd (c0+2*m+2) 0 (n+1) (nx.full 2 (c0+2*m)++b) hn hko hkd (by omega));have hl:=aG9 (b:=kids.full kd (c0+2*m+2)++(nx.full 2 (c0+2*m)++b)) (aJx (aG8 hkf.bytes (aDs (by unfold okB;decide) aOp))) (a1j (c0:=c0) (m:=m) hkf (n+1))
   have:=(hl.trans hkids).trans hnext;rw[<-aJz]at this;rw[Fo.tok_br,Fo.nl_br];unfold Fo.mark;simp only[if_true];rw[aXi hkf];simp only[List.append_assoc,List.cons_append,List.nil_append]at this |-;rw[show n+(1+kids.nl kd+nx.nl 2)=n+1+kids.nl kd+nx.nl 2 by omega,show n+1+1+kids.nl kd=n+1+kids.nl kd+1 by omega];exact this
  ·have hnext:=next nx 3 (c0+2*m) (n+kids.nl kd) b (fun hn=>ih 3 (c0+2*m) 0 (n+kids.nl kd) b hn hnx (.inr rfl) (by omega));have hkids:=ihk kd c0 (m+1) n (nx.full 3 (c0+2*m)++b) hkn hko hkd (by omega);have:=hkids.trans hnext;rw[aLn,aJy]at this;rw[Fo.tok_br,Fo.nl_br];unfold Fo.mark;simp only[if_neg (show ¬(3:Int)=2 by decide)];simp only[List.append_assoc,List.cons_append,List.nil_append]at this |-
   rw[show n+(0+kids.nl kd+nx.nl 3)=n+kids.nl kd+nx.nl 3 by omega,show n+1+0+kids.nl kd=n+kids.nl kd+1 by omega];exact this
