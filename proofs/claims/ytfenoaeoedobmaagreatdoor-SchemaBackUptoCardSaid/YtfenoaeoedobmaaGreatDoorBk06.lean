/-
Parts of a proof.
-/
import Derived.Test.YtfenoaeoedobmaaGreatDoorBk05
set_option linter.unusedVariables false
set_option linter.unusedSimpArgs false
namespace Go.Proofs.YtfenoaeoedobmaaGreatDoor
open Go Go.RowKit
theorem aI5 {l x y:List UInt8} {c:UInt8} (h:cutL l c=(x,y,true)):l=x++c::y/\(∀z∈x,(z != c)=true):=by
 unfold cutL at h
 split at h
 ·cases h
 ·rename_i hn
  simp only[Prod.mk.injEq,and_true]at h;obtain ⟨rfl,rfl⟩:=h;have e:=List.takeWhile_append_dropWhile (p:=fun x=>x != c) (l:=l);refine ⟨?_,fun z hz=>List.all_eq_true.1 (List.all_takeWhile (p:=fun x=>x != c)) z hz⟩;cases hd:l.dropWhile (fun x=>x != c) with
  |nil=>
   exfalso
   rw[hd,List.append_nil]at e;apply hn;rw[List.all_eq_true];intro z hz;rw[<-e]at hz;exact List.all_eq_true.1 (List.all_takeWhile (p:=fun x=>x != c)) z hz
  |cons q r=>
   have hq:¬(q != c)=true:=by
    have:=List.head?_dropWhile_not (p:=fun x=>x != c) (l:=l);rw[hd]at this
    simpa using this
   have hqc:q=c:=by simpa using hq
   rw[hd]at e
   conv=>lhs;rw[<-e]
   rw[hqc];simp[hd,hqc]
theorem aPg {l x y:List UInt8} {c:UInt8} {ok:Bool} (h:cutL l c=(x,y,ok)):∃z,l=x++z:=by
 cases ok with
 |true=>exact ⟨_,(aI5 h).1⟩
 |false=>
  unfold cutL at h
  split at h
  ·simp only[Prod.mk.injEq]at h;exact ⟨[],by rw[h.1,List.append_nil]⟩
  ·cases h
theorem aPh {x y:List UInt8} {c:UInt8} (h:∀z∈x,(z != c)=true):cutL (x++c::y) c=(x,y,true):=by
 have hn:¬(c != c)=true:=by simp
 unfold cutL;rw[if_neg,List.takeWhile_append_of_pos h,List.takeWhile_cons_of_neg (p:=fun x=>x != c) hn,List.dropWhile_append_of_pos h,List.dropWhile_cons_of_neg (p:=fun x=>x != c) hn]
 ·simp
 ·intro q;rw[List.all_eq_true]at q;exact hn (q c (by simp))
theorem aNk {l:List UInt8} {c:UInt8} (h:∀z∈l,(z != c)=true):cutL l c=(l,[],false):=by
 unfold cutL;rw[if_pos (List.all_eq_true.2 h)]
theorem dig_ne {c e:UInt8} (h:isD c=true) (he:isD e=false):(c != e)=true:=by
 rw[bne_iff_ne];intro q;rw[q,he]at h;cases h
theorem aHq {l:List UInt8} {e:UInt8} (h:l.all isD=true) (he:isD e=false):∀z∈l,(z != e)=true:=
 fun z hz=>dig_ne (List.all_eq_true.1 h z hz) he
theorem a4l {l:List UInt8} (h:allD l=true):l≠[]:=by
 rintro rfl;cases h
theorem aI6 {l:List UInt8} (h:aB2 l=true):allD l=true:=by
 unfold aB2 at h;simp only[Bool.and_eq_true]at h;exact h.1
theorem aS2 {l:List UInt8} (h:decR l≠none):∃a t,(aA4 l).1=a++46::t/\aB2 a=true:=by
 unfold decR at h;simp only at h
 split at h
 ·rename_i hc
  obtain ⟨h1,h2,h3⟩:=hc;have e1:cutL (cutL (aA4 l).1 101).1 46=((cutL (cutL (aA4 l).1 101).1 46).1,(cutL (cutL (aA4 l).1 101).1 46).2.1,true):=by
   rw[<-h1]
  obtain ⟨e2,_⟩:=aI5 e1;obtain ⟨z,hz⟩:=aPg (l:=(aA4 l).1) (c:=101) (x:=(cutL (aA4 l).1 101).1) (y:=(cutL (aA4 l).1 101).2.1) (ok:=(cutL (aA4 l).1 101).2.2) rfl;refine ⟨(cutL (cutL (aA4 l).1 101).1 46).1,(cutL (cutL (aA4 l).1 101).1 46).2.1++z,?_,h2⟩
  conv=>lhs;rw[hz,e2]
  simp
 ·exact absurd rfl h
theorem aY8 {a t:List UInt8} (h:a.all isD=true):(a++46::t).takeWhile isD=a:=by
 rw[List.takeWhile_append_of_pos (List.all_eq_true.1 h),List.takeWhile_cons_of_neg (by decide),List.append_nil]
theorem aI7 {l r:List UInt8} {b:Bool} (hm:aA4 l=(r,b)) (h:¬∃t,r=r.takeWhile isD++46::t/\aB2 (r.takeWhile isD)=true):decR l=none:=by
 apply Decidable.byContradiction;intro hn;obtain ⟨a,t,e,ha⟩:=aS2 hn;rw[hm]at e;simp only at e;apply h;refine ⟨t,?_⟩;rw[e,aY8 (aFk ha)];exact ⟨rfl,ha⟩
theorem aNl {l r:List UInt8} {b:Bool} (hm:aA4 l=(r,b)) (h:aB2 r=false):intR l=none:=by
 unfold intR;rw[hm,if_pos h]
theorem aNm:∀(l:List UInt8) (acc:Nat),0<acc->0<l.foldl (fun n c=>10*n+(c.toNat-48)) acc:=fun l acc h=>Nat.lt_of_lt_of_le h (aI4 l acc)
theorem aY9 {l:List UInt8} (h:aB2 l=true) (h2:l≠[48]):0<numN l:=by
 have hd:=aGu (aI6 h);cases l with
 |nil=>cases h
 |cons c r=>
  rw[List.all_cons]at hd;simp only[Bool.and_eq_true]at hd;have hc:=(aHo c).1 hd.1;have hne:c.toNat≠48:=by
   intro q;have hc48:c=48:=UInt8.toNat_inj.1 (by simpa using q);subst hc48;unfold aB2 at h;simp only[Bool.and_eq_true,Bool.or_eq_true]at h;rcases h.2 with h3|h3
   ·simp at h3
   ·simp at h3;subst h3;exact h2 rfl
  show 0<(c::r).foldl (fun n c=>10*n+(c.toNat-48)) 0
  rw[List.foldl_cons];exact aNm r _ (by omega)
theorem aS3 {l r:List UInt8} {b:Bool} (hm:aA4 l=(r,b)) (h:aB2 r=true):intR l=intP r b:=by
 unfold intR intP;rw[hm];simp only;rw[if_neg (by simp[h])];cases b with
 |false=>simp
 |true=>
  simp only[if_true];by_cases h48:r=[48]
  ·rw[if_pos h48,if_pos h48]
  ·rw[if_neg h48,if_neg h48];have:=aY9 h h48;by_cases hle:numN r<=9223372036854775808
   ·rw[if_pos ⟨hle,this⟩,if_pos hle]
   ·rw[if_neg (fun q=>hle q.1),if_neg hle]
theorem aPi {l r:List UInt8} {b:Bool} (hm:aA4 l=(r,b)) (h:r.all isD=true):decR l=none:=by
 refine aI7 hm ?_;rintro ⟨t,e,_⟩;rw[aHp h]at e;have:=congrArg List.length e;simp at this
theorem aGv {l d t x y:List UInt8} {b ok:Bool} (hm:aA4 l=(d++46::t,b)) (hd:d.all isD=true) (hc:cutL t 101=(x,y,ok)):
 decR l=if aB2 d=true/\allD x=true then
  match powR ok y with
  |some k=>if numN (d++x)<=999999999999999/\x.length<=200/\¬Bad (numN (d++x)) (k-(x.length:Int)) then some (numN (d++x),k-(x.length:Int),b) else none
  |none=>none
 else none:=by
 have h1:cutL (d++46::t) 101=(d++46::x,y,ok):=by
  cases ok with
  |true=>
   obtain ⟨e,hx⟩:=aI5 hc;have:d++46::t=(d++46::x)++101::y:=by rw[e];simp
   rw[this];refine aPh ?_;intro z hz;rcases List.mem_append.1 hz with hz|hz
   ·exact aHq hd (by decide) z hz
   ·rcases List.mem_cons.1 hz with rfl|hz
    ·decide
    ·exact hx z hz
  |false=>
   unfold cutL at hc
   split at hc
   ·rename_i hall
    simp only[Prod.mk.injEq,and_true]at hc;obtain ⟨rfl,rfl⟩:=hc;refine aNk ?_;intro z hz;rcases List.mem_append.1 hz with hz|hz
    ·exact aHq hd (by decide) z hz
    ·rcases List.mem_cons.1 hz with rfl|hz
     ·decide
     ·exact List.all_eq_true.1 hall z hz
   ·cases hc
 have h2:cutL (d++46::x) 46=(d,x,true):=aPh (aHq hd (by decide));unfold decR;simp only[hm,h1,h2,true_and];rfl
theorem a4m {b:List UInt8} (hb:b.all isD=true):cutL b 101=(b,[],false):=aNk (aHq hb (by decide))
theorem cut_e {b v:List UInt8} (hb:b.all isD=true):cutL (b++101::v) 101=(b,v,true):=aPh (aHq hb (by decide))
theorem aUq {b v:List UInt8} {c:UInt8} (hb:b.all isD=true) (hc:isD c=false) (h:c≠101):allD (cutL (b++c::v) 101).1=false:=by
 cases hq:allD (cutL (b++c::v) 101).1 with
 |false=>rfl
 |true=>
  exfalso
  have hx:=aGu hq;have key:∃w,(cutL (b++c::v) 101).1=b++c::w:=by
   unfold cutL
   split
   ·exact ⟨v,rfl⟩
   ·simp only;rw[List.takeWhile_append_of_pos (aHq hb (by decide)),List.takeWhile_cons_of_pos (by simpa using h)];exact ⟨_,rfl⟩
  obtain ⟨w,hw⟩:=key;rw[hw,List.all_append,List.all_cons,hc]at hx;simp at hx
theorem aPj:∀(l:List UInt8) (a b:Nat),a=min b 1000000000000000000->l.foldl (fun m c=>min (m*10+(c.toNat-48)) 1000000000000000000) a=min (l.foldl (fun n c=>10*n+(c.toNat-48)) b) 1000000000000000000:=by
 intro l
 induction l with
 |nil=>intro a b h;exact h
 |cons c r ih=>
  intro a b h;rw[List.foldl_cons,List.foldl_cons];exact ih _ _ (by omega)
theorem aPk (l:List UInt8):valS l=min (numN l) 1000000000000000000:=aPj l 0 0 (by decide)
theorem aZa (l:List UInt8) (k:Int) (n:Nat) (p:Int) (hp:p<=99) (hk:k=p-(n:Int)):Bad (valS l) k↔¬(numN l<=999999999999999/\n<=200/\¬Bad (numN l) k):=by
 rw[aPk];unfold Bad;generalize numN l=x;omega
theorem a4n (l:List UInt8) (k:Int) (h:¬Bad (valS l) k):valS l=numN l:=by
 rw[aPk]at h |-;unfold Bad at h;omega
theorem aQ8 {r:List UInt8} (h:aB2 r=true):r.takeWhile isD=r:=aHp (aFk h)
theorem aKw {l r:List UInt8} {b:Bool} (hm:aA4 l=(r,b)) (h:aB2 (r.takeWhile isD)=false):intR l=none/\decR l=none:=by
 refine ⟨aNl hm ?_,aI7 hm ?_⟩
 ·cases hq:aB2 r with
  |false=>rfl
  |true=>rw[aQ8 hq,hq]at h;cases h
 ·rintro ⟨t,_,q⟩;rw[q]at h;cases h
theorem aB6 (r:List UInt8):(r.takeWhile isD).all isD=true:=List.all_takeWhile
theorem aQ9 {r:List UInt8} (h0:(r.takeWhile isD).length≠0) (h:¬(1<(r.takeWhile isD).length/\(r.takeWhile isD).head? =some 48)):aB2 (r.takeWhile isD)=true:=by
 have hd:=aB6 r;generalize r.takeWhile isD=d at*;unfold aB2 allD;rw[hd];cases d with
 |nil=>exact absurd rfl h0
 |cons c q=>
  simp only[List.isEmpty_cons,Bool.not_false,Bool.and_true,Bool.true_and,Bool.or_eq_true,decide_eq_true_eq];rcases Nat.lt_or_ge 1 (c::q).length with h1|h1
  ·exact .inl fun e=>h ⟨h1,e⟩
  ·exact .inr (by simp at h1 |-;exact h1)
theorem aUr {r:List UInt8} (h:1<(r.takeWhile isD).length) (h2:(r.takeWhile isD).head? =some 48):aB2 (r.takeWhile isD)=false:=by
 cases hq:aB2 (r.takeWhile isD) with
 |false=>rfl
 |true=>
  unfold aB2 at hq;simp only[Bool.and_eq_true,Bool.or_eq_true,decide_eq_true_eq]at hq;rcases hq.2 with h3|h3
  ·exact absurd h2 h3
  ·omega
theorem a4o {r:List UInt8} (h:0<(r.takeWhile isD).length):(r.takeWhile isD).head? =r.head? :=by
 cases r with
 |nil=>rfl
 |cons c q=>
  rw[List.takeWhile_cons]at h |-
  split
  ·rfl
  ·rename_i hn
   rw[if_neg hn]at h;simp at h
theorem aI8 (r:List UInt8):(r.takeWhile isD).length<=r.length:=List.IsPrefix.length_le (List.takeWhile_prefix isD)
theorem aL6 {r:List UInt8} (h:(r.takeWhile isD).length=r.length):r.takeWhile isD=r:=
 List.IsPrefix.eq_of_length (List.takeWhile_prefix isD) h
theorem a4p {l r:List UInt8} {b:Bool} (hm:aA4 l=(r,b)) (h:(r.takeWhile isD).length≠r.length):intR l=none:=by
 refine aNl hm ?_;cases hq:aB2 r with
 |false=>rfl
 |true=>exact absurd (by rw[aQ8 hq]) h
theorem aKx (t:List UInt8):∃u,t=t.takeWhile isD++u/\(u=[]\/∃c v,u=c::v/\isD c=false):=by
 refine ⟨t.dropWhile isD,List.takeWhile_append_dropWhile.symm,?_⟩;cases hd:t.dropWhile isD with
 |nil=>exact .inl rfl
 |cons c v=>
  have:=List.head?_dropWhile_not (p:=isD) (l:=t);rw[hd]at this;exact .inr ⟨c,v,rfl,by simpa using this⟩
theorem a3i {s:ByteArray} {pre post:List UInt8} {c:UInt8} (h:s.data.toList=pre++c::post) {k:Nat} (hk:k=pre.length) (hlt:k<s.size):s[k]=c:=by
 subst hk;rw[aEv s _ hlt];simp[h]
theorem aRa {s:ByteArray} {k:Nat} (hlt:k<s.size):s.data.toList=s.data.toList.take k++s[k]::s.data.toList.drop (k+1):=by
 rw[aEv s k hlt,<-List.drop_eq_getElem_cons (by rw[aAf];exact hlt),List.take_append_drop]
theorem aL7 (r:List UInt8):r.takeWhile isD=r.take (r.takeWhile isD).length:=List.prefix_iff_eq_take.1 (List.takeWhile_prefix isD)
theorem aZb {l:List UInt8} {r:ByteArray} {b:Bool} {n:Nat} (hm:aA4 l=(r.data.toList,b)) (hn:n=(r.data.toList.takeWhile isD).length) (hlt:n<r.size) (h:r[n]≠46):decR l=none:=by
 refine aI7 hm ?_;rintro ⟨t,e,_⟩;exact h (a3i e hn hlt)
theorem aS4 {r:ByteArray} {n:Nat} (hn:n=(r.data.toList.takeWhile isD).length) (hlt:n<r.size) (h:r[n]=46):
 r.data.toList=r.data.toList.takeWhile isD++46::(r.extract (n+1) r.size).data.toList:=by
 have e:=aRa hlt;rw[h]at e;rw[aCg];have:=aL7 r.data.toList;rw[<-hn]at this;rw[this];exact e
theorem aIi {l d t:List UInt8} {b:Bool} (hm:aA4 l=(d++46::t,b)) (hd:d.all isD=true) (h:(t.takeWhile isD).length=0):decR l=none:=by
 obtain ⟨x,y,ok,hc⟩:∃x y ok,cutL t 101=(x,y,ok):=⟨_,_,_,rfl⟩;rw[aGv hm hd hc,if_neg];rintro ⟨_,q⟩;obtain ⟨u,e,hu⟩:=aKx t;rw[List.eq_nil_of_length_eq_zero h,List.nil_append]at e;have hx:x=(cutL t 101).1:=by rw[hc]
 have hall:([]:List UInt8).all isD=true:=rfl;rcases hu with hu|⟨c,v,hu,hcd⟩
 ·rw[e,hu]at hx;rw[hx]at q;cases q
 ·by_cases h101:c=101
  ·have:=cut_e (b:=[]) (v:=v) hall;rw[List.nil_append]at this;rw[e,hu,h101,this]at hx;rw[hx]at q;cases q
  ·have:=aUq (b:=[]) (v:=v) hall hcd h101;rw[List.nil_append]at this;rw[e,hu]at hx;rw[hx,this]at q;cases q
def decF (d b:List UInt8) (neg:Bool) (k:Option Int):Option (Nat×Int×Bool):=
 match k with
 |some k=>if numN (d++b)<=999999999999999/\b.length<=200/\¬Bad (numN (d++b)) (k-(b.length:Int)) then some (numN (d++b),k-(b.length:Int),neg) else none
 |none=>none
theorem aPl {b:List UInt8} (h:b.all isD=true) (h0:b.length≠0):allD b=true:=by
 unfold allD;rw[h];cases b with
 |nil=>exact absurd rfl h0
 |cons c r=>rfl
theorem a4q {l d t:List UInt8} {neg:Bool} (hm:aA4 l=(d++46::t,neg)) (hw:aB2 d=true) (h0:(t.takeWhile isD).length≠0) (h:(t.takeWhile isD).length=t.length):
 decR l=decF d (t.takeWhile isD) neg (some 0):=by
 have ht:=aL6 h;rw[ht]at h0 |-;have hall:t.all isD=true:=by rw[<-ht];exact aB6 t
 rw[aGv hm (aFk hw) (a4m hall),if_pos ⟨hw,aPl hall h0⟩];rfl
theorem a4r {l d t v:List UInt8} {neg:Bool} (hm:aA4 l=(d++46::t,neg)) (hw:aB2 d=true) (h0:(t.takeWhile isD).length≠0) (h:t=t.takeWhile isD++101::v):
 decR l=decF d (t.takeWhile isD) neg (powR true v):=by
 have hall:=aB6 t;generalize t.takeWhile isD=b at*;subst h;rw[aGv hm (aFk hw) (cut_e hall),if_pos ⟨hw,aPl hall h0⟩];rfl
theorem a4s {l d t v:List UInt8} {c:UInt8} {neg:Bool} (hm:aA4 l=(d++46::t,neg)) (hd:d.all isD=true) (h:t=t.takeWhile isD++c::v) (hc:isD c=false) (hne:c≠101):
 decR l=none:=by
 obtain ⟨x,y,ok,hcu⟩:∃x y ok,cutL t 101=(x,y,ok):=⟨_,_,_,rfl⟩;rw[aGv hm hd hcu,if_neg];rintro ⟨_,q⟩;have:=aUq (v:=v) (aB6 t) hc hne;rw[<-h,hcu]at this;simp only at this;rw[this]at q;cases q
theorem aPm {t:ByteArray} {k:Nat} (hk:k=(t.data.toList.takeWhile isD).length) (hlt:k<t.size):t.data.toList=t.data.toList.takeWhile isD++t[k]::(t.extract (k+1) t.size).data.toList/\isD t[k]=false:=by
 have e:=aRa hlt;have h2:=aL7 t.data.toList;rw[<-hk]at h2;rw[aCg];refine ⟨by rw[h2];exact e,?_⟩;obtain ⟨u,e2,hu⟩:=aKx t.data.toList;have hlen:=congrArg List.length e2;rw[a7e,<-hk,aAf]at hlen;rcases hu with rfl|⟨c,v,rfl,hc⟩
 ·simp at hlen;omega
 ·rw[a3i e2 hk hlt];exact hc
theorem aZc {r:ByteArray} {n k N:Nat} (hk:k=((r.extract (n+1) r.size).data.toList.takeWhile isD).length) (hN:N=n+1+k) (hlt:N<r.size):
 (r.extract (n+1) r.size).data.toList=(r.extract (n+1) r.size).data.toList.takeWhile isD++r[N]::(r.extract (N+1) r.size).data.toList/\isD r[N]=false:=by
 have hT:(r.extract (n+1) r.size).size=r.size-(n+1):=by
  rw[<-aAf,aCg,List.length_drop,aAf]
 have hlt2:k<(r.extract (n+1) r.size).size:=by omega
 have h:=aPm hk hlt2;have e1:(r.extract (n+1) r.size)[k]=r[N]:=by
  rw[aEv _ _ hlt2,aEv _ _ hlt];simp only[aCg,List.getElem_drop];congr 1;exact hN.symm
 have e2:((r.extract (n+1) r.size).extract (k+1) (r.extract (n+1) r.size).size).data.toList=(r.extract (N+1) r.size).data.toList:=by
  rw[aCg,aCg,aCg,List.drop_drop];congr 1;omega
 rw[e1,e2]at h;exact h
theorem aZd {v p:List UInt8} {down:Bool} (hm:aA4 v=(p,down)):powR true v=if (p.takeWhile isD).length≠0/\(p.takeWhile isD).length<=2/\(p.takeWhile isD).length=p.length then some (if down=true then -(numN p:Int) else (numN p:Int)) else none:=by
 unfold powR;rw[if_pos rfl,hm];simp only;by_cases h:allD p=true/\p.length<=2
 ·have ht:=aHp (aGu h.1);have hc:p.length≠0/\p.length<=2/\p.length=p.length:=⟨by intro q;exact a4l h.1 (List.eq_nil_of_length_eq_zero q),h.2,rfl⟩;rw[if_pos h,ht,if_pos hc]
 ·rw[if_neg h,if_neg];rintro ⟨h0,h1,h2⟩;have ht:=aL6 h2;apply h;rw[ht]at h1 h0;refine ⟨aPl ?_ h0,h1⟩;rw[<-ht];exact aB6 p
theorem aS5 {l:List UInt8} (h:l.all isD=true) (hl:l.length<=2):valS l=numN l/\numN l<=99:=by
 have h1:=a4k h;have h2:10 ^ l.length<=10 ^ 2:=Nat.pow_le_pow_right (by decide) hl;rw[aPk];omega
theorem aZe {d b:List UInt8} {neg:Bool} {p:Int} (hp:p<=99) (k:Int) (hk:k=p-(b.length:Int)):
 (Bad (valS (d++b)) k->decF d b neg (some p)=none)/\(¬Bad (valS (d++b)) k->decF d b neg (some p)=some (valS (d++b),k,neg)):=by
 have hb:=aZa (d++b) k b.length p hp hk;unfold decF;simp only;rw[<-hk];constructor
 ·intro h;rw[if_neg (hb.1 h)]
 ·intro h;have h2:=Decidable.of_not_not (fun q=>h (hb.2 q));rw[if_pos h2,a4n _ _ h]
