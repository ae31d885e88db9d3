/-
Parts of a proof.
-/
import Derived.Lib.Strings
import Derived.Lib.AtoiErrMem
import Derived.Test.YtfenoaeoedobmaaGreatDoorBk02
import Derived.Test.YtfenoaeoedobmaaGreatDoorBk04
set_option linter.unusedVariables false
set_option linter.unusedSimpArgs false
set_option maxHeartbeats 1000000
namespace Go.Proofs.YtfenoaeoedobmaaGreatDoor
open Go Go.RowKit
def ownL (ns:List Nd) (i k:Nat):List Nat:=
 (List.range i).flatMap fun j=>((ns[j]!).kids.filter fun x=>decide (x=(k:Int))).map fun _=>j
theorem aKt (ns:List Nd) (k:Nat):aIy ns k=ownL ns k k:=rfl
theorem aGt (ns:List Nd) (i k:Nat):ownL ns (i+1) k=ownL ns i k++((ns[i]!).kids.filter fun x=>decide (x=(k:Int))).map fun _=>i:=by
 unfold ownL;rw[List.range_succ,List.flatMap_append];simp
theorem a4h {ns:List Nd} {i k p:Nat} (h:p∈ownL ns i k):p<i:=by
 unfold ownL at h;obtain ⟨j,hj,hp⟩:=List.mem_flatMap.1 h;obtain ⟨_,_,rfl⟩:=List.mem_map.1 hp;exact List.mem_range.1 hj
theorem aNf (ns:List Nd) (k:Nat):∀(m i:Nat),∃r,ownL ns (i+m) k=ownL ns i k++r
 |0,i=>⟨[],by simp⟩
 |m+1,i=>by
  obtain ⟨r,hr⟩:=aNf ns k m i;refine ⟨r++((ns[i+m]!).kids.filter fun x=>decide (x=(k:Int))).map fun _=>i+m,?_⟩;rw[<-Nat.add_assoc,aGt,hr,List.append_assoc]
theorem aDp {ns:List Nd} {kind:Int}:∀{l:List Int} {last:Int} {had:List ByteArray},kidsR ns kind l last had=true->
 (∀x∈l,last<x/\x<(ns.length:Int))/\l.Pairwise (· <·)
 |[],_,_,_=>⟨(fun _ h=>nomatch h),List.Pairwise.nil⟩
 |k::r,last,had,h=>by
  unfold kidsR at h
  split at h
  ·cases h
  ·rename_i h1
   split at h
   ·cases h
   ·obtain ⟨h3,h4⟩:=aDp h;have h5:last<k/\k<(ns.length:Int):=by omega
    refine ⟨fun x hx=> ?_,List.Pairwise.cons (fun x hx=>(h3 x hx).1) h4⟩;rcases List.mem_cons.1 hx with rfl|hx
    ·exact h5
    ·have:=h3 x hx;omega
theorem a3h (d:List Nat) (a b v:Nat) (h:a≠b):(d.set a v)[b]! =d[b]! :=by
 simp[List.getElem!_eq_getElem?_getD,List.getElem?_set,h]
theorem aY6 (d:List Nat) (a v:Nat) (h:a<d.length):(d.set a v)[a]! =v:=by
 simp[List.getElem!_eq_getElem?_getD,List.getElem?_set,h]
def aI2 (v:Nat) (l:List Int) (d:List Nat):List Nat:=l.foldl (fun d x=>d.set x.toNat v) d
theorem aKu (v:Nat):∀(l:List Int) (d:List Nat),(aI2 v l d).length=d.length
 |[],d=>rfl
 |x::r,d=>by
  show (aI2 v r (d.set x.toNat v)).length=_
  rw[aKu v r,List.length_set]
theorem aHm (v:Nat) (k:Nat):∀(l:List Int) (d:List Nat),(∀x∈l,x.toNat≠k)->(aI2 v l d)[k]! =d[k]!
 |[],d,_=>rfl
 |x::r,d,h=>by
  show (aI2 v r (d.set x.toNat v))[k]! =_
  rw[aHm v k r _ fun y hy=>h y (List.mem_cons_of_mem _ hy),a3h _ _ _ _ (h x (List.mem_cons_self ..))]
theorem aNg (v:Nat) (k:Nat):∀(l:List Int) (d:List Nat),k<d.length->(∃x∈l,x.toNat=k)->(aI2 v l d)[k]! =v
 |[],d,_,⟨x,hx,_⟩=>nomatch hx
 |x::r,d,hk,h=>by
  show (aI2 v r (d.set x.toNat v))[k]! =_
  by_cases hr:∃y∈r,y.toNat=k
  ·exact aNg v k r _ (by rw[List.length_set];exact hk) hr
  ·rw[aHm v k r _ fun y hy he=>hr ⟨y,hy,he⟩];obtain ⟨y,hy,he⟩:=h;rcases List.mem_cons.1 hy with rfl|hy
   ·rw[he];exact aY6 _ _ _ hk
   ·exact absurd ⟨y,hy,he⟩ hr
theorem aQ7 {ns:List Nd} {kind:Int} {deep:Nat}:∀(l:List Int) (last:Int) (had:List ByteArray) (d:List Nat),0<=last->
 ((kidsR ns kind l last had=true/\∀x∈l,d[x.toNat]! =0)->kidsP ns kind deep l last had d=some (aI2 (deep+1) l d))/\
 (¬(kidsR ns kind l last had=true/\∀x∈l,d[x.toNat]! =0)->kidsP ns kind deep l last had d=none)
 |[],last,had,d,_=>⟨fun _=>rfl,fun h=>absurd ⟨rfl,fun _ hx=>nomatch hx⟩ h⟩
 |k::r,last,had,d,h0=>by
  by_cases h1:k<=last\/(ns.length:Int)<=k
  ·have e1:kidsR ns kind (k::r) last had=false:=by unfold kidsR;rw[if_pos h1]
   have e2:kidsP ns kind deep (k::r) last had d=none:=by
    unfold kidsP;rw[if_pos (by rcases h1 with h|h;exact .inl h;exact .inr (.inl h))]
   exact ⟨fun h=>absurd h.1 (by rw[e1];simp),fun _=>e2⟩
  ·by_cases h2:d[k.toNat]! ≠0
   ·have e2:kidsP ns kind deep (k::r) last had d=none:=by
     unfold kidsP;rw[if_pos (.inr (.inr h2))]
    exact ⟨fun h=>absurd (h.2 k (List.mem_cons_self ..)) h2,fun _=>e2⟩
   ·have h3:¬(k<=last\/(ns.length:Int)<=k\/d[k.toNat]! ≠0):=fun h=>by
     rcases h with h|h|h
     ·exact h1 (.inl h)
     ·exact h1 (.inr h)
     ·exact h2 h
    by_cases h4:keyOk kind (ns[k.toNat]!).key had=false
    ·have e1:kidsR ns kind (k::r) last had=false:=by unfold kidsR;rw[if_neg h1,if_pos h4]
     have e2:kidsP ns kind deep (k::r) last had d=none:=by unfold kidsP;rw[if_neg h3,if_pos h4]
     exact ⟨fun h=>absurd h.1 (by rw[e1];simp),fun _=>e2⟩
    ·have e1:kidsR ns kind (k::r) last had=kidsR ns kind r k ((ns[k.toNat]!).key::had):=by rw[kidsR,if_neg h1,if_neg h4]
     have e2:kidsP ns kind deep (k::r) last had d=kidsP ns kind deep r k ((ns[k.toNat]!).key::had) (d.set k.toNat (deep+1)):=by rw[kidsP,if_neg h3,if_neg h4]
     have hk0:0<=k:=by omega
     obtain ⟨i1,i2⟩:=aQ7 (ns:=ns) (kind:=kind) (deep:=deep) r k ((ns[k.toNat]!).key::had) (d.set k.toNat (deep+1)) hk0;have he:kidsR ns kind r k ((ns[k.toNat]!).key::had)=true->∀x∈r,(d.set k.toNat (deep+1))[x.toNat]! =d[x.toNat]! :=fun h x hx=>by
      have:=(aDp h).1 x hx;exact a3h _ _ _ _ (by omega)
     rw[e1,e2];refine ⟨fun h=> ?_,fun h=>i2 fun hh=>h ⟨hh.1,fun x hx=> ?_⟩⟩
     ·rw[i1 ⟨h.1,fun x hx=>by rw[he h.1 x hx];exact h.2 x (List.mem_cons_of_mem _ hx)⟩];rfl
     ·rcases List.mem_cons.1 hx with rfl|hx
      ·exact Decidable.not_not.1 h2
      ·rw[<-he hh.1 x hx];exact hh.2 x hx
def dep (ns:List Nd) (k:Nat):Nat:=
 if k=0 then 1
 else
  match aIy ns k with
  |[p]=>if h:p<k then dep ns p+1 else 0
  |_=>0
termination_by k
decreasing_by exact h
theorem aY7 (ns:List Nd):dep ns 0=1:=by rw[dep,if_pos rfl]
theorem aUl {ns:List Nd} {k p:Nat} (hk:1<=k) (h:aIy ns k=[p]):dep ns k=dep ns p+1:=by
 have hp:p<k:=a4h (i:=k) (k:=k) (ns:=ns) (by rw[<-aKt,h];exact List.mem_cons_self ..);rw[dep,if_neg (by omega),h];simp only;rw[dif_pos hp]
structure Good (ns:List Nd):Prop where
 node:∀j,j<ns.length->nodeR ns j (ns[j]!)=true
 one:∀j,1<=j->j<ns.length->∃p,aIy ns j=[p]
 deep:∀j,j<ns.length->dep ns j<=16
structure TInv (ns:List Nd) (i:Nat) (d:List Nat):Prop where
 len:d.length=ns.length
 zero:d[0]! =1
 had:∀k p,1<=k->k<ns.length->ownL ns i k=[p]->d[k]! =dep ns p+1
 nil:∀k,1<=k->k<ns.length->ownL ns i k=[]->d[k]! =0
 few:∀k,1<=k->k<ns.length->ownL ns i k=[]\/∃p,ownL ns i k=[p]
 node:∀j,j<i->nodeR ns j (ns[j]!)=true
 one:∀j,1<=j->j<i->∃p,aIy ns j=[p]
 deep:∀j,j<i->dep ns j<=16
theorem aHn {k:Int}:∀{l:List Int},l.Pairwise (· <·)->k∈l->l.filter (fun x=>decide (x=k))=[k]
 |[],_,h=>nomatch h
 |x::r,hp,h=>by
  obtain ⟨h1,h2⟩:=List.pairwise_cons.1 hp;by_cases e:x=k
  ·subst e;rw[List.filter_cons,if_pos (by simp)];rw[List.filter_eq_nil_iff.2 fun y hy=>by have:=h1 y hy;simp;omega]
  ·rw[List.filter_cons,if_neg (by simp[e])];rcases List.mem_cons.1 h with rfl|h
   ·exact absurd rfl e
   ·exact aHn h2 h
theorem aS0 {k:Int} {l:List Int} (h:¬k∈l):l.filter (fun x=>decide (x=k))=[]:=
 List.filter_eq_nil_iff.2 fun y hy=>by
  simp;rintro rfl;exact h hy
theorem TInv.first (ns:List Nd) (h:ns≠[]):TInv ns 0 (1::List.replicate (ns.length-1) 0):=by
 have hl:0<ns.length:=List.length_pos_iff.2 h;refine ⟨by simp;omega,rfl,fun k p h1 h2 e=>by simp[ownL]at e,fun k h1 h2 _=> ?_,fun k _ _=> .inl (by simp[ownL]),fun j hj=>absurd hj (Nat.not_lt_zero _),fun j _ hj=>absurd hj (Nat.not_lt_zero _),fun j hj=>absurd hj (Nat.not_lt_zero _)⟩;obtain ⟨m,rfl⟩:∃m,k=m+1:=⟨k-1,by omega⟩;rw[List.getElem!_eq_getElem?_getD,List.getElem?_cons_succ,List.getElem?_replicate]
 split<;>rfl
theorem TInv.next {ns:List Nd} {i:Nat} {d d':List Nat} (h:TInv ns i d) (hi:i<ns.length) (hn:nodeR ns i (ns[i]!)=true) (h1:1<=i->∃p,aIy ns i=[p]) (h2:dep ns i<=16) (hd:d[i]! =dep ns i)
 (hlen:d'.length=d.length) (hk:∀x∈(ns[i]!).kids,(i:Int)<x/\d[x.toNat]! =0) (hp:(ns[i]!).kids.Pairwise (· <·))
 (hin:∀k:Nat,k<ns.length->(k:Int)∈(ns[i]!).kids->d'[k]! =dep ns i+1) (hout:∀k:Nat,¬(k:Int)∈(ns[i]!).kids->d'[k]! =d[k]!):TInv ns (i+1) d':=by
 have hE:∀k:Nat,1<=k->k<ns.length->(k:Int)∈(ns[i]!).kids->ownL ns (i+1) k=[i]:=fun k hk1 hk2 hm=>by
  have h0:=(hk _ hm).2;rw[Int.toNat_natCast]at h0;have he:ownL ns i k=[]:=by
   rcases h.few k hk1 hk2 with e|⟨p,e⟩
   ·exact e
   ·have:=h.had k p hk1 hk2 e;omega
  rw[aGt,he,aHn hp hm];rfl
 have hN:∀k:Nat,¬(k:Int)∈(ns[i]!).kids->ownL ns (i+1) k=ownL ns i k:=fun k hm=>by
  rw[aGt,aS0 hm];simp
 have hz:¬((0:Nat):Int)∈(ns[i]!).kids:=fun hm=>by
  have:=(hk _ hm).1;omega
 refine ⟨hlen.trans h.len,(hout 0 hz).trans h.zero,fun k p hk1 hk2 e=> ?_,fun k hk1 hk2 e=> ?_,fun k hk1 hk2=> ?_,fun j hj=> ?_,fun j hj1 hj=> ?_,fun j hj=> ?_⟩
 ·by_cases hm:(k:Int)∈(ns[i]!).kids
  ·rw[hE k hk1 hk2 hm]at e;obtain rfl:i=p:=by simpa using e
   exact hin k hk2 hm
  ·rw[hN k hm]at e;rw[hout k hm];exact h.had k p hk1 hk2 e
 ·by_cases hm:(k:Int)∈(ns[i]!).kids
  ·rw[hE k hk1 hk2 hm]at e;cases e
  ·rw[hN k hm]at e;rw[hout k hm];exact h.nil k hk1 hk2 e
 ·by_cases hm:(k:Int)∈(ns[i]!).kids
  ·exact .inr ⟨i,hE k hk1 hk2 hm⟩
  ·rw[hN k hm];exact h.few k hk1 hk2
 ·rcases Nat.lt_succ_iff_lt_or_eq.1 hj with g|rfl
  ·exact h.node j g
  ·exact hn
 ·rcases Nat.lt_succ_iff_lt_or_eq.1 hj with g|rfl
  ·exact h.one j hj1 g
  ·exact h1 hj1
 ·rcases Nat.lt_succ_iff_lt_or_eq.1 hj with g|rfl
  ·exact h.deep j g
  ·exact h2
theorem aI3 {n:Nd} (h:aCf n=true):n.kids=[]:=by
 unfold aCf at h;rw[Bool.and_eq_true]at h;exact of_decide_eq_true h.1
theorem aS1 {ns:List Nd} {i:Nat} {d:List Nat} (h:TInv ns i d) (hi:i<ns.length):
 (nodeP ns i (ns[i]!) d=none->¬Good ns)/\∀d',nodeP ns i (ns[i]!) d=some d'->TInv ns (i+1) d':=by
 have hT:d[i]! =0\/16<d[i]! ->¬Good ns:=fun ht hg=>by
  rcases Nat.eq_zero_or_pos i with h0|h0
  ·subst h0;have:=h.zero;omega
  ·obtain ⟨p,hp⟩:=hg.one i h0 hi;have e:=h.had i p h0 hi hp;have hd:=hg.deep i hi;rw[aUl h0 hp]at hd;omega
 by_cases ht:d[i]! =0\/16<d[i]!
 ·have e:nodeP ns i (ns[i]!) d=none:=by unfold nodeP;rw[if_pos ht]
  exact ⟨fun _=>hT ht,fun d' hd=>by rw[e]at hd;cases hd⟩
 ·have hdep:d[i]! =dep ns i:=by
   rcases Nat.eq_zero_or_pos i with h0|h0
   ·subst h0;rw[aY7];exact h.zero
   ·rcases h.few i h0 hi with e|⟨p,e⟩
    ·have:=h.nil i h0 hi e;omega
    ·rw[h.had i p h0 hi e,aUl h0 e]
  have hone:1<=i->∃p,aIy ns i=[p]:=fun h0=>by
   rcases h.few i h0 hi with e|⟨p,e⟩
   ·have:=h.nil i h0 hi e;omega
   ·exact ⟨p,e⟩
  have h16:dep ns i<=16:=by omega
  by_cases hk:(ns[i]!).kind=1
  ·by_cases hs:aCf (ns[i]!)=true
   ·have e:nodeP ns i (ns[i]!) d=some d:=by unfold nodeP;rw[if_neg ht,if_pos hk,if_pos hs]
    have hkd:=aI3 hs;refine ⟨(fun hh=>by rw[e]at hh;cases hh),fun d' hd=> ?_⟩;rw[e]at hd;obtain rfl:=a7h hd;refine h.next hi ?_ hone h16 hdep rfl (fun x hx=>by rw[hkd]at hx;cases hx) (by rw[hkd];exact List.Pairwise.nil) (fun k _ hm=>by rw[hkd]at hm;cases hm) (fun _ _=>rfl);unfold nodeR;rw[if_neg (by omega),if_neg (fun hh=>hh.2 hs),if_neg (by omega)]
   ·have e:nodeP ns i (ns[i]!) d=none:=by unfold nodeP;rw[if_neg ht,if_pos hk,if_neg hs]
    refine ⟨fun _ hg=> ?_,fun d' hd=>by rw[e]at hd;cases hd⟩;have hn:=hg.node i hi;unfold nodeR at hn;rw[if_neg (by omega),if_pos ⟨hk,hs⟩]at hn;cases hn
  ·by_cases hb:((ns[i]!).kind≠2/\(ns[i]!).kind≠3)\/(ns[i]!).kids=[]\/(ns[i]!).text≠⟨#[]⟩\/(ns[i]!).quoted=true
   ·have e:nodeP ns i (ns[i]!) d=none:=by unfold nodeP;rw[if_neg ht,if_neg hk,if_pos hb]
    refine ⟨fun _ hg=> ?_,fun d' hd=>by rw[e]at hd;cases hd⟩;have hn:=hg.node i hi;unfold nodeR at hn;by_cases hr:(ns[i]!).kind<1\/3<(ns[i]!).kind
    ·rw[if_pos hr]at hn;cases hn
    ·rw[if_neg hr,if_neg (fun hh=>hk hh.1),if_pos ⟨by omega,by
      rcases hb with hb|hb|hb|hb
      ·omega
      ·exact .inl hb
      ·exact .inr (.inl hb)
      ·exact .inr (.inr (.inl hb))⟩]at hn
     cases hn
   ·have e:nodeP ns i (ns[i]!) d=kidsP ns (ns[i]!).kind d[i]! (ns[i]!).kids (i:Int) [] d:=by unfold nodeP;rw[if_neg ht,if_neg hk,if_neg hb]
    obtain ⟨i1,i2⟩:=aQ7 (ns:=ns) (kind:=(ns[i]!).kind) (deep:=d[i]!) (ns[i]!).kids (i:Int) [] d (Int.natCast_nonneg _);rw[e];have hkd:(ns[i]!).kind=2\/(ns[i]!).kind=3:=by
     rcases Decidable.em ((ns[i]!).kind=2) with g|g
     ·exact .inl g
     ·rcases Decidable.em ((ns[i]!).kind=3) with g2|g2
      ·exact .inr g2
      ·exact absurd (.inl ⟨g,g2⟩) hb
    have hnR:nodeR ns i (ns[i]!)=kidsR ns (ns[i]!).kind (ns[i]!).kids (i:Int) []:=by
     unfold nodeR;rw[if_neg (by omega),if_neg (fun hh=>hk hh.1)];cases hq:kidsR ns (ns[i]!).kind (ns[i]!).kids (i:Int) [] with
     |true=>rw[if_neg];rintro ⟨_,g|g|g|g⟩<;>first|exact g rfl|exact hb (.inr (.inl g))|exact hb (.inr (.inr (.inl g)))|exact hb (.inr (.inr (.inr g)))
     |false=>rw[if_pos ⟨by omega,.inr (.inr (.inr (by simp)))⟩]
    by_cases hc:kidsR ns (ns[i]!).kind (ns[i]!).kids (i:Int) []=true/\∀x∈(ns[i]!).kids,d[x.toNat]! =0
    ·rw[i1 hc];refine ⟨(fun hh=>by cases hh),fun d' hd=> ?_⟩;obtain rfl:=a7h hd;obtain ⟨s1,s2⟩:=aDp hc.1;refine h.next hi (hnR.trans hc.1) hone h16 hdep (aKu _ _ _) (fun x hx=>⟨(s1 x hx).1,hc.2 x hx⟩) s2 (fun k hk2 hm=> ?_) (fun k hm=> ?_)
     ·rw[<-hdep];exact aNg _ k _ _ (by rw[h.len];exact hk2) ⟨_,hm,Int.toNat_natCast _⟩
     ·refine aHm _ k _ _ fun x hx he=>hm ?_;have:=(s1 x hx).1;have e2:(k:Int)=x:=by omega
      rw[e2];exact hx
    ·rw[i2 hc];refine ⟨fun _ hg=>hc ⟨hnR ▸ hg.node i hi,fun x hx=> ?_⟩,fun d' hd=>by cases hd⟩;have hkR:kidsR ns (ns[i]!).kind (ns[i]!).kids (i:Int) []=true:=hnR ▸ hg.node i hi;obtain ⟨s1,s2⟩:=aDp hkR;have hx1:=s1 x hx;obtain ⟨k,rfl⟩:∃k:Nat,x=(k:Int):=⟨x.toNat,by omega⟩;rw[Int.toNat_natCast];rcases h.few k (by omega) (by omega) with e0|⟨p,e0⟩
     ·exact h.nil k (by omega) (by omega) e0
     ·exfalso
      obtain ⟨q,hq⟩:=hg.one k (by omega) (by omega);obtain ⟨r,hr⟩:=aNf ns k (k-(i+1)) (i+1);rw[show i+1+(k-(i+1))=k from by omega,<-aKt,hq,aGt,e0,aHn s2 hx]at hr;simp at hr
theorem aKv {ns:List Nd}:∀(r:List Nd) (i:Nat) (d:List Nat),ns.drop i=r->i<=ns.length->TInv ns i d->(restP ns r i d=true↔Good ns)
 |[],i,d,hr,hi,h=>by
  have hl:i=ns.length:=by
   have:=congrArg List.length hr;simp at this;omega
  subst hl;exact ⟨fun _=>⟨h.node,h.one,h.deep⟩,fun _=>rfl⟩
 |n::r,i,d,hr,hi,h=>by
  have hlt:i<ns.length:=by
   have:=congrArg List.length hr;simp at this;omega
  have hn:ns[i]! =n:=by
   have e:(ns.drop i)[0]? =some n:=by rw[hr];rfl
   rw[List.getElem?_drop]at e;rw[List.getElem!_eq_getElem?_getD]
   simpa using congrArg (fun o=>o.getD default) e
  have hd:ns.drop (i+1)=r:=by
   rw[<-List.drop_drop,hr];rfl
  obtain ⟨h1,h2⟩:=aS1 h hlt;rw[hn]at h1 h2;unfold restP;cases hp:nodeP ns i n d with
  |none=>exact ⟨fun hh=>by simp at hh,fun hg=>absurd hg (h1 hp)⟩
  |some d'=>exact aKv r (i+1) d' hd hlt (h2 d' hp)
theorem aEe (ns:List Nd):treeP ns=true↔(ns≠[]/\ns.length<=4096/\(ns[0]!).key=⟨#[]⟩)/\Good ns:=by
 unfold treeP;rw[Bool.and_eq_true,decide_eq_true_eq];refine and_congr_right fun h=> ?_;exact aKv ns 0 _ (by simp) (Nat.zero_le _) (TInv.first ns h.1)
def isD (c:UInt8):Bool:=decide (48<=c.toNat)&&decide (c.toNat<=57)
theorem aHo (c:UInt8):isD c=true↔48<=c.toNat/\c.toNat<=57:=by simp[isD]
def allD (l:List UInt8):Bool:= !l.isEmpty&&l.all isD
theorem aAf (s:ByteArray):s.data.toList.length=s.size:=by rw[Array.length_toList];rfl
theorem aEv (s:ByteArray) (k:Nat) (h:k<s.size):s[k]=s.data.toList[k]'(by rw[aAf];exact h):=rfl
theorem aNh (s:ByteArray) (k:Nat) (h:k<s.size):s.data.toList.take (k+1)=s.data.toList.take k++[s[k]]:=by
 rw[List.take_succ_eq_append_getElem (by rw[aAf];exact h),aEv s k h]
def valS (l:List UInt8):Nat:=l.foldl (fun m c=>min (m*10+(c.toNat-48)) 1000000000000000000) 0
theorem aNi (l:List UInt8) (c:UInt8):valS (l++[c])=min (valS l*10+(c.toNat-48)) 1000000000000000000:=by simp[valS]
theorem a4i (l:List UInt8):valS l<=1000000000000000000:=by
 rcases List.eq_nil_or_concat l with rfl|⟨r,c,rfl⟩
 ·exact Nat.zero_le _
 ·rw[List.concat_eq_append,aNi];exact Nat.min_le_right _ _
theorem aHp {l:List UInt8} (h:l.all isD=true):l.takeWhile isD=l:=by
 have h2:∀x∈l,isD x=true:=by simpa using h
 have:=List.takeWhile_append_of_pos (p:=isD) (l₁:=l) (l₂:=[]) h2
 simpa using this
theorem tw_all {l:List UInt8} {k:Nat} (h:(l.take k).all isD=true) (hk:l.length<=k):l.takeWhile isD=l.take k:=by
 rw[List.take_of_length_le hk]at h |-;exact aHp h
theorem a4j {s:ByteArray} {k:Nat} (h:(s.data.toList.take k).all isD=true) (hk:k<s.size) (hn:¬isD s[k]=true):s.data.toList.takeWhile isD=s.data.toList.take k:=by
 have e:s.data.toList=s.data.toList.take k++s[k]::s.data.toList.drop (k+1):=by
  rw[aEv s k hk,<-List.drop_eq_getElem_cons (by rw[aAf];exact hk),List.take_append_drop]
 have h2:∀x∈s.data.toList.take k,isD x=true:=by simpa using h
 conv=>lhs;rw[e]
 rw[List.takeWhile_append_of_pos h2,List.takeWhile_cons_of_neg hn,List.append_nil]
theorem aEw (w:World) (s:ByteArray) (hmax:s.size<=maxLen) (n m:Nat) (hn:(s.data.toList.takeWhile isD).length=n) (hm:valS (s.data.toList.takeWhile isD)=m):
 Calls Tryz.prog 116 #[.string s] w fun e w'=>e= .returned (.tuple #[.int .i64 n,.int .u64 m])/\w'=w:=by
 have Hn:=hid hn;have Hm:=hid hm;clear hn hm;have hle:s.size<=9223372036854775807:=by unfold maxLen at hmax;omega
 go_enter Tryz.func116,Tryz.ntmps116;go_wp2
 go_loopw [4,5] (fun i v wr=>∃k v':Nat,i= .int .i64 k/\v= .int .u64 v'/\w=wr/\Hid (k<=s.size/\(s.data.toList.take k).all isD=true/\v'=valS (s.data.toList.take k))) (fun i _ _=>s.size-(intOf i).toNat)
 case atStart=>exact ⟨0,0,rfl,rfl,rfl,Nat.zero_le _,rfl,rfl⟩
 case round=>
  obtain ⟨k,v',rfl,rfl,rfl,hk⟩:=hrel;by_cases hlt:k<s.size
  ·by_cases hd:isD s[k]=true
   ·have hd2:=(aHo _).1 hd;have n1:(48:Int)<=(s[k].toNat:Int):=by omega
    have n2:(s[k].toNat:Int)<=57:=by omega
    have hv:=a4i (s.data.toList.take k);rw[<-hk.out.2.2]at hv;obtain ⟨d,hdd⟩:∃d:Nat,d=s[k].toNat-48:=⟨_,rfl⟩;obtain ⟨t,ht⟩:∃t:Nat,t=v'*10:=⟨_,rfl⟩;obtain ⟨u,hu⟩:∃u:Nat,u=t+d:=⟨_,rfl⟩;have hsub:IntKind.u8.wrap ((s[k].toNat:Int)-48)=(d:Int):=by
     rw[IntKind.wrap_u8];omega
    have hmul:IntKind.u64.wrap ((v':Int)*10)=(t:Int):=by rw[IntKind.wrap_u64];omega
    have hadd:IntKind.u64.wrap ((t:Int)+IntKind.u64.wrap (d:Int))=(u:Int):=by rw[IntKind.wrap_u64,IntKind.wrap_u64];omega
    obtain ⟨v2,hv2⟩:∃v2:Nat,v2=min u 1000000000000000000:=⟨_,rfl⟩;have hmin:(if (1000000000000000000:Int)<(u:Int) then (1000000000000000000:Int) else (u:Int))=(v2:Int):=by split<;>omega
    have Hnew:=hid (show v2=valS (s.data.toList.take (k+1)) by rw[aNh s k hlt,aNi,<-hk.out.2.2,hv2,hu,ht,hdd]);have Hd:=hid hd;clear hd hd2 hv hdd ht hu hv2;go_wp2;go_roundw
    case rel=>
     refine ⟨k+1,v2,rfl,by first|rfl|(rw[<-hmin];done)|(rw[<-hmin];congr 1;split<;>omega),(by first|rfl|trivial),by omega,?_,Hnew.out⟩;rw[aNh s k hlt,List.all_append,hk.out.2.1];simp[Hd.out]
    case measure=>simp[intOf];omega
   ·have htw:=a4j hk.out.2.1 hlt hd;have hkn:k=n:=by rw[<-Hn.out,htw,List.length_take,aAf];omega
    have hvm:v'=m:=by rw[<-Hm.out,htw];exact hk.out.2.2
    subst hkn;subst hvm;by_cases n1:(48:Int)<=(s[k].toNat:Int)
    ·have n2:¬(s[k].toNat:Int)<=57:=by
      rw[aHo]at hd;omega
     clear hd htw;go_wp2
     go_ret2
     exact ⟨rfl,rfl⟩
    ·clear hd htw;go_wp2
     go_ret2
     exact ⟨rfl,rfl⟩
  ·have htw:=tw_all hk.out.2.1 (by rw[aAf];have:=hk.out.1;omega);have hkn:k=n:=by rw[<-Hn.out,htw,List.length_take,aAf];have:=hk.out.1;omega
   have hvm:v'=m:=by rw[<-Hm.out,htw];exact hk.out.2.2
   subst hkn;subst hvm;clear htw;go_wp2
   go_ret2
   exact ⟨rfl,rfl⟩
def aA4:List UInt8->List UInt8×Bool
 |[]=>([],false)
 |c::r=>if c=45 then (r,true) else (c::r,false)
theorem aFw (s:ByteArray) (a b:Nat):(s.extract a b).data.toList=(s.data.toList.drop a).take (b-a):=by
 rw[ByteArray.data_extract,Array.toList_extract]
theorem aCg (s:ByteArray) (a:Nat):(s.extract a s.size).data.toList=s.data.toList.drop a:=by
 rw[aFw,List.take_of_length_le (by rw[List.length_drop,aAf];exact a7c _)]
theorem aD0 (s:ByteArray) (a b:Nat):(s.extract a b).size<=s.size:=by
 rw[<-aAf,aFw,<-aAf,List.length_take,List.length_drop];omega
theorem aUm (s:ByteArray) (h:0<s.size):s.data.toList=s[0]::s.data.toList.drop 1:=by
 have:=List.drop_eq_getElem_cons (l:=s.data.toList) (i:=0) (by rw[aAf];exact h);rw[List.drop_zero]at this;rw[aEv s 0 h];exact this
def aB2 (l:List UInt8):Bool:=allD l&&(decide (l.head? ≠some 48)||decide (l.length=1))
def numN (l:List UInt8):Nat:=l.foldl (fun n c=>10*n+(c.toNat-48)) 0
def cutL (l:List UInt8) (c:UInt8):List UInt8×List UInt8×Bool:=
 if l.all (· != c)=true then (l,[],false) else (l.takeWhile (· != c),(l.dropWhile (· != c)).drop 1,true)
def intR (l:List UInt8):Option Int:=
 if aB2 (aA4 l).1=false then none
 else if (aA4 l).2=true then
  if (aA4 l).1=[48] then none
  else if numN (aA4 l).1<=9223372036854775808/\0<numN (aA4 l).1 then some (-(numN (aA4 l).1:Int)) else none
 else if numN (aA4 l).1<=9223372036854775807 then some (numN (aA4 l).1:Int) else none
theorem aFk {l:List UInt8} (h:aB2 l=true):l.all isD=true:=by
 unfold aB2 allD at h;simp only[Bool.and_eq_true]at h;exact h.1.2
def powR (powered:Bool) (tail:List UInt8):Option Int:=
 if powered=true then
  if allD (aA4 tail).1=true/\(aA4 tail).1.length<=2 then some (if (aA4 tail).2=true then -(numN (aA4 tail).1:Int) else (numN (aA4 tail).1:Int)) else none
 else some 0
def decR (l:List UInt8):Option (Nat×Int×Bool):=
 let m:=aA4 l
 let c:=cutL m.1 101
 let d:=cutL c.1 46
 if d.2.2=true/\aB2 d.1=true/\allD d.2.1=true then
  match powR c.2.2 c.2.1 with
  |some k=>if numN (d.1++d.2.1)<=999999999999999/\d.2.1.length<=200/\¬Bad (numN (d.1++d.2.1)) (k-(d.2.1.length:Int)) then some (numN (d.1++d.2.1),k-(d.2.1.length:Int),m.2) else none
  |none=>none
 else none
theorem aPf:∀(l:List UInt8) (acc:Nat),l.all isD=true->l.foldl (fun n c=>10*n+(c.toNat-48)) acc<(acc+1)*10 ^ l.length:=by
 intro l
 induction l with
 |nil=>intro acc _;simp
 |cons c r ih=>
  intro acc h;rw[List.all_cons]at h;simp only[Bool.and_eq_true]at h;have h2:=(aHo c).1 h.1;have h1:=ih (10*acc+(c.toNat-48)) h.2;rw[List.foldl_cons,a7f,Nat.pow_succ];refine Nat.lt_of_lt_of_le h1 ?_;have h3:10*acc+(c.toNat-48)+1<=(acc+1)*10:=by omega
  generalize 10*acc+(c.toNat-48)+1=z at*;have:=Nat.mul_le_mul_right (10 ^ r.length) h3;rw[Nat.mul_assoc,Nat.mul_comm 10 (10 ^ r.length)]at this;exact this
theorem a4k {l:List UInt8} (h:l.all isD=true):numN l<10 ^ l.length:=by
 have:=aPf l 0 h
 simpa[numN] using this
theorem aGu {l:List UInt8} (h:allD l=true):l.all isD=true:=by
 unfold allD at h;simp only[Bool.and_eq_true]at h;exact h.2
def negW (x:Nat):Nat:=Op.negFloat .f64 x
theorem aUn (x:Nat):∀w,(Op.unary .neg (.float .f64 x)).run Tryz.prog w= .ok (.float .f64 (negW x)) w:=fun _=>rfl
theorem aI4:∀(l:List UInt8) (acc:Nat),acc<=l.foldl (fun n c=>10*n+(c.toNat-48)) acc:=by
 intro l
 induction l with
 |nil=>intro acc;exact a7c _
 |cons c r ih=>intro acc;exact a7g (by omega) (ih (10*acc+(c.toNat-48)))
theorem aIb (M:Nat) (hM:M<=18446744073709551619):∀(l:List UInt8) (acc:Nat),acc<=M->l.all isD=true->
 Lib.parseUintM M acc l=if l.foldl (fun n c=>10*n+(c.toNat-48)) acc<=M then .ok (l.foldl (fun n c=>10*n+(c.toNat-48)) acc) else .range:=by
 intro l
 induction l with
 |nil=>intro acc h _;simp[Lib.parseUintM,h]
 |cons c r ih=>
  intro acc h hd;rw[List.all_cons]at hd;simp only[Bool.and_eq_true]at hd;have h2:=(aHo c).1 hd.1;have hge:=aI4 r (10*acc+(c.toNat-48));rw[List.foldl_cons,Lib.parseUintM,if_pos h2,Nat.mul_comm acc 10];by_cases h3:1844674407370955162<=acc
  ·rw[if_pos h3,if_neg];intro q;have:=a7g hge q;omega
  ·rw[if_neg h3];by_cases h4:M<10*acc+(c.toNat-48)
   ·rw[if_pos h4,if_neg];intro q;have:=a7g hge q;omega
   ·rw[if_neg h4];exact ih _ (by omega) hd.2
theorem aUo {l:List UInt8} (hd:allD l=true):Lib.parseIntB 64 l=if numN l<=9223372036854775807 then .ok (numN l:Int) else .range:=by
 have hall:=aGu hd;cases l with
 |nil=>cases hd
 |cons c r=>
  have hp:=aIb (2 ^ 64-1) (by decide) (c::r) 0 (by decide) hall;have hc:isD c=true:=by
   rw[List.all_cons]at hall;simp only[Bool.and_eq_true]at hall;exact hall.1
  have hc2:=(aHo c).1 hc;have e1:¬(c.toNat=43\/c.toNat=45):=by omega
  have e2:¬c.toNat=45:=by omega
  unfold Lib.parseIntB;simp only[if_neg e1];unfold Lib.parseUintB;rw[if_neg (by simp),hp];rw[show (c::r).foldl (fun n c=>10*n+(c.toNat-48)) 0=numN (c::r) from rfl];generalize numN (c::r)=n;by_cases h1:n<=2 ^ 64-1
  ·rw[if_pos h1];simp only[e2];by_cases h2:n<=9223372036854775807
   ·rw[if_pos h2,if_neg (by simp;omega)];simp
   ·rw[if_neg h2,if_pos (by simp;omega)]
  ·rw[if_neg h1,if_neg (by omega)]
theorem aUp {l:List UInt8} (hd:allD l=true):Lib.parseIntB 64 (45::l)=if numN l<=9223372036854775808 then .ok (-(numN l:Int)) else .range:=by
 have hall:=aGu hd;cases l with
 |nil=>cases hd
 |cons c r=>
  have hp:=aIb (2 ^ 64-1) (by decide) (c::r) 0 (by decide) hall;have e1:((45:UInt8).toNat=43\/(45:UInt8).toNat=45):= .inr rfl;have e2:(45:UInt8).toNat=45:=rfl;unfold Lib.parseIntB;simp only[if_pos e1];unfold Lib.parseUintB;rw[if_neg (by simp),hp];rw[show (c::r).foldl (fun n c=>10*n+(c.toNat-48)) 0=numN (c::r) from rfl];generalize numN (c::r)=n;by_cases h1:n<=2 ^ 64-1
  ·rw[if_pos h1];simp only[e2];by_cases h2:n<=9223372036854775808
   ·rw[if_pos h2,if_neg (by simp),if_neg (by simp;omega)];simp
   ·rw[if_neg h2,if_neg (by simp),if_pos (by simp;omega)]
  ·rw[if_neg h1,if_neg (by omega)]
def intP (l:List UInt8) (below:Bool):Option Int:=
 if below=true then
  if l=[48] then none
  else if numN l<=9223372036854775808 then some (-(numN l:Int)) else none
 else if numN l<=9223372036854775807 then some (numN l:Int) else none
def valV (kind:Int) (b:Bool) (i:Int) (x:Nat) (s:ByteArray):Value:= .agg #[.int .i64 kind,.bool b,.int .i64 i,.float .f64 x,.string s]
def aFx (l:List UInt8) (below:Bool) (w:World) (e:Ending) (w':World):Prop:=
 ∃(i:Int) (ok:Bool),e= .returned (.tuple #[valV 3 false i 0 ⟨#[]⟩,.bool ok])/\Below w.heap.size w w'/\(ok=true/\intP l below=some i\/ok=false/\intP l below=none)
theorem aB5 {w0 w w':World} {e:TypeId} (h0:Below w0.heap.size w0 w) (h:w'=w\/∃t,w'=Lib.bytesWorld w e t):Below w0.heap.size w0 w':=by
 rcases h with rfl|⟨t,rfl⟩
 ·exact h0
 ·exact h0.trans ((Lib.bytesWorld_below w e t).mono h0.size)
theorem aEx {a:Addr} {b:Nat} {m:Mode}:∀w,(store a (.float .f64 b) m).run Tryz.prog w=stored Tryz.prog w a (.float .f64 b) m:=fun w=>run_store Tryz.prog w a _ m rfl
theorem aCh {w:World} {a:Addr} {v:Value} (h:w.cell? a=some v):a.block<w.heap.size:=by
 rcases Nat.lt_or_ge a.block w.heap.size with h2|h2
 ·exact h2
 ·rw[World.cell?,Array.getElem?_eq_none h2]at h;cases h
def aB3 (w:World):Prop:=∃ev,w.cell? ⟨4,0,none⟩=some ev/\(ev= .nilIface\/∃te pe,ev= .iface te pe)
theorem aNj (w:World) (s:ByteArray) (hmax:s.size<=2097152) (below:Bool) (hd:allD s.data.toList=true) (hv:aB3 w):
 Calls Tryz.prog 117 #[.string s,.bool below] w fun e w'=>aFx s.data.toList below w e w':=by
 obtain ⟨ev,hv1,hv2⟩:=hv;have Hd:=hid hd;have hblt:(⟨4,0,none⟩:Addr).block<w.heap.size:=aCh hv1;have hst:= @aEx;clear hd;cases below with
 |false=>
  have hp:=aUo Hd.out;have hne:(s.toList==[45,48])=false:=by
   rw[Lib.toList_data];refine beq_eq_false_iff_ne.2 ?_;intro q;have:=Hd.out;rw[q]at this;exact absurd this (by decide)
  by_cases hle:numN s.data.toList<=9223372036854775807
  ·rw[if_pos hle]at hp;have hres:∀(i:Int) w',Below w.heap.size w w'->aFx s.data.toList false w (.returned (.tuple #[valV 3 false (numN s.data.toList:Int) 0 ⟨#[]⟩,.bool true])) w':=fun _ w' h=>⟨_,true,rfl,h,.inl ⟨rfl,by unfold intP;rw[if_neg (by decide),if_pos hle]⟩⟩;clear hle;have Hp:=hid (fun w=> Tryz.strconv_ParseInt_10_at64_ok s (by omega) _ hp w);clear hp;go_enter Tryz.func117,Tryz.ntmps117
   go_wp2_with fail
   refine (Hp.out _).mono ?_;rintro e w1 ⟨rfl,hw⟩;have hb:=aB5 ((a7d _ w).alloc (a7c _) _) hw;have hb2:=aB5 (a7d _ _) hw;have hlt:w.heap.size<(w.alloc (Obj.cells #[.int .i64 0,.bool false,.int .i64 0,.float .f64 0,.string ⟨#[]⟩] 91)).heap.size:=by simp
   have f0:=hb2.frozen (p:=⟨w.heap.size,0,none⟩) hlt;have f1:=hb2.frozen (p:=⟨w.heap.size,1,none⟩) hlt;have f2:=hb2.frozen (p:=⟨w.heap.size,2,none⟩) hlt;have f3:=hb2.frozen (p:=⟨w.heap.size,3,none⟩) hlt;have f4:=hb2.frozen (p:=⟨w.heap.size,4,none⟩) hlt;have c0:=hb2.cell (p:=⟨w.heap.size,0,none⟩) hlt;have c1:=hb2.cell (p:=⟨w.heap.size,1,none⟩) hlt;have c2:=hb2.cell (p:=⟨w.heap.size,2,none⟩) hlt;have c3:=hb2.cell (p:=⟨w.heap.size,3,none⟩) hlt
   have c4:=hb2.cell (p:=⟨w.heap.size,4,none⟩) hlt;simp at f0 f1 f2 f3 f4 c0 c1 c2 c3 c4;clear hw hlt hb2;go_wp2;refine bodyPost_ret (v:= .tuple #[valV 3 false (numN s.data.toList:Int) 0 ⟨#[]⟩,.bool true]) (by simp[results,Tryz.results117,go_sem,valV,f0,f1,f2,f3,f4,c0,c1,c2,c3,c4]) rfl ?_;exact hres 0 _ (((((hb.setCell (a7c _) _).setCell (a7c _) _).setCell (a7c _) _).setCell (a7c _) _).setCell (a7c _) _)
  ·rw[if_neg hle]at hp;have hres:∀(i:Int) w',Below w.heap.size w w'->aFx s.data.toList false w (.returned (.tuple #[valV 3 false i 0 ⟨#[]⟩,.bool false])) w':=fun i w' h=>⟨_,false,rfl,h,.inr ⟨rfl,by unfold intP;rw[if_neg (by decide),if_neg hle]⟩⟩;clear hle;have Hp:=hid (fun w (hv1:w.cell? ⟨4,0,none⟩=some ev)=> Tryz.strconv_ParseInt_10_at64_range s (by omega) hp ev w hv1 hv2);clear hp
   go_enter Tryz.func117,Tryz.ntmps117
   go_wp2_with fail
   refine (Hp.out _ ?_).mono ?_
   ·rw[((a7d w.heap.size w).alloc (a7c _) _).cell hblt];exact hv1
   rintro e w1 ⟨N,rfl,hN,hob,hb2⟩;have hb:=((a7d _ w).alloc (a7c _) _).trans (hb2.mono (by simp));have hlt:w.heap.size<(w.alloc (Obj.cells #[.int .i64 0,.bool false,.int .i64 0,.float .f64 0,.string ⟨#[]⟩] 91)).heap.size:=by simp
   have f0:=hb2.frozen (p:=⟨w.heap.size,0,none⟩) hlt;have f1:=hb2.frozen (p:=⟨w.heap.size,1,none⟩) hlt;have f2:=hb2.frozen (p:=⟨w.heap.size,2,none⟩) hlt;have f3:=hb2.frozen (p:=⟨w.heap.size,3,none⟩) hlt;have f4:=hb2.frozen (p:=⟨w.heap.size,4,none⟩) hlt;have c0:=hb2.cell (p:=⟨w.heap.size,0,none⟩) hlt;have c1:=hb2.cell (p:=⟨w.heap.size,1,none⟩) hlt;have c2:=hb2.cell (p:=⟨w.heap.size,2,none⟩) hlt;have c3:=hb2.cell (p:=⟨w.heap.size,3,none⟩) hlt
   have c4:=hb2.cell (p:=⟨w.heap.size,4,none⟩) hlt;simp at f0 f1 f2 f3 f4 c0 c1 c2 c3 c4;clear hN hob hlt hb2;go_wp2;refine bodyPost_ret (v:= .tuple #[valV 3 false (Lib.intSat 64 s.data.toList) 0 ⟨#[]⟩,.bool false]) (by simp[results,Tryz.results117,go_sem,valV,f0,f1,f2,f3,f4,c0,c1,c2,c3,c4]) rfl ?_;exact hres _ _ (((((hb.setCell (a7c _) _).setCell (a7c _) _).setCell (a7c _) _).setCell (a7c _) _).setCell (a7c _) _)
 |true=>
  have hl:((⟨#[45]⟩:ByteArray)++s).data.toList=45::s.data.toList:=ByteArray.toList_data_append;have hsz:((⟨#[45]⟩:ByteArray)++s).size=s.size+1:=by rw[<-aAf,hl,a7f,aAf]
  have hp:=aUp Hd.out;rw[<-hl]at hp;have hcat:(⟨#[45]⟩:ByteArray).size+s.size<=9223372036854775807:=by
   have:(⟨#[45]⟩:ByteArray).size=1:=rfl;omega
  by_cases hz:s.data.toList=[48]
  ·have hne:(((⟨#[45]⟩:ByteArray)++s).toList==[45,48])=true:=by
    rw[Lib.toList_data,hl,hz];rfl
   have hle:numN s.data.toList<=9223372036854775808:=by rw[hz];decide
   rw[if_pos hle]at hp;have hres:∀(i:Int) w',Below w.heap.size w w'->aFx s.data.toList true w (.returned (.tuple #[valV 3 false i 0 ⟨#[]⟩,.bool false])) w':=fun i w' h=>⟨_,false,rfl,h,.inr ⟨rfl,by unfold intP;rw[if_pos rfl,if_pos hz]⟩⟩;clear hle hz hl;have Hp:=hid (fun w=> Tryz.strconv_ParseInt_10_at64_ok (⟨#[45]⟩++s) (by rw[hsz];omega) _ hp w);clear hp;go_enter Tryz.func117,Tryz.ntmps117
   go_wp2_with fail
   refine (Hp.out _).mono ?_;rintro e w1 ⟨rfl,hw⟩;have hb:=aB5 ((a7d _ w).alloc (a7c _) _) hw;have hb2:=aB5 (a7d _ _) hw;have hlt:w.heap.size<(w.alloc (Obj.cells #[.int .i64 0,.bool false,.int .i64 0,.float .f64 0,.string ⟨#[]⟩] 91)).heap.size:=by simp
   have f0:=hb2.frozen (p:=⟨w.heap.size,0,none⟩) hlt;have f1:=hb2.frozen (p:=⟨w.heap.size,1,none⟩) hlt;have f2:=hb2.frozen (p:=⟨w.heap.size,2,none⟩) hlt;have f3:=hb2.frozen (p:=⟨w.heap.size,3,none⟩) hlt;have f4:=hb2.frozen (p:=⟨w.heap.size,4,none⟩) hlt;have c0:=hb2.cell (p:=⟨w.heap.size,0,none⟩) hlt;have c1:=hb2.cell (p:=⟨w.heap.size,1,none⟩) hlt;have c2:=hb2.cell (p:=⟨w.heap.size,2,none⟩) hlt;have c3:=hb2.cell (p:=⟨w.heap.size,3,none⟩) hlt
   have c4:=hb2.cell (p:=⟨w.heap.size,4,none⟩) hlt;simp at f0 f1 f2 f3 f4 c0 c1 c2 c3 c4;clear hw hlt hb2;go_wp2;refine bodyPost_ret (v:= .tuple #[valV 3 false (-(numN s.data.toList:Int)) 0 ⟨#[]⟩,.bool false]) (by simp[results,Tryz.results117,go_sem,valV,f0,f1,f2,f3,f4,c0,c1,c2,c3,c4]) rfl ?_;exact hres _ _ (((((hb.setCell (a7c _) _).setCell (a7c _) _).setCell (a7c _) _).setCell (a7c _) _).setCell (a7c _) _)
  ·have hne:(((⟨#[45]⟩:ByteArray)++s).toList==[45,48])=false:=by
    rw[Lib.toList_data,hl];refine beq_eq_false_iff_ne.2 ?_;intro q;exact hz (List.cons.inj q).2
   by_cases hle:numN s.data.toList<=9223372036854775808
   ·rw[if_pos hle]at hp;have hres:∀(i:Int) w',Below w.heap.size w w'->aFx s.data.toList true w (.returned (.tuple #[valV 3 false (-(numN s.data.toList:Int)) 0 ⟨#[]⟩,.bool true])) w':=fun i w' h=>⟨_,true,rfl,h,.inl ⟨rfl,by unfold intP;rw[if_pos rfl,if_neg hz,if_pos hle]⟩⟩;clear hle hl;have Hp:=hid (fun w=> Tryz.strconv_ParseInt_10_at64_ok (⟨#[45]⟩++s) (by rw[hsz];omega) _ hp w);clear hp;go_enter Tryz.func117,Tryz.ntmps117
    go_wp2_with fail
    refine (Hp.out _).mono ?_;rintro e w1 ⟨rfl,hw⟩;have hb:=aB5 ((a7d _ w).alloc (a7c _) _) hw;have hb2:=aB5 (a7d _ _) hw;have hlt:w.heap.size<(w.alloc (Obj.cells #[.int .i64 0,.bool false,.int .i64 0,.float .f64 0,.string ⟨#[]⟩] 91)).heap.size:=by simp
    have f0:=hb2.frozen (p:=⟨w.heap.size,0,none⟩) hlt;have f1:=hb2.frozen (p:=⟨w.heap.size,1,none⟩) hlt;have f2:=hb2.frozen (p:=⟨w.heap.size,2,none⟩) hlt;have f3:=hb2.frozen (p:=⟨w.heap.size,3,none⟩) hlt;have f4:=hb2.frozen (p:=⟨w.heap.size,4,none⟩) hlt;have c0:=hb2.cell (p:=⟨w.heap.size,0,none⟩) hlt;have c1:=hb2.cell (p:=⟨w.heap.size,1,none⟩) hlt;have c2:=hb2.cell (p:=⟨w.heap.size,2,none⟩) hlt;have c3:=hb2.cell (p:=⟨w.heap.size,3,none⟩) hlt
    have c4:=hb2.cell (p:=⟨w.heap.size,4,none⟩) hlt;simp at f0 f1 f2 f3 f4 c0 c1 c2 c3 c4;clear hw hlt hb2;go_wp2;refine bodyPost_ret (v:= .tuple #[valV 3 false (-(numN s.data.toList:Int)) 0 ⟨#[]⟩,.bool true]) (by simp[results,Tryz.results117,go_sem,valV,f0,f1,f2,f3,f4,c0,c1,c2,c3,c4]) rfl ?_;exact hres 0 _ (((((hb.setCell (a7c _) _).setCell (a7c _) _).setCell (a7c _) _).setCell (a7c _) _).setCell (a7c _) _)
   ·rw[if_neg hle]at hp;have hres:∀(i:Int) w',Below w.heap.size w w'->aFx s.data.toList true w (.returned (.tuple #[valV 3 false i 0 ⟨#[]⟩,.bool false])) w':=fun i w' h=>⟨_,false,rfl,h,.inr ⟨rfl,by unfold intP;rw[if_pos rfl,if_neg hz,if_neg hle]⟩⟩;clear hle hl;have Hp:=hid (fun w (hv1:w.cell? ⟨4,0,none⟩=some ev)=> Tryz.strconv_ParseInt_10_at64_range (⟨#[45]⟩++s) (by rw[hsz];omega) hp ev w hv1 hv2)
    clear hp;go_enter Tryz.func117,Tryz.ntmps117
    go_wp2_with fail
    refine (Hp.out _ ?_).mono ?_
    ·rw[((a7d w.heap.size w).alloc (a7c _) _).cell hblt];exact hv1
    rintro e w1 ⟨N,rfl,hN,hob,hb2⟩;have hb:=((a7d _ w).alloc (a7c _) _).trans (hb2.mono (by simp));have hlt:w.heap.size<(w.alloc (Obj.cells #[.int .i64 0,.bool false,.int .i64 0,.float .f64 0,.string ⟨#[]⟩] 91)).heap.size:=by simp
    have f0:=hb2.frozen (p:=⟨w.heap.size,0,none⟩) hlt;have f1:=hb2.frozen (p:=⟨w.heap.size,1,none⟩) hlt;have f2:=hb2.frozen (p:=⟨w.heap.size,2,none⟩) hlt;have f3:=hb2.frozen (p:=⟨w.heap.size,3,none⟩) hlt;have f4:=hb2.frozen (p:=⟨w.heap.size,4,none⟩) hlt;have c0:=hb2.cell (p:=⟨w.heap.size,0,none⟩) hlt;have c1:=hb2.cell (p:=⟨w.heap.size,1,none⟩) hlt;have c2:=hb2.cell (p:=⟨w.heap.size,2,none⟩) hlt;have c3:=hb2.cell (p:=⟨w.heap.size,3,none⟩) hlt
    have c4:=hb2.cell (p:=⟨w.heap.size,4,none⟩) hlt;simp at f0 f1 f2 f3 f4 c0 c1 c2 c3 c4;clear hN hob hlt hb2;go_wp2;refine bodyPost_ret (v:= .tuple #[valV 3 false (Lib.intSat 64 (⟨#[45]⟩++s).data.toList) 0 ⟨#[]⟩,.bool false]) (by simp[results,Tryz.results117,go_sem,valV,f0,f1,f2,f3,f4,c0,c1,c2,c3,c4]) rfl ?_;exact hres _ _ (((((hb.setCell (a7c _) _).setCell (a7c _) _).setCell (a7c _) _).setCell (a7c _) _).setCell (a7c _) _)
