/-
Parts of a proof, one behind the other (laid dense by a program of mine: pack.py).
-/
import Derived.Test.YtfenoaeoedobmaaGreatDoorChecked
import Derived.Laws.FloatArith
import Derived.ProofKit
import Derived.Test.YtfenoaeoedobmaaGreatDoorRd01
set_option linter.unusedVariables false
set_option linter.unusedSimpArgs false
set_option maxHeartbeats 1000000
set_option maxRecDepth 20000
namespace Go.Proofs.YtfenoaeoedobmaaGreatDoor
open Go Go.RowKit
def ownL (ns:List Nd) (i k:Nat):List Nat:=
 (List.range i).flatMap fun j=>((ns[j]!).kids.filter fun x=>decide (x=(k:Int))).map fun _=>j
theorem owners_own (ns:List Nd) (k:Nat):owners ns k=ownL ns k k:=rfl
theorem ownL_succ (ns:List Nd) (i k:Nat):ownL ns (i+1) k=ownL ns i k++((ns[i]!).kids.filter fun x=>decide (x=(k:Int))).map fun _=>i:=by
 unfold ownL;rw[List.range_succ,List.flatMap_append];simp
theorem ownL_lt {ns:List Nd} {i k p:Nat} (h:p∈ownL ns i k):p<i:=by
 unfold ownL at h;obtain ⟨j,hj,hp⟩:=List.mem_flatMap.1 h;obtain ⟨_,_,rfl⟩:=List.mem_map.1 hp;exact List.mem_range.1 hj
theorem ownL_grow (ns:List Nd) (k:Nat):∀(m i:Nat),∃r,ownL ns (i+m) k=ownL ns i k++r
 |0,i=>⟨[],by simp⟩
 |m+1,i=>by
  obtain ⟨r,hr⟩:=ownL_grow ns k m i;refine ⟨r++((ns[i+m]!).kids.filter fun x=>decide (x=(k:Int))).map fun _=>i+m,?_⟩;rw[←Nat.add_assoc,ownL_succ,hr,List.append_assoc]
theorem kidsR_spec {ns:List Nd} {kind:Int}:∀{l:List Int} {last:Int} {had:List ByteArray},kidsR ns kind l last had=true→
 (∀x∈l,last<x∧x<(ns.length:Int))∧l.Pairwise (· <·)
 |[],_,_,_=>⟨(fun _ h=>nomatch h),List.Pairwise.nil⟩
 |k::r,last,had,h=>by
  unfold kidsR at h
  split at h
  ·cases h
  ·rename_i h1
   split at h
   ·cases h
   ·obtain ⟨h3,h4⟩:=kidsR_spec h;have h5:last<k∧k<(ns.length:Int):=by omega
    refine ⟨fun x hx=> ?_,List.Pairwise.cons (fun x hx=>(h3 x hx).1) h4⟩;rcases List.mem_cons.1 hx with rfl|hx
    ·exact h5
    ·have:=h3 x hx;omega
theorem set_at (d:List Nat) (a b v:Nat) (h:a≠b):(d.set a v)[b]! =d[b]! :=by
 simp[List.getElem!_eq_getElem?_getD,List.getElem?_set,h]
theorem set_same (d:List Nat) (a v:Nat) (h:a<d.length):(d.set a v)[a]! =v:=by
 simp[List.getElem!_eq_getElem?_getD,List.getElem?_set,h]
def setAll (v:Nat) (l:List Int) (d:List Nat):List Nat:=l.foldl (fun d x=>d.set x.toNat v) d
theorem setAll_len (v:Nat):∀(l:List Int) (d:List Nat),(setAll v l d).length=d.length
 |[],d=>rfl
 |x::r,d=>by
  show (setAll v r (d.set x.toNat v)).length=_
  rw[setAll_len v r,List.length_set]
theorem setAll_out (v:Nat) (k:Nat):∀(l:List Int) (d:List Nat),(∀x∈l,x.toNat≠k)→(setAll v l d)[k]! =d[k]!
 |[],d,_=>rfl
 |x::r,d,h=>by
  show (setAll v r (d.set x.toNat v))[k]! =_
  rw[setAll_out v k r _ fun y hy=>h y (List.mem_cons_of_mem _ hy),set_at _ _ _ _ (h x (List.mem_cons_self ..))]
theorem setAll_in (v:Nat) (k:Nat):∀(l:List Int) (d:List Nat),k<d.length→(∃x∈l,x.toNat=k)→(setAll v l d)[k]! =v
 |[],d,_,⟨x,hx,_⟩=>nomatch hx
 |x::r,d,hk,h=>by
  show (setAll v r (d.set x.toNat v))[k]! =_
  by_cases hr:∃y∈r,y.toNat=k
  ·exact setAll_in v k r _ (by rw[List.length_set];exact hk) hr
  ·rw[setAll_out v k r _ fun y hy he=>hr ⟨y,hy,he⟩];obtain ⟨y,hy,he⟩:=h;rcases List.mem_cons.1 hy with rfl|hy
   ·rw[he];exact set_same _ _ _ hk
   ·exact absurd ⟨y,hy,he⟩ hr
theorem kidsP_eq {ns:List Nd} {kind:Int} {deep:Nat}:∀(l:List Int) (last:Int) (had:List ByteArray) (d:List Nat),0≤last→
 ((kidsR ns kind l last had=true∧∀x∈l,d[x.toNat]! =0)→kidsP ns kind deep l last had d=some (setAll (deep+1) l d))∧
 (¬(kidsR ns kind l last had=true∧∀x∈l,d[x.toNat]! =0)→kidsP ns kind deep l last had d=none)
 |[],last,had,d,_=>⟨fun _=>rfl,fun h=>absurd ⟨rfl,fun _ hx=>nomatch hx⟩ h⟩
 |k::r,last,had,d,h0=>by
  by_cases h1:k≤last∨(ns.length:Int)≤k
  ·have e1:kidsR ns kind (k::r) last had=false:=by unfold kidsR;rw[if_pos h1]
   have e2:kidsP ns kind deep (k::r) last had d=none:=by
    unfold kidsP;rw[if_pos (by rcases h1 with h|h;exact .inl h;exact .inr (.inl h))]
   exact ⟨fun h=>absurd h.1 (by rw[e1];simp),fun _=>e2⟩
  ·by_cases h2:d[k.toNat]! ≠0
   ·have e2:kidsP ns kind deep (k::r) last had d=none:=by
     unfold kidsP;rw[if_pos (.inr (.inr h2))]
    exact ⟨fun h=>absurd (h.2 k (List.mem_cons_self ..)) h2,fun _=>e2⟩
   ·have h3:¬(k≤last∨(ns.length:Int)≤k∨d[k.toNat]! ≠0):=fun h=>by
     rcases h with h|h|h
     ·exact h1 (.inl h)
     ·exact h1 (.inr h)
     ·exact h2 h
    by_cases h4:keyOk kind (ns[k.toNat]!).key had=false
    ·have e1:kidsR ns kind (k::r) last had=false:=by unfold kidsR;rw[if_neg h1,if_pos h4]
     have e2:kidsP ns kind deep (k::r) last had d=none:=by unfold kidsP;rw[if_neg h3,if_pos h4]
     exact ⟨fun h=>absurd h.1 (by rw[e1];simp),fun _=>e2⟩
    ·have e1:kidsR ns kind (k::r) last had=kidsR ns kind r k ((ns[k.toNat]!).key::had):=by rw[kidsR,if_neg h1,if_neg h4]
     have e2:kidsP ns kind deep (k::r) last had d=kidsP ns kind deep r k ((ns[k.toNat]!).key::had) (d.set k.toNat (deep+1)):=by rw[kidsP,if_neg h3,if_neg h4]
     have hk0:0≤k:=by omega
     obtain ⟨i1,i2⟩:=kidsP_eq (ns:=ns) (kind:=kind) (deep:=deep) r k ((ns[k.toNat]!).key::had) (d.set k.toNat (deep+1)) hk0;have he:kidsR ns kind r k ((ns[k.toNat]!).key::had)=true→∀x∈r,(d.set k.toNat (deep+1))[x.toNat]! =d[x.toNat]! :=fun h x hx=>by
      have:=(kidsR_spec h).1 x hx;exact set_at _ _ _ _ (by omega)
     rw[e1,e2];refine ⟨fun h=> ?_,fun h=>i2 fun hh=>h ⟨hh.1,fun x hx=> ?_⟩⟩
     ·rw[i1 ⟨h.1,fun x hx=>by rw[he h.1 x hx];exact h.2 x (List.mem_cons_of_mem _ hx)⟩];rfl
     ·rcases List.mem_cons.1 hx with rfl|hx
      ·exact Decidable.not_not.1 h2
      ·rw[←he hh.1 x hx];exact hh.2 x hx
def dep (ns:List Nd) (k:Nat):Nat:=
 if k=0 then 1
 else
  match owners ns k with
  |[p]=>if h:p<k then dep ns p+1 else 0
  |_=>0
termination_by k
decreasing_by exact h
theorem dep_zero (ns:List Nd):dep ns 0=1:=by rw[dep,if_pos rfl]
theorem dep_one {ns:List Nd} {k p:Nat} (hk:1≤k) (h:owners ns k=[p]):dep ns k=dep ns p+1:=by
 have hp:p<k:=ownL_lt (i:=k) (k:=k) (ns:=ns) (by rw[←owners_own,h];exact List.mem_cons_self ..);rw[dep,if_neg (by omega),h];simp only;rw[dif_pos hp]
structure Good (ns:List Nd):Prop where
 node:∀j,j<ns.length→nodeR ns j (ns[j]!)=true
 one:∀j,1≤j→j<ns.length→∃p,owners ns j=[p]
 deep:∀j,j<ns.length→dep ns j≤16
structure TInv (ns:List Nd) (i:Nat) (d:List Nat):Prop where
 len:d.length=ns.length
 zero:d[0]! =1
 had:∀k p,1≤k→k<ns.length→ownL ns i k=[p]→d[k]! =dep ns p+1
 nil:∀k,1≤k→k<ns.length→ownL ns i k=[]→d[k]! =0
 few:∀k,1≤k→k<ns.length→ownL ns i k=[]∨∃p,ownL ns i k=[p]
 node:∀j,j<i→nodeR ns j (ns[j]!)=true
 one:∀j,1≤j→j<i→∃p,owners ns j=[p]
 deep:∀j,j<i→dep ns j≤16
theorem filter_one {k:Int}:∀{l:List Int},l.Pairwise (· <·)→k∈l→l.filter (fun x=>decide (x=k))=[k]
 |[],_,h=>nomatch h
 |x::r,hp,h=>by
  obtain ⟨h1,h2⟩:=List.pairwise_cons.1 hp;by_cases e:x=k
  ·subst e;rw[List.filter_cons,if_pos (by simp)];rw[List.filter_eq_nil_iff.2 fun y hy=>by have:=h1 y hy;simp;omega]
  ·rw[List.filter_cons,if_neg (by simp[e])];rcases List.mem_cons.1 h with rfl|h
   ·exact absurd rfl e
   ·exact filter_one h2 h
theorem filter_not {k:Int} {l:List Int} (h:¬k∈l):l.filter (fun x=>decide (x=k))=[]:=
 List.filter_eq_nil_iff.2 fun y hy=>by
  simp;rintro rfl;exact h hy
theorem TInv.first (ns:List Nd) (h:ns≠[]):TInv ns 0 (1::List.replicate (ns.length-1) 0):=by
 have hl:0<ns.length:=List.length_pos_iff.2 h;refine ⟨by simp;omega,rfl,fun k p h1 h2 e=>by simp[ownL]at e,fun k h1 h2 _=> ?_,fun k _ _=> .inl (by simp[ownL]),fun j hj=>absurd hj (Nat.not_lt_zero _),fun j _ hj=>absurd hj (Nat.not_lt_zero _),fun j hj=>absurd hj (Nat.not_lt_zero _)⟩;obtain ⟨m,rfl⟩:∃m,k=m+1:=⟨k-1,by omega⟩;rw[List.getElem!_eq_getElem?_getD,List.getElem?_cons_succ,List.getElem?_replicate]
 split<;>rfl
theorem TInv.next {ns:List Nd} {i:Nat} {d d':List Nat} (h:TInv ns i d) (hi:i<ns.length) (hn:nodeR ns i (ns[i]!)=true) (h1:1≤i→∃p,owners ns i=[p]) (h2:dep ns i≤16) (hd:d[i]! =dep ns i)
 (hlen:d'.length=d.length) (hk:∀x∈(ns[i]!).kids,(i:Int)<x∧d[x.toNat]! =0) (hp:(ns[i]!).kids.Pairwise (· <·))
 (hin:∀k:Nat,k<ns.length→(k:Int)∈(ns[i]!).kids→d'[k]! =dep ns i+1) (hout:∀k:Nat,¬(k:Int)∈(ns[i]!).kids→d'[k]! =d[k]!):TInv ns (i+1) d':=by
 have hE:∀k:Nat,1≤k→k<ns.length→(k:Int)∈(ns[i]!).kids→ownL ns (i+1) k=[i]:=fun k hk1 hk2 hm=>by
  have h0:=(hk _ hm).2;rw[Int.toNat_natCast]at h0;have he:ownL ns i k=[]:=by
   rcases h.few k hk1 hk2 with e|⟨p,e⟩
   ·exact e
   ·have:=h.had k p hk1 hk2 e;omega
  rw[ownL_succ,he,filter_one hp hm];rfl
 have hN:∀k:Nat,¬(k:Int)∈(ns[i]!).kids→ownL ns (i+1) k=ownL ns i k:=fun k hm=>by
  rw[ownL_succ,filter_not hm];simp
 have hz:¬((0:Nat):Int)∈(ns[i]!).kids:=fun hm=>by
  have:=(hk _ hm).1;omega
 refine ⟨hlen.trans h.len,(hout 0 hz).trans h.zero,fun k p hk1 hk2 e=> ?_,fun k hk1 hk2 e=> ?_,fun k hk1 hk2=> ?_,fun j hj=> ?_,fun j hj1 hj=> ?_,fun j hj=> ?_⟩
 ·by_cases hm:(k:Int)∈(ns[i]!).kids
  ·rw[hE k hk1 hk2 hm]at e;obtain rfl:i=p:=by simpa using e
   exact hin k hk2 hm
  ·rw[hN k hm]at e;rw[hout k hm];exact h.had k p hk1 hk2 e
 ·by_cases hm:(k:Int)∈(ns[i]!).kids
  ·rw[hE k hk1 hk2 hm]at e;cases e
  ·rw[hN k hm]at e;rw[hout k hm];exact h.nil k hk1 hk2 e
 ·by_cases hm:(k:Int)∈(ns[i]!).kids
  ·exact .inr ⟨i,hE k hk1 hk2 hm⟩
  ·rw[hN k hm];exact h.few k hk1 hk2
 ·rcases Nat.lt_succ_iff_lt_or_eq.1 hj with g|rfl
  ·exact h.node j g
  ·exact hn
 ·rcases Nat.lt_succ_iff_lt_or_eq.1 hj with g|rfl
  ·exact h.one j hj1 g
  ·exact h1 hj1
 ·rcases Nat.lt_succ_iff_lt_or_eq.1 hj with g|rfl
  ·exact h.deep j g
  ·exact h2
theorem scalar_kids {n:Nd} (h:scalarOk n=true):n.kids=[]:=by
 unfold scalarOk at h;rw[Bool.and_eq_true]at h;exact of_decide_eq_true h.1
theorem nodeP_step {ns:List Nd} {i:Nat} {d:List Nat} (h:TInv ns i d) (hi:i<ns.length):
 (nodeP ns i (ns[i]!) d=none→¬Good ns)∧∀d',nodeP ns i (ns[i]!) d=some d'→TInv ns (i+1) d':=by
 have hT:d[i]! =0∨16<d[i]! →¬Good ns:=fun ht hg=>by
  rcases Nat.eq_zero_or_pos i with h0|h0
  ·subst h0;have:=h.zero;omega
  ·obtain ⟨p,hp⟩:=hg.one i h0 hi;have e:=h.had i p h0 hi hp;have hd:=hg.deep i hi;rw[dep_one h0 hp]at hd;omega
 by_cases ht:d[i]! =0∨16<d[i]!
 ·have e:nodeP ns i (ns[i]!) d=none:=by unfold nodeP;rw[if_pos ht]
  exact ⟨fun _=>hT ht,fun d' hd=>by rw[e]at hd;cases hd⟩
 ·have hdep:d[i]! =dep ns i:=by
   rcases Nat.eq_zero_or_pos i with h0|h0
   ·subst h0;rw[dep_zero];exact h.zero
   ·rcases h.few i h0 hi with e|⟨p,e⟩
    ·have:=h.nil i h0 hi e;omega
    ·rw[h.had i p h0 hi e,dep_one h0 e]
  have hone:1≤i→∃p,owners ns i=[p]:=fun h0=>by
   rcases h.few i h0 hi with e|⟨p,e⟩
   ·have:=h.nil i h0 hi e;omega
   ·exact ⟨p,e⟩
  have h16:dep ns i≤16:=by omega
  by_cases hk:(ns[i]!).kind=1
  ·by_cases hs:scalarOk (ns[i]!)=true
   ·have e:nodeP ns i (ns[i]!) d=some d:=by unfold nodeP;rw[if_neg ht,if_pos hk,if_pos hs]
    have hkd:=scalar_kids hs;refine ⟨(fun hh=>by rw[e]at hh;cases hh),fun d' hd=> ?_⟩;rw[e]at hd;obtain rfl:=Option.some.inj hd;refine h.next hi ?_ hone h16 hdep rfl (fun x hx=>by rw[hkd]at hx;cases hx) (by rw[hkd];exact List.Pairwise.nil) (fun k _ hm=>by rw[hkd]at hm;cases hm) (fun _ _=>rfl);unfold nodeR;rw[if_neg (by omega),if_neg (fun hh=>hh.2 hs),if_neg (by omega)]
   ·have e:nodeP ns i (ns[i]!) d=none:=by unfold nodeP;rw[if_neg ht,if_pos hk,if_neg hs]
    refine ⟨fun _ hg=> ?_,fun d' hd=>by rw[e]at hd;cases hd⟩;have hn:=hg.node i hi;unfold nodeR at hn;rw[if_neg (by omega),if_pos ⟨hk,hs⟩]at hn;cases hn
  ·by_cases hb:((ns[i]!).kind≠2∧(ns[i]!).kind≠3)∨(ns[i]!).kids=[]∨(ns[i]!).text≠⟨#[]⟩∨(ns[i]!).quoted=true
   ·have e:nodeP ns i (ns[i]!) d=none:=by unfold nodeP;rw[if_neg ht,if_neg hk,if_pos hb]
    refine ⟨fun _ hg=> ?_,fun d' hd=>by rw[e]at hd;cases hd⟩;have hn:=hg.node i hi;unfold nodeR at hn;by_cases hr:(ns[i]!).kind<1∨3<(ns[i]!).kind
    ·rw[if_pos hr]at hn;cases hn
    ·rw[if_neg hr,if_neg (fun hh=>hk hh.1),if_pos ⟨by omega,by
      rcases hb with hb|hb|hb|hb
      ·omega
      ·exact .inl hb
      ·exact .inr (.inl hb)
      ·exact .inr (.inr (.inl hb))⟩]at hn
     cases hn
   ·have e:nodeP ns i (ns[i]!) d=kidsP ns (ns[i]!).kind d[i]! (ns[i]!).kids (i:Int) [] d:=by unfold nodeP;rw[if_neg ht,if_neg hk,if_neg hb]
    obtain ⟨i1,i2⟩:=kidsP_eq (ns:=ns) (kind:=(ns[i]!).kind) (deep:=d[i]!) (ns[i]!).kids (i:Int) [] d (Int.natCast_nonneg _);rw[e];have hkd:(ns[i]!).kind=2∨(ns[i]!).kind=3:=by
     rcases Decidable.em ((ns[i]!).kind=2) with g|g
     ·exact .inl g
     ·rcases Decidable.em ((ns[i]!).kind=3) with g2|g2
      ·exact .inr g2
      ·exact absurd (.inl ⟨g,g2⟩) hb
    have hnR:nodeR ns i (ns[i]!)=kidsR ns (ns[i]!).kind (ns[i]!).kids (i:Int) []:=by
     unfold nodeR;rw[if_neg (by omega),if_neg (fun hh=>hk hh.1)];cases hq:kidsR ns (ns[i]!).kind (ns[i]!).kids (i:Int) [] with
     |true=>rw[if_neg];rintro ⟨_,g|g|g|g⟩<;>first|exact g rfl|exact hb (.inr (.inl g))|exact hb (.inr (.inr (.inl g)))|exact hb (.inr (.inr (.inr g)))
     |false=>rw[if_pos ⟨by omega,.inr (.inr (.inr (by simp)))⟩]
    by_cases hc:kidsR ns (ns[i]!).kind (ns[i]!).kids (i:Int) []=true∧∀x∈(ns[i]!).kids,d[x.toNat]! =0
    ·rw[i1 hc];refine ⟨(fun hh=>by cases hh),fun d' hd=> ?_⟩;obtain rfl:=Option.some.inj hd;obtain ⟨s1,s2⟩:=kidsR_spec hc.1;refine h.next hi (hnR.trans hc.1) hone h16 hdep (setAll_len _ _ _) (fun x hx=>⟨(s1 x hx).1,hc.2 x hx⟩) s2 (fun k hk2 hm=> ?_) (fun k hm=> ?_)
     ·rw[←hdep];exact setAll_in _ k _ _ (by rw[h.len];exact hk2) ⟨_,hm,Int.toNat_natCast _⟩
     ·refine setAll_out _ k _ _ fun x hx he=>hm ?_;have:=(s1 x hx).1;have e2:(k:Int)=x:=by omega
      rw[e2];exact hx
    ·rw[i2 hc];refine ⟨fun _ hg=>hc ⟨hnR ▸ hg.node i hi,fun x hx=> ?_⟩,fun d' hd=>by cases hd⟩;have hkR:kidsR ns (ns[i]!).kind (ns[i]!).kids (i:Int) []=true:=hnR ▸ hg.node i hi;obtain ⟨s1,s2⟩:=kidsR_spec hkR;have hx1:=s1 x hx;obtain ⟨k,rfl⟩:∃k:Nat,x=(k:Int):=⟨x.toNat,by omega⟩;rw[Int.toNat_natCast];rcases h.few k (by omega) (by omega) with e0|⟨p,e0⟩
     ·exact h.nil k (by omega) (by omega) e0
     ·exfalso
      obtain ⟨q,hq⟩:=hg.one k (by omega) (by omega);obtain ⟨r,hr⟩:=ownL_grow ns k (k-(i+1)) (i+1);rw[show i+1+(k-(i+1))=k from by omega,←owners_own,hq,ownL_succ,e0,filter_one s2 hx]at hr;simp at hr
theorem restP_good {ns:List Nd}:∀(r:List Nd) (i:Nat) (d:List Nat),ns.drop i=r→i≤ns.length→TInv ns i d→(restP ns r i d=true↔Good ns)
 |[],i,d,hr,hi,h=>by
  have hl:i=ns.length:=by
   have:=congrArg List.length hr;simp at this;omega
  subst hl;exact ⟨fun _=>⟨h.node,h.one,h.deep⟩,fun _=>rfl⟩
 |n::r,i,d,hr,hi,h=>by
  have hlt:i<ns.length:=by
   have:=congrArg List.length hr;simp at this;omega
  have hn:ns[i]! =n:=by
   have e:(ns.drop i)[0]? =some n:=by rw[hr];rfl
   rw[List.getElem?_drop]at e;rw[List.getElem!_eq_getElem?_getD]
   simpa using congrArg (fun o=>o.getD default) e
  have hd:ns.drop (i+1)=r:=by
   rw[←List.drop_drop,hr];rfl
  obtain ⟨h1,h2⟩:=nodeP_step h hlt;rw[hn]at h1 h2;unfold restP;cases hp:nodeP ns i n d with
  |none=>exact ⟨fun hh=>by simp at hh,fun hg=>absurd hg (h1 hp)⟩
  |some d'=>exact restP_good r (i+1) d' hd hlt (h2 d' hp)
theorem parentR_iff (ns:List Nd) (k:Nat):0≤parentR ns k↔∃p,owners ns k=[p]:=by
 unfold parentR
 split
 ·rename_i p e
  exact ⟨fun _=>⟨p,e⟩,fun _=>Int.natCast_nonneg _⟩
 ·rename_i e
  exact ⟨fun h=>by omega,fun ⟨p,hp⟩=>(e p hp).elim⟩
theorem parentR_one {ns:List Nd} {k p:Nat} (h:owners ns k=[p]):parentR ns k=(p:Int):=by
 unfold parentR;rw[h]
theorem deepR_good {ns:List Nd}:∀(f i:Nat) (d:List Nat),1≤i→ns.length≤i+f→d.length=i→(∀j,j<i→d[j]! =dep ns j)→
 (deepR ns f i d=true↔∀j,i≤j→j<ns.length→(∃p,owners ns j=[p])∧dep ns j≤16)
 |0,i,d,h1,h2,h3,h4=>⟨fun _ j hj hl=>absurd hl (by omega),fun _=>rfl⟩
 |f+1,i,d,h1,h2,h3,h4=>by
  by_cases hl:ns.length≤i
  ·have e:deepR ns (f+1) i d=true:=by unfold deepR;rw[if_pos hl]
   exact ⟨fun _ j hj hl2=>absurd hl2 (by omega),fun _=>e⟩
  ·by_cases hc:parentR ns i<0∨16≤d[(parentR ns i).toNat]!
   ·have e:deepR ns (f+1) i d=false:=by unfold deepR;rw[if_neg hl,if_pos hc]
    rw[e];refine ⟨(fun h=>by cases h),fun h=> ?_⟩;obtain ⟨⟨p,hp⟩,hd⟩:=h i (Nat.le_refl _) (by omega);have hpl:p<i:=ownL_lt (ns:=ns) (i:=i) (k:=i) (by rw[←owners_own,hp];exact List.mem_cons_self ..);rw[parentR_one hp,Int.toNat_natCast,h4 p hpl]at hc;rw[dep_one h1 hp]at hd;omega
   ·have e:deepR ns (f+1) i d=deepR ns f (i+1) (d++[d[(parentR ns i).toNat]! +1]):=by rw[deepR,if_neg hl,if_neg hc]
    obtain ⟨p,hp⟩:=(parentR_iff ns i).1 (by omega);have hpl:p<i:=ownL_lt (ns:=ns) (i:=i) (k:=i) (by rw[←owners_own,hp];exact List.mem_cons_self ..);rw[parentR_one hp,Int.toNat_natCast,h4 p hpl]at hc;rw[e,parentR_one hp,Int.toNat_natCast,h4 p hpl,←dep_one h1 hp];have hd16:dep ns i≤16:=by rw[dep_one h1 hp];omega
    rw[deepR_good f (i+1) (d++[dep ns i]) (by omega) (by omega) (by simp[h3]) fun j hj=>by
     rcases Nat.lt_succ_iff_lt_or_eq.1 hj with g|rfl
     ·rw[←h4 j g,List.getElem!_eq_getElem?_getD,List.getElem!_eq_getElem?_getD,List.getElem?_append_left (by omega)]
     ·rw[List.getElem!_eq_getElem?_getD,List.getElem?_append_right (by omega),h3,Nat.sub_self];rfl]
    refine ⟨fun h j hj hl2=> ?_,fun h j hj hl2=>h j (by omega) hl2⟩;rcases Nat.lt_or_ge i j with g|g
    ·exact h j g hl2
    ·obtain rfl:j=i:=by omega
     exact ⟨⟨p,hp⟩,hd16⟩
theorem treeP_iff (ns:List Nd):treeP ns=true↔(ns≠[]∧ns.length≤4096∧(ns[0]!).key=⟨#[]⟩)∧Good ns:=by
 unfold treeP;rw[Bool.and_eq_true,decide_eq_true_eq];refine and_congr_right fun h=> ?_;exact restP_good ns 0 _ (by simp) (Nat.zero_le _) (TInv.first ns h.1)
theorem treeR_iff (ns:List Nd):treeR ns=true↔(ns≠[]∧ns.length≤4096∧(ns[0]!).key=⟨#[]⟩)∧Good ns:=by
 unfold treeR;rw[Bool.and_eq_true,Bool.and_eq_true,decide_eq_true_eq,and_assoc];refine and_congr_right fun h=> ?_;rw[List.all_eq_true,deepR_good ns.length 1 [1] (Nat.le_refl _) (by omega) rfl fun j hj=>by
  obtain rfl:j=0:=by omega
  rw[dep_zero];rfl]
 refine ⟨fun hh=>⟨fun j hj=>hh.1 j (List.mem_range.2 hj),fun j h1 h2=>(hh.2 j h1 h2).1,fun j hj=> ?_⟩,fun hg=>⟨fun j hj=>hg.node j (List.mem_range.1 hj),fun j h1 h2=>⟨hg.one j h1 h2,hg.deep j h2⟩⟩⟩;rcases Nat.eq_zero_or_pos j with rfl|h0
 ·rw[dep_zero];omega
 ·exact (hh.2 j h0 hj).2
theorem treeP_treeR (ns:List Nd):treeP ns=treeR ns:=by
 cases h:treeR ns with
 |true=>exact (treeP_iff ns).2 ((treeR_iff ns).1 h)
 |false=>
  cases h2:treeP ns with
  |false=>rfl
  |true=>
   have:=(treeR_iff ns).2 ((treeP_iff ns).1 h2);rw[h]at this;cases this
end Go.Proofs.YtfenoaeoedobmaaGreatDoor
namespace Go.Proofs.YtfenoaeoedobmaaGreatDoor
open Go Ieee
def FV (r:Nat):Nat:=if r<4503599627370496 then r else (4503599627370496+r % 4503599627370496)*2 ^ (r / 4503599627370496-1)
abbrev INF:Nat:=9218868437227405312
theorem c_sign:double.signWeight=9223372036854775808:=by decide+kernel
theorem c_bin:double.binade=4503599627370496:=by decide+kernel
theorem c_inf:double.infRung=INF:=by decide+kernel
theorem c_least:double.leastPlace= -1074:=by decide+kernel
theorem c_frac:double.fractionBits=52:=rfl
theorem read_pos (r:Nat) (h:r<INF):∃mag up:Nat,double.read r= .number false mag ((up:Int)-1074)∧FV r=mag*2 ^ up:=by
 unfold INF at h;have h1:(r / 9223372036854775808 % 2==1)=false:=by
  have:r / 9223372036854775808=0:=Nat.div_eq_of_lt (by omega);rw[this];rfl
 have h2:r % 9223372036854775808=r:=Nat.mod_eq_of_lt (by omega);unfold Format.read FV;simp only[c_sign,c_bin,c_inf,c_least,h1,h2,INF];by_cases hb:r<4503599627370496
 ·rw[if_pos hb,if_pos hb];exact ⟨r,0,by simp,by simp⟩
 ·rw[if_neg hb,if_neg hb,if_pos h];exact ⟨_,r / 4503599627370496-1,by simp only[Datum.number.injEq,true_and];omega,rfl⟩
theorem read_inf:double.read INF= .infinity false:=by decide+kernel
theorem word_false (r:Nat):double.word false r=r:=by
 unfold Format.word;rw[if_neg (by decide)]
theorem re_two (y z c d:Nat) (h:2*c=d):2*y*c*z=y*z*d:=by
 subst h;simp only[Nat.mul_assoc,Nat.mul_comm,Nat.mul_left_comm]
theorem FV_mk (L kept:Nat) (h1:4503599627370496≤kept) (h2:kept≤9007199254740992):FV (L*4503599627370496+kept)=kept*2 ^ L:=by
 unfold FV;rw[if_neg (by omega)];by_cases h:kept=9007199254740992
 ·subst h;have e1:(L*4503599627370496+9007199254740992) % 4503599627370496=0:=by omega
  have e2:(L*4503599627370496+9007199254740992) / 4503599627370496-1=L+1:=by omega
  rw[e1,e2,Nat.pow_succ];omega
 ·have e1:(L*4503599627370496+kept) % 4503599627370496=kept-4503599627370496:=by omega
  have e2:(L*4503599627370496+kept) / 4503599627370496-1=L:=by omega
  rw[e1,e2];have e3:4503599627370496+(kept-4503599627370496)=kept:=by omega
  rw[e3]
theorem pow_split {a b c:Nat} (h:a+b=c):2 ^ a*2 ^ b=2 ^ c:=by rw[←h,Nat.pow_add]
theorem lt_of_pow_lt {a b:Nat} (h:2 ^ a<2 ^ b):a<b:=(Nat.pow_lt_pow_iff_right (by decide:1<2)).1 h
theorem cut_even (n d:Nat) (hd:d≤n.log2+2):2*(Toward.even.cut false n d*2 ^ d)≤2*n+2 ^ d∧2*n≤2*(Toward.even.cut false n d*2 ^ d)+2 ^ d:=by
 have hmin:min d (n.log2+2)=d:=Nat.min_eq_left hd;unfold Toward.cut;simp only[hmin,Nat.one_shiftLeft];have hg:0<2 ^ d:=Nat.two_pow_pos _;generalize 2 ^ d=g at*;have h1:=Nat.div_add_mod n g;have h2:=Nat.mod_lt n hg;generalize n / g=q at*;generalize n % g=s at*;have e:∀b:Bool,(q+b.toNat)*g=g*q+b.toNat*g:=fun b=>by rw[Nat.add_mul,Nat.mul_comm q g]
 rw[e];by_cases hlt:g<2*s
 ·have:(decide (g<2*s)||(g==2*s&&q % 2==1))=true:=by simp[hlt]
  rw[this];simp only[Bool.toNat_true];omega
 ·by_cases heq:g=2*s
  ·cases hb:(decide (g<2*s)||(g==2*s&&q % 2==1)) with
   |true=>simp only[Bool.toNat_true];omega
   |false=>simp only[Bool.toNat_false];omega
  ·have:(decide (g<2*s)||(g==2*s&&q % 2==1))=false:=by simp[hlt,heq]
   rw[this];simp only[Bool.toNat_false];omega
theorem cut_zero_drop (n:Nat):Toward.even.cut false n 0=n:=by
 have:=cut_even n 0 (by omega);simp at this;omega
theorem nearest_near (mag:Nat) (place:Int) (T P:Nat) (hP:place=(P:Int)-T) (hT:1074≤T) (lo:2 ^ (T-1022)≤mag*2 ^ P) (hi:mag*2 ^ P<2 ^ (T+1023)):
 double.nearest false mag place<INF∧FV (double.nearest false mag place)*2 ^ (T-1074)*9007199254740992≤mag*2 ^ P*9007199254740993∧
  mag*2 ^ P*9007199254740991≤FV (double.nearest false mag place)*2 ^ (T-1074)*9007199254740992∧
  (mag<9007199254740992→FV (double.nearest false mag place)*2 ^ (T-1074)=mag*2 ^ P):=by
 have hm:mag≠0:=by
  rintro rfl;have:=Nat.two_pow_pos (T-1022);omega
 obtain ⟨g,hgd⟩:∃g,g=mag.log2:=⟨_,rfl⟩;have hg1:2 ^ g≤mag:=by rw[hgd];exact Nat.log2_self_le hm
 have hg2:mag<2 ^ (g+1):=by rw[hgd];exact Nat.lt_log2_self
 have hPpos:0<2 ^ P:=Nat.two_pow_pos _;have ea:T-1022<g+1+P:=lt_of_pow_lt (Nat.lt_of_le_of_lt lo (by rw[Nat.pow_add];exact Nat.mul_lt_mul_of_pos_right hg2 hPpos));have eb:g+P<T+1023:=lt_of_pow_lt (Nat.lt_of_le_of_lt (by rw[Nat.pow_add];exact Nat.mul_le_mul_right _ hg1) hi);have hlast:max (place+(mag.log2:Int)-(double.fractionBits:Int)) double.leastPlace=(P:Int)-T+g-52:=by
  rw[c_frac,c_least,←hgd,hP];omega
 obtain ⟨L,hL⟩:∃L,L=P+g+1022-T:=⟨_,rfl⟩;have hLz:((P:Int)-T+g-52-double.leastPlace).toNat=L:=by rw[c_least];omega
 have key:∃kept,4503599627370496≤kept∧kept≤9007199254740992∧double.nearest false mag place=L*4503599627370496+kept∧
  kept*2 ^ (P+g-52)*9007199254740992≤mag*2 ^ P*9007199254740993∧mag*2 ^ P*9007199254740991≤kept*2 ^ (P+g-52)*9007199254740992∧(mag<9007199254740992→kept*2 ^ (P+g-52)=mag*2 ^ P):=by
  have hnear:∀kept,Toward.even.cut false (mag <<< (place-((P:Int)-T+g-52)).toNat) (((P:Int)-T+g-52)-place).toNat=kept→kept≤9007199254740992→double.nearest false mag place=L*4503599627370496+kept:=by
   intro kept hk hk2;unfold Format.nearest;rw[if_neg hm];dsimp only;rw[hlast,hLz,hk,c_bin,c_inf,word_false];exact Nat.min_eq_left (by unfold INF;omega)
  by_cases hg:g≤52
  ·have s1:(place-((P:Int)-T+g-52)).toNat=52-g:=by omega
   have s2:(((P:Int)-T+g-52)-place).toNat=0:=by omega
   have hkept:Toward.even.cut false (mag <<< (52-g)) 0=mag*2 ^ (52-g):=by rw[cut_zero_drop,Nat.shiftLeft_eq]
   have k1:4503599627370496≤mag*2 ^ (52-g):=by
    have:2 ^ g*2 ^ (52-g)=2 ^ 52:=pow_split (by omega);have h:=Nat.mul_le_mul_right (2 ^ (52-g)) hg1;omega
   have k2:mag*2 ^ (52-g)≤9007199254740992:=by
    have:2 ^ (g+1)*2 ^ (52-g)=2 ^ 53:=pow_split (by omega);have h:=Nat.mul_le_mul_right (2 ^ (52-g)) (Nat.le_of_lt hg2);omega
   have k3:mag*2 ^ (52-g)*2 ^ (P+g-52)=mag*2 ^ P:=by
    rw[Nat.mul_assoc,pow_split (show 52-g+(P+g-52)=P by omega)]
   refine ⟨_,k1,k2,hnear _ (by rw[s1,s2];exact hkept) k2,?_,?_,fun _=>k3⟩<;>rw[k3]<;>omega
  ·have s1:(place-((P:Int)-T+g-52)).toNat=0:=by omega
   have s2:(((P:Int)-T+g-52)-place).toNat=g-52:=by omega
   obtain ⟨c1,c2⟩:=cut_even mag (g-52) (by omega);generalize hk:Toward.even.cut false mag (g-52)=kept at c1 c2;have hd:0<2 ^ (g-52):=Nat.two_pow_pos _;have e1:2 ^ (g-52)*4503599627370496=2 ^ g:=pow_split (b:=52) (by omega);have e2:2 ^ (g-52)*9007199254740992=2 ^ (g+1):=pow_split (b:=53) (by omega);have hPd:2 ^ (P+g-52)=2 ^ (g-52)*2 ^ P:=(pow_split (by omega)).symm;have k1:4503599627370496≤kept:=by
    rcases Nat.lt_or_ge kept 4503599627370496 with h|h
    ·have:=Nat.mul_le_mul_right (2 ^ (g-52)) (Nat.le_sub_one_of_lt h);have q:(4503599627370496-1)*2 ^ (g-52)+2 ^ (g-52)=2 ^ g:=by rw[←e1];omega
     omega
    ·exact h
   have k2:kept≤9007199254740992:=by
    rcases Nat.lt_or_ge 9007199254740992 kept with h|h
    ·have:=Nat.mul_le_mul_right (2 ^ (g-52)) h;have q:(9007199254740992).succ*2 ^ (g-52)=2 ^ (g+1)+2 ^ (g-52):=by rw[←e2];omega
     omega
    ·exact h
   refine ⟨kept,k1,k2,hnear _ (by rw[s1,s2];simpa using hk) k2,?_,?_,fun hlt=> ?_⟩
   ·rw[hPd,←Nat.mul_assoc];generalize kept*2 ^ (g-52)=y at*;have hz:2*y*4503599627370496≤mag*9007199254740993:=by omega
    have:=Nat.mul_le_mul_right (2 ^ P) hz;generalize 2 ^ P=z at*;rw[re_two y z _ _ (show 2*4503599627370496=9007199254740992 from rfl),Nat.mul_right_comm mag]at this;exact this
   ·rw[hPd,←Nat.mul_assoc];generalize kept*2 ^ (g-52)=y at*;have hz:mag*9007199254740991≤y*9007199254740992:=by omega
    have:=Nat.mul_le_mul_right (2 ^ P) hz;generalize 2 ^ P=z at*;rw[Nat.mul_right_comm y,Nat.mul_right_comm mag]at this;exact this
   ·have:2 ^ 53≤2 ^ g:=Nat.pow_le_pow_right (by decide) (by omega);omega
 obtain ⟨kept,k1,k2,hr,h1,h2,h3⟩:=key;rw[hr,FV_mk L kept k1 k2];have hex:2 ^ L*2 ^ (T-1074)=2 ^ (P+g-52):=pow_split (by omega);rw[Nat.mul_assoc kept,hex];exact ⟨by unfold INF;omega,h1,h2,h3⟩
theorem nearest_le (mag:Nat) (place:Int):double.nearest false mag place≤INF:=by
 unfold Format.nearest
 split
 ·rw[word_false];exact Nat.zero_le _
 ·dsimp only;rw[c_inf,word_false];exact Nat.min_le_right _ _
def kU:Nat:=1074
theorem kU_eq:kU=1074:=rfl
theorem mul_eq {a b m ua n ub:Nat} (ha:double.read a= .number false m ((ua:Int)-1074)) (hb:double.read b= .number false n ((ub:Int)-1074)):
 floatBits .mul .f64 a b=some (double.nearest false (m*n) (((ua+ub:Nat):Int)-(kU+kU:Nat))):=by
 have hk:=kU_eq
 show double.mul a b=_
 unfold Format.mul;rw[ha,hb]
 show some (double.nearest (false ^^ false) (m*n) ((ua:Int)-1074+((ub:Int)-1074)))=_
 have e:(ua:Int)-1074+((ub:Int)-1074)=((ua+ub:Nat):Int)-(kU+kU:Nat):=by omega
 rw[e];rfl
theorem mul_some {a b:Nat} (ha:a≤INF) (hb:b<INF) (hb0:0<FV b):∃r,floatBits .mul .f64 a b=some r∧r≤INF:=by
 obtain ⟨n,ub,hrb,hvb⟩:=read_pos b hb;rcases Nat.lt_or_eq_of_le ha with h|rfl
 ·obtain ⟨m,ua,hra,hva⟩:=read_pos a h;exact ⟨_,mul_eq hra hrb,nearest_le _ _⟩
 ·have hn:n≠0:=by rintro rfl;rw[Nat.zero_mul]at hvb;omega
  refine ⟨INF,?_,Nat.le_refl _⟩
  show double.mul INF b=_
  unfold Format.mul;rw[read_inf,hrb]
  show (if n=0 then none else some (Datum.infinity (false ^^ false))).map double.write=_
  rw[if_neg hn]
  show some (double.word false double.infRung)=_
  rw[word_false,c_inf]
theorem div_eq {a b m ua n ub:Nat} (ha:double.read a= .number false m ((ua:Int)-1074)) (hb:double.read b= .number false n ((ub:Int)-1074)) (hn:n≠0):
 floatBits .quo .f64 a b=some (double.nearest false (2*(m <<< (54+n.log2-m.log2) / n)+(m <<< (54+n.log2-m.log2) % n != 0).toNat) (((ua+kU:Nat):Int)-((ub+(54+n.log2-m.log2)+kU+1:Nat):Int))):=by
 have hk:=kU_eq
 show double.div a b=_
 unfold Format.div;rw[ha,hb];unfold Datum.quotient;dsimp only;rw[if_neg hn]
 show some (double.nearest (false ^^ false) (2*(m <<< (54+n.log2-m.log2) / n)+(m <<< (54+n.log2-m.log2) % n != 0).toNat) ((ua:Int)-1074-((ub:Int)-1074)-((54+n.log2-m.log2:Nat):Int)-1))=_
 have e:(ua:Int)-1074-((ub:Int)-1074)-((54+n.log2-m.log2:Nat):Int)-1=((ua+kU:Nat):Int)-((ub+(54+n.log2-m.log2)+kU+1:Nat):Int):=by omega
 rw[e];rfl
theorem div_some {a b:Nat} (ha:a≤INF) (hb:b<INF) (hb0:0<FV b):∃r,floatBits .quo .f64 a b=some r∧r≤INF:=by
 obtain ⟨n,ub,hrb,hvb⟩:=read_pos b hb;have hn:n≠0:=by rintro rfl;rw[Nat.zero_mul]at hvb;omega
 rcases Nat.lt_or_eq_of_le ha with h|rfl
 ·obtain ⟨m,ua,hra,hva⟩:=read_pos a h;exact ⟨_,div_eq hra hrb hn,nearest_le _ _⟩
 ·refine ⟨INF,?_,Nat.le_refl _⟩
  show double.div INF b=_
  unfold Format.div;rw[read_inf,hrb]
  show some (double.word (false ^^ false) double.infRung)=_
  show some (double.word false double.infRung)=_
  rw[word_false,c_inf]
theorem p4 (n a b c:Nat):4*(n*2 ^ a*2 ^ b*2 ^ c)=2 ^ (2+a+b+c)*n:=by
 rw[Nat.pow_add,Nat.pow_add,Nat.pow_add,show (2:Nat) ^ 2=4 from rfl]
 ac_rfl
theorem ofU_FV {m:Nat} (h:m<9007199254740992):floatOfInt .f64 (m:Int)<INF∧FV (floatOfInt .f64 (m:Int))=m*2 ^ kU:=by
 have hk:=kU_eq;have e:floatOfInt .f64 (m:Int)=double.nearest false m 0:=by
  show double.nearest (decide ((m:Int)<0)) m 0=_
  rw[dF (by omega)]
 rw[e];by_cases h0:m=0
 ·subst h0;have:double.nearest false 0 0=0:=by
   unfold Format.nearest;rw[if_pos rfl,word_false]
  rw[this];exact ⟨by decide,by unfold FV;rw[if_pos (by decide),Nat.zero_mul]⟩
 ·have lo:2 ^ (kU-1022)≤m*2 ^ kU:=Nat.le_trans (Nat.pow_le_pow_right (by decide) (by omega)) (Nat.le_mul_of_pos_left _ (by omega));have hi:m*2 ^ kU<2 ^ (kU+1023):=by
   have h1:m*2 ^ kU<2 ^ 53*2 ^ kU:=Nat.mul_lt_mul_of_pos_right h (Nat.two_pow_pos _);rw[←Nat.pow_add]at h1;exact Nat.lt_of_lt_of_le h1 (Nat.pow_le_pow_right (by decide) (by omega))
  obtain ⟨h1,_,_,h4⟩:=nearest_near m 0 kU kU (by omega) (by omega) lo hi;have h5:=h4 h;rw[show kU-1074=0 by omega,Nat.pow_zero,Nat.mul_one]at h5;exact ⟨h1,h5⟩
def tenW:Nat→Nat
 |0=>4607182418800017408
 |k+1=>(floatBits .mul .f64 (tenW k) 4621819117588971520).getD 0
theorem tenW_ok:∀k,k<23→tenW k<INF∧FV (tenW k)=10 ^ k*2 ^ kU∧(floatBits .mul .f64 (tenW k) 4621819117588971520=some (tenW (k+1))):=by
 decide+kernel
def scW (m:Nat) (k:Int):Nat:=
 if 0≤k then (floatBits .mul .f64 (floatOfInt .f64 (m:Int)) (tenW k.toNat)).getD 0 else (floatBits .quo .f64 (floatOfInt .f64 (m:Int)) (tenW (-k).toNat)).getD 0
theorem ten_pos {k:Nat} (h:k<23):0<FV (tenW k):=by
 rw[(tenW_ok k h).2.1];exact Nat.mul_pos (Nat.pow_pos (by decide)) (Nat.two_pow_pos _)
theorem sc_mul {m:Nat} {k:Int} (hm:m<1000000000000000) (h0:0≤k) (hk:k≤22):floatBits .mul .f64 (floatOfInt .f64 (m:Int)) (tenW k.toNat)=some (scW m k)∧scW m k≤INF:=by
 obtain ⟨r,h1,h2⟩:=mul_some (Nat.le_of_lt (ofU_FV (show m<9007199254740992 by omega)).1) (tenW_ok k.toNat (by omega)).1 (ten_pos (by omega));unfold scW;rw[if_pos h0,h1];exact ⟨rfl,h2⟩
theorem sc_div {m:Nat} {k:Int} (hm:m<1000000000000000) (h0:¬0≤k) (hk: -22≤k):floatBits .quo .f64 (floatOfInt .f64 (m:Int)) (tenW (-k).toNat)=some (scW m k)∧scW m k≤INF:=by
 obtain ⟨r,h1,h2⟩:=div_some (Nat.le_of_lt (ofU_FV (show m<9007199254740992 by omega)).1) (tenW_ok (-k).toNat (by omega)).1 (ten_pos (by omega));unfold scW;rw[if_neg h0,h1];exact ⟨rfl,h2⟩
theorem pw {a b:Nat} (h:a≤b):2 ^ a≤2 ^ b:=Nat.pow_le_pow_right (by decide) h
end Go.Proofs.YtfenoaeoedobmaaGreatDoor
namespace Go.Proofs.YtfenoaeoedobmaaGreatDoor
open Go Go.RowKit
theorem mul_run {a b r:Nat} (h:floatBits .mul .f64 a b=some r):∀t w,(binOp .mul t (.float .f64 a) (.float .f64 b)).run Tryz.prog w= .ok (.float .f64 r) w:=fun t w=>run_float_arith w .mul t .f64 a b r h
theorem quo_run {a b r:Nat} (h:floatBits .quo .f64 a b=some r):∀t w,(binOp .quo t (.float .f64 a) (.float .f64 b)).run Tryz.prog w= .ok (.float .f64 r) w:=fun t w=>run_float_arith w .quo t .f64 a b r h
theorem ten_walk (w:World) (k:Nat) (hk:k<23):Calls Tryz.prog 155 #[.int .i64 k] w fun e w'=>e= .returned (.float .f64 (tenW k))∧w'=w:=by
 have Hk:=hid hk;go_enter Tryz.func155,Tryz.ntmps155;go_wp2
 go_loop [3,5] (fun x i=>∃j:Nat,i= .int .i64 j∧j≤k∧x= .float .f64 (tenW j)) (fun _ i=>k-(intOf i).toNat)
 case atStart=>exact ⟨0,rfl,Nat.zero_le _,rfl⟩
 case round=>
  obtain ⟨j,rfl,hj,rfl⟩:=hrel;by_cases hlt:j<k
  ·have hop:=mul_run (tenW_ok j (by have:=Hk.out;omega)).2.2;go_wp2;go_round
   case rel=>exact ⟨j+1,by go_num,by omega,rfl⟩
   case measure=>simp[intOf];omega
  ·obtain rfl:j=k:=by omega
   go_wp2;go_ret;exact ⟨rfl,rfl⟩
def Bad (m:Nat) (k:Int):Prop:=1000000000000000≤m∨k< -22∨22<k
instance (m:Nat) (k:Int):Decidable (Bad m k):=inferInstanceAs (Decidable (_∨_∨_))
def scR (m:Nat) (k:Int):Nat:=if Bad m k then 0 else scW m k
def scE (m:Nat) (k:Int):Int:=if Bad m k then 2 else 0
theorem scaled_walk (w:World) (m:Nat) (k:Int):Calls Tryz.prog 118 #[.int .u64 m,.int .i64 k] w fun e w'=>e= .returned (.tuple #[.float .f64 (scR m k),.int .i64 (scE m k)])∧w'=w:=by
 unfold scR scE;by_cases hb:Bad m k
 ·rw[if_pos hb,if_pos hb];by_cases h1:(1000000000000000:Int)≤(m:Int)
  ·clear hb;go_enter Tryz.func118,Tryz.ntmps118;go_wp2
   go_ret2
   exact ⟨rfl,rfl⟩
  ·by_cases h2:k< -22
   ·clear hb;go_enter Tryz.func118,Tryz.ntmps118;go_wp2
    go_ret2
    exact ⟨rfl,rfl⟩
   ·have h3:22<k:=by unfold Bad at hb;omega
    clear hb;go_enter Tryz.func118,Tryz.ntmps118;go_wp2
    go_ret2
    exact ⟨rfl,rfl⟩
 ·rw[if_neg hb,if_neg hb];have h1:¬(1000000000000000:Int)≤(m:Int):=by unfold Bad at hb;omega
  have h2:¬k< -22:=by unfold Bad at hb;omega
  have h3:¬22<k:=by unfold Bad at hb;omega
  have hm:m<1000000000000000:=by omega
  by_cases h0:0≤k
  ·obtain ⟨kn,rfl⟩:∃kn:Nat,k=(kn:Int):=⟨k.toNat,by omega⟩;have hop:=mul_run (sc_mul hm h0 (by omega)).1;have Ht:=hid (ten_walk w kn (by omega));rw[show ((kn:Int)).toNat=kn by omega]at hop;clear hb hm;go_enter Tryz.func118,Tryz.ntmps118
   go_wp2_with fail
   refine Ht.out.mono ?_;rintro e w' ⟨rfl,rfl⟩;go_wp2
   go_ret2
   exact ⟨rfl,rfl⟩
  ·obtain ⟨kn,hkn⟩:∃kn:Nat,-k=(kn:Int):=⟨(-k).toNat,by omega⟩;have hop:=quo_run (sc_div hm h0 (by omega)).1;have Ht:=hid (ten_walk w kn (by omega));rw[show (-k).toNat=kn by omega]at hop;rw[←hkn]at Ht;clear hb hm hkn;go_enter Tryz.func118,Tryz.ntmps118
   go_wp2_with fail
   refine Ht.out.mono ?_;rintro e w' ⟨rfl,rfl⟩;go_wp2
   go_ret2
   exact ⟨rfl,rfl⟩
theorem refScaled_walk (w:World) (m:Nat) (k:Int):Calls Tryz.prog 129 #[.int .u64 m,.int .i64 k] w fun e w'=>e= .returned (.tuple #[.float .f64 (scR m k),.int .i64 (scE m k)])∧w'=w:=by
 unfold scR scE;by_cases hb:Bad m k
 ·rw[if_pos hb,if_pos hb];by_cases h1:(1000000000000000:Int)≤(m:Int)
  ·clear hb;go_enter Tryz.func129,Tryz.ntmps129;go_wp2
   go_ret2
   exact ⟨rfl,rfl⟩
  ·by_cases h2:k< -22
   ·clear hb;go_enter Tryz.func129,Tryz.ntmps129;go_wp2
    go_ret2
    exact ⟨rfl,rfl⟩
   ·have h3:22<k:=by unfold Bad at hb;omega
    clear hb;go_enter Tryz.func129,Tryz.ntmps129;go_wp2
    go_ret2
    exact ⟨rfl,rfl⟩
 ·rw[if_neg hb,if_neg hb];have h1:¬(1000000000000000:Int)≤(m:Int):=by unfold Bad at hb;omega
  have h2:¬k< -22:=by unfold Bad at hb;omega
  have h3:¬22<k:=by unfold Bad at hb;omega
  have hm:m<1000000000000000:=by omega
  by_cases h0:0≤k
  ·obtain ⟨kn,rfl⟩:∃kn:Nat,k=(kn:Int):=⟨k.toNat,by omega⟩;have hop:=hid (mul_run (sc_mul hm h0 (by omega)).1);clear hb hm;go_enter Tryz.func129,Tryz.ntmps129;go_wp2
   go_loopw [6,8] (fun x i wr=>∃j:Nat,i= .int .i64 j∧j≤kn∧x= .float .f64 (tenW j)∧w=wr) (fun _ i _=>kn-(intOf i).toNat)
   case atStart=>exact ⟨0,rfl,Nat.zero_le _,rfl,rfl⟩
   case round=>
    obtain ⟨j,rfl,hj,rfl,rfl⟩:=hrel;by_cases hlt:j<kn
    ·have hop2:=mul_run (tenW_ok j (by omega)).2.2;go_wp2;go_roundw
     case rel=>exact ⟨j+1,by go_num,by omega,rfl,by first|rfl|trivial⟩
     case measure=>simp[intOf];omega
    ·obtain rfl:j=kn:=by omega
     go_wp2
     go_loopw [9] (fun i wr=>i= .int .i64 j∧w=wr) (fun _ _=>0)
     case atStart=>exact ⟨rfl,rfl⟩
     case round=>
      obtain ⟨rfl,rfl⟩:=hrel;have hop3:=hop.out;rw[show ((j:Int)).toNat=j by omega]at hop3;have hneg:¬(j:Int)<0:=by omega
      clear hj hlt h0 h2 h3 h1;go_wp2
      go_ret2
      exact ⟨rfl,rfl⟩
  ·obtain ⟨kn,hkn⟩:∃kn:Nat,k= -(kn:Int):=⟨(-k).toNat,by omega⟩;have hop:=hid (quo_run (sc_div hm h0 (by omega)).1);subst hkn;clear hb hm;go_enter Tryz.func129,Tryz.ntmps129;go_wp2
   go_loopw [8] (fun i wr=>i= .int .i64 0∧w=wr) (fun _ _=>0)
   case atStart=>exact ⟨rfl,rfl⟩
   case round=>
    obtain ⟨rfl,rfl⟩:=hrel;have hneg:¬(0:Int)< -(kn:Int):=by omega
    have hneg2: -(kn:Int)<0:=by omega
    have hk22:kn≤22:=by omega
    clear h0 h1 h2 h3;go_wp2
    go_loopw [7,9] (fun x i wr=>∃j:Nat,i= .int .i64 (-(kn:Int)+(j:Int))∧j≤kn∧x= .float .f64 (tenW j)∧w=wr) (fun _ i _=>(-(intOf i)).toNat)
    case atStart=>exact ⟨0,by simp,Nat.zero_le _,rfl,rfl⟩
    case round=>
     obtain ⟨j,rfl,hj,rfl,rfl⟩:=hrel;by_cases hlt:j<kn
     ·have hop2:=mul_run (tenW_ok j (by omega)).2.2;go_wp2;go_roundw
      case rel=>exact ⟨j+1,by go_num,by omega,rfl,by first|rfl|trivial⟩
      case measure=>simp[intOf];omega
     ·obtain rfl:j=kn:=by omega
      have hop3:=hop.out;rw[show (-(-(j:Int))).toNat=j by omega]at hop3;go_wp2
      go_ret2
      exact ⟨rfl,rfl⟩
end Go.Proofs.YtfenoaeoedobmaaGreatDoor
