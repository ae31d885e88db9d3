/-
Parts of a proof, one behind the other (laid dense by a program of mine: pack.py).
-/
import Derived.Laws.FloatArith
import Derived.Test.YtfenoaeoedobmaaGreatDoorAl01
set_option linter.unusedVariables false
set_option linter.unusedSimpArgs false
namespace Go.Proofs.YtfenoaeoedobmaaGreatDoor
open Go Go.RowKit
def ownL (ns:List Nd) (i k:Nat):List Nat:=
 (List.range i).flatMap fun j=>((ns[j]!).kids.filter fun x=>decide (x=(k:Int))).map fun _=>j
theorem owners_own (ns:List Nd) (k:Nat):owners ns k=ownL ns k k:=rfl
theorem ownL_succ (ns:List Nd) (i k:Nat):ownL ns (i+1) k=ownL ns i k++((ns[i]!).kids.filter fun x=>decide (x=(k:Int))).map fun _=>i:=by
 unfold ownL;rw[List.range_succ,List.flatMap_append];simp
theorem ownL_lt {ns:List Nd} {i k p:Nat} (h:p∈ownL ns i k):p<i:=by
 unfold ownL at h;obtain ⟨j,hj,hp⟩:=List.mem_flatMap.1 h;obtain ⟨_,_,rfl⟩:=List.mem_map.1 hp;exact List.mem_range.1 hj
theorem ownL_grow (ns:List Nd) (k:Nat):∀(m i:Nat),∃r,ownL ns (i+m) k=ownL ns i k++r
 |0,i=>⟨[],by simp⟩
 |m+1,i=>by
  obtain ⟨r,hr⟩:=ownL_grow ns k m i;refine ⟨r++((ns[i+m]!).kids.filter fun x=>decide (x=(k:Int))).map fun _=>i+m,?_⟩;rw[←Nat.add_assoc,ownL_succ,hr,List.append_assoc]
theorem kidsR_spec {ns:List Nd} {kind:Int}:∀{l:List Int} {last:Int} {had:List ByteArray},kidsR ns kind l last had=true→
 (∀x∈l,last<x∧x<(ns.length:Int))∧l.Pairwise (· <·)
 |[],_,_,_=>⟨(fun _ h=>nomatch h),List.Pairwise.nil⟩
 |k::r,last,had,h=>by
  unfold kidsR at h
  split at h
  ·cases h
  ·rename_i h1
   split at h
   ·cases h
   ·obtain ⟨h3,h4⟩:=kidsR_spec h;have h5:last<k∧k<(ns.length:Int):=by omega
    refine ⟨fun x hx=> ?_,List.Pairwise.cons (fun x hx=>(h3 x hx).1) h4⟩;rcases List.mem_cons.1 hx with rfl|hx
    ·exact h5
    ·have:=h3 x hx;omega
theorem set_at (d:List Nat) (a b v:Nat) (h:a≠b):(d.set a v)[b]! =d[b]! :=by
 simp[List.getElem!_eq_getElem?_getD,List.getElem?_set,h]
theorem set_same (d:List Nat) (a v:Nat) (h:a<d.length):(d.set a v)[a]! =v:=by
 simp[List.getElem!_eq_getElem?_getD,List.getElem?_set,h]
def setAll (v:Nat) (l:List Int) (d:List Nat):List Nat:=l.foldl (fun d x=>d.set x.toNat v) d
theorem setAll_len (v:Nat):∀(l:List Int) (d:List Nat),(setAll v l d).length=d.length
 |[],d=>rfl
 |x::r,d=>by
  show (setAll v r (d.set x.toNat v)).length=_
  rw[setAll_len v r,List.length_set]
theorem setAll_out (v:Nat) (k:Nat):∀(l:List Int) (d:List Nat),(∀x∈l,x.toNat≠k)→(setAll v l d)[k]! =d[k]!
 |[],d,_=>rfl
 |x::r,d,h=>by
  show (setAll v r (d.set x.toNat v))[k]! =_
  rw[setAll_out v k r _ fun y hy=>h y (List.mem_cons_of_mem _ hy),set_at _ _ _ _ (h x (List.mem_cons_self ..))]
theorem setAll_in (v:Nat) (k:Nat):∀(l:List Int) (d:List Nat),k<d.length→(∃x∈l,x.toNat=k)→(setAll v l d)[k]! =v
 |[],d,_,⟨x,hx,_⟩=>nomatch hx
 |x::r,d,hk,h=>by
  show (setAll v r (d.set x.toNat v))[k]! =_
  by_cases hr:∃y∈r,y.toNat=k
  ·exact setAll_in v k r _ (by rw[List.length_set];exact hk) hr
  ·rw[setAll_out v k r _ fun y hy he=>hr ⟨y,hy,he⟩];obtain ⟨y,hy,he⟩:=h;rcases List.mem_cons.1 hy with rfl|hy
   ·rw[he];exact set_same _ _ _ hk
   ·exact absurd ⟨y,hy,he⟩ hr
theorem kidsP_eq {ns:List Nd} {kind:Int} {deep:Nat}:∀(l:List Int) (last:Int) (had:List ByteArray) (d:List Nat),0≤last→
 ((kidsR ns kind l last had=true∧∀x∈l,d[x.toNat]! =0)→kidsP ns kind deep l last had d=some (setAll (deep+1) l d))∧
 (¬(kidsR ns kind l last had=true∧∀x∈l,d[x.toNat]! =0)→kidsP ns kind deep l last had d=none)
 |[],last,had,d,_=>⟨fun _=>rfl,fun h=>absurd ⟨rfl,fun _ hx=>nomatch hx⟩ h⟩
 |k::r,last,had,d,h0=>by
  by_cases h1:k≤last∨(ns.length:Int)≤k
  ·have e1:kidsR ns kind (k::r) last had=false:=by unfold kidsR;rw[if_pos h1]
   have e2:kidsP ns kind deep (k::r) last had d=none:=by
    unfold kidsP;rw[if_pos (by rcases h1 with h|h;exact .inl h;exact .inr (.inl h))]
   exact ⟨fun h=>absurd h.1 (by rw[e1];simp),fun _=>e2⟩
  ·by_cases h2:d[k.toNat]! ≠0
   ·have e2:kidsP ns kind deep (k::r) last had d=none:=by
     unfold kidsP;rw[if_pos (.inr (.inr h2))]
    exact ⟨fun h=>absurd (h.2 k (List.mem_cons_self ..)) h2,fun _=>e2⟩
   ·have h3:¬(k≤last∨(ns.length:Int)≤k∨d[k.toNat]! ≠0):=fun h=>by
     rcases h with h|h|h
     ·exact h1 (.inl h)
     ·exact h1 (.inr h)
     ·exact h2 h
    by_cases h4:keyOk kind (ns[k.toNat]!).key had=false
    ·have e1:kidsR ns kind (k::r) last had=false:=by unfold kidsR;rw[if_neg h1,if_pos h4]
     have e2:kidsP ns kind deep (k::r) last had d=none:=by unfold kidsP;rw[if_neg h3,if_pos h4]
     exact ⟨fun h=>absurd h.1 (by rw[e1];simp),fun _=>e2⟩
    ·have e1:kidsR ns kind (k::r) last had=kidsR ns kind r k ((ns[k.toNat]!).key::had):=by rw[kidsR,if_neg h1,if_neg h4]
     have e2:kidsP ns kind deep (k::r) last had d=kidsP ns kind deep r k ((ns[k.toNat]!).key::had) (d.set k.toNat (deep+1)):=by rw[kidsP,if_neg h3,if_neg h4]
     have hk0:0≤k:=by omega
     obtain ⟨i1,i2⟩:=kidsP_eq (ns:=ns) (kind:=kind) (deep:=deep) r k ((ns[k.toNat]!).key::had) (d.set k.toNat (deep+1)) hk0;have he:kidsR ns kind r k ((ns[k.toNat]!).key::had)=true→∀x∈r,(d.set k.toNat (deep+1))[x.toNat]! =d[x.toNat]! :=fun h x hx=>by
      have:=(kidsR_spec h).1 x hx;exact set_at _ _ _ _ (by omega)
     rw[e1,e2];refine ⟨fun h=> ?_,fun h=>i2 fun hh=>h ⟨hh.1,fun x hx=> ?_⟩⟩
     ·rw[i1 ⟨h.1,fun x hx=>by rw[he h.1 x hx];exact h.2 x (List.mem_cons_of_mem _ hx)⟩];rfl
     ·rcases List.mem_cons.1 hx with rfl|hx
      ·exact Decidable.not_not.1 h2
      ·rw[←he hh.1 x hx];exact hh.2 x hx
def dep (ns:List Nd) (k:Nat):Nat:=
 if k=0 then 1
 else
  match owners ns k with
  |[p]=>if h:p<k then dep ns p+1 else 0
  |_=>0
termination_by k
decreasing_by exact h
theorem dep_zero (ns:List Nd):dep ns 0=1:=by rw[dep,if_pos rfl]
theorem dep_one {ns:List Nd} {k p:Nat} (hk:1≤k) (h:owners ns k=[p]):dep ns k=dep ns p+1:=by
 have hp:p<k:=ownL_lt (i:=k) (k:=k) (ns:=ns) (by rw[←owners_own,h];exact List.mem_cons_self ..);rw[dep,if_neg (by omega),h];simp only;rw[dif_pos hp]
structure Good (ns:List Nd):Prop where
 node:∀j,j<ns.length→nodeR ns j (ns[j]!)=true
 one:∀j,1≤j→j<ns.length→∃p,owners ns j=[p]
 deep:∀j,j<ns.length→dep ns j≤16
structure TInv (ns:List Nd) (i:Nat) (d:List Nat):Prop where
 len:d.length=ns.length
 zero:d[0]! =1
 had:∀k p,1≤k→k<ns.length→ownL ns i k=[p]→d[k]! =dep ns p+1
 nil:∀k,1≤k→k<ns.length→ownL ns i k=[]→d[k]! =0
 few:∀k,1≤k→k<ns.length→ownL ns i k=[]∨∃p,ownL ns i k=[p]
 node:∀j,j<i→nodeR ns j (ns[j]!)=true
 one:∀j,1≤j→j<i→∃p,owners ns j=[p]
 deep:∀j,j<i→dep ns j≤16
theorem filter_one {k:Int}:∀{l:List Int},l.Pairwise (· <·)→k∈l→l.filter (fun x=>decide (x=k))=[k]
 |[],_,h=>nomatch h
 |x::r,hp,h=>by
  obtain ⟨h1,h2⟩:=List.pairwise_cons.1 hp;by_cases e:x=k
  ·subst e;rw[List.filter_cons,if_pos (by simp)];rw[List.filter_eq_nil_iff.2 fun y hy=>by have:=h1 y hy;simp;omega]
  ·rw[List.filter_cons,if_neg (by simp[e])];rcases List.mem_cons.1 h with rfl|h
   ·exact absurd rfl e
   ·exact filter_one h2 h
theorem filter_not {k:Int} {l:List Int} (h:¬k∈l):l.filter (fun x=>decide (x=k))=[]:=
 List.filter_eq_nil_iff.2 fun y hy=>by
  simp;rintro rfl;exact h hy
theorem TInv.first (ns:List Nd) (h:ns≠[]):TInv ns 0 (1::List.replicate (ns.length-1) 0):=by
 have hl:0<ns.length:=List.length_pos_iff.2 h;refine ⟨by simp;omega,rfl,fun k p h1 h2 e=>by simp[ownL]at e,fun k h1 h2 _=> ?_,fun k _ _=> .inl (by simp[ownL]),fun j hj=>absurd hj (Nat.not_lt_zero _),fun j _ hj=>absurd hj (Nat.not_lt_zero _),fun j hj=>absurd hj (Nat.not_lt_zero _)⟩;obtain ⟨m,rfl⟩:∃m,k=m+1:=⟨k-1,by omega⟩;rw[List.getElem!_eq_getElem?_getD,List.getElem?_cons_succ,List.getElem?_replicate]
 split<;>rfl
theorem TInv.next {ns:List Nd} {i:Nat} {d d':List Nat} (h:TInv ns i d) (hi:i<ns.length) (hn:nodeR ns i (ns[i]!)=true) (h1:1≤i→∃p,owners ns i=[p]) (h2:dep ns i≤16) (hd:d[i]! =dep ns i)
 (hlen:d'.length=d.length) (hk:∀x∈(ns[i]!).kids,(i:Int)<x∧d[x.toNat]! =0) (hp:(ns[i]!).kids.Pairwise (· <·))
 (hin:∀k:Nat,k<ns.length→(k:Int)∈(ns[i]!).kids→d'[k]! =dep ns i+1) (hout:∀k:Nat,¬(k:Int)∈(ns[i]!).kids→d'[k]! =d[k]!):TInv ns (i+1) d':=by
 have hE:∀k:Nat,1≤k→k<ns.length→(k:Int)∈(ns[i]!).kids→ownL ns (i+1) k=[i]:=fun k hk1 hk2 hm=>by
  have h0:=(hk _ hm).2;rw[Int.toNat_natCast]at h0;have he:ownL ns i k=[]:=by
   rcases h.few k hk1 hk2 with e|⟨p,e⟩
   ·exact e
   ·have:=h.had k p hk1 hk2 e;omega
  rw[ownL_succ,he,filter_one hp hm];rfl
 have hN:∀k:Nat,¬(k:Int)∈(ns[i]!).kids→ownL ns (i+1) k=ownL ns i k:=fun k hm=>by
  rw[ownL_succ,filter_not hm];simp
 have hz:¬((0:Nat):Int)∈(ns[i]!).kids:=fun hm=>by
  have:=(hk _ hm).1;omega
 refine ⟨hlen.trans h.len,(hout 0 hz).trans h.zero,fun k p hk1 hk2 e=> ?_,fun k hk1 hk2 e=> ?_,fun k hk1 hk2=> ?_,fun j hj=> ?_,fun j hj1 hj=> ?_,fun j hj=> ?_⟩
 ·by_cases hm:(k:Int)∈(ns[i]!).kids
  ·rw[hE k hk1 hk2 hm]at e;obtain rfl:i=p:=by simpa using e
   exact hin k hk2 hm
  ·rw[hN k hm]at e;rw[hout k hm];exact h.had k p hk1 hk2 e
 ·by_cases hm:(k:Int)∈(ns[i]!).kids
  ·rw[hE k hk1 hk2 hm]at e;cases e
  ·rw[hN k hm]at e;rw[hout k hm];exact h.nil k hk1 hk2 e
 ·by_cases hm:(k:Int)∈(ns[i]!).kids
  ·exact .inr ⟨i,hE k hk1 hk2 hm⟩
  ·rw[hN k hm];exact h.few k hk1 hk2
 ·rcases Nat.lt_succ_iff_lt_or_eq.1 hj with g|rfl
  ·exact h.node j g
  ·exact hn
 ·rcases Nat.lt_succ_iff_lt_or_eq.1 hj with g|rfl
  ·exact h.one j hj1 g
  ·exact h1 hj1
 ·rcases Nat.lt_succ_iff_lt_or_eq.1 hj with g|rfl
  ·exact h.deep j g
  ·exact h2
theorem scalar_kids {n:Nd} (h:scalarOk n=true):n.kids=[]:=by
 unfold scalarOk at h;rw[Bool.and_eq_true]at h;exact of_decide_eq_true h.1
theorem nodeP_step {ns:List Nd} {i:Nat} {d:List Nat} (h:TInv ns i d) (hi:i<ns.length):
 (nodeP ns i (ns[i]!) d=none→¬Good ns)∧∀d',nodeP ns i (ns[i]!) d=some d'→TInv ns (i+1) d':=by
 have hT:d[i]! =0∨16<d[i]! →¬Good ns:=fun ht hg=>by
  rcases Nat.eq_zero_or_pos i with h0|h0
  ·subst h0;have:=h.zero;omega
  ·obtain ⟨p,hp⟩:=hg.one i h0 hi;have e:=h.had i p h0 hi hp;have hd:=hg.deep i hi;rw[dep_one h0 hp]at hd;omega
 by_cases ht:d[i]! =0∨16<d[i]!
 ·have e:nodeP ns i (ns[i]!) d=none:=by unfold nodeP;rw[if_pos ht]
  exact ⟨fun _=>hT ht,fun d' hd=>by rw[e]at hd;cases hd⟩
 ·have hdep:d[i]! =dep ns i:=by
   rcases Nat.eq_zero_or_pos i with h0|h0
   ·subst h0;rw[dep_zero];exact h.zero
   ·rcases h.few i h0 hi with e|⟨p,e⟩
    ·have:=h.nil i h0 hi e;omega
    ·rw[h.had i p h0 hi e,dep_one h0 e]
  have hone:1≤i→∃p,owners ns i=[p]:=fun h0=>by
   rcases h.few i h0 hi with e|⟨p,e⟩
   ·have:=h.nil i h0 hi e;omega
   ·exact ⟨p,e⟩
  have h16:dep ns i≤16:=by omega
  by_cases hk:(ns[i]!).kind=1
  ·by_cases hs:scalarOk (ns[i]!)=true
   ·have e:nodeP ns i (ns[i]!) d=some d:=by unfold nodeP;rw[if_neg ht,if_pos hk,if_pos hs]
    have hkd:=scalar_kids hs;refine ⟨(fun hh=>by rw[e]at hh;cases hh),fun d' hd=> ?_⟩;rw[e]at hd;obtain rfl:=Option.some.inj hd;refine h.next hi ?_ hone h16 hdep rfl (fun x hx=>by rw[hkd]at hx;cases hx) (by rw[hkd];exact List.Pairwise.nil) (fun k _ hm=>by rw[hkd]at hm;cases hm) (fun _ _=>rfl);unfold nodeR;rw[if_neg (by omega),if_neg (fun hh=>hh.2 hs),if_neg (by omega)]
   ·have e:nodeP ns i (ns[i]!) d=none:=by unfold nodeP;rw[if_neg ht,if_pos hk,if_neg hs]
    refine ⟨fun _ hg=> ?_,fun d' hd=>by rw[e]at hd;cases hd⟩;have hn:=hg.node i hi;unfold nodeR at hn;rw[if_neg (by omega),if_pos ⟨hk,hs⟩]at hn;cases hn
  ·by_cases hb:((ns[i]!).kind≠2∧(ns[i]!).kind≠3)∨(ns[i]!).kids=[]∨(ns[i]!).text≠⟨#[]⟩∨(ns[i]!).quoted=true
   ·have e:nodeP ns i (ns[i]!) d=none:=by unfold nodeP;rw[if_neg ht,if_neg hk,if_pos hb]
    refine ⟨fun _ hg=> ?_,fun d' hd=>by rw[e]at hd;cases hd⟩;have hn:=hg.node i hi;unfold nodeR at hn;by_cases hr:(ns[i]!).kind<1∨3<(ns[i]!).kind
    ·rw[if_pos hr]at hn;cases hn
    ·rw[if_neg hr,if_neg (fun hh=>hk hh.1),if_pos ⟨by omega,by
      rcases hb with hb|hb|hb|hb
      ·omega
      ·exact .inl hb
      ·exact .inr (.inl hb)
      ·exact .inr (.inr (.inl hb))⟩]at hn
     cases hn
   ·have e:nodeP ns i (ns[i]!) d=kidsP ns (ns[i]!).kind d[i]! (ns[i]!).kids (i:Int) [] d:=by unfold nodeP;rw[if_neg ht,if_neg hk,if_neg hb]
    obtain ⟨i1,i2⟩:=kidsP_eq (ns:=ns) (kind:=(ns[i]!).kind) (deep:=d[i]!) (ns[i]!).kids (i:Int) [] d (Int.natCast_nonneg _);rw[e];have hkd:(ns[i]!).kind=2∨(ns[i]!).kind=3:=by
     rcases Decidable.em ((ns[i]!).kind=2) with g|g
     ·exact .inl g
     ·rcases Decidable.em ((ns[i]!).kind=3) with g2|g2
      ·exact .inr g2
      ·exact absurd (.inl ⟨g,g2⟩) hb
    have hnR:nodeR ns i (ns[i]!)=kidsR ns (ns[i]!).kind (ns[i]!).kids (i:Int) []:=by
     unfold nodeR;rw[if_neg (by omega),if_neg (fun hh=>hk hh.1)];cases hq:kidsR ns (ns[i]!).kind (ns[i]!).kids (i:Int) [] with
     |true=>rw[if_neg];rintro ⟨_,g|g|g|g⟩<;>first|exact g rfl|exact hb (.inr (.inl g))|exact hb (.inr (.inr (.inl g)))|exact hb (.inr (.inr (.inr g)))
     |false=>rw[if_pos ⟨by omega,.inr (.inr (.inr (by simp)))⟩]
    by_cases hc:kidsR ns (ns[i]!).kind (ns[i]!).kids (i:Int) []=true∧∀x∈(ns[i]!).kids,d[x.toNat]! =0
    ·rw[i1 hc];refine ⟨(fun hh=>by cases hh),fun d' hd=> ?_⟩;obtain rfl:=Option.some.inj hd;obtain ⟨s1,s2⟩:=kidsR_spec hc.1;refine h.next hi (hnR.trans hc.1) hone h16 hdep (setAll_len _ _ _) (fun x hx=>⟨(s1 x hx).1,hc.2 x hx⟩) s2 (fun k hk2 hm=> ?_) (fun k hm=> ?_)
     ·rw[←hdep];exact setAll_in _ k _ _ (by rw[h.len];exact hk2) ⟨_,hm,Int.toNat_natCast _⟩
     ·refine setAll_out _ k _ _ fun x hx he=>hm ?_;have:=(s1 x hx).1;have e2:(k:Int)=x:=by omega
      rw[e2];exact hx
    ·rw[i2 hc];refine ⟨fun _ hg=>hc ⟨hnR ▸ hg.node i hi,fun x hx=> ?_⟩,fun d' hd=>by cases hd⟩;have hkR:kidsR ns (ns[i]!).kind (ns[i]!).kids (i:Int) []=true:=hnR ▸ hg.node i hi;obtain ⟨s1,s2⟩:=kidsR_spec hkR;have hx1:=s1 x hx;obtain ⟨k,rfl⟩:∃k:Nat,x=(k:Int):=⟨x.toNat,by omega⟩;rw[Int.toNat_natCast];rcases h.few k (by omega) (by omega) with e0|⟨p,e0⟩
     ·exact h.nil k (by omega) (by omega) e0
     ·exfalso
      obtain ⟨q,hq⟩:=hg.one k (by omega) (by omega);obtain ⟨r,hr⟩:=ownL_grow ns k (k-(i+1)) (i+1);rw[show i+1+(k-(i+1))=k from by omega,←owners_own,hq,ownL_succ,e0,filter_one s2 hx]at hr;simp at hr
theorem restP_good {ns:List Nd}:∀(r:List Nd) (i:Nat) (d:List Nat),ns.drop i=r→i≤ns.length→TInv ns i d→(restP ns r i d=true↔Good ns)
 |[],i,d,hr,hi,h=>by
  have hl:i=ns.length:=by
   have:=congrArg List.length hr;simp at this;omega
  subst hl;exact ⟨fun _=>⟨h.node,h.one,h.deep⟩,fun _=>rfl⟩
 |n::r,i,d,hr,hi,h=>by
  have hlt:i<ns.length:=by
   have:=congrArg List.length hr;simp at this;omega
  have hn:ns[i]! =n:=by
   have e:(ns.drop i)[0]? =some n:=by rw[hr];rfl
   rw[List.getElem?_drop]at e;rw[List.getElem!_eq_getElem?_getD]
   simpa using congrArg (fun o=>o.getD default) e
  have hd:ns.drop (i+1)=r:=by
   rw[←List.drop_drop,hr];rfl
  obtain ⟨h1,h2⟩:=nodeP_step h hlt;rw[hn]at h1 h2;unfold restP;cases hp:nodeP ns i n d with
  |none=>exact ⟨fun hh=>by simp at hh,fun hg=>absurd hg (h1 hp)⟩
  |some d'=>exact restP_good r (i+1) d' hd hlt (h2 d' hp)
theorem treeP_iff (ns:List Nd):treeP ns=true↔(ns≠[]∧ns.length≤4096∧(ns[0]!).key=⟨#[]⟩)∧Good ns:=by
 unfold treeP;rw[Bool.and_eq_true,decide_eq_true_eq];refine and_congr_right fun h=> ?_;exact restP_good ns 0 _ (by simp) (Nat.zero_le _) (TInv.first ns h.1)
end Go.Proofs.YtfenoaeoedobmaaGreatDoor
namespace Go.Proofs.YtfenoaeoedobmaaGreatDoor
open Go Ieee
def FV (r:Nat):Nat:=if r<4503599627370496 then r else (4503599627370496+r % 4503599627370496)*2 ^ (r / 4503599627370496-1)
abbrev INF:Nat:=9218868437227405312
theorem c_sign:double.signWeight=9223372036854775808:=by decide+kernel
theorem c_bin:double.binade=4503599627370496:=by decide+kernel
theorem c_inf:double.infRung=INF:=by decide+kernel
theorem c_least:double.leastPlace= -1074:=by decide+kernel
theorem c_frac:double.fractionBits=52:=rfl
theorem read_pos (r:Nat) (h:r<INF):∃mag up:Nat,double.read r= .number false mag ((up:Int)-1074)∧FV r=mag*2 ^ up:=by
 unfold INF at h;have h1:(r / 9223372036854775808 % 2==1)=false:=by
  have:r / 9223372036854775808=0:=Nat.div_eq_of_lt (by omega);rw[this];rfl
 have h2:r % 9223372036854775808=r:=Nat.mod_eq_of_lt (by omega);unfold Format.read FV;simp only[c_sign,c_bin,c_inf,c_least,h1,h2,INF];by_cases hb:r<4503599627370496
 ·rw[if_pos hb,if_pos hb];exact ⟨r,0,by simp,by simp⟩
 ·rw[if_neg hb,if_neg hb,if_pos h];exact ⟨_,r / 4503599627370496-1,by simp only[Datum.number.injEq,true_and];omega,rfl⟩
theorem read_inf:double.read INF= .infinity false:=by decide+kernel
theorem word_false (r:Nat):double.word false r=r:=by
 unfold Format.word;rw[if_neg (by decide)]
theorem re_two (y z c d:Nat) (h:2*c=d):2*y*c*z=y*z*d:=by
 subst h;simp only[Nat.mul_assoc,Nat.mul_comm,Nat.mul_left_comm]
theorem FV_mk (L kept:Nat) (h1:4503599627370496≤kept) (h2:kept≤9007199254740992):FV (L*4503599627370496+kept)=kept*2 ^ L:=by
 unfold FV;rw[if_neg (by omega)];by_cases h:kept=9007199254740992
 ·subst h;have e1:(L*4503599627370496+9007199254740992) % 4503599627370496=0:=by omega
  have e2:(L*4503599627370496+9007199254740992) / 4503599627370496-1=L+1:=by omega
  rw[e1,e2,Nat.pow_succ];omega
 ·have e1:(L*4503599627370496+kept) % 4503599627370496=kept-4503599627370496:=by omega
  have e2:(L*4503599627370496+kept) / 4503599627370496-1=L:=by omega
  rw[e1,e2];have e3:4503599627370496+(kept-4503599627370496)=kept:=by omega
  rw[e3]
theorem pow_split {a b c:Nat} (h:a+b=c):2 ^ a*2 ^ b=2 ^ c:=by rw[←h,Nat.pow_add]
theorem lt_of_pow_lt {a b:Nat} (h:2 ^ a<2 ^ b):a<b:=(Nat.pow_lt_pow_iff_right (by decide:1<2)).1 h
theorem cut_even (n d:Nat) (hd:d≤n.log2+2):2*(Toward.even.cut false n d*2 ^ d)≤2*n+2 ^ d∧2*n≤2*(Toward.even.cut false n d*2 ^ d)+2 ^ d:=by
 have hmin:min d (n.log2+2)=d:=Nat.min_eq_left hd;unfold Toward.cut;simp only[hmin,Nat.one_shiftLeft];have hg:0<2 ^ d:=Nat.two_pow_pos _;generalize 2 ^ d=g at*;have h1:=Nat.div_add_mod n g;have h2:=Nat.mod_lt n hg;generalize n / g=q at*;generalize n % g=s at*;have e:∀b:Bool,(q+b.toNat)*g=g*q+b.toNat*g:=fun b=>by rw[Nat.add_mul,Nat.mul_comm q g]
 rw[e];by_cases hlt:g<2*s
 ·have:(decide (g<2*s)||(g==2*s&&q % 2==1))=true:=by simp[hlt]
  rw[this];simp only[Bool.toNat_true];omega
 ·by_cases heq:g=2*s
  ·cases hb:(decide (g<2*s)||(g==2*s&&q % 2==1)) with
   |true=>simp only[Bool.toNat_true];omega
   |false=>simp only[Bool.toNat_false];omega
  ·have:(decide (g<2*s)||(g==2*s&&q % 2==1))=false:=by simp[hlt,heq]
   rw[this];simp only[Bool.toNat_false];omega
theorem cut_zero_drop (n:Nat):Toward.even.cut false n 0=n:=by
 have:=cut_even n 0 (by omega);simp at this;omega
theorem nearest_near (mag:Nat) (place:Int) (T P:Nat) (hP:place=(P:Int)-T) (hT:1074≤T) (lo:2 ^ (T-1022)≤mag*2 ^ P) (hi:mag*2 ^ P<2 ^ (T+1023)):
 double.nearest false mag place<INF∧FV (double.nearest false mag place)*2 ^ (T-1074)*9007199254740992≤mag*2 ^ P*9007199254740993∧
  mag*2 ^ P*9007199254740991≤FV (double.nearest false mag place)*2 ^ (T-1074)*9007199254740992∧
  (mag<9007199254740992→FV (double.nearest false mag place)*2 ^ (T-1074)=mag*2 ^ P):=by
 have hm:mag≠0:=by
  rintro rfl;have:=Nat.two_pow_pos (T-1022);omega
 obtain ⟨g,hgd⟩:∃g,g=mag.log2:=⟨_,rfl⟩;have hg1:2 ^ g≤mag:=by rw[hgd];exact Nat.log2_self_le hm
 have hg2:mag<2 ^ (g+1):=by rw[hgd];exact Nat.lt_log2_self
 have hPpos:0<2 ^ P:=Nat.two_pow_pos _;have ea:T-1022<g+1+P:=lt_of_pow_lt (Nat.lt_of_le_of_lt lo (by rw[Nat.pow_add];exact Nat.mul_lt_mul_of_pos_right hg2 hPpos));have eb:g+P<T+1023:=lt_of_pow_lt (Nat.lt_of_le_of_lt (by rw[Nat.pow_add];exact Nat.mul_le_mul_right _ hg1) hi);have hlast:max (place+(mag.log2:Int)-(double.fractionBits:Int)) double.leastPlace=(P:Int)-T+g-52:=by
  rw[c_frac,c_least,←hgd,hP];omega
 obtain ⟨L,hL⟩:∃L,L=P+g+1022-T:=⟨_,rfl⟩;have hLz:((P:Int)-T+g-52-double.leastPlace).toNat=L:=by rw[c_least];omega
 have key:∃kept,4503599627370496≤kept∧kept≤9007199254740992∧double.nearest false mag place=L*4503599627370496+kept∧
  kept*2 ^ (P+g-52)*9007199254740992≤mag*2 ^ P*9007199254740993∧mag*2 ^ P*9007199254740991≤kept*2 ^ (P+g-52)*9007199254740992∧(mag<9007199254740992→kept*2 ^ (P+g-52)=mag*2 ^ P):=by
  have hnear:∀kept,Toward.even.cut false (mag <<< (place-((P:Int)-T+g-52)).toNat) (((P:Int)-T+g-52)-place).toNat=kept→kept≤9007199254740992→double.nearest false mag place=L*4503599627370496+kept:=by
   intro kept hk hk2;unfold Format.nearest;rw[if_neg hm];dsimp only;rw[hlast,hLz,hk,c_bin,c_inf,word_false];exact Nat.min_eq_left (by unfold INF;omega)
  by_cases hg:g≤52
  ·have s1:(place-((P:Int)-T+g-52)).toNat=52-g:=by omega
   have s2:(((P:Int)-T+g-52)-place).toNat=0:=by omega
   have hkept:Toward.even.cut false (mag <<< (52-g)) 0=mag*2 ^ (52-g):=by rw[cut_zero_drop,Nat.shiftLeft_eq]
   have k1:4503599627370496≤mag*2 ^ (52-g):=by
    have:2 ^ g*2 ^ (52-g)=2 ^ 52:=pow_split (by omega);have h:=Nat.mul_le_mul_right (2 ^ (52-g)) hg1;omega
   have k2:mag*2 ^ (52-g)≤9007199254740992:=by
    have:2 ^ (g+1)*2 ^ (52-g)=2 ^ 53:=pow_split (by omega);have h:=Nat.mul_le_mul_right (2 ^ (52-g)) (Nat.le_of_lt hg2);omega
   have k3:mag*2 ^ (52-g)*2 ^ (P+g-52)=mag*2 ^ P:=by
    rw[Nat.mul_assoc,pow_split (show 52-g+(P+g-52)=P by omega)]
   refine ⟨_,k1,k2,hnear _ (by rw[s1,s2];exact hkept) k2,?_,?_,fun _=>k3⟩<;>rw[k3]<;>omega
  ·have s1:(place-((P:Int)-T+g-52)).toNat=0:=by omega
   have s2:(((P:Int)-T+g-52)-place).toNat=g-52:=by omega
   obtain ⟨c1,c2⟩:=cut_even mag (g-52) (by omega);generalize hk:Toward.even.cut false mag (g-52)=kept at c1 c2;have hd:0<2 ^ (g-52):=Nat.two_pow_pos _;have e1:2 ^ (g-52)*4503599627370496=2 ^ g:=pow_split (b:=52) (by omega);have e2:2 ^ (g-52)*9007199254740992=2 ^ (g+1):=pow_split (b:=53) (by omega);have hPd:2 ^ (P+g-52)=2 ^ (g-52)*2 ^ P:=(pow_split (by omega)).symm;have k1:4503599627370496≤kept:=by
    rcases Nat.lt_or_ge kept 4503599627370496 with h|h
    ·have:=Nat.mul_le_mul_right (2 ^ (g-52)) (Nat.le_sub_one_of_lt h);have q:(4503599627370496-1)*2 ^ (g-52)+2 ^ (g-52)=2 ^ g:=by rw[←e1];omega
     omega
    ·exact h
   have k2:kept≤9007199254740992:=by
    rcases Nat.lt_or_ge 9007199254740992 kept with h|h
    ·have:=Nat.mul_le_mul_right (2 ^ (g-52)) h;have q:(9007199254740992).succ*2 ^ (g-52)=2 ^ (g+1)+2 ^ (g-52):=by rw[←e2];omega
     omega
    ·exact h
   refine ⟨kept,k1,k2,hnear _ (by rw[s1,s2];simpa using hk) k2,?_,?_,fun hlt=> ?_⟩
   ·rw[hPd,←Nat.mul_assoc];generalize kept*2 ^ (g-52)=y at*;have hz:2*y*4503599627370496≤mag*9007199254740993:=by omega
    have:=Nat.mul_le_mul_right (2 ^ P) hz;generalize 2 ^ P=z at*;rw[re_two y z _ _ (show 2*4503599627370496=9007199254740992 from rfl),Nat.mul_right_comm mag]at this;exact this
   ·rw[hPd,←Nat.mul_assoc];generalize kept*2 ^ (g-52)=y at*;have hz:mag*9007199254740991≤y*9007199254740992:=by omega
    have:=Nat.mul_le_mul_right (2 ^ P) hz;generalize 2 ^ P=z at*;rw[Nat.mul_right_comm y,Nat.mul_right_comm mag]at this;exact this
   ·have:2 ^ 53≤2 ^ g:=Nat.pow_le_pow_right (by decide) (by omega);omega
 obtain ⟨kept,k1,k2,hr,h1,h2,h3⟩:=key;rw[hr,FV_mk L kept k1 k2];have hex:2 ^ L*2 ^ (T-1074)=2 ^ (P+g-52):=pow_split (by omega);rw[Nat.mul_assoc kept,hex];exact ⟨by unfold INF;omega,h1,h2,h3⟩
theorem nearest_le (mag:Nat) (place:Int):double.nearest false mag place≤INF:=by
 unfold Format.nearest
 split
 ·rw[word_false];exact Nat.zero_le _
 ·dsimp only;rw[c_inf,word_false];exact Nat.min_le_right _ _
def kU:Nat:=1074
theorem kU_eq:kU=1074:=rfl
theorem fmt64:FloatKind.f64.format=double:=rfl
theorem mul_eq {a b m ua n ub:Nat} (ha:double.read a= .number false m ((ua:Int)-1074)) (hb:double.read b= .number false n ((ub:Int)-1074)):
 floatBits .mul .f64 a b=some (double.nearest false (m*n) (((ua+ub:Nat):Int)-(kU+kU:Nat))):=by
 have hk:=kU_eq
 show double.mul a b=_
 unfold Format.mul;rw[ha,hb]
 show some (double.nearest (false ^^ false) (m*n) ((ua:Int)-1074+((ub:Int)-1074)))=_
 have e:(ua:Int)-1074+((ub:Int)-1074)=((ua+ub:Nat):Int)-(kU+kU:Nat):=by omega
 rw[e];rfl
theorem mul_near {a b:Nat} (ha:a<INF) (hb:b<INF) (lo:2 ^ (kU+52)≤FV a*FV b) (hi:FV a*FV b<2 ^ (kU+kU+1023)):
 ∃r,floatBits .mul .f64 a b=some r∧r<INF∧FV r*2 ^ kU*9007199254740992≤FV a*FV b*9007199254740993∧FV a*FV b*9007199254740991≤FV r*2 ^ kU*9007199254740992:=by
 have hk:=kU_eq;obtain ⟨m,ua,hra,hva⟩:=read_pos a ha;obtain ⟨n,ub,hrb,hvb⟩:=read_pos b hb;have e:FV a*FV b=m*n*2 ^ (ua+ub):=by rw[hva,hvb,Nat.pow_add,Nat.mul_mul_mul_comm]
 rw[e]at lo hi ⊢;obtain ⟨h1,h2,h3,_⟩:=nearest_near (m*n) _ (kU+kU) (ua+ub) rfl (by omega) (by rw[show kU+kU-1022=kU+52 by omega];exact lo) hi;rw[show kU+kU-1074=kU by omega]at h2 h3;exact ⟨_,mul_eq hra hrb,h1,h2,h3⟩
theorem mul_some {a b:Nat} (ha:a≤INF) (hb:b<INF) (hb0:0<FV b):∃r,floatBits .mul .f64 a b=some r∧r≤INF:=by
 obtain ⟨n,ub,hrb,hvb⟩:=read_pos b hb;rcases Nat.lt_or_eq_of_le ha with h|rfl
 ·obtain ⟨m,ua,hra,hva⟩:=read_pos a h;exact ⟨_,mul_eq hra hrb,nearest_le _ _⟩
 ·have hn:n≠0:=by rintro rfl;rw[Nat.zero_mul]at hvb;omega
  refine ⟨INF,?_,Nat.le_refl _⟩
  show double.mul INF b=_
  unfold Format.mul;rw[read_inf,hrb]
  show (if n=0 then none else some (Datum.infinity (false ^^ false))).map double.write=_
  rw[if_neg hn]
  show some (double.word false double.infRung)=_
  rw[word_false,c_inf]
theorem alg1 (R U W n s Z m c c1 e e1:Nat) (hW:0<W) (h1:R*(U*W)*c≤s*Z*c1) (h2:s*n*e1≤e*(m*W)):R*(n*U)*(c*e1)≤m*Z*(e*c1):=by
 refine Nat.le_of_mul_le_mul_right ?_ hW;have q1:=Nat.mul_le_mul_right (n*e1) h1;have q2:=Nat.mul_le_mul_right (Z*c1) h2;have r1:R*(n*U)*(c*e1)*W=R*(U*W)*c*(n*e1):=by ac_rfl
 have r2:s*Z*c1*(n*e1)=s*n*e1*(Z*c1):=by ac_rfl
 have r3:e*(m*W)*(Z*c1)=m*Z*(e*c1)*W:=by ac_rfl
 rw[r1,←r3];exact Nat.le_trans q1 (r2 ▸ q2)
theorem alg2 (R U W n s Z m c c0 e e2:Nat) (hW:0<W) (h1:s*Z*c0≤R*(U*W)*c) (h2:e*(m*W)≤s*n*e2):m*Z*(e*c0)≤R*(n*U)*(c*e2):=by
 refine Nat.le_of_mul_le_mul_right ?_ hW;have q1:=Nat.mul_le_mul_right (n*e2) h1;have q2:=Nat.mul_le_mul_right (Z*c0) h2;have r1:R*(n*U)*(c*e2)*W=R*(U*W)*c*(n*e2):=by ac_rfl
 have r2:s*Z*c0*(n*e2)=s*n*e2*(Z*c0):=by ac_rfl
 have r3:e*(m*W)*(Z*c0)=m*Z*(e*c0)*W:=by ac_rfl
 rw[r1,←r3];exact Nat.le_trans (r2 ▸ q2) q1
theorem div_eq {a b m ua n ub:Nat} (ha:double.read a= .number false m ((ua:Int)-1074)) (hb:double.read b= .number false n ((ub:Int)-1074)) (hn:n≠0):
 floatBits .quo .f64 a b=some (double.nearest false (2*(m <<< (54+n.log2-m.log2) / n)+(m <<< (54+n.log2-m.log2) % n != 0).toNat) (((ua+kU:Nat):Int)-((ub+(54+n.log2-m.log2)+kU+1:Nat):Int))):=by
 have hk:=kU_eq
 show double.div a b=_
 unfold Format.div;rw[ha,hb];unfold Datum.quotient;dsimp only;rw[if_neg hn]
 show some (double.nearest (false ^^ false) (2*(m <<< (54+n.log2-m.log2) / n)+(m <<< (54+n.log2-m.log2) % n != 0).toNat) ((ua:Int)-1074-((ub:Int)-1074)-((54+n.log2-m.log2:Nat):Int)-1))=_
 have e:(ua:Int)-1074-((ub:Int)-1074)-((54+n.log2-m.log2:Nat):Int)-1=((ua+kU:Nat):Int)-((ub+(54+n.log2-m.log2)+kU+1:Nat):Int):=by omega
 rw[e];rfl
theorem div_some {a b:Nat} (ha:a≤INF) (hb:b<INF) (hb0:0<FV b):∃r,floatBits .quo .f64 a b=some r∧r≤INF:=by
 obtain ⟨n,ub,hrb,hvb⟩:=read_pos b hb;have hn:n≠0:=by rintro rfl;rw[Nat.zero_mul]at hvb;omega
 rcases Nat.lt_or_eq_of_le ha with h|rfl
 ·obtain ⟨m,ua,hra,hva⟩:=read_pos a h;exact ⟨_,div_eq hra hrb hn,nearest_le _ _⟩
 ·refine ⟨INF,?_,Nat.le_refl _⟩
  show double.div INF b=_
  unfold Format.div;rw[read_inf,hrb]
  show some (double.word (false ^^ false) double.infRung)=_
  show some (double.word false double.infRung)=_
  rw[word_false,c_inf]
theorem p4 (n a b c:Nat):4*(n*2 ^ a*2 ^ b*2 ^ c)=2 ^ (2+a+b+c)*n:=by
 rw[Nat.pow_add,Nat.pow_add,Nat.pow_add,show (2:Nat) ^ 2=4 from rfl]
 ac_rfl
theorem eadd (u k m:Nat):2+u+(k+1016)+m=u+k+1018+m:=by omega
theorem num0 (x y n e e1:Nat) (he:e=e1+1) (h1:x≤y+n) (h2:n*e≤x):x*e1≤e*y:=by
 subst he;have h:=Nat.mul_le_mul_right (e1+1) h1;rw[Nat.add_mul,Nat.mul_succ x]at h;rw[Nat.mul_comm (e1+1) y];generalize n*(e1+1)=p at*;generalize y*(e1+1)=q at*;omega
theorem num00 (x y n e e2:Nat) (he:e2=e+1) (h1:y≤x+n) (h2:n*e≤x):e*y≤x*e2:=by
 subst he;have h:=Nat.mul_le_mul_right e h1;rw[Nat.add_mul]at h;rw[Nat.mul_succ,Nat.mul_comm e y];generalize n*e=p at*;generalize y*e=q at*;omega
theorem ratio (Y A p q K K1:Nat) (hp:0<p) (h:Y*p≤A*q) (hk:K*q≤K1*p):Y*K≤A*K1:=by
 refine Nat.le_of_mul_le_mul_right ?_ hp;have q1:=Nat.mul_le_mul_right K h;have q2:=Nat.mul_le_mul_left A hk;have r1:Y*K*p=Y*p*K:=by ac_rfl
 have r2:A*q*K=A*(K*q):=by ac_rfl
 have r3:A*(K1*p)=A*K1*p:=by ac_rfl
 rw[r1,←r3];exact Nat.le_trans q1 (r2 ▸ q2)
theorem div_near {a b:Nat} (ha:a<INF) (hb:b<INF) (hb0:0<FV b) (lo:FV b*2 ^ 54≤FV a*2 ^ kU) (hi:FV a*2 ^ kU≤FV b*2 ^ (kU+1016)):
 ∃r,floatBits .quo .f64 a b=some r∧r<INF∧FV r*FV b*1152921504606846976≤FV a*2 ^ kU*1152921504606847169∧FV a*2 ^ kU*1152921504606846783≤FV r*FV b*1152921504606846976:=by
 have hk:=kU_eq;obtain ⟨m,ua,hra,hva⟩:=read_pos a ha;obtain ⟨n,ub,hrb,hvb⟩:=read_pos b hb;have hn:n≠0:=by rintro rfl;rw[Nat.zero_mul]at hvb;omega
 have hm:m≠0:=by
  rintro rfl;rw[hva,Nat.zero_mul,Nat.zero_mul]at lo;have:=Nat.mul_pos hb0 (Nat.two_pow_pos 54);omega
 have heq:=div_eq hra hrb hn;obtain ⟨more,hmore⟩:∃more,more=54+n.log2-m.log2:=⟨_,rfl⟩;rw[←hmore,Nat.shiftLeft_eq]at heq;obtain ⟨d,hd⟩:∃d,d=m*2 ^ more:=⟨_,rfl⟩;rw[←hd]at heq;obtain ⟨s,hs⟩:∃s,s=2*(d / n)+(d % n != 0).toNat:=⟨_,rfl⟩;rw[←hs]at heq;have hn0:0<n:=Nat.pos_of_ne_zero hn;have hdm:=Nat.div_add_mod d n;have hml:=Nat.mod_lt d hn0;have hbig:n*2 ^ 53≤d:=by
  have h1:2 ^ m.log2≤m:=Nat.log2_self_le hm;have h2:n<2 ^ (n.log2+1):=Nat.lt_log2_self;have h3:2 ^ m.log2*2 ^ more≤d:=by rw[hd];exact Nat.mul_le_mul_right _ h1
  rw[←Nat.pow_add]at h3;have h4:2 ^ (n.log2+54)≤2 ^ (m.log2+more):=Nat.pow_le_pow_right (by decide) (by omega);have h5:n*2 ^ 53≤2 ^ (n.log2+1)*2 ^ 53:=Nat.mul_le_mul_right _ (Nat.le_of_lt h2);rw[pow_split (show n.log2+1+53=n.log2+54 by omega)]at h5;exact Nat.le_trans h5 (Nat.le_trans h4 h3)
 have hq:2 ^ 53≤d / n:=(Nat.le_div_iff_mul_le hn0).2 (by rw[Nat.mul_comm];exact hbig);have hs54:2 ^ 54≤s:=by rw[hs];omega
 have hsn:s*n≤2*d+n∧2*d≤s*n+n:=by
  rw[hs,Nat.add_mul,Nat.mul_assoc,Nat.mul_comm (d / n) n];by_cases h0:d % n=0
  ·have e0:(d % n != 0).toNat=0:=by simp[h0]
   rw[e0,Nat.zero_mul];omega
  ·have e0:(d % n != 0).toNat=1:=by simp[h0]
   rw[e0,Nat.one_mul];omega
 have hnd:n≤d:=Nat.le_trans (Nat.le_mul_of_pos_right n (Nat.two_pow_pos 53)) hbig;have hs54n:n*18014398509481984≤s*n:=by
  have:=Nat.mul_le_mul_right n hs54;rw[Nat.mul_comm n];exact this
 have h2d:2*d=m*2 ^ (more+1):=by rw[hd,Nat.pow_succ];ac_rfl
 have hX:∀k,s*n*2 ^ k=s*2 ^ k*n:=fun k=>Nat.mul_right_comm ..;have ha1:FV a*2 ^ kU=m*2 ^ (ua+kU):=by rw[hva,Nat.mul_assoc,←Nat.pow_add]
 have hda:d*2 ^ (ua+kU)=FV a*2 ^ kU*2 ^ more:=by rw[ha1,hd,Nat.mul_right_comm]
 have blo:2 ^ (ub+more+kU+1-1022)≤s*2 ^ (ua+kU):=by
  have h1:d*2 ^ (ua+kU)≤s*n*2 ^ (ua+kU):=Nat.mul_le_mul_right _ (by omega);have h2:FV b*2 ^ 54*2 ^ more≤FV a*2 ^ kU*2 ^ more:=Nat.mul_le_mul_right _ lo;have h3:FV b*2 ^ 54*2 ^ more=2 ^ (ub+54+more)*n:=by
   rw[hvb,Nat.mul_assoc,Nat.mul_assoc,←Nat.pow_add,←Nat.pow_add,Nat.mul_comm,Nat.add_assoc]
  rw[hda,hX]at h1;rw[h3]at h2;have h4:=Nat.le_of_mul_le_mul_right (Nat.le_trans h2 h1) hn0;exact Nat.le_trans (Nat.pow_le_pow_right (by decide) (by omega)) h4
 have bhi:s*2 ^ (ua+kU)<2 ^ (ub+more+kU+1+1023):=by
  have h1:s*n*2 ^ (ua+kU)≤4*d*2 ^ (ua+kU):=Nat.mul_le_mul_right _ (by omega);have h2:FV a*2 ^ kU*2 ^ more≤FV b*2 ^ (kU+1016)*2 ^ more:=Nat.mul_le_mul_right _ hi;have h3:4*(FV b*2 ^ (kU+1016)*2 ^ more)=2 ^ (ub+kU+1018+more)*n:=by
   rw[hvb,p4,eadd]
  rw[Nat.mul_assoc 4,hda,hX]at h1;have h4:s*2 ^ (ua+kU)*n≤2 ^ (ub+kU+1018+more)*n:=by
   rw[←h3];exact Nat.le_trans h1 (Nat.mul_le_mul_left 4 h2)
  have h5:=Nat.le_of_mul_le_mul_right h4 hn0;exact Nat.lt_of_le_of_lt h5 (Nat.pow_lt_pow_right (by decide) (by omega))
 obtain ⟨n1,n2,n3,_⟩:=nearest_near s _ (ub+more+kU+1) (ua+kU) rfl (by omega) blo bhi;have eT:2 ^ (ub+more+kU+1-1074)=2 ^ ub*2 ^ (more+1):=(pow_split (by omega)).symm;rw[eT]at n2 n3;have hW:0<2 ^ (more+1):=Nat.two_pow_pos _;have v1:=num0 (s*n) (2*d) n 18014398509481984 18014398509481983 rfl hsn.1 hs54n;have v2:=num00 (s*n) (2*d) n 18014398509481984 18014398509481985 rfl hsn.2 hs54n;rw[h2d]at v1 v2;have u1:=alg1 _ _ _ n s _ m _ _ _ _ hW n2 v1
 have u2:=alg2 _ _ _ n s _ m _ _ _ _ hW n3 v2;rw[←hvb,←ha1]at u1 u2;exact ⟨_,heq,n1,ratio _ _ (9007199254740992*18014398509481983) (18014398509481984*9007199254740993) 1152921504606846976 1152921504606847169 (by decide+kernel) u1 (by decide+kernel),
  ratio _ _ (18014398509481984*9007199254740991) (9007199254740992*18014398509481985) 1152921504606846783 1152921504606846976 (by decide+kernel) u2 (by decide+kernel)⟩
theorem pw250 (k:Nat):2 ^ (k+250)<2 ^ (k+1023):=Nat.pow_lt_pow_right (by decide) (by omega)
theorem pw1016 (k:Nat):2 ^ (k+250)≤2 ^ (k+1016):=Nat.pow_le_pow_right (by decide) (by omega)
theorem mul_nearU {U:Nat} (hU:U=2 ^ kU) {a b:Nat} (ha:a<INF) (hb:b<INF) (lo:U*2 ^ 52≤FV a*FV b) (hi:FV a*FV b≤U*U*2 ^ 250):
 ∃r,floatBits .mul .f64 a b=some r∧r<INF∧FV r*U*9007199254740992≤FV a*FV b*9007199254740993∧FV a*FV b*9007199254740991≤FV r*U*9007199254740992:=by
 have lo':2 ^ (kU+52)≤FV a*FV b:=by rw[Nat.pow_add,←hU];exact lo
 have hi':FV a*FV b≤2 ^ (kU+kU+250):=by rw[Nat.pow_add,Nat.pow_add,←hU];exact hi
 have hi2:FV a*FV b<2 ^ (kU+kU+1023):=Nat.lt_of_le_of_lt hi' (pw250 (kU+kU));rw[hU];exact mul_near ha hb lo' hi2
theorem div_nearU {U:Nat} (hU:U=2 ^ kU) {a b:Nat} (ha:a<INF) (hb:b<INF) (hb0:0<FV b) (lo:FV b*2 ^ 54≤FV a*U) (hi:FV a*U≤FV b*(U*2 ^ 250)):
 ∃r,floatBits .quo .f64 a b=some r∧r<INF∧FV r*FV b*1152921504606846976≤FV a*U*1152921504606847169∧FV a*U*1152921504606846783≤FV r*FV b*1152921504606846976:=by
 have hi':FV a*2 ^ kU≤FV b*2 ^ (kU+250):=by rw[Nat.pow_add,←hU];exact hi
 have hi2:FV a*2 ^ kU≤FV b*2 ^ (kU+1016):=Nat.le_trans hi' (Nat.mul_le_mul_left _ (pw1016 kU));rw[hU]at lo ⊢;exact div_near ha hb hb0 lo hi2
theorem exU:∃U:Nat,U=2 ^ kU∧2 ^ 52≤U∧2 ^ 250≤U∧0<U:=
 ⟨_,rfl,Nat.pow_le_pow_right (by decide) (by unfold kU;decide),Nat.pow_le_pow_right (by decide) (by unfold kU;decide),Nat.two_pow_pos _⟩
theorem cmp3 (x y k:Nat) (hk:0<k):compare ((x:Nat):Int) ((y:Nat):Int)=compare (x*k) (y*k):=by
 rcases Nat.lt_trichotomy x y with h|h|h
 ·have h2:x*k<y*k:=Nat.mul_lt_mul_of_pos_right h hk;rw[Int.compare_eq_lt.2 (by omega),Nat.compare_eq_lt.2 h2]
 ·subst h;rw[Int.compare_eq_eq.2 rfl,Nat.compare_eq_eq.2 rfl]
 ·have h2:y*k<x*k:=Nat.mul_lt_mul_of_pos_right h hk;rw[Int.compare_eq_gt.2 (by omega),Nat.compare_eq_gt.2 h2]
theorem order_FV {a b:Nat} (ha:a<INF) (hb:b<INF):double.order a b=some (compare (FV a) (FV b)):=by
 obtain ⟨m,ua,hra,hva⟩:=read_pos a ha;obtain ⟨n,ub,hrb,hvb⟩:=read_pos b hb;unfold Format.order;rw[hra,hrb]
 show some (compare (signed false m ((ua:Int)-1074-min ((ua:Int)-1074) ((ub:Int)-1074)).toNat) (signed false n ((ub:Int)-1074-min ((ua:Int)-1074) ((ub:Int)-1074)).toNat))=_
 have e1:((ua:Int)-1074-min ((ua:Int)-1074) ((ub:Int)-1074)).toNat=ua-min ua ub:=by omega
 have e2:((ub:Int)-1074-min ((ua:Int)-1074) ((ub:Int)-1074)).toNat=ub-min ua ub:=by omega
 rw[e1,e2];have s1:∀x k:Nat,signed false x k=((x*2 ^ k:Nat):Int):=fun x k=>by unfold signed;rw[if_neg (by decide),Nat.shiftLeft_eq]
 rw[s1,s1,cmp3 _ _ (2 ^ min ua ub) (Nat.two_pow_pos _),Nat.mul_assoc,Nat.mul_assoc,pow_split (show ua-min ua ub+min ua ub=ua by omega),pow_split (show ub-min ua ub+min ua ub=ub by omega),hva,hvb]
theorem eq_FV {a b:Nat} (ha:a<INF) (hb:b<INF):(FloatKind.f64.format.order a b==some .eq)=decide (FV a=FV b):=by
 rw[fmt64,order_FV ha hb];rcases Nat.lt_trichotomy (FV a) (FV b) with h|h|h
 ·rw[Nat.compare_eq_lt.2 h,dF (by omega)];rfl
 ·rw[Nat.compare_eq_eq.2 h,dT h];rfl
 ·rw[Nat.compare_eq_gt.2 h,dF (by omega)];rfl
theorem lt_FV {a b:Nat} (ha:a<INF) (hb:b<INF):(FloatKind.f64.format.order a b==some .lt)=decide (FV a<FV b):=by
 rw[fmt64,order_FV ha hb];rcases Nat.lt_trichotomy (FV a) (FV b) with h|h|h
 ·rw[Nat.compare_eq_lt.2 h,dT h];rfl
 ·rw[Nat.compare_eq_eq.2 h,dF (by omega)];rfl
 ·rw[Nat.compare_eq_gt.2 h,dF (by omega)];rfl
theorem gt_FV {a b:Nat} (ha:a<INF) (hb:b<INF):(FloatKind.f64.format.order a b==some .gt)=decide (FV b<FV a):=by
 rw[fmt64,order_FV ha hb];rcases Nat.lt_trichotomy (FV a) (FV b) with h|h|h
 ·rw[Nat.compare_eq_lt.2 h,dF (by omega)];rfl
 ·rw[Nat.compare_eq_eq.2 h,dF (by omega)];rfl
 ·rw[Nat.compare_eq_gt.2 h,dT h];rfl
theorem toInt_FV {r:Nat} (h:r<INF):(FloatKind.f64.decode r).toInt .zero=some ((FV r / 2 ^ kU:Nat):Int):=by
 have hk:=kU_eq;obtain ⟨m,up,hr,hv⟩:=read_pos r h;have hd:FloatKind.f64.decode r= .number false m ((up:Int)-1074):=hr;rw[hd]
 show some (signed false (Toward.zero.cut false (m <<< ((up:Int)-1074).toNat) (-((up:Int)-1074)).toNat) 0)=_
 have s1:∀x k:Nat,signed false x k=((x*2 ^ k:Nat):Int):=fun x k=>by unfold signed;rw[if_neg (by decide),Nat.shiftLeft_eq]
 have hc:∀n d:Nat,Toward.zero.cut false n d=n / 2 ^ d:=by
  intro n d;unfold Toward.cut;simp only[Nat.one_shiftLeft,Bool.toNat_false,Nat.add_zero];by_cases hd:d≤n.log2+2
  ·rw[Nat.min_eq_left hd]
  ·rw[Nat.min_eq_right (by omega)];have h1:n<2 ^ (n.log2+1):=Nat.lt_log2_self;have h2:2 ^ (n.log2+1)≤2 ^ (n.log2+2):=Nat.pow_le_pow_right (by decide) (by omega);have h3:2 ^ (n.log2+1)≤2 ^ d:=Nat.pow_le_pow_right (by decide) (by omega);rw[Nat.div_eq_of_lt (Nat.lt_of_lt_of_le h1 h2),Nat.div_eq_of_lt (Nat.lt_of_lt_of_le h1 h3)]
 rw[hc,s1,Nat.shiftLeft_eq,Nat.pow_zero,Nat.mul_one,hv];congr 2;by_cases hu:kU≤up
 ·have e1:((up:Int)-1074).toNat=up-kU:=by omega
  have e2:(-((up:Int)-1074)).toNat=0:=by omega
  rw[e1,e2,Nat.pow_zero,Nat.div_one,←pow_split (show up-kU+kU=up by omega),←Nat.mul_assoc,Nat.mul_div_cancel _ (Nat.two_pow_pos _)]
 ·have e1:((up:Int)-1074).toNat=0:=by omega
  have e2:(-((up:Int)-1074)).toNat=kU-up:=by omega
  rw[e1,e2,Nat.pow_zero,Nat.mul_one,←pow_split (show kU-up+up=kU by omega),Nat.mul_div_mul_right _ _ (Nat.two_pow_pos _)]
theorem ofU_FV {m:Nat} (h:m<9007199254740992):floatOfInt .f64 (m:Int)<INF∧FV (floatOfInt .f64 (m:Int))=m*2 ^ kU:=by
 have hk:=kU_eq;have e:floatOfInt .f64 (m:Int)=double.nearest false m 0:=by
  show double.nearest (decide ((m:Int)<0)) m 0=_
  rw[dF (by omega)]
 rw[e];by_cases h0:m=0
 ·subst h0;have:double.nearest false 0 0=0:=by
   unfold Format.nearest;rw[if_pos rfl,word_false]
  rw[this];exact ⟨by decide,by unfold FV;rw[if_pos (by decide),Nat.zero_mul]⟩
 ·have lo:2 ^ (kU-1022)≤m*2 ^ kU:=Nat.le_trans (Nat.pow_le_pow_right (by decide) (by omega)) (Nat.le_mul_of_pos_left _ (by omega));have hi:m*2 ^ kU<2 ^ (kU+1023):=by
   have h1:m*2 ^ kU<2 ^ 53*2 ^ kU:=Nat.mul_lt_mul_of_pos_right h (Nat.two_pow_pos _);rw[←Nat.pow_add]at h1;exact Nat.lt_of_lt_of_le h1 (Nat.pow_le_pow_right (by decide) (by omega))
  obtain ⟨h1,_,_,h4⟩:=nearest_near m 0 kU kU (by omega) (by omega) lo hi;have h5:=h4 h;rw[show kU-1074=0 by omega,Nat.pow_zero,Nat.mul_one]at h5;exact ⟨h1,h5⟩
def tenW:Nat→Nat
 |0=>4607182418800017408
 |k+1=>(floatBits .mul .f64 (tenW k) 4621819117588971520).getD 0
theorem tenW_ok:∀k,k<23→tenW k<INF∧FV (tenW k)=10 ^ k*2 ^ kU∧(floatBits .mul .f64 (tenW k) 4621819117588971520=some (tenW (k+1))):=by
 decide+kernel
end Go.Proofs.YtfenoaeoedobmaaGreatDoor
