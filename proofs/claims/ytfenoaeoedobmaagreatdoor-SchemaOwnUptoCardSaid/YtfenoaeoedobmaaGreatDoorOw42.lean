/-
Parts of a proof.
-/
import Derived.Test.YtfenoaeoedobmaaGreatDoorOw41
set_option linter.unusedVariables false
set_option linter.unusedSimpArgs false
set_option maxHeartbeats 8000000
set_option maxRecDepth 20000
namespace Go.Proofs.YtfenoaeoedobmaaGreatDoor
open Go Go.RowKit
inductive SaidR (W:Nat->Prop):Res->Prop where
 |del (k:Nat) (s:ByteArray) (h1:1<=k) (h2:k<=4) (hs:isName s=true):SaidR W {Res.zero with kind:=(k:Int),name:=s,del:=true}
 |serv (s:ByteArray) (l:List ByteArray) (hs:isName s=true) (h:∀e∈l,isName e=true) (hn:l.Nodup) (hl:l.length<=16):SaidR W {Res.zero with kind:=1,name:=s,endps:=l}
 |split (s:ByteArray) (l:List Tgt) (hs:isName s=true) (h:∀t∈l,ve W t) (h1:1<=l.length) (hl:l.length<=8):SaidR W {Res.zero with kind:=2,name:=s,targets:=l}
 |route (s:ByteArray) (l:List Rul) (h:ByteArray) (hs:isName s=true) (hh:iL h=true) (hf:(⟨(h.data.toList.map bO).toArray⟩:ByteArray)=h) (ho:∀t∈l,pL false t) (h1:1<=l.length) (hl:l.length<=16):SaidR W {Res.zero with kind:=3,name:=s,host:=h,rules:=l}
 |policy (s:ByteArray) (l:List Rul) (h:ByteArray) (hs:isName s=true) (hh:isName h=true) (ho:∀t∈l,pL true t) (h1:1<=l.length) (hl:l.length<=16):SaidR W {Res.zero with kind:=4,name:=s,route:=h,rules:=l}
theorem Ld {wt:Nat->ByteArray} {r:Res} (k:Nat) (hk:r.kind=(k:Int)) (h1:1<=k) (h2:k<=4) (hs:isName r.name=true) (hg:DocG (tD wt r)):
 ∃(m:Nd) (ns:List Nd),ns=(tD wt r).doc/\m.kids=(tD wt r).heads 1/\Fo.At ns (tD wt r) 1/\Fo.At ns (ij wt r) 3/\
  fR ns=(match (if kKind=bu then none else jE ns ((ij wt r).heads 3) bu) with
   |some x=>if isTrue x=false then .error (x.line,123) else (match bG ns [kKind,bB,bu] m.kids with| .error e=> .error e| .ok ()=> .ok {Res.zero with kind:=(k:Int),name:=r.name,del:=true})
   |none=>qZ ns m {Res.zero with kind:=(k:Int),name:=r.name} k)/\∀key,kKind≠key->bB≠key->bC ns m key=jE ns ((ij wt r).heads 3) key:=by
 obtain ⟨ns,hns⟩:=ex ((tD wt r).doc);have ha:=(tD wt r).doc_at;rw[<-hns]at ha;obtain ⟨q1,q2,-⟩:=ha.head_br;have h0:=jA q1;obtain ⟨m,hm⟩:∃m,m=(⟨2,⟨#[]⟩,⟨#[]⟩,false,0,(tD wt r).heads 1⟩:Nd):=⟨_,rfl⟩;rw[show (0+1:Nat)=1 from rfl,<-hm]at h0;have A0:Fo.At ns (aJ kKind (kf r.kind) (aJ bB r.name (ij wt r))) 1:=q2;have A1:=A0.head_sc.2;have A2:=A1.head_sc.2;have hkids:m.kids=(aJ kKind (kf r.kind) (aJ bB r.name (ij wt r))).heads 1:=by rw[hm];rfl
 have hmk:m.kind=2:=by rw[hm]
 have ht:dI ns=true:=by rw[hns];exact A8 hg
 have g1:=fP A0 kKind;rw[if_pos rfl,<-hkids]at g1;have g2:=fP A0 bB;rw[if_neg (by decide),fP A1,if_pos rfl,<-hkids]at g2;have g3:∀key,kKind≠key->bB≠key->bC ns m key=jE ns ((ij wt r).heads 3) key:=fun key a b=>by
  have:=fP A0 key;rw[if_neg a,fP A1,if_neg b,<-hkids]at this;exact this
 have hkn:kindN (xZ kKind (kf r.kind))=k:=by
  rw[hk];rcases (show k=1\/k=2\/k=3\/k=4 by omega) with rfl|rfl|rfl|rfl<;>decide
 refine ⟨m,ns,hns,hkids,q2,A2,?_,g3⟩;unfold fR;rw[if_neg (by rw[ht];decide),h0,show dt m= .ok () by unfold dt;rw[if_neg (fun q=>q hmk)]];simp only;rw[Cp g1];simp only;rw[if_neg (by omega),Cp g2];simp only;rw[yF hs];simp only;rw[g3 bu (by decide) (by decide),hkn,if_neg (show ¬kKind=bu by decide)];cases jE ns ((ij wt r).heads 3) bu<;>rfl
theorem eZ {n:Nd} {so:ByteArray->Bool} {s:ByteArray} (h:aS n so= .ok s):so s=true:=by
 unfold aS at h
 split at h
 ·cases h
 ·rename_i q
  injection h with h
  subst h;cases hs:so n.text with
  |true=>rfl
  |false=>exact absurd (.inr hs) q
theorem oQ {ns:List Nd} {n:Nd} {a b:Nat} {l:List Nd} (h:cn ns n a b= .ok l):a<=l.length/\l.length<=b:=by
 unfold cn at h
 split at h
 ·cases h
 ·split at h
  ·cases h
  ·injection h with h
   subst h;rw[List.length_map];omega
theorem uz:∀(l:List Nd) (out r:List ByteArray),dS l out= .ok r->(∀e∈out,isName e=true)->out.Nodup->(∀e∈r,isName e=true)/\r.Nodup/\r.length=out.length+l.length
 |[],out,r,h,ho,hn=>by
  unfold dS at h;injection h with h
  subst h;exact ⟨ho,hn,rfl⟩
 |k::l,out,r,h,ho,hn=>by
  unfold dS at h;cases hw:aS k isName with
  |error e=>rw[hw]at h;cases h
  |ok s=>
   rw[hw]at h;simp only at h
   split at h
   ·cases h
   ·rename_i hm
    obtain ⟨a,b,c⟩:=uz l _ r h (fun e he=>by
     rcases List.mem_append.1 he with q|q
     ·exact ho e q
     ·rw[List.mem_singleton.1 q];exact eZ hw) (List.nodup_append.2 ⟨hn,by simp,fun x hx y hy=>by
      rw[List.mem_singleton.1 hy];exact fun e=>hm (e ▸ hx)⟩)
    exact ⟨a,b,by rw[c];simp;omega⟩
theorem vy {W:Nat->Prop} (hw:∀n x,cw n= .ok x->W x) {ns:List Nd} {k:Nd} {t:Tgt} (h:dz ns k= .ok t):ve W t:=by
 unfold dz at h;cases h1:dt k with
 |error e=>rw[h1]at h;cases h
 |ok u=>
  rw[h1]at h;simp only at h;cases h2:bG ns [bd,aU,bD] k.kids with
  |error e=>rw[h2]at h;cases h
  |ok u=>
   rw[h2]at h;simp only at h;have tail:∀a b:ByteArray,(match bH ns k bD with| .error e=>(.error e:R Tgt)| .ok n=>match cw n with| .error e=> .error e| .ok x=> .ok ⟨a,b,x⟩)= .ok t->((isName a=true/\b=⟨#[]⟩)\/(a=⟨#[]⟩/\isName b=true))->ve W t:=fun a b q hab=>by
    cases h3:bH ns k bD with
    |error e=>rw[h3]at q;cases q
    |ok n=>
     rw[h3]at q;simp only at q;cases h4:cw n with
     |error e=>rw[h4]at q;cases q
     |ok x=>
      rw[h4]at q;injection q with q
      subst q;exact ⟨hab,hw n x h4⟩
   cases h3:bC ns k bd with
   |none=>
    cases h4:bC ns k aU with
    |none=>rw[h3,h4]at h;cases h
    |some b=>
     rw[h3,h4]at h;simp only at h;cases h5:aS b isName with
     |error e=>rw[h5]at h;cases h
     |ok s=>rw[h5]at h;exact tail _ _ h (.inr ⟨rfl,eZ h5⟩)
   |some a=>
    cases h4:bC ns k aU with
    |some b=>rw[h3,h4]at h;cases h
    |none=>
     rw[h3,h4]at h;simp only at h;cases h5:aS a isName with
     |error e=>rw[h5]at h;cases h
     |ok s=>rw[h5]at h;exact tail _ _ h (.inl ⟨eZ h5,rfl⟩)
theorem mO {W:Nat->Prop} (hw:∀n x,cw n= .ok x->W x) {ns:List Nd}:∀(l:List Nd) (out r:List Tgt),bg ns l out= .ok r->(∀t∈out,ve W t)->(∀t∈r,ve W t)/\r.length=out.length+l.length
 |[],out,r,h,ho=>by
  unfold bg at h;injection h with h
  subst h;exact ⟨ho,rfl⟩
 |k::l,out,r,h,ho=>by
  unfold bg at h;cases ht:dz ns k with
  |error e=>rw[ht]at h;cases h
  |ok t=>
   rw[ht]at h;obtain ⟨a,b⟩:=mO hw l _ r h fun x hx=>by
    rcases List.mem_append.1 hx with q|q
    ·exact ho x q
    ·rw[List.mem_singleton.1 q];exact vy hw ht
   exact ⟨a,by rw[b];simp;omega⟩
theorem qD {ns:List Nd} {k:Nd} {x:Rul} (a:ByteArray) (X:R ByteArray)
 (h:(match bH ns k bV with| .error e=>(.error e:R Rul)| .ok n=>match aS n gP with| .error e=> .error e| .ok p=>match (match bC ns k bA with|some n=>aS n fm|none=>(.ok ki:R ByteArray)) with| .error e=> .error e| .ok m=>match X with| .error e=> .error e| .ok s=> .ok ⟨p,m,s,decide (a=kAllow)⟩)= .ok x):
 gP x.path=true/\fm x.method=true/\X= .ok x.split/\x.allow=decide (a=kAllow):=by
 cases h4:bH ns k bV with
 |error e=>rw[h4]at h;cases h
 |ok n=>
  rw[h4]at h;simp only at h;cases h5:aS n gP with
  |error e=>rw[h5]at h;cases h
  |ok p=>
   rw[h5]at h;simp only at h;have fin:∀m,fm m=true->(match X with| .error e=>(.error e:R Rul)| .ok s=> .ok ⟨p,m,s,decide (a=kAllow)⟩)= .ok x->gP x.path=true/\fm x.method=true/\X= .ok x.split/\x.allow=decide (a=kAllow):=fun m hm q=>by
    cases X with
    |error e=>cases q
    |ok s=>injection q with q;subst q;exact ⟨eZ h5,hm,rfl,rfl⟩
   cases h6:bC ns k bA with
   |none=>rw[h6]at h;exact fin _ (by unfold fm;rw[fj (s:=ki) (l:=[42]) rfl];rfl) h
   |some n=>
    rw[h6]at h;simp only at h;cases h7:aS n fm with
    |error e=>rw[h7]at h;cases h
    |ok m=>rw[h7]at h;exact fin _ (eZ h7) h
theorem Bx {ns:List Nd} {act:Bool} {k:Nd} {x:Rul} (h:fk ns act k= .ok x):pL act x:=by
 unfold fk at h;cases h1:dt k with
 |error e=>rw[h1]at h;cases h
 |ok u=>
  rw[h1]at h;simp only at h;cases h2:bG ns [bV,bA,if act=true then cm else aU] k.kids with
  |error e=>rw[h2]at h;cases h
  |ok u=>
   rw[h2]at h;cases act with
   |true=>
    simp only[if_true]at h;cases hA:bH ns k cm with
    |error e=>rw[hA]at h;cases h
    |ok nA=>
     rw[hA]at h;simp only at h;cases hW:aS nA gk with
     |error e=>rw[hW]at h;cases h
     |ok a=>
      rw[hW]at h;obtain ⟨p1,p2,p3,p4⟩:=qD (k:=k) (ns:=ns) a (.ok ⟨#[]⟩) h;injection p3 with p3
      exact ⟨p1,p2,fun _=>p3.symm,fun q=>absurd q (by decide)⟩
   |false=>
    simp only[Bool.false_eq_true,if_false]at h;obtain ⟨p1,p2,p3,p4⟩:=qD (k:=k) (ns:=ns) ⟨#[]⟩ (match bH ns k aU with| .error e=> .error e| .ok n=>aS n isName) h;refine ⟨p1,p2,fun q=>absurd q (by decide),fun _=>⟨?_,p4.trans (dF (by decide))⟩⟩;cases h8:bH ns k aU with
    |error e=>rw[h8]at p3;cases p3
    |ok n=>rw[h8]at p3;exact eZ p3
theorem ov {ns:List Nd} {act:Bool}:∀(l:List Nd) (out r:List Rul),cj ns act l out= .ok r->(∀t∈out,pL act t)->(∀t∈r,pL act t)/\r.length=out.length+l.length
 |[],out,r,h,ho=>by
  unfold cj at h;injection h with h
  subst h;exact ⟨ho,rfl⟩
 |k::l,out,r,h,ho=>by
  unfold cj at h;cases ht:fk ns act k with
  |error e=>rw[ht]at h;cases h
  |ok t=>
   rw[ht]at h;obtain ⟨a,b⟩:=ov l _ r h fun x hx=>by
    rcases List.mem_append.1 hx with q|q
    ·exact ho x q
    ·rw[List.mem_singleton.1 q];exact Bx ht
   exact ⟨a,by rw[b];simp;omega⟩
theorem qA {ns:List Nd} {act:Bool} {m:Nd} {r0 r:Res} (h:ie ns act m r0= .ok r):∃l,r={r0 with rules:=l}/\(∀t∈l,pL act t)/\1<=l.length/\l.length<=16:=by
 unfold ie at h;cases h1:bH ns m bX with
 |error e=>rw[h1]at h;cases h
 |ok n=>
  rw[h1]at h;simp only at h;cases h2:cn ns n 1 16 with
  |error e=>rw[h2]at h;cases h
  |ok l=>
   rw[h2]at h;simp only at h;cases h3:cj ns act l [] with
   |error e=>rw[h3]at h;cases h
   |ok out=>
    rw[h3]at h;injection h with h
    have a:=oQ h2;obtain ⟨b,c⟩:=ov l [] out h3 (fun _ h=>nomatch h);exact ⟨out,h.symm,b,by rw[c];simp;omega,by rw[c];simp;omega⟩
theorem fold_fold (c:UInt8):bO (bO c)=bO c:=by
 have key:∀n<256,bO (bO (UInt8.ofNat n))=bO (UInt8.ofNat n):=by decide+kernel
 have:=key c.toNat c.toNat_lt
 rwa [UInt8.ofNat_toNat]at this
theorem rY (s:ByteArray):(⟨((⟨(s.data.toList.map bO).toArray⟩:ByteArray).data.toList.map bO).toArray⟩:ByteArray)=⟨(s.data.toList.map bO).toArray⟩:=by
 show (⟨((s.data.toList.map bO).map bO).toArray⟩:ByteArray)=_
 rw[List.map_map,show (bO ∘ bO)=bO from funext fold_fold]
def lQ (l:List UInt8):Prop:=1<=l.length/\l.length<=64/\l.all bY=true
theorem Al (s:ByteArray):(fO s).2=true↔lQ s.data.toList:=by
 unfold fO lQ;rw[al]
 split
 ·rename_i h;exact ⟨fun _=>h,fun _=>rfl⟩
 ·rename_i h;exact ⟨(fun q=>by cases q),(fun q=>absurd q h)⟩
theorem qT (s rest:ByteArray) {k:Int} (hk:k≠3):(kj s rest k).1≠3↔lQ rest.data.toList:=by
 rw[<-Al];unfold kj;cases h:(fO rest).2 with
 |true=>exact ⟨fun _=>rfl,fun _=>hk⟩
 |false=>exact ⟨(fun q=>absurd rfl q),(fun q=>by cases q)⟩
theorem ph (s:ByteArray):iL s=true↔s.data.toList=[42]\/(∃r,s.data.toList=42::46::r/\lQ r)\/lQ s.data.toList:=by
 have hbad:∀r,¬lQ (42::r):=fun r h=>absurd (List.all_eq_true.1 h.2.2 42 (List.mem_cons_self ..)) (by decide);unfold iL jz;rw[decide_eq_true_iff];by_cases h1:s.data.toList=[42]
 ·rw[if_pos (fj h1)];exact ⟨fun _=> .inl h1,fun _=>by decide⟩
 ·rw[if_neg (by rw[fZ h1];decide)];by_cases h2:Lib.hasPrefix s.data.toList [42,46]=true
  ·rw[if_pos h2,qT _ _ (by decide)];obtain ⟨r,hr⟩:∃r,s.data.toList=42::46::r:=by
    unfold Lib.hasPrefix at h2;obtain ⟨r,hr⟩:=List.isPrefixOf_iff_prefix.1 h2;exact ⟨r,hr.symm⟩
   have he:(s.extract 2 s.size).data.toList=r:=by
    rw[ByteArray.data_extract,Array.toList_extract,List.extract_eq_take_drop,hr,<-al,hr];simp
   rw[he];constructor
   ·exact fun q=> .inr (.inl ⟨r,hr,q⟩)
   ·rintro (q|⟨r',q,g⟩|q)
    ·exact absurd q h1
    ·rw[hr]at q;injection q with _ q
     injection q with _ q
     rw[q];exact g
    ·rw[hr]at q;exact absurd q (hbad _)
  ·rw[if_neg h2,qT _ _ (by decide)];constructor
   ·exact fun q=> .inr (.inr q)
   ·rintro (q|⟨r',q,g⟩|q)
    ·exact absurd q h1
    ·exact absurd (by rw[q];rfl) h2
    ·exact q
theorem uk {c:UInt8} (h:bY c=true):bY (bO c)=true:=by
 have key:∀n<256,bY (UInt8.ofNat n)=true->bY (bO (UInt8.ofNat n))=true:=by decide+kernel
 have:=key c.toNat c.toNat_lt;rw[UInt8.ofNat_toNat]at this;exact this h
theorem lQ.fold {l:List UInt8} (h:lQ l):lQ (l.map bO):=by
 refine ⟨by rw[List.length_map];exact h.1,by rw[List.length_map];exact h.2.1,?_⟩;rw[List.all_eq_true];intro x hx;obtain ⟨c,hc,rfl⟩:=List.mem_map.1 hx;exact uk (List.all_eq_true.1 h.2.2 c hc)
theorem Ak {s:ByteArray} (h:iL s=true):iL ⟨(s.data.toList.map bO).toArray⟩=true:=by
 rw[ph]at h |-;rcases h with h|⟨r,h,g⟩|h
 ·exact .inl (by show s.data.toList.map bO=_;rw[h];decide)
 ·exact .inr (.inl ⟨r.map bO,by show s.data.toList.map bO=_;rw[h,List.map_cons,List.map_cons,show bO 42=42 by decide,show bO 46=46 by decide],g.fold⟩)
 ·exact .inr (.inr h.fold)
theorem EG {W:Nat->Prop} (hw:∀n x,cw n= .ok x->W x) {ns:List Nd} {r:Res} (h:fR ns= .ok r):SaidR W r:=by
 unfold fR at h
 split at h
 ·cases h
 cases h1:dt (ns[0]!) with
 |error e=>rw[h1]at h;cases h
 |ok u=>
 rw[h1]at h;simp only at h;cases h2:bH ns (ns[0]!) kKind with
 |error e=>rw[h2]at h;cases h
 |ok k=>
 rw[h2]at h;simp only at h
 split at h
 ·cases h
 rename_i hk0
 have hk4:=CN k;cases h3:bH ns (ns[0]!) bB with
 |error e=>rw[h3]at h;cases h
 |ok n=>
 rw[h3]at h;simp only at h;cases h4:aS n isName with
 |error e=>rw[h4]at h;cases h
 |ok s=>
 rw[h4]at h;simp only at h;have hs:isName s=true:=eZ h4;cases h5:bC ns (ns[0]!) bu with
 |some x=>
  rw[h5]at h;simp only at h
  split at h
  ·cases h
  ·split at h
   ·cases h
   ·injection h with h
    rw[<-h];exact .del _ _ (by omega) hk4 hs
 |none=>
  rw[h5]at h;simp only at h;unfold qZ at h
  split at h
  ·cases h
  ·split at h
   ·rename_i e
    rw[e]at h;unfold fG at h
    split at h
    ·injection h with h
     rw[<-h];exact .serv s [] hs (fun _ q=>nomatch q) List.nodup_nil (Nat.zero_le _)
    ·split at h
     ·cases h
     ·rename_i l hl
      split at h
      ·cases h
      ·rename_i out ho
       injection h with h
       rw[<-h];obtain ⟨a,b,c⟩:=uz _ _ _ ho (fun _ q=>nomatch q) List.nodup_nil;have:=oQ hl;exact .serv s out hs a b (by rw[c];simp;omega)
   ·split at h
    ·rename_i e
     rw[e]at h;unfold jq at h
     split at h
     ·cases h
     ·split at h
      ·cases h
      ·rename_i l hl
       split at h
       ·cases h
       ·rename_i out ho
        injection h with h
        rw[<-h];obtain ⟨a,c⟩:=mO hw _ _ _ ho (fun _ q=>nomatch q);have:=oQ hl;exact .split s out hs a (by rw[c];simp;omega) (by rw[c];simp;omega)
    ·split at h
     ·rename_i e
      rw[e]at h;unfold ig at h
      split at h
      ·cases h
      ·split at h
       ·cases h
       ·rename_i q hq
        obtain ⟨l,rfl,a,b,c⟩:=qA h;exact .route s l _ hs (Ak (eZ hq)) (rY q) a b c
     ·have e:kindN k=4:=by omega
      rw[e]at h;unfold fA at h
      split at h
      ·cases h
      ·split at h
       ·cases h
       ·rename_i q hq
        obtain ⟨l,rfl,a,b,c⟩:=qA h;exact .policy s l _ hs (eZ hq) a b c
end Go.Proofs.YtfenoaeoedobmaaGreatDoor
namespace Go.Proofs.YtfenoaeoedobmaaGreatDoor
open Go Ieee
end Go.Proofs.YtfenoaeoedobmaaGreatDoor
namespace Go.Proofs.YtfenoaeoedobmaaGreatDoor
open Go Go.RowKit
theorem zO (x:Nat):j9 (j9 x)=x:=by
 show (x ^^^ 2 ^ 63) ^^^ 2 ^ 63=x
 rw[Nat.xor_assoc,Nat.xor_self,Nat.xor_zero]
theorem zq {s:ByteArray} {q:Bool} (hk:(aX s q).kind=4) (hc:ji (aX s q).real=true):∃m k b,¬Bad m k/\(aX s q).real=(if b=true then j9 (scW m k) else scW m k):=by
 have zn:(ke s).kind=4->∃m k b,¬Bad m k/\(ke s).real=(if b=true then j9 (scW m k) else scW m k):=by
  unfold ke
  split
  ·intro h;cases h
  ·split
   ·rename_i m k b hd
    refine fun _=>⟨m,k,b,?_,rfl⟩;unfold jh at hd;dsimp only at hd
    split at hd
    ·split at hd
     ·split at hd
      ·rename_i hc
       simp only[Option.some.injEq,Prod.mk.injEq]at hd;obtain ⟨rfl,rfl,rfl⟩:=hd;exact hc.2.2
      ·cases hd
     ·cases hd
    ·cases hd
   ·intro h;cases h
 have z1:ji zS=false:=by decide+kernel
 have z2:ji Ai=false:=by decide+kernel
 have z3:ji qL=false:=by decide+kernel
 unfold aX at hk hc |-
 repeat' split at hk
 all_goals first
  |exact zn hk
  |(exact absurd hk (by decide))
  |skip
 all_goals simp_all
theorem Fc {y:Nat} (h:y<9223372036854775808):j9 y=9223372036854775808+y:=by
 have h2:=rK (x:=9223372036854775808+y) (by omega) (by omega);rw[Nat.add_sub_cancel_left]at h2;have h3:=congrArg j9 h2;rw[zO]at h3;exact h3.symm
theorem EO {s:ByteArray} {q:Bool} (hk:(aX s q).kind=4) (hc:ji (aX s q).real=true):(aX s q).real<18446744073709551616:=by
 obtain ⟨m,k,b,_,hr⟩:=zq hk hc;rw[hr]
 split
 ·by_cases q:scW m k<9223372036854775808
  ·rw[Fc q];omega
  ·have:=vH m k;rw[rK (by omega) this];omega
 ·exact vH m k
theorem yH:∀n:Nat,n<101->floatOfInt .f64 (n:Int)<INF:=by decide+kernel
theorem vl {n:Nd} {x:Nat} (h:cw n= .ok x):x<INF:=by
 unfold cw at h
 split at h
 ·cases h
 split at h
 ·split at h
  ·cases h
  ·injection h with h
   obtain ⟨k,hk⟩:∃k:Nat,(aX n.text n.quoted).int=(k:Int):=⟨(aX n.text n.quoted).int.toNat,by omega⟩;rw[hk]at h;rw[<-h];exact yH k (by omega)
 split at h
 ·rename_i hk
  split at h
  ·rename_i hc
   injection h with h
   rw[<-h];exact pC (EO hk hc) hc
  ·cases h
 ·cases h
theorem dN {s:ByteArray} (h:isName s=true):s.size<=64:=by
 unfold isName xR at h;rw[Bool.and_eq_true,decide_eq_true_eq,al]at h;exact h.2.2
theorem B8 {s:ByteArray} (h:gP s=true):s.size<=300:=by
 unfold gP at h;have hl:s.data.toList.length<=(mI s).data.toList.length+1:=by
  show _<=(Lib.trimSuffix s.data.toList [42]).toArray.toList.length+1
  unfold Lib.trimSuffix
  split
  ·simp;omega
  ·simp
 rw[al]at hl;rw[Bool.or_eq_true,Bool.and_eq_true]at h;rcases h with ⟨_,h⟩|h
 ·have:(mI s).data.toList=[]:=by
   by_cases q:(mI s).data.toList=[]
   ·exact q
   ·rw[fZ q]at h;cases h
  rw[this]at hl;simp at hl;omega
 ·unfold jw at h;rw[Bool.and_eq_true,decide_eq_true_eq]at h;omega
theorem wE {s:ByteArray} (h:fm s=true):s.size<=64:=by
 unfold fm at h;rw[Bool.or_eq_true]at h;rcases h with h|h
 ·by_cases q:s.data.toList=[42]
  ·rw[<-al,q];decide
  ·rw[fZ q]at h;cases h
 ·unfold gi at h;rw[Bool.and_eq_true,decide_eq_true_eq,al]at h;exact h.2.2
theorem Aj {s:ByteArray} (h:iL s=true):s.size<=70:=by
 rw[ph]at h;rw[<-al];rcases h with h|⟨r,h,g⟩|h
 ·rw[h];decide
 ·rw[h];have:=g.2.1;simp only[aAd];omega
 ·have:=h.2.1;omega
theorem zk {W:Nat->Prop} (hW:∀x,W x->x<INF) {r:Res} (h:SaidR W r):ResZ r:=by
 have z:(⟨#[]⟩:ByteArray).size<=1048576:=by decide
 have hI:∀k:Int,0<=k->k<=4->I64 k:=fun k a b=>by unfold I64;omega
 have hu:∀act (l:List Rul),(∀t∈l,pL act t)->∀x∈l,x.path.size<=1048576/\x.method.size<=1048576/\x.split.size<=1048576:=fun act l h x hx=>by
  obtain ⟨a,b,c,d⟩:=h x hx;have:=B8 a;have:=wE b;refine ⟨by omega,by omega,?_⟩;cases act with
  |true=>rw[c rfl];exact z
  |false=>have:=dN (d rfl).1;omega
 cases h with
 |del k s h1 h2 hs=>exact ⟨hI (k:Int) (by omega) (by omega),by have:=dN hs;show s.size<=_;omega,z,z,nofun,nofun,nofun,by show 0+3*0+4*0+8<=1048576;decide⟩
 |serv s l hs h hn hl=>exact ⟨hI 1 (by decide) (by decide),by have:=dN hs;show s.size<=_;omega,z,z,fun x hx=>by have:=dN (h x hx);omega,nofun,nofun,by show l.length+3*0+4*0+8<=_;omega⟩
 |split s l hs h h1 hl=>exact ⟨hI 2 (by decide) (by decide),by have:=dN hs;show s.size<=_;omega,z,z,nofun,fun x hx=>by
  have hf:=hW _ (h x hx).2;unfold INF at hf;obtain ⟨a,_⟩:=h x hx;rcases a with ⟨a,b⟩|⟨a,b⟩
  ·have:=dN a;rw[b];exact ⟨by omega,z,by omega⟩
  ·have:=dN b;rw[a];exact ⟨z,by omega,by omega⟩,nofun,by show 0+3*l.length+4*0+8<=_;omega⟩
 |route s l h hs hh hf ho h1 hl=>exact ⟨hI 3 (by decide) (by decide),by have:=dN hs;show s.size<=_;omega,by have:=Aj hh;show h.size<=_;omega,z,nofun,nofun,hu _ l ho,by show 0+3*0+4*l.length+8<=_;omega⟩
 |policy s l h hs hh ho h1 hl=>exact ⟨hI 4 (by decide) (by decide),by have:=dN hs;show s.size<=_;omega,z,by have:=dN hh;show h.size<=_;omega,nofun,nofun,hu _ l ho,by show 0+3*0+4*l.length+8<=_;omega⟩
theorem xc {W:Nat->Prop} (hw:∀n x,cw n= .ok x->W x) {L:List (List Nd)} {rs:List Res} {i:Nat} (h:eh L i= .ok rs):∀r∈rs,SaidR W r:=by
 induction L generalizing i rs with
 |nil=>unfold eh at h;injection h with h;rw[<-h];exact fun _ q=>nomatch q
 |cons d L ih=>
  unfold eh at h;cases hd:fR d with
  |error e=>rw[hd]at h;cases h
  |ok x=>
   rw[hd]at h;simp only at h;cases hr:eh L (i+1) with
   |error e=>rw[hr]at h;cases h
   |ok l=>
    rw[hr]at h;injection h with h
    rw[<-h];intro r q;rcases List.mem_cons.1 q with rfl|q
    ·exact EG hw hd
    ·exact ih hr r q
def eF (l:List ByteArray):List ByteArray:=l.filter (fun x=>decide (x≠⟨#[]⟩))
def EB:ByteArray:=⟨#[45,45,45,10]⟩
def ni (l:List ByteArray):ByteArray:=⟨(Lib.join ((eF l).map (·.data.toList)) EB.data.toList).toArray⟩
theorem C6 {l:List ByteArray} {j:Nat} {x:ByteArray} (h:l[j]? =some x) (hx:x≠⟨#[]⟩):eF (l.take (j+1))=eF (l.take j)++[x]:=by
 unfold eF;rw[List.take_add_one,h,List.filter_append];simp[hx]
theorem FD {l:List ByteArray} {j:Nat} {x:ByteArray} (h:l[j]? =some x) (hx:x=⟨#[]⟩):eF (l.take (j+1))=eF (l.take j):=by
 unfold eF;rw[List.take_add_one,h,List.filter_append];simp[hx]
theorem C7 (l:List ByteArray):(eF l).length<=l.length:=List.length_filter_le _ _
theorem xY (M:Nat):∀l:List (List UInt8),(∀x∈l,x.length<=M)->Lib.lens l<=l.length*M
 |[],_=>by simp[Lib.lens]
 |x::l,h=>by
  have h1:=h x (List.mem_cons_self ..);have h2:=xY M l (fun y hy=>h y (List.mem_cons_of_mem _ hy));unfold Lib.lens at h2 |-;rw[List.map_cons,List.sum_cons,aAd,Nat.succ_mul];omega
theorem CU (sep:List UInt8) (M:Nat) (l:List (List UInt8)) (h:∀x∈l,x.length<=M):(Lib.join l sep).length<=l.length*M+sep.length*l.length:=by
 cases l with
 |nil=>rw[Lib.join_nil];exact Nat.zero_le _
 |cons x r=>
  rw[Lib.join_length];have:=xY M (x::r) h;have h2:sep.length*r.length<=sep.length*(x::r).length:=Nat.mul_le_mul_left _ (by rw[aAd];omega);omega
theorem Af {l:List ByteArray} (hn:l.length<=1048576) (h:∀x∈l,x.size<=65536):(Lib.join ((eF l).map (·.data.toList)) EB.data.toList).length<=140737488355328:=by
 have h1:=CU EB.data.toList 65536 ((eF l).map (·.data.toList)) (fun x hx=>by
  obtain ⟨y,hy,rfl⟩:=List.mem_map.1 hx
  show y.data.toList.length<=_
  rw[al];exact h y (List.mem_filter.1 hy).1)
 rw[List.length_map]at h1;have h2:=C7 l;have h3:EB.data.toList.length=4:=rfl;rw[h3]at h1;omega
theorem BD {w:World} {e:TypeId} {n:Nat} {v:Value} {xs:List Value} (h:w.ownsRow 0 e 1 v n xs):∀a m c,v= .slice a m c->m<=c:=by
 intro a m c hv;rcases h.2 with ⟨h1,h2⟩|⟨g,cap,cur,h1,_,_,hc,_⟩
 ·rw[hv]at h1;cases h1;exact aAa _
 ·rw[hv]at h1;cases h1;exact hc
theorem Jc (w:World) (v:Value) (l:List ByteArray) (h:SlR w v 1 l aR) (hs:∀x∈l,x.size<=65536):
 Calls Tryz.prog 25 #[v] w fun x w'=>x= .returned (.string (ni l))/\Below w.heap.size w w':=by
 obtain ⟨ao,cap,rfl,hl,hat⟩:=h;obtain ⟨n,hn⟩:=ex (l.length);rw[<-hn]at hl hat |-;have Hn:=hid hn;have Hl:=hid hl;have Hat:=hid hat;have Hjl0:=hid (Af (by rw[<-hn];exact hl) hs);have H0:=hid (RO.first w 9 1);clear hn hl hat hs;go_enter Tryz.func25,Tryz.ntmps25;go_wp2
 go_loopw [3,8] (fun vv vi wr=>∃(v2:Value) (j k:Nat),v2=vv/\vi= .int .i64 (j:Int)/\Hid (j<=n/\k=(eF (l.take j)).length/\k<=j/\RO w wr 9 1 v2 k ((eF (l.take j)).flatMap aR))) (fun _ vi _=>n-(intOf vi).toNat)
 case atStart=>exact ⟨_,0,0,rfl,rfl,hid ⟨Nat.zero_le _,rfl,aAa _,H0.o⟩⟩
 case round=>
  clear H0;obtain ⟨v2,j,k,rfl,rfl,H⟩:=hrel;by_cases hj:j<n
  ·have tj:decide (j<n)=true:=dT hj;have bj:(j:Int)<(n:Int):=by omega
   obtain ⟨x,hx⟩:∃x,l[j]? =some x:=au (by rw[<-Hn.o];exact hj);obtain ⟨b2,o2,rfl,hb2,hc⟩:=Hat.o (by omega);have x0:=(H.o.2.2.2.below.cell (p:=⟨b2,o2+j*1+0,none⟩) hb2).trans (hc j x hx 0 _ rfl);rw[Nat.mul_one,Nat.add_zero]at x0;obtain ⟨Hms,Hgo⟩:=aM (k:=j) (n:=n) hj (by have:=Hl.o;omega);by_cases he:x=⟨#[]⟩
   ·have HE:=hid (show j+1<=n/\k=(eF (l.take (j+1))).length/\k<=j+1/\RO w wr 9 1 v2 k ((eF (l.take (j+1))).flatMap aR) from by
     rw[FD hx he];exact ⟨hj,H.o.2.1,Nat.le_succ_of_le H.o.2.2.1,H.o.2.2.2⟩)
    subst he;clear hx hc hb2 H Hat hj;go_wp2;go_roundw
    case rel=>exact ⟨_,j+1,k,rfl,Hgo.o,HE⟩
    case measure=>exact Hms.o
   ·have t1:=iq he;have Hown:=hid (fun o=>H.o.2.2.2.row.alloc o);have Hone:=hid (show ∀u∈[Value.string x],u.oneCell'=true from fun u hu=>by rw[List.mem_singleton.1 hu];rfl);have Hkl:=hid (show k<=2000000 by have:=H.o.2.2.1;have:=Hl.o;omega);have Hd1:=hid (show 0<1 by decide);have Hd2:=hid (show 16<=1000 by decide);have Hend:=hid (fun o v' w2 a1 a2 a3=>show j+1<=n/\k+1=(eF (l.take (j+1))).length/\k+1<=j+1/\RO w w2 9 1 v' (k+1) ((eF (l.take (j+1))).flatMap aR) from by
     rw[C6 hx he,aAc,List.flatMap_append,List.flatMap_singleton];exact ⟨hj,by rw[H.o.2.1];rfl,by have:=H.o.2.2.1;omega,RO.app (w1:=wr.alloc o) (v':=v') (w2:=w2) (m:=k+1) (ys:=(eF (l.take j)).flatMap aR++[.string x]) H.o.2.2.2 ((aAb _ wr).alloc (aAa _) o) a1 a2 a3⟩)
    clear hx hc hb2 H Hat hj he
    go_wp2_with (at_builtin;refine eQ 9 45 (.string ⟨#[]⟩) 1 16 Tryz.underlying45 kV rfl Hd1.o Hd2.o rfl _ _ rfl v2 k ((eF (l.take j)).flatMap aR) rfl (Hown.o _) wr.heap.size #[.string x] [.string x] rfl (ah _) rfl rfl Hone.o Hkl.o (k+1) rfl ?_;intro ao4 c4 w2 own2 gr2 new2;have HE:=hid (Hend.o _ _ _ own2 gr2 new2);clear own2 gr2 new2)
    go_roundw
    case rel=>exact ⟨_,j+1,k+1,rfl,Hgo.o,HE⟩
    case measure=>exact Hms.o
  ·have tj:decide (j<n)=false:=dF hj;obtain ⟨h1,h2,h3,h4⟩:=H.o;have ej:j=n:=by omega
   subst ej;rw[List.take_of_length_le (by rw[Hn.o];exact aAa _)]at h2 h4;have hJ:Calls Tryz.prog 65 #[v2,.string ⟨#[45,45,45,10]⟩] wr fun x w'=>x= .returned (.string (ni l))/\Below wr.heap.size wr w':=by
    have hsl:=SlR.ofRow (xs:=eF l) (cells:=aR) (sz:=1) h4.row h2 (fun _=>rfl) (by have:=Hl.o;omega) (by decide);have hcap:=BD h4.row;obtain ⟨a0,c0,rfl,hlc,hat0⟩:=hsl;by_cases h0:(eF l).length=0
    ·have e:eF l=[]:=List.eq_nil_of_length_eq_zero h0;have ev:ni l=⟨#[]⟩:=by unfold ni;rw[e];rfl
     rw[h0,ev];refine (Tryz.strings_Join_none a0 c0 _ wr).mono ?_;rintro x w' ⟨rfl,rfl⟩;exact ⟨rfl,aAb _ _⟩
    ·obtain ⟨bk,o,rfl,hbk,hc⟩:=hat0 (by omega);exact Tryz.strings_Join bk o c0 (eF l) ⟨#[45,45,45,10]⟩ wr (fun j x hx=>by
      have:=hc j x hx 0 _ rfl
      rwa [Nat.mul_one,Nat.add_zero]at this) hbk (by omega) (hcap _ _ _ rfl) Hjl0.o
   have HJ:=hid hJ;have HB:=hid h4.below;clear H Hat hj h1 h2 h3 h4 hJ
   go_wp2_with fail
   refine HJ.o.mono ?_;rintro x w2 ⟨rfl,hb⟩;have Hb:=hid (HB.o.trans (hb.mono HB.o.size));clear hb HJ;go_wp2;refine bodyPost_ret (results_tmp (t:=2) rfl _ _ _) rfl ⟨rfl,Hb.o⟩
noncomputable def iT:List Res->List ByteArray->ByteArray×Int
 |[],out=>if 65536<(ni out).size then (⟨#[]⟩,3) else (ni out,0)
 |r::rest,out=>if eV r=[] then (⟨#[]⟩,123) else if (eK (eV r)).2≠0 then (⟨#[]⟩,(eK (eV r)).2) else iT rest (out++[(eK (eV r)).1])
noncomputable def xy (rs:List Res):ByteArray×Int:=iT rs []
def q6 (w:World) (t:ByteArray×Int) (x:Ending) (w':World):Prop:=x= .returned (.tuple #[.string t.1,.int .i64 t.2])/\Below w.heap.size w w'
theorem xa {ns:List Nd} (h:(eK ns).2=0):(eK ns).1.size<=65536:=by
 unfold eK at h |-
 split
 ·decide
 ·split
  ·decide
  ·rename_i _ h2
   rw[<-al]
   show (nk ns).toArray.toList.length<=_
   simpa using h2
theorem JJ (w:World) (V:Value) (ms:List RsM) (h:RsL w V ms) (hz:∀m∈ms,ResZ m.r) (hg:GlobT w):
 Calls Tryz.prog 15 #[V] w (q6 w (xy (ms.map (·.r)))):=by
 obtain ⟨ao,cap,rfl,hl,hat⟩:=ox h;obtain ⟨n,hn⟩:=ex (ms.length);rw[<-hn]at hl |-;have Hn:=hid hn;have Hl:=hid hl;have Hat:=hid hat;have Hz:=hid hz;have Hg:=hid (fun w2 (hb:Below w.heap.size w w2)=>hg.later hb);have H0:=hid (RO.first w 9 1);obtain ⟨tx,htx⟩:=ex (xy (ms.map (·.r)));rw[<-htx];have Htx:=hid htx;have Hs0:=hid (show iT ((ms.map (·.r)).drop 0) []=tx from htx.symm);clear h hn hl hat hz hg htx
 go_enter Tryz.func15,Tryz.ntmps15;go_wp2
 go_loopw [4,13] (fun vv vi wr=>∃(v2:Value) (j:Nat) (out:List ByteArray),v2=vv/\vi= .int .i64 (j:Int)/\Hid (j<=n/\out.length=j/\(∀x∈out,x.size<=65536)/\iT ((ms.map (·.r)).drop j) out=tx/\RO w wr 9 1 v2 j (out.flatMap aR))) (fun _ vi _=>n-(intOf vi).toNat)
 case atStart=>exact ⟨_,0,[],rfl,rfl,hid ⟨Nat.zero_le _,rfl,nofun,Hs0.o,H0.o⟩⟩
 case round=>
  clear H0 Hs0 Htx;obtain ⟨v2,j,out,rfl,rfl,H⟩:=hrel;by_cases hj:j<n
  ·have tj:decide (j<n)=true:=dT hj;have bj:(j:Int)<(n:Int):=by omega
   obtain ⟨m,hm⟩:∃m,ms[j]? =some m:=au (by rw[<-Hn.o];exact hj);obtain ⟨b,o,rfl,hb,hc,hr⟩:=Hat.o j m hm;have hbl:=H.o.2.2.2.2.below;have hzm:=Hz.o m (List.mem_of_getElem? hm);have hdrop:(ms.map (·.r)).drop j=m.r::(ms.map (·.r)).drop (j+1):=fC (by rw[List.getElem?_map,hm];rfl);have hs:=H.o.2.2.2.1;rw[hdrop]at hs;have hc2:=fun i u (hu:m.cells[i]? =some u)=>(hbl.cell (p:=⟨b,o+j*8+i,none⟩) hb).trans (hc i u hu)
   obtain ⟨r,ev,tv,rv⟩:=m;obtain ⟨ea,en,ec,rfl⟩:=ba hr.e;obtain ⟨ta,tn,tc,rfl⟩:=ba hr.t;obtain ⟨ra,rn,rc,rfl⟩:=ba hr.r;have c0:=hc2 0 _ rfl;have c1:=hc2 1 _ rfl;have c2:=hc2 2 _ rfl;have c3:=hc2 3 _ rfl;have c4:=hc2 4 _ rfl;have c5:=hc2 5 _ rfl;have c6:=hc2 6 _ rfl;have c7:=hc2 7 _ rfl;simp only[Nat.add_zero]at c0;obtain ⟨wa,hwa⟩:=ex (wr.alloc (.cells #[.int .i64 r.kind,.string r.name,.slice ea en ec,.slice ta tn tc,.string r.host,.slice ra rn rc,.string r.route,.bool r.del] 49))
   have hba:Below wr.heap.size wr wa:=by rw[hwa];exact (aAb _ _).alloc (aAa _) _
   have hbwa:Below w.heap.size w wa:=hbl.trans (hba.mono hbl.size);have HTr:=hid (sB wa r _ _ _ hzm (hr.later hbwa) (Hg.o wa hbwa));have HR:=hid (H.o.2.2.2.2.later hba);have Hlen:=hid (And.intro H.o.2.1 H.o.2.2.1);obtain ⟨Hms,Hgo⟩:=aM (k:=j) (n:=n) hj (by have:=Hl.o;omega);have Hj:=hid hj;have Hhs:=hid hs;unfold bJ at HTr;clear hm hb hc hc2 hr hzm hdrop hs hj hba hbwa hbl H Hat Hz
   go_wp2_with fail
   rw[<-hwa];refine HTr.o.mono ?_;rintro x w3 ⟨nv,ns,rfl,hD,hnn,hb3,_⟩;clear c0 c1 c2 c3 c4 c5 c6 c7 hwa HTr;obtain ⟨na,nn,nc,hnv⟩:∃a n c,nv= .slice a n c:=ba hD.nds.1;subst hnv;have hnl:nn=ns.length:=tz hD.row;have Hb3:=hid hb3;have hbw3:Below w.heap.size w w3:=by
    have h1:=HR.o.below;exact h1.trans (hb3.mono h1.size)
   have HR3:=hid (HR.o.later hb3);have HEm:=hid (Dr w3 _ ns hD.nds (Hg.o w3 hbw3).gl);rw[hnn]at HEm;have hnl2:nn=(eV r).length:=by rw[hnl,<-hnn,bt]
   have Hbw:=hid hbw3;clear hD hb3 hnn hnl hbw3 HR Hb3;unfold iT at Hhs;by_cases h0:eV r=[]
   ·have e0:nn=0:=by rw[hnl2,h0];rfl
    subst e0;have HE:Hid (q6 w tx (.returned (.tuple #[.string ⟨#[]⟩,.int .i64 123])) w3):=hid ⟨by rw[<-Hhs.o,if_pos h0],Hbw.o⟩;clear hnl2 h0 HEm Hhs;go_wp2;refine bodyPost_ret (results_tmp2 (t:=2) (u:=3) rfl _ _ _) rfl HE.o
   ·have t1:((nn:Int)==0)=false:=by
     rw[beq_eq_false_iff_ne];intro e;exact h0 (List.eq_nil_of_length_eq_zero (by omega))
    rw[if_neg h0]at Hhs;obtain ⟨et,ee,hee⟩:∃et ee,eK (eV r)=(et,ee):=⟨_,_,rfl⟩;have hsm:ee=0->et.size<=65536:=fun h=>by
     have:=xa (ns:=eV r) (by rw[hee];exact h);rw[hee]at this;exact this
    have Hsm:=hid hsm;rw[hee]at HEm Hhs;simp only at HEm Hhs;clear hnl2 h0 hee hsm
    go_wp2_with fail
    refine HEm.o.mono ?_;rintro x w4 ⟨rfl,hb4⟩;have HR4:=hid (HR3.o.later hb4);have Hbw4:=hid (Hbw.o.trans (hb4.mono Hbw.o.size));clear HEm hb4 HR3 Hbw;by_cases he:ee=0
    ·subst he;have hs2:=Hhs.o;rw[if_neg (by simp)]at hs2;have Hs2:=hid hs2;have Hown:=hid (fun o=>HR4.o.row.alloc o);have Hone:=hid (show ∀u∈[Value.string et],u.oneCell'=true from fun u hu=>by rw[List.mem_singleton.1 hu];rfl);have Hkl:=hid (show j<=2000000 by have:=Hj.o;have:=Hl.o;omega);have Hd1:=hid (show 0<1 by decide);have Hd2:=hid (show 16<=1000 by decide);have Hend:=hid (fun o v' w5 a1 a2 a3=>show j+1<=n/\(out++[et]).length=j+1/\(∀x∈out++[et],x.size<=65536)/\iT ((ms.map (·.r)).drop (j+1)) (out++[et])=tx/\RO w w5 9 1 v' (j+1) ((out++[et]).flatMap aR) from
      ⟨Hj.o,by rw[aAc,Hlen.o.1];rfl,fun x hx=>by
       rcases List.mem_append.1 hx with q|q
       ·exact Hlen.o.2 x q
       ·rw[List.mem_singleton.1 q];exact Hsm.o rfl,Hs2.o,by
       rw[List.flatMap_append,List.flatMap_singleton];exact RO.app (w1:=w4.alloc o) (v':=v') (w2:=w5) (m:=j+1) (ys:=out.flatMap aR++[.string et]) HR4.o ((aAb _ w4).alloc (aAa _) o) a1 a2 a3⟩)
     clear hs2 Hhs Hlen HR4 Hbw4 Hs2 Hsm
     go_wp2_with (at_builtin;refine eQ 9 45 (.string ⟨#[]⟩) 1 16 Tryz.underlying45 kV rfl Hd1.o Hd2.o rfl _ _ rfl v2 j (out.flatMap aR) rfl (Hown.o _) w4.heap.size #[.string et] [.string et] rfl (ah _) rfl rfl Hone.o Hkl.o (j+1) rfl ?_;intro ao4 c4 w5 own2 gr2 new2;have HE:=hid (Hend.o _ _ _ own2 gr2 new2);clear own2 gr2 new2)
     go_roundw
     case rel=>exact ⟨_,j+1,_,rfl,Hgo.o,HE⟩
     case measure=>exact Hms.o
    ·have t2:(ee != 0)=true:=bne_iff_ne.2 he;have HE:Hid (q6 w tx (.returned (.tuple #[.string ⟨#[]⟩,.int .i64 ee])) w4):=hid ⟨by rw[<-Hhs.o,if_pos he],Hbw4.o⟩;clear he Hhs HR4 Hbw4;go_wp2;refine bodyPost_ret (results_tmp2 (t:=2) (u:=3) rfl _ _ _) rfl HE.o
  ·have tj:decide (j<n)=false:=dF hj;obtain ⟨h1,h2,h3,h4,h5⟩:=H.o;have ej:j=n:=by omega
   rw[List.drop_eq_nil_of_le (by rw[List.length_map,<-Hn.o];omega)]at h4;unfold iT at h4;have HJ:=hid (Jc wr v2 out (SlR.ofRow h5.row h2.symm (fun _=>rfl) (by have:=Hl.o;omega) (by decide)) h3);have HB:=hid h5.below;have H4:=hid h4;generalize ni out=t at*;clear H Hat hj h1 h2 h3 h4 h5 ej Hz Hg
   go_wp2_with fail
   refine HJ.o.mono ?_;rintro x w2 ⟨rfl,hb⟩;have Hb:=hid (HB.o.trans (hb.mono HB.o.size));clear hb HJ HB;by_cases hbig:65536<t.size
   ·have t1:decide ((65536:Int)<(t.size:Int))=true:=dT (by omega);have HE:Hid (q6 w tx (.returned (.tuple #[.string ⟨#[]⟩,.int .i64 3])) w2):=hid ⟨by rw[<-H4.o,if_pos hbig],Hb.o⟩;clear H4 Hb hbig;go_wp2;refine bodyPost_ret (results_tmp2 (t:=2) (u:=3) rfl _ _ _) rfl HE.o
   ·have t1:decide ((65536:Int)<(t.size:Int))=false:=dF (by omega);have HE:Hid (q6 w tx (.returned (.tuple #[.string t,.int .i64 0])) w2):=hid ⟨by rw[<-H4.o,if_neg hbig],Hb.o⟩;clear H4 Hb hbig;go_wp2;refine bodyPost_ret (results_tmp2 (t:=2) (u:=3) rfl _ _ _) rfl HE.o
