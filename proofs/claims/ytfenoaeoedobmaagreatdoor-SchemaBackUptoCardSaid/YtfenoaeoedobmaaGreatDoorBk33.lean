/-
Parts of a proof.
-/
import Derived.Test.YtfenoaeoedobmaaGreatDoorBk32
set_option linter.unusedVariables false
set_option linter.unusedSimpArgs false
namespace Go.Proofs.YtfenoaeoedobmaaGreatDoor
open Go Go.RowKit
def er (n:Nd):Nd:={n with line:=0}
def aBo (ns:List Nd) (i:Nat) (hs:List Int):List Nd:=match ns[i]? with|some x=>ns.set i {x with kids:=x.kids++hs}|none=>ns
theorem aCm {ns:List Nd} {i:Nat} {x:Nd} (h:ns[i]? =some x) (hs:List Int):aBo ns i hs=ns.set i {x with kids:=x.kids++hs}:=by
 unfold aBo;rw[h]
theorem aCy (ns:List Nd) (i:Nat) (hs:List Int):(aBo ns i hs).length=ns.length:=by
 unfold aBo
 split
 ·rw[List.length_set]
 ·rfl
theorem aJ0 (ns:List Nd) (i:Nat):aBo ns i []=ns:=by
 unfold aBo
 split
 ·rename_i x h
  obtain ⟨hl,e⟩:=a7j h;rw[List.append_nil]
  show ns.set i x=ns
  rw[<-e,List.set_getElem_self]
 ·rfl
theorem aE6 (ns:List Nd) (i:Nat) (a b:List Int):aBo (aBo ns i a) i b=aBo ns i (a++b):=by
 cases h:ns[i]? with
 |none=>
  have e:∀hs,aBo ns i hs=ns:=fun hs=>by unfold aBo;rw[h]
  rw[e,e,e]
 |some x=>
  have hl:=(a7j h).1;rw[aCm h a,aCm (x:={x with kids:=x.kids++a}) (by rw[List.getElem?_set_self hl]),aCm h];simp
theorem aDy {ns:List Nd} {i:Nat} (hi:i<ns.length) (b:List Nd) (hs:List Int):aBo (ns++b) i hs=aBo ns i hs++b:=by
 have h:=a7i hi;rw[aCm h,aCm (x:=ns[i]) (by rw[List.getElem?_append_left hi];exact h),List.set_append_left _ _ hi]
theorem aD7 (ns:List Nd) (x:Nd) (hs:List Int):aBo (ns++[x]) ns.length hs=ns++[{x with kids:=x.kids++hs}]:=by
 rw[aCm (x:=x) (by simp)];simp
theorem aOr (ns:List Nd) (i kid:Nat):(aBx ns i kid).map er=aBo (ns.map er) i [(kid:Int)]:=by
 unfold aBx;cases h:ns[i]? with
 |none=>
  simp only;unfold aBo;rw[List.getElem?_map,h];rfl
 |some x=>
  simp only;rw[aCm (x:=er x) (by rw[List.getElem?_map,h];rfl),List.map_set];rfl
theorem aE7 (ns:List Nd) (i kid:Nat):(aBx ns i kid).length=ns.length:=by
 unfold aBx
 split
 ·rw[List.length_set]
 ·rfl
theorem aCr {ts:List Tok} {k:Nat} {t:Tok} {r:List Tok} (h:ts.drop k=t::r):nextT ts k=t/\ts.drop (k+1)=r/\k<ts.length:=by
 have hk:k<ts.length:=by
  rcases Nat.lt_or_ge k ts.length with q|q
  ·exact q
  ·rw[List.drop_eq_nil_of_le q]at h;cases h
 refine ⟨?_,?_,hk⟩
 ·refine aR1 ?_;have:=congrArg List.head? h;rw[List.head?_drop]at this;exact this
 ·rw[<-List.drop_drop,h];rfl
theorem a1k {ts:List Tok} {k:Nat} (h:ts.drop k=[]):nextT ts k=tokZ:=aDx (by
 have:=congrArg List.length h;rw[List.length_drop]at this;simp at this;omega)
def loopP (kind:Int) (ts:List Tok) (d:Nat) (col:Int) (i f:Nat) (seen:List (List UInt8)) (k:Nat) (ns:List Nd):Except Flt (Nat×List Nd):=
 if kind=2 then dictL (aA0 ts d) ts d col i f seen k ns else listL (aA0 ts d) ts d col i f k ns
def leadK (kind:Int):Int:=if kind=2 then 3 else 2
def keyT (kind:Int) (t:Tok):ByteArray:=if kind=2 then ⟨t.text.toArray⟩ else ⟨#[]⟩
def isT (kind:Int) (t1 t:Tok):Bool:=if kind=2 then aB4 t1 t else aFf t1 t
theorem aOs {kind:Int} {ts:List Tok} {d:Nat} {col:Int} {i f:Nat} {seen:List (List UInt8)} {k:Nat} {ns:List Nd} {t t1:Tok} {r:List Tok} {k2:Nat} {ns2:List Nd} {kid:Nat} (hd:ts.drop k=t::t1::r) (ht:t.kind=leadK kind) (hc:t.col=col) (hs:kind=2->t.text ∉ seen)
 (his:isT kind t1 t=true) (hb:hasB t1=true) (hv:aA0 ts d (k+1) ns (keyT kind t)= .ok (k2,ns2,kid)):loopP kind ts d col i (f+1) seen k ns=loopP kind ts d col i f (t.text::seen) k2 (aBx ns2 i kid):=by
 obtain ⟨h1,h2,-⟩:=aCr hd;obtain ⟨h3,-,-⟩:=aCr h2;unfold loopP;by_cases hk:kind=2
 ·have ht':t.kind=3:=by rw[ht];unfold leadK;rw[if_pos hk]
  have his':aB4 t1 t=true:=by unfold isT at his;rw[if_pos hk]at his;exact his
  have hv':aA0 ts d (k+1) ns ⟨t.text.toArray⟩= .ok (k2,ns2,kid):=by unfold keyT at hv;rw[if_pos hk]at hv;exact hv
  rw[if_pos hk,if_pos hk]
  conv=>lhs;unfold dictL
  simp only;rw[h1,if_pos ⟨ht',hc⟩,if_neg (hs hk)];have:valP (aA0 ts d) ts d (aB4 (nextT ts (k+1)) t) t (k+1) ns ⟨t.text.toArray⟩= .ok (k2,ns2,kid):=by
   unfold valP;rw[h3,his',hb,if_pos (show (true&&true)=true from rfl),hv']
  rw[this]
 ·have ht':t.kind=2:=by rw[ht];unfold leadK;rw[if_neg hk]
  have his':aFf t1 t=true:=by unfold isT at his;rw[if_neg hk]at his;exact his
  have hv':aA0 ts d (k+1) ns ⟨#[]⟩= .ok (k2,ns2,kid):=by unfold keyT at hv;rw[if_neg hk]at hv;exact hv
  rw[if_neg hk,if_neg hk]
  conv=>lhs;unfold listL
  simp only;rw[h1,if_pos ⟨ht',hc⟩];have:valP (aA0 ts d) ts d (aFf (nextT ts (k+1)) t) t (k+1) ns ⟨#[]⟩= .ok (k2,ns2,kid):=by
   unfold valP;rw[h3,his',hb,if_pos (show (true&&true)=true from rfl),hv']
  rw[this]
theorem aXj {kind:Int} {ts:List Tok} {d:Nat} {col:Int} {i f:Nat} {seen:List (List UInt8)} {k:Nat} {ns:List Nd} (h:¬((nextT ts k).kind=leadK kind/\(nextT ts k).col=col)):loopP kind ts d col i f seen k ns= .ok (k,ns):=by
 unfold loopP leadK at*;by_cases hk:kind=2
 ·rw[if_pos hk]at h |-;cases f with
  |zero=>rfl
  |succ f=>
   unfold dictL;simp only;rw[if_neg h]
 ·rw[if_neg hk]at h |-;cases f with
  |zero=>rfl
  |succ f=>
   unfold listL;simp only;rw[if_neg h]
theorem aTy {ts:List Tok} {d k:Nat} {ns:List Nd} {key:ByteArray} {t:Tok} {r:List Tok} (hd:ts.drop k=t::r) (ht:t.kind=4) (hl:ns.length<4096):
 aA0 ts (d+1) k ns key= .ok (k+1,ns++[⟨1,key,⟨t.text.toArray⟩,t.quoted,t.line,[]⟩],ns.length):=by
 obtain ⟨h1,-,-⟩:=aCr hd;unfold aA0;simp only;rw[h1,if_neg (by rw[ht];decide),if_neg (by rw[ht];decide)];unfold newP;rw[if_neg (by omega)]
theorem aR8 {ts:List Tok} {d k:Nat} {ns:List Nd} {key:ByteArray} {t:Tok} {r:List Tok} {kd:Int} {k2:Nat} {ns2:List Nd} (hkd:kd=2\/kd=3) (hd:ts.drop k=t::r) (ht:t.kind=leadK kd) (hl:ns.length<4096)
 (h:loopP kd ts d t.col ns.length (ts.length-k) [] k (ns++[⟨kd,key,⟨#[]⟩,false,t.line,[]⟩])= .ok (k2,ns2)):
 aA0 ts (d+1) k ns key= .ok (k2,ns2,ns.length):=by
 obtain ⟨h1,-,-⟩:=aCr hd;unfold aA0;simp only;rw[h1];unfold newP loopP at*;rcases hkd with rfl|rfl
 ·rw[if_pos rfl]at h;have ht3:t.kind=3:=ht;rw[if_pos ht3,if_neg (by omega)];simp only;rw[h]
 ·rw[if_neg (by decide)]at h;have ht2:t.kind=2:=ht;rw[if_neg (by rw[ht2];decide),if_pos ht2,if_neg (by omega)];simp only;rw[h]
theorem aLo (s:ByteArray):(⟨s.data.toList.toArray⟩:ByteArray)=s:=by cases s;simp
theorem a3w {a b:ByteArray} (h:a.data.toList=b.data.toList):a=b:=by rw[<-aLo a,<-aLo b,h]
def StopT (B:List Tok) (col:Nat):Prop:=∀t,B.head? =some t->t.col<(col:Int)
namespace Fo
theorem tok_head {F:Fo} (h:F≠nil) (kind:Int) (n col:Nat):∃t r,F.tok kind n col=t::r/\t.kind=leadK kind/\t.line=(n:Int)/\t.col=(col:Int):=by
 unfold leadK;cases F with
 |nil=>exact absurd rfl h
 |sc key text q nx=>
  rw[tok_sc];by_cases hk:kind=2
  ·rw[if_pos hk];exact ⟨_,_,rfl,(if_pos hk).symm,rfl,rfl⟩
  ·rw[if_neg hk];exact ⟨_,_,rfl,(if_neg hk).symm,rfl,rfl⟩
 |br kd key kids nx=>
  rw[tok_br];by_cases hk:kind=2
  ·rw[if_pos hk];exact ⟨_,_,rfl,(if_pos hk).symm,rfl,rfl⟩
  ·rw[if_neg hk];exact ⟨_,_,rfl,(if_neg hk).symm,rfl,rfl⟩
end Fo
theorem StopT.more {nx:Fo} {kind:Int} {n col:Nat} {B:List Tok} (h:StopT B col):StopT (nx.tok kind n col++B) (col+2):=by
 intro t ht;by_cases hn:nx= .nil
 ·subst hn;have:=h t ht;omega
 ·obtain ⟨t1,r,e,-,-,hc⟩:=Fo.tok_head hn kind n col;rw[e]at ht;obtain rfl:t1=t:=by simpa using ht
  omega
theorem StopT.not {ts B:List Tok} {k col:Nat} {kind:Int} (h:StopT B col) (hk:kind=2\/kind=3) (hd:ts.drop k=B):¬((nextT ts k).kind=leadK kind/\(nextT ts k).col=(col:Int)):=by
 rintro ⟨h1,h2⟩;cases B with
 |nil=>
  rw[a1k hd]at h1;rcases hk with rfl|rfl<;>exact absurd h1 (by decide)
 |cons t r=>
  have:=h t rfl;rw[(aCr hd).1]at h2;omega
theorem aR9 {t:Tok} {kind:Int} (hk:kind=2\/kind=3) (h:t.kind=leadK kind):hasB t=true:=by
 unfold hasB;rw[h];rcases hk with rfl|rfl<;>rfl
theorem a1l {t:Tok} (h:t.kind=4):hasB t=true:=by
 unfold hasB;rw[h];rfl
theorem a1m (ts:List Tok):∀(F:Fo) (kind:Int) (d n col k i:Nat) (ns:List Nd) (seen:List (List UInt8)) (B:List Tok) (f:Nat),ts.drop k=F.tok kind n col++B->StopT B col->F.Ok kind->(kind=2\/kind=3)->F.depth<=d->
 (kind=2->F.keys.Nodup/\∀key∈F.keys,key.data.toList ∉ seen)->ns.length+F.size<=4096->i<ns.length->(F.tok kind n col).length<=f->
 ∃ns',loopP kind ts d col i f seen k ns= .ok (k+(F.tok kind n col).length,ns')/\ns'.map er=aBo (ns.map er) i (F.heads ns.length)++F.flat ns.length:=by
 intro F
 induction F with
 |nil=>
  intro kind d n col k i ns seen B f hd hB hok hk hdep hseen hlen hi hf;exact ⟨ns,aXj (hB.not hk hd),by unfold Fo.heads Fo.flat;rw[aJ0,List.append_nil]⟩
 |sc key text q nx ih=>
  intro kind d n col k i ns seen B f hd hB hok hk hdep hseen hlen hi hf;obtain ⟨hkey,hsc,hnx⟩:=hok;rw[Fo.a1e]at hdep;rw[Fo.aH2]at hlen;obtain ⟨d',rfl⟩:∃d',d=d'+1:=⟨d-1,by omega⟩;obtain ⟨t,t1,e,q1,q2,q3,q4,q5,q6,q7⟩:∃t t1,(Fo.sc key text q nx).tok kind n col=t::t1::nx.tok kind (n+1) col/\t.kind=leadK kind/\t.col=(col:Int)/\t1.kind=4/\isT kind t1 t=true/\(⟨t1.text.toArray⟩:ByteArray)=text/\t1.quoted=q/\(keyT kind t=key/\(kind=2->t.text=key.data.toList)):=by
   rw[Fo.tok_sc];rcases hk with rfl|rfl
   ·rw[if_pos rfl];exact ⟨_,_,rfl,rfl,rfl,rfl,by simp[isT,aB4],aLo text,rfl,aLo key,fun _=>rfl⟩
   ·rw[if_neg (by decide)];exact ⟨_,_,rfl,rfl,rfl,rfl,by simp[isT,aFf],aLo text,rfl,(hkey.2 rfl).symm,fun h=>absurd h (by decide)⟩
  rw[e]at hd hf |-;have hd2:=(aCr hd).2.1;have hd3:=(aCr hd2).2.1;obtain ⟨f',rfl⟩:∃f',f=f'+1:=⟨f-1,by simp at hf;omega⟩;have hblk:=aTy (d:=d') (key:=keyT kind t) hd2 q3 (show ns.length<4096 by omega);have hst:=aOs (i:=i) (f:=f') (seen:=seen) hd q1 q2 (fun h=>by rw[q7.2 h];exact (hseen h).2 key (List.mem_cons_self ..)) q4 (a1l q3) hblk;obtain ⟨x,hx⟩:∃x:Nd,x=⟨1,keyT kind t,⟨t1.text.toArray⟩,t1.quoted,t1.line,[]⟩:=⟨_,rfl⟩
  rw[<-hx]at hst;have hl2:(aBx (ns++[x]) i ns.length).length=ns.length+1:=by rw[aE7,a7e];rfl
  obtain ⟨ns',r1,r2⟩:=ih kind (d'+1) (n+1) col (k+1+1) i (aBx (ns++[x]) i ns.length) (t.text::seen) B f' hd3 hB hnx hk (by omega)
   (fun h=>⟨(List.nodup_cons.1 (hseen h).1).2,fun key2 hk2 hm=>by
    rcases List.mem_cons.1 hm with hm|hm
    ·rw[q7.2 h]at hm;exact (List.nodup_cons.1 (hseen h).1).1 (a3w hm ▸ hk2)
    ·exact (hseen h).2 key2 (List.mem_cons_of_mem _ hk2) hm⟩)
   (by omega) (by omega) (by simp at hf;omega)
  refine ⟨ns',by rw[hst,r1];simp only[a7f];congr 2;omega,?_⟩;have hi2:i<(ns.map er).length:=by rw[List.length_map];exact hi
  rw[r2,hl2,aOr,List.map_append,aDy hi2,aDy (by rw[aCy];exact hi2),aE6];have hex:er x=⟨1,key,text,q,0,[]⟩:=by rw[hx];unfold er;rw[q7.1,q5,q6]
  rw[Fo.aR4,Fo.aW6,List.map_cons,List.map_nil,hex];simp
 |br kd key kids nx ihk ih=>
  intro kind d n col k i ns seen B f hd hB hok hk hdep hseen hlen hi hf;obtain ⟨hkey,hkd,hkn,hko,hnd,hnx⟩:=hok;rw[Fo.a1f]at hdep;rw[Fo.aH3]at hlen;obtain ⟨d',rfl⟩:∃d',d=d'+1:=⟨d-1,by omega⟩;obtain ⟨n1,n2,t,e,q1,q2,q4,q7⟩:∃n1 n2 t,(Fo.br kd key kids nx).tok kind n col=t::(kids.tok kd n1 (col+2)++nx.tok kind n2 col)/\t.kind=leadK kind/\t.col=(col:Int)/\(∀t1:Tok,t1.line=(n1:Int)->t1.col=((col+2:Nat):Int)->isT kind t1 t=true)/\(keyT kind t=key/\(kind=2->t.text=key.data.toList)):=by
   rw[Fo.tok_br];rcases hk with rfl|rfl
   ·rw[if_pos rfl,if_pos rfl];refine ⟨_,_,_,rfl,rfl,rfl,fun t1 h1 h2=> ?_,aLo key,fun _=>rfl⟩
    show aB4 t1 _=true
    unfold aB4;simp only;rw[h1,h2];have e1:(((n+1:Nat):Int) != (n:Int))=true:=by rw[bne_iff_ne];omega
    have e2:decide ((col:Int)<((col+2:Nat):Int))=true:=dT (by omega);rw[e1,e2];simp
   ·rw[if_neg (by decide),if_neg (by decide)];refine ⟨_,_,_,rfl,rfl,rfl,fun t1 h1 h2=> ?_,(hkey.2 rfl).symm,fun h=>absurd h (by decide)⟩
    show aFf t1 _=true
    unfold aFf;simp only;rw[h1];simp
  rw[e]at hd hf |-;obtain ⟨t1,r1,e1,p1,p2,p3⟩:=Fo.tok_head hkn kd n1 (col+2);rw[List.cons_append,List.append_assoc]at hd;have hd2:=(aCr hd).2.1;have hlt:=(aCr hd).2.2;have hd2':=hd2;have hd':=hd;rw[e1,List.cons_append]at hd2' hd';obtain ⟨f',rfl⟩:∃f',f=f'+1:=⟨f-1,by simp at hf;omega⟩;have hlk:(kids.tok kd n1 (col+2)).length<=ts.length-(k+1):=by
   have:=congrArg List.length hd2;rw[List.length_drop,a7e]at this;omega
  obtain ⟨ns2,s1,s2⟩:=ihk kd d' n1 (col+2) (k+1) ns.length (ns++[⟨kd,keyT kind t,⟨#[]⟩,false,t1.line,[]⟩]) [] (nx.tok kind n2 col++B) (ts.length-(k+1)) hd2 hB.more hko hkd (by omega) (fun h=>⟨hnd h,fun _ _ h2=>by cases h2⟩) (by simp;omega) (by simp) hlk;rw[<-p3]at s1;have hblk:=aR8 (d:=d') (key:=keyT kind t) hkd hd2' p1 (show ns.length<4096 by omega) s1;have hst:=aOs (i:=i) (f:=f') (seen:=seen) hd' q1 q2 (fun h=>by rw[q7.2 h];exact (hseen h).2 key (List.mem_cons_self ..)) (q4 t1 p2 p3) (aR9 hkd p1) hblk
  have hns2:ns2.map er=ns.map er++(⟨kd,key,⟨#[]⟩,false,0,kids.heads (ns.length+1)⟩::kids.flat (ns.length+1)):=by
   rw[s2,List.map_append,a7e];have e3:(ns.map er).length=ns.length:=List.length_map ..;rw[<-e3]
   show aBo (ns.map er++[er _]) (ns.map er).length _++_=_
   rw[aD7,q7.1];simp[er]
  have hl2:ns2.length=ns.length+1+kids.size:=by
   have:=congrArg List.length hns2;rw[List.length_map,a7e,List.length_map,a7f,Fo.flat_len]at this;omega
  have hd3:ts.drop (k+1+(kids.tok kd n1 (col+2)).length)=nx.tok kind n2 col++B:=by
   rw[<-List.drop_drop,hd2,List.drop_left]
  obtain ⟨ns',r1,r2⟩:=ih kind (d'+1) n2 col (k+1+(kids.tok kd n1 (col+2)).length) i (aBx ns2 i ns.length) (t.text::seen) B f' hd3 hB hnx hk (by omega)
   (fun h=>⟨(List.nodup_cons.1 (hseen h).1).2,fun key2 hk2 hm=>by
    rcases List.mem_cons.1 hm with hm|hm
    ·rw[q7.2 h]at hm;exact (List.nodup_cons.1 (hseen h).1).1 (a3w hm ▸ hk2)
    ·exact (hseen h).2 key2 (List.mem_cons_of_mem _ hk2) hm⟩)
   (by rw[aE7];omega) (by rw[aE7];omega) (by simp at hf;omega)
  refine ⟨ns',by rw[hst,r1];simp only[a7f,a7e];congr 2;omega,?_⟩;have hi2:i<(ns.map er).length:=by rw[List.length_map];exact hi
  rw[r2,aE7,hl2,aOr,hns2,aDy hi2,aDy (by rw[aCy];exact hi2),aE6,Fo.aR5,Fo.aW7];simp
theorem aOt {F:Fo} (hn:F≠ .nil) (hok:F.Ok 2) (hnd:F.keys.Nodup) (hdep:F.depth<=15) (hsz:F.size<=4095) (n:Nat):∃ns,docTP (F.tok 2 n 0)= .ok ns/\ns.map er=F.doc:=by
 obtain ⟨t,r,e,h1,h2,h3⟩:=Fo.tok_head hn 2 n 0;obtain ⟨ts,hts⟩:∃ts,ts=F.tok 2 n 0:=⟨_,rfl⟩;rw[<-hts]at e |-;have hd:ts.drop 0=F.tok 2 n 0++[]:=by rw[List.drop_zero,List.append_nil,hts]
 obtain ⟨ns',r1,r2⟩:=a1m ts F 2 15 n 0 0 0 ([]++[⟨2,⟨#[]⟩,⟨#[]⟩,false,t.line,[]⟩]) [] [] (ts.length-0) hd (fun t h=>by cases h) hok (.inl rfl) hdep (fun _=>⟨hnd,fun _ _ h=>by cases h⟩) (by simp;omega) (by simp) (by rw[hts];simp);have hd0:ts.drop 0=t::r:=by rw[List.drop_zero,e]
 have hblk:=aR8 (d:=15) (ns:=[]) (key:=⟨#[]⟩) (.inl rfl) hd0 h1 (by decide) (by rw[h3];exact r1);refine ⟨ns',?_,?_⟩
 ·unfold docTP;rw[(aCr hd0).1,aR9 (.inl rfl) h1,if_pos rfl,hblk];simp only;rw[if_neg (by rw[hts];omega)]
 ·rw[r2];have:=aD7 [] (er ⟨2,⟨#[]⟩,⟨#[]⟩,false,t.line,[]⟩) (F.heads 1)
  show aBo ([]++[er ⟨2,⟨#[]⟩,⟨#[]⟩,false,t.line,[]⟩]) ([]:List Nd).length (F.heads 1)++F.flat 1=_
  rw[this];unfold Fo.doc;rw[Fo.aW7];simp[er,Fo.flat]
structure DocG (F:Fo):Prop where
 ne:F≠ .nil
 ok:F.Ok 2
 nodup:F.keys.Nodup
 depth:F.depth<=15
 size:F.size<=4095
def joinT:List Fo->List UInt8
 |[]=>[]
 |[F]=>F.txt 2 0
 |F::G::r=>F.txt 2 0++(45::45::45::10::joinT (G::r))
def toksD:Nat->List Fo->List Tok
 |_,[]=>[]
 |n,[F]=>F.tok 2 (n+1) 0
 |n,F::G::r=>F.tok 2 (n+1) 0++(⟨1,((n+F.nl 2+1:Nat):Int),0,[],false⟩::toksD (n+F.nl 2+1) (G::r))
theorem aXk (n:Int):lineL [45,45,45] n= .ok [⟨1,n,0,[],false⟩]:=by
 unfold lineL;rw[if_neg (by decide),if_pos (by decide)]
theorem aSa {F:Fo} (h:DocG F) (n:Nat) (b:List UInt8):Scan (F.txt 2 0++b) n (F.tok 2 (n+1) 0) b (n+F.nl 2):=by
 have:=a55 F 2 0 0 n b h.ne h.ok (.inl rfl) (.inr rfl);exact this
theorem aXl (n:Nat) (b:List UInt8):Scan (45::45::45::10::b) n [⟨1,((n+1:Nat):Int),0,[],false⟩] b (n+1):=by
 have:=aG9 (l:=[45,45,45]) (b:=b) (n:=n) (by decide) (aXk ((n+1:Nat):Int));exact this
theorem aOu:∀(Fs:List Fo) (n:Nat),(∀F∈Fs,DocG F)->∃m,Scan (joinT Fs) n (toksD n Fs) [] m
 |[],n,_=>⟨n,Scan.refl _ _⟩
 |[F],n,h=>by
  have:=aSa (h F (List.mem_cons_self ..)) n [];rw[List.append_nil]at this;exact ⟨_,this⟩
 |F::G::r,n,h=>by
  obtain ⟨m,hm⟩:=aOu (G::r) (n+F.nl 2+1) (fun F hF=>h F (List.mem_cons_of_mem _ hF));exact ⟨m,(aSa (h F (List.mem_cons_self ..)) n _).trans ((aXl _ _).trans hm)⟩
theorem a1n {Fs:List Fo} (h:∀F∈Fs,DocG F) (hl:(joinT Fs).length<=65536):scanL (joinT Fs)= .ok (toksD 0 Fs):=by
 obtain ⟨m,hm⟩:=aOu Fs 0 h;obtain ⟨f',h1,h2⟩:=hm ((joinT Fs).length+1) 0 [] (Nat.lt_succ_self _);unfold scanL;rw[if_neg (by omega),h2];obtain ⟨f2,rfl⟩:∃f2,f'=f2+1:=⟨f'-1,by simp at h1;omega⟩;unfold aG6;rw[if_pos rfl];rfl
theorem aF3:∀(F:Fo) (kind:Int) (n col:Nat),∀t∈F.tok kind n col,t.kind≠1
 | .nil,_,_,_,t,h=>by cases h
 | .sc key text q nx,kind,n,col,t,h=>by
  rw[Fo.tok_sc]at h;rcases List.mem_append.1 h with h|h
  ·split at h
   ·rcases List.mem_cons.1 h with rfl|h
    ·exact (show (3:Int)≠1 by decide)
    ·obtain rfl:=List.mem_singleton.1 h;exact (show (4:Int)≠1 by decide)
   ·rcases List.mem_cons.1 h with rfl|h
    ·exact (show (2:Int)≠1 by decide)
    ·obtain rfl:=List.mem_singleton.1 h;exact (show (4:Int)≠1 by decide)
  ·exact aF3 nx _ _ _ t h
 | .br kd key kids nx,kind,n,col,t,h=>by
  rw[Fo.tok_br]at h;rcases List.mem_append.1 h with h|h
  ·split at h
   ·rcases List.mem_cons.1 h with rfl|h
    ·exact (show (3:Int)≠1 by decide)
    ·exact aF3 kids _ _ _ t h
   ·rcases List.mem_cons.1 h with rfl|h
    ·exact (show (2:Int)≠1 by decide)
    ·exact aF3 kids _ _ _ t h
  ·exact aF3 nx _ _ _ t h
theorem aSb {a:List Tok} (h:∀t∈a,t.kind≠1) {b:List Tok} (hb:b=[]\/∃t r,b=t::r/\t.kind=1):docN (a++b)=a.length:=by
 induction a with
 |nil=>
  rcases hb with rfl|⟨t,r,rfl,ht⟩
  ·rfl
  ·show docN (t::r)=0
   unfold docN;rw[if_pos ht]
 |cons x a ih=>
  rw[List.cons_append];unfold docN;rw[if_neg (h x (List.mem_cons_self ..)),ih (fun t ht=>h t (List.mem_cons_of_mem _ ht))];rfl
theorem a3x {F:Fo} (h:F≠ .nil) (n:Nat):F.tok 2 n 0≠[]:=by
 obtain ⟨t,r,e,-⟩:=Fo.tok_head h 2 n 0;rw[e];simp
theorem aXm:∀(Fs:List Fo) (n k f:Nat),(∀F∈Fs,DocG F)->(toksD n Fs).length<=f->∃L,ofL f (toksD n Fs) k= .ok L/\L.map (·.map er)=Fs.map Fo.doc
 |[],n,k,f,_,_=>⟨[],by unfold toksD;cases f with|zero=>rfl|succ f=>(unfold ofL;rw[if_pos rfl]),rfl⟩
 |[F],n,k,f,h,hf=>by
  have hF:=h F (List.mem_cons_self ..);obtain ⟨ns,h1,h2⟩:=aOt hF.ne hF.ok hF.nodup hF.depth hF.size (n+1);have hne:=a3x hF.ne (n+1);have hd:=aSb (aF3 F 2 (n+1) 0) (b:=[]) (.inl rfl);rw[List.append_nil]at hd;have hp:0<(F.tok 2 (n+1) 0).length:=List.length_pos_iff.2 hne;unfold toksD at hf |-;obtain ⟨f',rfl⟩:∃f',f=f'+1:=⟨f-1,by omega⟩;refine ⟨[ns],?_,by simp[h2]⟩;unfold ofL;rw[if_neg hne,hd,if_neg (by omega),List.take_length,h1]
  simp only;rw[List.drop_eq_nil_of_le (by omega)];cases f' with
  |zero=>rfl
  |succ f'=>unfold ofL;rw[if_pos rfl]
 |F::G::r,n,k,f,h,hf=>by
  have hF:=h F (List.mem_cons_self ..);obtain ⟨ns,h1,h2⟩:=aOt hF.ne hF.ok hF.nodup hF.depth hF.size (n+1);have hne:=a3x hF.ne (n+1);have hd:=aSb (aF3 F 2 (n+1) 0) (b:=⟨1,((n+F.nl 2+1:Nat):Int),0,[],false⟩::toksD (n+F.nl 2+1) (G::r)) (.inr ⟨_,_,rfl,rfl⟩);have hp:0<(F.tok 2 (n+1) 0).length:=List.length_pos_iff.2 hne;unfold toksD at hf |-;rw[a7e,a7f]at hf
  obtain ⟨f',rfl⟩:∃f',f=f'+1:=⟨f-1,by omega⟩;obtain ⟨L,q1,q2⟩:=aXm (G::r) (n+F.nl 2+1) (k+1) f' (fun F hF=>h F (List.mem_cons_of_mem _ hF)) (by omega);refine ⟨ns::L,?_,by rw[List.map_cons,q2,h2];rfl⟩;unfold ofL;rw[if_neg (by simp),hd,if_neg (by omega),List.take_left,h1];simp only;have hdr:∀(a b:List Tok) (t:Tok),(a++t::b).drop (a.length+1)=b:=fun a b t=>by
   rw[<-List.drop_drop,List.drop_left];rfl
  rw[hdr,q1]
def sR {α β:Type} (f:α->β) (x:R α):R β:=match x with| .ok a=> .ok (f a)| .error e=> .error (0,e.2)
theorem sR_ok {α β:Type} (f:α->β) (a:α):sR f (.ok a)= .ok (f a):=rfl
theorem er_at (ns:List Nd) (k:Nat):(ns.map er)[k]! =er (ns[k]!):=by
 rw[List.getElem!_eq_getElem?_getD,List.getElem!_eq_getElem?_getD,List.getElem?_map];cases ns[k]? <;>rfl
theorem aJ1 (n:Nd):(er n).kind=n.kind:=rfl
theorem aOv (n:Nd):(er n).key=n.key:=rfl
theorem aQc (n:Nd):(er n).text=n.text:=rfl
theorem aOw (n:Nd):(er n).quoted=n.quoted:=rfl
theorem aGn (n:Nd):(er n).kids=n.kids:=rfl
theorem aJ2 (n:Nd):(er n).line=0:=rfl
theorem aSc (ns:List Nd) (kind:Int) (deep:Nat):∀(l:List Int) (last:Int) (had:List ByteArray) (d:List Nat),kidsP (ns.map er) kind deep l last had d=kidsP ns kind deep l last had d
 |[],_,_,_=>rfl
 |k::r,last,had,d=>by
  unfold kidsP;rw[List.length_map,er_at,aOv,aSc ns kind deep r]
theorem a1o (ns:List Nd) (i:Nat) (n:Nd) (d:List Nat):nodeP (ns.map er) i (er n) d=nodeP ns i n d:=by
 unfold nodeP aCf;rw[aJ1,aGn,aQc,aOw,aSc]
theorem aSd (ns:List Nd):∀(l:List Nd) (i:Nat) (d:List Nat),restP (ns.map er) (l.map er) i d=restP ns l i d
 |[],_,_=>rfl
 |n::r,i,d=>by
  rw[List.map_cons];unfold restP;rw[a1o];cases nodeP ns i n d with
  |none=>rfl
  |some d'=>exact aSd ns r (i+1) d'
theorem a1p (ns:List Nd):treeP (ns.map er)=treeP ns:=by
 unfold treeP;rw[aSd,er_at,aOv,List.length_map];congr 1;congr 1;simp
theorem aXn (ns:List Nd) (m:Nd) (key:ByteArray):aA2 (ns.map er) (er m) key=aA2 ns m key:=by
 unfold aA2;simp only[er_at,aOv,aGn]
theorem aEo (ns:List Nd) (m:Nd) (key:ByteArray):aA9 (ns.map er) (er m) key=(aA9 ns m key).map er:=by
 unfold aA9;rw[aXn];cases aA2 ns m key with
 |none=>rfl
 |some k=>exact congrArg some (er_at ns k)
theorem aDg (ns:List Nd) (m:Nd) (key:ByteArray):needP (ns.map er) (er m) key=sR er (needP ns m key):=by
 unfold needP;rw[aEo];cases aA9 ns m key<;>rfl
theorem aHa (ns:List Nd) (keys:List ByteArray):∀l:List Int,onlyP (ns.map er) keys l=sR id (onlyP ns keys l)
 |[]=>rfl
 |k::r=>by
  unfold onlyP;rw[er_at,aOv]
  split
  ·exact aHa ns keys r
  ·rfl
theorem aCn (n:Nd) (so:ByteArray->Bool):wordP (er n) so=sR id (wordP n so):=by
 unfold wordP;rw[aJ1,aQc,aJ2]
 split<;>rfl
theorem aMu (ns:List Nd) (n:Nd) (least most:Nat):listP (ns.map er) (er n) least most=sR (·.map er) (listP ns n least most):=by
 unfold listP;rw[aJ1,aGn,aJ2]
 split
 ·rfl
 ·split
  ·rfl
  ·rw[sR_ok,List.map_map];congr 1;refine List.map_congr_left fun k _=> ?_;rw[er_at];rfl
theorem aSe:∀(l:List Nd) (out:List ByteArray),endpP (l.map er) out=sR id (endpP l out)
 |[],out=>rfl
 |k::r,out=>by
  rw[List.map_cons];unfold endpP;rw[aCn];cases wordP k aAs with
  |error e=>rfl
  |ok s=>
   simp only[sR_ok,id_eq]
   split
   ·rfl
   ·exact aSe r _
theorem aQd (ns:List Nd) (m:Nd) (r:Res):aDd (ns.map er) (er m) r=sR id (aDd ns m r):=by
 unfold aDd;rw[aEo];cases aA9 ns m aAt with
 |none=>rfl
 |some n=>
  simp only[Option.map_some];rw[aMu];cases listP ns n 0 16 with
  |error e=>rfl
  |ok l=>
   simp only[sR_ok];rw[aSe];cases endpP l []<;>rfl
theorem aQe (n:Nd):mapP (er n)=sR id (mapP n):=by
 unfold mapP;rw[aJ1,aJ2]
 split<;>rfl
theorem aLp (n:Nd):aCd (er n)=sR id (aCd n):=by
 unfold aCd;rw[aJ1,aQc,aOw,aJ2]
 split
 ·rfl
 ·split
  ·split<;>rfl
  ·split
   ·split<;>rfl
   ·rfl
theorem aLq (ns:List Nd):∀(l:List Int) (b:Nd),aCp (ns.map er) l (er b)=er (aCp ns l b)
 |[],b=>rfl
 |k::r,b=>by
  unfold aCp;simp only[List.foldl_cons];have:=aLq ns r;unfold aCp at this;rw[er_at,aOv]
  split
  ·exact this _
  ·exact this _
theorem aTz (ns:List Nd) (k:Nd):aCq (ns.map er) (er k)=sR id (aCq ns k):=by
 unfold aCq;rw[aQe,aGn,aHa,aEo,aEo,aDg,aJ2];cases mapP k with
 |error e=>rfl
 |ok u=>
  simp only[sR_ok];cases onlyP ns [aAv,aAu,aA8] k.kids with
  |error e=>rfl
  |ok u=>
   simp only[sR_ok];cases ha:aA9 ns k aAv with
   |none=>
    cases hb:aA9 ns k aAu with
    |none=>rfl
    |some b=>
     simp only[Option.map_none,Option.map_some];rw[aCn];cases wordP b aAs with
     |error e=>rfl
     |ok s=>
      simp only[sR_ok,id_eq];cases needP ns k aA8 with
      |error e=>rfl
      |ok n=>
       simp only[sR_ok];rw[aLp];cases aCd n<;>rfl
   |some a=>
    cases hb:aA9 ns k aAu with
    |none=>
     simp only[Option.map_none,Option.map_some];rw[aCn];cases wordP a aAs with
     |error e=>rfl
     |ok s=>
      simp only[sR_ok,id_eq];cases needP ns k aA8 with
      |error e=>rfl
      |ok n=>
       simp only[sR_ok];rw[aLp];cases aCd n<;>rfl
    |some b=>
     simp only[Option.map_some];rw[aLq];rfl
theorem aJ3 (ns:List Nd):∀(l:List Nd) (out:List Tgt),aAw (ns.map er) (l.map er) out=sR id (aAw ns l out)
 |[],out=>rfl
 |k::r,out=>by
  rw[List.map_cons];unfold aAw;rw[aTz];cases aCq ns k with
  |error e=>rfl
  |ok t=>exact aJ3 ns r _
theorem aXo (ns:List Nd) (m:Nd) (r:Res):aF8 (ns.map er) (er m) r=sR id (aF8 ns m r):=by
 unfold aF8;rw[aDg];cases needP ns m aBl with
 |error e=>rfl
 |ok n=>
  simp only[sR_ok];rw[aMu];cases listP ns n 1 8 with
  |error e=>rfl
  |ok l=>
   simp only[sR_ok];rw[aJ3];cases aAw ns l []<;>rfl
theorem a1q (ns:List Nd) (act:Bool) (k:Nd):ruleP (ns.map er) act (er k)=sR id (ruleP ns act k):=by
 unfold ruleP;rw[aQe,aGn,aHa,aDg,aDg,aDg,aEo];cases mapP k with
 |error e=>rfl
 |ok u=>
 simp only[sR_ok];cases onlyP ns [kPath,aA7,if act=true then aBn else aAu] k.kids with
 |error e=>rfl
 |ok u=>
 simp only[sR_ok];cases act with
 |true=>
  simp only[if_true];cases needP ns k aBn with
  |error e=>rfl
  |ok n=>
  simp only[sR_ok];rw[aCn];cases wordP n isAct with
  |error e=>rfl
  |ok a=>
  simp only[sR_ok,id_eq];cases needP ns k kPath with
  |error e=>rfl
  |ok n=>
  simp only[sR_ok];rw[aCn];cases wordP n patB with
  |error e=>rfl
  |ok p=>
  simp only[sR_ok,id_eq];cases aA9 ns k aA7 with
  |none=>rfl
  |some n=>
   simp only[Option.map_some];rw[aCn];cases wordP n methB<;>rfl
 |false=>
  simp only[Bool.false_eq_true,if_false];cases needP ns k kPath with
  |error e=>rfl
  |ok n=>
  simp only[sR_ok];rw[aCn];cases wordP n patB with
  |error e=>rfl
  |ok p=>
  simp only[sR_ok,id_eq];cases aA9 ns k aA7 with
  |none=>
   simp only[Option.map_none];cases needP ns k aAu with
   |error e=>rfl
   |ok n=>
   simp only[sR_ok];rw[aCn];cases wordP n aAs<;>rfl
  |some n=>
   simp only[Option.map_some];rw[aCn];cases wordP n methB with
   |error e=>rfl
   |ok m=>
   simp only[sR_ok,id_eq];cases needP ns k aAu with
   |error e=>rfl
   |ok n=>
   simp only[sR_ok];rw[aCn];cases wordP n aAs<;>rfl
theorem aOx (ns:List Nd) (act:Bool):∀(l:List Nd) (out:List Rul),aBw (ns.map er) act (l.map er) out=sR id (aBw ns act l out)
 |[],out=>rfl
 |k::r,out=>by
  rw[List.map_cons];unfold aBw;rw[a1q];cases ruleP ns act k with
  |error e=>rfl
  |ok t=>exact aOx ns act r _
theorem aOy (ns:List Nd) (act:Bool) (m:Nd) (r:Res):aFl (ns.map er) act (er m) r=sR id (aFl ns act m r):=by
 unfold aFl;rw[aDg];cases needP ns m aBi with
 |error e=>rfl
 |ok n=>
  simp only[sR_ok];rw[aMu];cases listP ns n 1 16 with
  |error e=>rfl
  |ok l=>
   simp only[sR_ok];rw[aOx];cases aBw ns act l []<;>rfl
theorem aXp (ns:List Nd) (m:Nd) (r:Res):aFb (ns.map er) (er m) r=sR id (aFb ns m r):=by
 unfold aFb;rw[aDg];cases needP ns m kHost with
 |error e=>rfl
 |ok n=>
  simp only[sR_ok];rw[aCn];cases wordP n hostB with
  |error e=>rfl
  |ok s=>exact aOy ns false m _
theorem aT0 (ns:List Nd) (m:Nd) (r:Res):aDj (ns.map er) (er m) r=sR id (aDj ns m r):=by
 unfold aDj;rw[aDg];cases needP ns m aC7 with
 |error e=>rfl
 |ok n=>
  simp only[sR_ok];rw[aCn];cases wordP n aAs with
  |error e=>rfl
  |ok s=>exact aOy ns true m _
theorem a1r (ns:List Nd) (m:Nd) (r:Res) (k:Nat):bodyP (ns.map er) (er m) r k=sR id (bodyP ns m r k):=by
 unfold bodyP;rw[aGn,aHa];cases onlyP ns (kKind::kName::ownF k) m.kids with
 |error e=>rfl
 |ok u=>
  simp only[sR_ok]
  split
  ·exact aQd ns m r
  ·split
   ·exact aXo ns m r
   ·split
    ·exact aXp ns m r
    ·exact aT0 ns m r
theorem aXq (ns:List Nd):docP (ns.map er)=sR id (docP ns):=by
 unfold docP;rw[a1p,er_at,aQe,aDg,aDg,aEo,aGn,aHa];by_cases ht:treeP ns=false
 ·rw[if_pos ht,if_pos ht];rfl
 rw[if_neg ht,if_neg ht];cases mapP (ns[0]!) with
 |error e=>rfl
 |ok u=>
 simp only[sR_ok];cases needP ns (ns[0]!) kKind with
 |error e=>rfl
 |ok k=>
 simp only[sR_ok];have hk:kindN (er k)=kindN k:=rfl;rw[hk];by_cases hk0:kindN k=0
 ·rw[if_pos hk0,if_pos hk0];rfl
 rw[if_neg hk0,if_neg hk0];cases needP ns (ns[0]!) kName with
 |error e=>rfl
 |ok n=>
 simp only[sR_ok];rw[aCn];cases wordP n aAs with
 |error e=>rfl
 |ok s=>
 simp only[sR_ok,id_eq];cases aA9 ns (ns[0]!) aBb with
 |none=>exact a1r ns _ _ _
 |some x=>
  simp only[Option.map_some];have hx:isTrue (er x)=isTrue x:=rfl;rw[hx]
  split
  ·rfl
  ·cases onlyP ns [kKind,kName,aBb] (ns[0]!).kids<;>rfl
theorem aXr {ns ns2:List Nd} (h:ns.map er=ns2.map er) {r:Res} (hr:docP ns= .ok r):docP ns2= .ok r:=by
 have h1:=aXq ns;rw[h,aXq ns2,hr]at h1;cases h2:docP ns2 with
 |error e=>rw[h2]at h1;cases h1
 |ok x=>
  rw[h2]at h1;have h3:(Except.ok x:R Res)= .ok r:=h1;rw[h3]
