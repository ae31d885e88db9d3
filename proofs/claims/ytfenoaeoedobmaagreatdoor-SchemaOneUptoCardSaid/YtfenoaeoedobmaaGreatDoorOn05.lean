/-
Parts of a proof.
-/
import Derived.Test.YtfenoaeoedobmaaGreatDoorOn04
set_option linter.unusedVariables false
set_option linter.unusedSimpArgs false
namespace Go.Proofs.YtfenoaeoedobmaaGreatDoor
open Go Go.RowKit
def er (n:Nd):Nd:={n with line:=0}
def cV (ns:List Nd) (i:Nat) (hs:List Int):List Nd:=match ns[i]? with|some x=>ns.set i {x with kids:=x.kids++hs}|none=>ns
theorem eX {ns:List Nd} {i:Nat} {x:Nd} (h:ns[i]? =some x) (hs:List Int):cV ns i hs=ns.set i {x with kids:=x.kids++hs}:=by
 unfold cV;rw[h]
theorem fK (ns:List Nd) (i:Nat) (hs:List Int):(cV ns i hs).length=ns.length:=by
 unfold cV
 split
 ·rw[List.length_set]
 ·rfl
theorem tW (ns:List Nd) (i:Nat):cV ns i []=ns:=by
 unfold cV
 split
 ·rename_i x h
  obtain ⟨hl,e⟩:=aBo h;rw[List.append_nil]
  show ns.set i x=ns
  rw[<-e,List.set_getElem_self]
 ·rfl
theorem kW (ns:List Nd) (i:Nat) (a b:List Int):cV (cV ns i a) i b=cV ns i (a++b):=by
 cases h:ns[i]? with
 |none=>
  have e:∀hs,cV ns i hs=ns:=fun hs=>by unfold cV;rw[h]
  rw[e,e,e]
 |some x=>
  have hl:=(aBo h).1;rw[eX h a,eX (x:={x with kids:=x.kids++a}) (by rw[List.getElem?_set_self hl]),eX h];simp
theorem iO {ns:List Nd} {i:Nat} (hi:i<ns.length) (b:List Nd) (hs:List Int):cV (ns++b) i hs=cV ns i hs++b:=by
 have h:=aBn hi;rw[eX h,eX (x:=ns[i]) (by rw[List.getElem?_append_left hi];exact h),List.set_append_left _ _ hi]
theorem jx (ns:List Nd) (x:Nd) (hs:List Int):cV (ns++[x]) ns.length hs=ns++[{x with kids:=x.kids++hs}]:=by
 rw[eX (x:=x) (by simp)];simp
theorem zk (ns:List Nd) (i kid:Nat):(cF ns i kid).map er=cV (ns.map er) i [(kid:Int)]:=by
 unfold cF;cases h:ns[i]? with
 |none=>
  simp only;unfold cV;rw[List.getElem?_map,h];rfl
 |some x=>
  simp only;rw[eX (x:=er x) (by rw[List.getElem?_map,h];rfl),List.map_set];rfl
theorem kF (ns:List Nd) (i kid:Nat):(cF ns i kid).length=ns.length:=by
 unfold cF
 split
 ·rw[List.length_set]
 ·rfl
theorem fl {ts:List Tok} {k:Nat} {t:Tok} {r:List Tok} (h:ts.drop k=t::r):au ts k=t/\ts.drop (k+1)=r/\k<ts.length:=by
 have hk:k<ts.length:=by
  rcases Nat.lt_or_ge k ts.length with q|q
  ·exact q
  ·rw[List.drop_eq_nil_of_le q]at h;cases h
 refine ⟨?_,?_,hk⟩
 ·refine Cz ?_;have:=congrArg List.head? h;rw[List.head?_drop]at this;exact this
 ·rw[<-List.drop_drop,h];rfl
theorem Ny {ts:List Tok} {k:Nat} (h:ts.drop k=[]):au ts k=Me:=iw (by
 have:=congrArg List.length h;rw[List.length_drop]at this;simp at this;omega)
def tP (kind:Int) (ts:List Tok) (d:Nat) (col:Int) (i f:Nat) (seen:List (List UInt8)) (k:Nat) (ns:List Nd):Except Flt (Nat×List Nd):=
 if kind=2 then c9 (bo ts d) ts d col i f seen k ns else dv (bo ts d) ts d col i f k ns
def mD (kind:Int):Int:=if kind=2 then 3 else 2
def AH (kind:Int) (t:Tok):ByteArray:=if kind=2 then ⟨t.text.toArray⟩ else ⟨#[]⟩
def isT (kind:Int) (t1 t:Tok):Bool:=if kind=2 then dr t1 t else jf t1 t
theorem za {kind:Int} {ts:List Tok} {d:Nat} {col:Int} {i f:Nat} {seen:List (List UInt8)} {k:Nat} {ns:List Nd} {t t1:Tok} {r:List Tok} {k2:Nat} {ns2:List Nd} {kid:Nat} (hd:ts.drop k=t::t1::r) (ht:t.kind=mD kind) (hc:t.col=col) (hs:kind=2->t.text ∉ seen)
 (Yb:isT kind t1 t=true) (hb:pL t1=true) (hv:bo ts d (k+1) ns (AH kind t)= .ok (k2,ns2,kid)):tP kind ts d col i (f+1) seen k ns=tP kind ts d col i f (t.text::seen) k2 (cF ns2 i kid):=by
 obtain ⟨h1,h2,-⟩:=fl hd;obtain ⟨h3,-,-⟩:=fl h2;unfold tP;by_cases hk:kind=2
 ·have Zr:t.kind=3:=by rw[ht];unfold mD;rw[if_pos hk]
  have Ws:dr t1 t=true:=by unfold isT at Yb;rw[if_pos hk]at Yb;exact Yb
  have Oj:bo ts d (k+1) ns ⟨t.text.toArray⟩= .ok (k2,ns2,kid):=by unfold AH at hv;rw[if_pos hk]at hv;exact hv
  rw[if_pos hk,if_pos hk]
  conv=>lhs;unfold c9
  simp only;rw[h1,if_pos ⟨Zr,hc⟩,if_neg (hs hk)];have:iL (bo ts d) ts d (dr (au ts (k+1)) t) t (k+1) ns ⟨t.text.toArray⟩= .ok (k2,ns2,kid):=by
   unfold iL;rw[h3,Ws,hb,if_pos (show (true&&true)=true from rfl),Oj]
  rw[this]
 ·have Zr:t.kind=2:=by rw[ht];unfold mD;rw[if_neg hk]
  have Ws:jf t1 t=true:=by unfold isT at Yb;rw[if_neg hk]at Yb;exact Yb
  have Oj:bo ts d (k+1) ns ⟨#[]⟩= .ok (k2,ns2,kid):=by unfold AH at hv;rw[if_neg hk]at hv;exact hv
  rw[if_neg hk,if_neg hk]
  conv=>lhs;unfold dv
  simp only;rw[h1,if_pos ⟨Zr,hc⟩];have:iL (bo ts d) ts d (jf (au ts (k+1)) t) t (k+1) ns ⟨#[]⟩= .ok (k2,ns2,kid):=by
   unfold iL;rw[h3,Ws,hb,if_pos (show (true&&true)=true from rfl),Oj]
  rw[this]
theorem Kc {kind:Int} {ts:List Tok} {d:Nat} {col:Int} {i f:Nat} {seen:List (List UInt8)} {k:Nat} {ns:List Nd} (h:¬((au ts k).kind=mD kind/\(au ts k).col=col)):tP kind ts d col i f seen k ns= .ok (k,ns):=by
 unfold tP mD at*;by_cases hk:kind=2
 ·rw[if_pos hk]at h |-;cases f with
  |zero=>rfl
  |succ f=>
   unfold c9;simp only;rw[if_neg h]
 ·rw[if_neg hk]at h |-;cases f with
  |zero=>rfl
  |succ f=>
   unfold dv;simp only;rw[if_neg h]
theorem Gg {ts:List Tok} {d k:Nat} {ns:List Nd} {key:ByteArray} {t:Tok} {r:List Tok} (hd:ts.drop k=t::r) (ht:t.kind=4) (hl:ns.length<4096):
 bo ts (d+1) k ns key= .ok (k+1,ns++[⟨1,key,⟨t.text.toArray⟩,t.quoted,t.line,[]⟩],ns.length):=by
 obtain ⟨h1,-,-⟩:=fl hd;unfold bo;simp only;rw[h1,if_neg (by rw[ht];decide),if_neg (by rw[ht];decide)];unfold j4;rw[if_neg (by omega)]
theorem DJ {ts:List Tok} {d k:Nat} {ns:List Nd} {key:ByteArray} {t:Tok} {r:List Tok} {kd:Int} {k2:Nat} {ns2:List Nd} (gu:kd=2\/kd=3) (hd:ts.drop k=t::r) (ht:t.kind=mD kd) (hl:ns.length<4096)
 (h:tP kd ts d t.col ns.length (ts.length-k) [] k (ns++[⟨kd,key,⟨#[]⟩,false,t.line,[]⟩])= .ok (k2,ns2)):
 bo ts (d+1) k ns key= .ok (k2,ns2,ns.length):=by
 obtain ⟨h1,-,-⟩:=fl hd;unfold bo;simp only;rw[h1];unfold j4 tP at*;rcases gu with rfl|rfl
 ·rw[if_pos rfl]at h;have qM:t.kind=3:=ht;rw[if_pos qM,if_neg (by omega)];simp only;rw[h]
 ·rw[if_neg (by decide)]at h;have ht2:t.kind=2:=ht;rw[if_neg (by rw[ht2];decide),if_pos ht2,if_neg (by omega)];simp only;rw[h]
theorem sY (s:ByteArray):(⟨s.data.toList.toArray⟩:ByteArray)=s:=by cases s;simp
theorem P5 {a b:ByteArray} (h:a.data.toList=b.data.toList):a=b:=by rw[<-sY a,<-sY b,h]
def zJ (B:List Tok) (col:Nat):Prop:=∀t,B.head? =some t->t.col<(col:Int)
namespace Fo
theorem tok_head {F:Fo} (h:F≠nil) (kind:Int) (n col:Nat):∃t r,F.tok kind n col=t::r/\t.kind=mD kind/\t.line=(n:Int)/\t.col=(col:Int):=by
 unfold mD;cases F with
 |nil=>exact absurd rfl h
 |sc key text q nx=>
  rw[tok_sc];by_cases hk:kind=2
  ·rw[if_pos hk];exact ⟨_,_,rfl,(if_pos hk).symm,rfl,rfl⟩
  ·rw[if_neg hk];exact ⟨_,_,rfl,(if_neg hk).symm,rfl,rfl⟩
 |br kd key kids nx=>
  rw[tok_br];by_cases hk:kind=2
  ·rw[if_pos hk];exact ⟨_,_,rfl,(if_pos hk).symm,rfl,rfl⟩
  ·rw[if_neg hk];exact ⟨_,_,rfl,(if_neg hk).symm,rfl,rfl⟩
end Fo
theorem zJ.more {nx:Fo} {kind:Int} {n col:Nat} {B:List Tok} (h:zJ B col):zJ (nx.tok kind n col++B) (col+2):=by
 intro t ht;by_cases hn:nx= .nil
 ·subst hn;have:=h t ht;omega
 ·obtain ⟨t1,r,e,-,-,hc⟩:=Fo.tok_head hn kind n col;rw[e]at ht;obtain rfl:t1=t:=by simpa using ht
  omega
theorem zJ.not {ts B:List Tok} {k col:Nat} {kind:Int} (h:zJ B col) (hk:kind=2\/kind=3) (hd:ts.drop k=B):¬((au ts k).kind=mD kind/\(au ts k).col=(col:Int)):=by
 rintro ⟨h1,h2⟩;cases B with
 |nil=>
  rw[Ny hd]at h1;rcases hk with rfl|rfl<;>exact absurd h1 (by decide)
 |cons t r=>
  have:=h t rfl;rw[(fl hd).1]at h2;omega
theorem C6 {t:Tok} {kind:Int} (hk:kind=2\/kind=3) (h:t.kind=mD kind):pL t=true:=by
 unfold pL;rw[h];rcases hk with rfl|rfl<;>rfl
theorem O6 {t:Tok} (h:t.kind=4):pL t=true:=by
 unfold pL;rw[h];rfl
theorem Nl (ts:List Tok):∀(F:Fo) (kind:Int) (d n col k i:Nat) (ns:List Nd) (seen:List (List UInt8)) (B:List Tok) (f:Nat),ts.drop k=F.tok kind n col++B->zJ B col->F.Ok kind->(kind=2\/kind=3)->F.depth<=d->
 (kind=2->F.keys.Nodup/\∀key∈F.keys,key.data.toList ∉ seen)->ns.length+F.size<=4096->i<ns.length->(F.tok kind n col).length<=f->
 ∃TI,tP kind ts d col i f seen k ns= .ok (k+(F.tok kind n col).length,TI)/\TI.map er=cV (ns.map er) i (F.heads ns.length)++F.flat ns.length:=by
 intro F
 induction F with
 |nil=>
  intro kind d n col k i ns seen B f hd hB hok hk yg oX hlen hi hf;exact ⟨ns,Kc (hB.not hk hd),by unfold Fo.heads Fo.flat;rw[tW,List.append_nil]⟩
 |sc key text q nx ih=>
  intro kind d n col k i ns seen B f hd hB hok hk yg oX hlen hi hf;obtain ⟨cl,Qt,Qx⟩:=hok;rw[Fo.depth_sc]at yg;rw[Fo.size_sc]at hlen;obtain ⟨d',rfl⟩:∃d',d=d'+1:=⟨d-1,by omega⟩;obtain ⟨t,t1,e,q1,q2,q3,q4,q5,q6,q7⟩:∃t t1,(Fo.sc key text q nx).tok kind n col=t::t1::nx.tok kind (n+1) col/\t.kind=mD kind/\t.col=(col:Int)/\t1.kind=4/\isT kind t1 t=true/\(⟨t1.text.toArray⟩:ByteArray)=text/\t1.quoted=q/\(AH kind t=key/\(kind=2->t.text=key.data.toList)):=by
   rw[Fo.tok_sc];rcases hk with rfl|rfl
   ·rw[if_pos rfl];exact ⟨_,_,rfl,rfl,rfl,rfl,by simp[isT,dr],sY text,rfl,sY key,fun _=>rfl⟩
   ·rw[if_neg (by decide)];exact ⟨_,_,rfl,rfl,rfl,rfl,by simp[isT,jf],sY text,rfl,(cl.2 rfl).symm,fun h=>absurd h (by decide)⟩
  rw[e]at hd hf |-;have uh:=(fl hd).2.1;have Z7:=(fl uh).2.1;obtain ⟨f',rfl⟩:∃f',f=f'+1:=⟨f-1,by simp at hf;omega⟩;have bg:=Gg (d:=d') (key:=AH kind t) uh q3 (show ns.length<4096 by omega);have cw:=za (i:=i) (f:=f') (seen:=seen) hd q1 q2 (fun h=>by rw[q7.2 h];exact (oX h).2 key (List.mem_cons_self ..)) q4 (O6 q3) bg;obtain ⟨x,hx⟩:∃x:Nd,x=⟨1,AH kind t,⟨t1.text.toArray⟩,t1.quoted,t1.line,[]⟩:=⟨_,rfl⟩
  rw[<-hx]at cw;have mF:(cF (ns++[x]) i ns.length).length=ns.length+1:=by rw[kF,aBj];rfl
  obtain ⟨TI,r1,r2⟩:=ih kind (d'+1) (n+1) col (k+1+1) i (cF (ns++[x]) i ns.length) (t.text::seen) B f' Z7 hB Qx hk (by omega)
   (fun h=>⟨(List.nodup_cons.1 (oX h).1).2,fun V8 eZ hm=>by
    rcases List.mem_cons.1 hm with hm|hm
    ·rw[q7.2 h]at hm;exact (List.nodup_cons.1 (oX h).1).1 (P5 hm ▸ eZ)
    ·exact (oX h).2 V8 (List.mem_cons_of_mem _ eZ) hm⟩)
   (by omega) (by omega) (by simp at hf;omega)
  refine ⟨TI,by rw[cw,r1];simp only[aBk];congr 2;omega,?_⟩;have vl:i<(ns.map er).length:=by rw[List.length_map];exact hi
  rw[r2,mF,zk,List.map_append,iO vl,iO (by rw[fK];exact vl),kW];have hex:er x=⟨1,key,text,q,0,[]⟩:=by rw[hx];unfold er;rw[q7.1,q5,q6]
  rw[Fo.heads_sc,Fo.flat_sc,List.map_cons,List.map_nil,hex];simp
 |br kd key kids nx ihk ih=>
  intro kind d n col k i ns seen B f hd hB hok hk yg oX hlen hi hf;obtain ⟨cl,gu,cg,rR,fh,Qx⟩:=hok;rw[Fo.depth_br]at yg;rw[Fo.size_br]at hlen;obtain ⟨d',rfl⟩:∃d',d=d'+1:=⟨d-1,by omega⟩;obtain ⟨n1,n2,t,e,q1,q2,q4,q7⟩:∃n1 n2 t,(Fo.br kd key kids nx).tok kind n col=t::(kids.tok kd n1 (col+2)++nx.tok kind n2 col)/\t.kind=mD kind/\t.col=(col:Int)/\(∀t1:Tok,t1.line=(n1:Int)->t1.col=((col+2:Nat):Int)->isT kind t1 t=true)/\(AH kind t=key/\(kind=2->t.text=key.data.toList)):=by
   rw[Fo.tok_br];rcases hk with rfl|rfl
   ·rw[if_pos rfl,if_pos rfl];refine ⟨_,_,_,rfl,rfl,rfl,fun t1 h1 h2=> ?_,sY key,fun _=>rfl⟩
    show dr t1 _=true
    unfold dr;simp only;rw[h1,h2];have e1:(((n+1:Nat):Int) != (n:Int))=true:=by rw[bne_iff_ne];omega
    have e2:decide ((col:Int)<((col+2:Nat):Int))=true:=dT (by omega);rw[e1,e2];simp
   ·rw[if_neg (by decide),if_neg (by decide)];refine ⟨_,_,_,rfl,rfl,rfl,fun t1 h1 h2=> ?_,(cl.2 rfl).symm,fun h=>absurd h (by decide)⟩
    show jf t1 _=true
    unfold jf;simp only;rw[h1];simp
  rw[e]at hd hf |-;obtain ⟨t1,r1,e1,p1,p2,p3⟩:=Fo.tok_head cg kd n1 (col+2);rw[List.cons_append,List.append_assoc]at hd;have uh:=(fl hd).2.1;have aN:=(fl hd).2.2;have Z8:=uh;have hd':=hd;rw[e1,List.cons_append]at Z8 hd';obtain ⟨f',rfl⟩:∃f',f=f'+1:=⟨f-1,by simp at hf;omega⟩;have ZM:(kids.tok kd n1 (col+2)).length<=ts.length-(k+1):=by
   have:=congrArg List.length uh;rw[List.length_drop,aBj]at this;omega
  obtain ⟨ns2,s1,s2⟩:=ihk kd d' n1 (col+2) (k+1) ns.length (ns++[⟨kd,AH kind t,⟨#[]⟩,false,t1.line,[]⟩]) [] (nx.tok kind n2 col++B) (ts.length-(k+1)) uh hB.more rR gu (by omega) (fun h=>⟨fh h,fun _ _ h2=>by cases h2⟩) (by simp;omega) (by simp) ZM;rw[<-p3]at s1;have bg:=DJ (d:=d') (key:=AH kind t) gu Z8 p1 (show ns.length<4096 by omega) s1;have cw:=za (i:=i) (f:=f') (seen:=seen) hd' q1 q2 (fun h=>by rw[q7.2 h];exact (oX h).2 key (List.mem_cons_self ..)) (q4 t1 p2 p3) (C6 gu p1) bg
  have ZE:ns2.map er=ns.map er++(⟨kd,key,⟨#[]⟩,false,0,kids.heads (ns.length+1)⟩::kids.flat (ns.length+1)):=by
   rw[s2,List.map_append,aBj];have e3:(ns.map er).length=ns.length:=List.length_map ..;rw[<-e3]
   show cV (ns.map er++[er _]) (ns.map er).length _++_=_
   rw[jx,q7.1];simp[er]
  have mF:ns2.length=ns.length+1+kids.size:=by
   have:=congrArg List.length ZE;rw[List.length_map,aBj,List.length_map,aBk,Fo.flat_len]at this;omega
  have Z7:ts.drop (k+1+(kids.tok kd n1 (col+2)).length)=nx.tok kind n2 col++B:=by
   rw[<-List.drop_drop,uh,List.drop_left]
  obtain ⟨TI,r1,r2⟩:=ih kind (d'+1) n2 col (k+1+(kids.tok kd n1 (col+2)).length) i (cF ns2 i ns.length) (t.text::seen) B f' Z7 hB Qx hk (by omega)
   (fun h=>⟨(List.nodup_cons.1 (oX h).1).2,fun V8 eZ hm=>by
    rcases List.mem_cons.1 hm with hm|hm
    ·rw[q7.2 h]at hm;exact (List.nodup_cons.1 (oX h).1).1 (P5 hm ▸ eZ)
    ·exact (oX h).2 V8 (List.mem_cons_of_mem _ eZ) hm⟩)
   (by rw[kF];omega) (by rw[kF];omega) (by simp at hf;omega)
  refine ⟨TI,by rw[cw,r1];simp only[aBk,aBj];congr 2;omega,?_⟩;have vl:i<(ns.map er).length:=by rw[List.length_map];exact hi
  rw[r2,kF,mF,zk,ZE,iO vl,iO (by rw[fK];exact vl),kW,Fo.heads_br,Fo.flat_br];simp
theorem yT {F:Fo} (hn:F≠ .nil) (hok:F.Ok 2) (fh:F.keys.Nodup) (yg:F.depth<=15) (gQ:F.size<=4095) (n:Nat):∃ns,kj (F.tok 2 n 0)= .ok ns/\ns.map er=F.doc:=by
 obtain ⟨t,r,e,h1,h2,h3⟩:=Fo.tok_head hn 2 n 0;obtain ⟨ts,gA⟩:=ex (F.tok 2 n 0);rw[<-gA]at e |-;have hd:ts.drop 0=F.tok 2 n 0++[]:=by rw[List.drop_zero,List.append_nil,gA]
 obtain ⟨TI,r1,r2⟩:=Nl ts F 2 15 n 0 0 0 ([]++[⟨2,⟨#[]⟩,⟨#[]⟩,false,t.line,[]⟩]) [] [] (ts.length-0) hd (fun t h=>by cases h) hok (.inl rfl) yg (fun _=>⟨fh,fun _ _ h=>by cases h⟩) (by simp;omega) (by simp) (by rw[gA];simp);have Ua:ts.drop 0=t::r:=by rw[List.drop_zero,e]
 have bg:=DJ (d:=15) (ns:=[]) (key:=⟨#[]⟩) (.inl rfl) Ua h1 (by decide) (by rw[h3];exact r1);refine ⟨TI,?_,?_⟩
 ·unfold kj;rw[(fl Ua).1,C6 (.inl rfl) h1,if_pos rfl,bg];simp only;rw[if_neg (by rw[gA];omega)]
 ·rw[r2];have:=jx [] (er ⟨2,⟨#[]⟩,⟨#[]⟩,false,t.line,[]⟩) (F.heads 1)
  show cV ([]++[er ⟨2,⟨#[]⟩,⟨#[]⟩,false,t.line,[]⟩]) ([]:List Nd).length (F.heads 1)++F.flat 1=_
  rw[this];unfold Fo.doc;rw[Fo.flat_br];simp[er,Fo.flat]
structure DocG (F:Fo):Prop where
 ne:F≠ .nil
 ok:F.Ok 2
 nodup:F.keys.Nodup
 depth:F.depth<=15
 size:F.size<=4095
def qI:List Fo->List UInt8
 |[]=>[]
 |[F]=>F.txt 2 0
 |F::G::r=>F.txt 2 0++(45::45::45::10::qI (G::r))
def oR:Nat->List Fo->List Tok
 |_,[]=>[]
 |n,[F]=>F.tok 2 (n+1) 0
 |n,F::G::r=>F.tok 2 (n+1) 0++(⟨1,((n+F.nl 2+1:Nat):Int),0,[],false⟩::oR (n+F.nl 2+1) (G::r))
theorem Ka (n:Int):cM [45,45,45] n= .ok [⟨1,n,0,[],false⟩]:=by
 unfold cM;rw[if_neg (by decide),if_pos (by decide)]
theorem B9 {F:Fo} (h:DocG F) (n:Nat) (b:List UInt8):pR (F.txt 2 0++b) n (F.tok 2 (n+1) 0) b (n+F.nl 2):=by
 have:=Rm F 2 0 0 n b h.ne h.ok (.inl rfl) (.inr rfl);exact this
theorem Jt (n:Nat) (b:List UInt8):pR (45::45::45::10::b) n [⟨1,((n+1:Nat):Int),0,[],false⟩] b (n+1):=by
 have:=om (l:=[45,45,45]) (b:=b) (n:=n) (by decide) (Ka ((n+1:Nat):Int));exact this
theorem yF:∀(Fs:List Fo) (n:Nat),(∀F∈Fs,DocG F)->∃m,pR (qI Fs) n (oR n Fs) [] m
 |[],n,_=>⟨n,pR.refl _ _⟩
 |[F],n,h=>by
  have:=B9 (h F (List.mem_cons_self ..)) n [];rw[List.append_nil]at this;exact ⟨_,this⟩
 |F::G::r,n,h=>by
  obtain ⟨m,hm⟩:=yF (G::r) (n+F.nl 2+1) (fun F hF=>h F (List.mem_cons_of_mem _ hF));exact ⟨m,(B9 (h F (List.mem_cons_self ..)) n _).trans ((Jt _ _).trans hm)⟩
theorem Mz {Fs:List Fo} (h:∀F∈Fs,DocG F) (hl:(qI Fs).length<=65536):jn (qI Fs)= .ok (oR 0 Fs):=by
 obtain ⟨m,hm⟩:=yF Fs 0 h;obtain ⟨f',h1,h2⟩:=hm ((qI Fs).length+1) 0 [] (Nat.lt_succ_self _);unfold jn;rw[if_neg (by omega),h2];obtain ⟨f2,rfl⟩:∃f2,f'=f2+1:=⟨f'-1,by simp at h1;omega⟩;unfold iZ;rw[if_pos rfl];rfl
theorem lu:∀(F:Fo) (kind:Int) (n col:Nat),∀t∈F.tok kind n col,t.kind≠1
 | .nil,_,_,_,t,h=>by cases h
 | .sc key text q nx,kind,n,col,t,h=>by
  rw[Fo.tok_sc]at h;rcases List.mem_append.1 h with h|h
  ·split at h
   ·rcases List.mem_cons.1 h with rfl|h
    ·exact (show (3:Int)≠1 by decide)
    ·obtain rfl:=List.mem_singleton.1 h;exact (show (4:Int)≠1 by decide)
   ·rcases List.mem_cons.1 h with rfl|h
    ·exact (show (2:Int)≠1 by decide)
    ·obtain rfl:=List.mem_singleton.1 h;exact (show (4:Int)≠1 by decide)
  ·exact lu nx _ _ _ t h
 | .br kd key kids nx,kind,n,col,t,h=>by
  rw[Fo.tok_br]at h;rcases List.mem_append.1 h with h|h
  ·split at h
   ·rcases List.mem_cons.1 h with rfl|h
    ·exact (show (3:Int)≠1 by decide)
    ·exact lu kids _ _ _ t h
   ·rcases List.mem_cons.1 h with rfl|h
    ·exact (show (2:Int)≠1 by decide)
    ·exact lu kids _ _ _ t h
  ·exact lu nx _ _ _ t h
theorem Du {a:List Tok} (h:∀t∈a,t.kind≠1) {b:List Tok} (hb:b=[]\/∃t r,b=t::r/\t.kind=1):docN (a++b)=a.length:=by
 induction a with
 |nil=>
  rcases hb with rfl|⟨t,r,rfl,ht⟩
  ·rfl
  ·show docN (t::r)=0
   unfold docN;rw[if_pos ht]
 |cons x a ih=>
  rw[List.cons_append];unfold docN;rw[if_neg (h x (List.mem_cons_self ..)),ih (fun t ht=>h t (List.mem_cons_of_mem _ ht))];rfl
theorem Md {F:Fo} (h:F≠ .nil) (n:Nat):F.tok 2 n 0≠[]:=by
 obtain ⟨t,r,e,-⟩:=Fo.tok_head h 2 n 0;rw[e];simp
theorem GR:∀(Fs:List Fo) (n k f:Nat),(∀F∈Fs,DocG F)->(oR n Fs).length<=f->∃L,ofL f (oR n Fs) k= .ok L/\L.map (·.map er)=Fs.map Fo.doc
 |[],n,k,f,_,_=>⟨[],by unfold oR;cases f with|zero=>rfl|succ f=>(unfold ofL;rw[if_pos rfl]),rfl⟩
 |[F],n,k,f,h,hf=>by
  have hF:=h F (List.mem_cons_self ..);obtain ⟨ns,h1,h2⟩:=yT hF.ne hF.ok hF.nodup hF.depth hF.size (n+1);have hne:=Md hF.ne (n+1);have hd:=Du (lu F 2 (n+1) 0) (b:=[]) (.inl rfl);rw[List.append_nil]at hd;have hp:0<(F.tok 2 (n+1) 0).length:=List.length_pos_iff.2 hne;unfold oR at hf |-;obtain ⟨f',rfl⟩:∃f',f=f'+1:=⟨f-1,by omega⟩;refine ⟨[ns],?_,by simp[h2]⟩;unfold ofL;rw[if_neg hne,hd,if_neg (by omega),List.take_length,h1]
  simp only;rw[List.drop_eq_nil_of_le (by omega)];cases f' with
  |zero=>rfl
  |succ f'=>unfold ofL;rw[if_pos rfl]
 |F::G::r,n,k,f,h,hf=>by
  have hF:=h F (List.mem_cons_self ..);obtain ⟨ns,h1,h2⟩:=yT hF.ne hF.ok hF.nodup hF.depth hF.size (n+1);have hne:=Md hF.ne (n+1);have hd:=Du (lu F 2 (n+1) 0) (b:=⟨1,((n+F.nl 2+1:Nat):Int),0,[],false⟩::oR (n+F.nl 2+1) (G::r)) (.inr ⟨_,_,rfl,rfl⟩);have hp:0<(F.tok 2 (n+1) 0).length:=List.length_pos_iff.2 hne;unfold oR at hf |-;rw[aBj,aBk]at hf
  obtain ⟨f',rfl⟩:∃f',f=f'+1:=⟨f-1,by omega⟩;obtain ⟨L,q1,q2⟩:=GR (G::r) (n+F.nl 2+1) (k+1) f' (fun F hF=>h F (List.mem_cons_of_mem _ hF)) (by omega);refine ⟨ns::L,?_,by rw[List.map_cons,q2,h2];rfl⟩;unfold ofL;rw[if_neg (by simp),hd,if_neg (by omega),List.take_left,h1];simp only;have rT:∀(a b:List Tok) (t:Tok),(a++t::b).drop (a.length+1)=b:=fun a b t=>by
   rw[<-List.drop_drop,List.drop_left];rfl
  rw[rT,q1]
def mK (ns:List Nd) (i k:Nat):List Nat:=
 (List.range i).flatMap fun j=>((ns[j]!).kids.filter fun x=>decide (x=(k:Int))).map fun _=>j
theorem wx (ns:List Nd) (k:Nat):pz ns k=mK ns k k:=rfl
theorem ot (ns:List Nd) (i k:Nat):mK ns (i+1) k=mK ns i k++((ns[i]!).kids.filter fun x=>decide (x=(k:Int))).map fun _=>i:=by
 unfold mK;rw[List.range_succ,List.flatMap_append];simp
theorem RH {ns:List Nd} {i k p:Nat} (h:p∈mK ns i k):p<i:=by
 unfold mK at h;obtain ⟨j,hj,hp⟩:=List.mem_flatMap.1 h;obtain ⟨_,_,rfl⟩:=List.mem_map.1 hp;exact List.mem_range.1 hj
theorem yV (ns:List Nd) (k:Nat):∀(m i:Nat),∃r,mK ns (i+m) k=mK ns i k++r
 |0,i=>⟨[],by simp⟩
 |m+1,i=>by
  obtain ⟨r,hr⟩:=yV ns k m i;refine ⟨r++((ns[i+m]!).kids.filter fun x=>decide (x=(k:Int))).map fun _=>i+m,?_⟩;rw[<-Nat.add_assoc,ot,hr,List.append_assoc]
theorem iB {ns:List Nd} {kind:Int}:∀{l:List Int} {last:Int} {had:List ByteArray},eS ns kind l last had=true->
 (∀x∈l,last<x/\x<(ns.length:Int))/\l.Pairwise (· <·)
 |[],_,_,_=>⟨(fun _ h=>nomatch h),List.Pairwise.nil⟩
 |k::r,last,had,h=>by
  unfold eS at h
  split at h
  ·cases h
  ·rename_i h1
   split at h
   ·cases h
   ·obtain ⟨h3,h4⟩:=iB h;have h5:last<k/\k<(ns.length:Int):=by omega
    refine ⟨fun x hx=> ?_,List.Pairwise.cons (fun x hx=>(h3 x hx).1) h4⟩;rcases List.mem_cons.1 hx with rfl|hx
    ·exact h5
    ·have:=h3 x hx;omega
theorem Mt (d:List Nat) (a b v:Nat) (h:a≠b):(d.set a v)[b]! =d[b]! :=by
 simp[List.getElem!_eq_getElem?_getD,List.getElem?_set,h]
theorem Ms (d:List Nat) (a v:Nat) (h:a<d.length):(d.set a v)[a]! =v:=by
 simp[List.getElem!_eq_getElem?_getD,List.getElem?_set,h]
def l5 (v:Nat) (l:List Int) (d:List Nat):List Nat:=l.foldl (fun d x=>d.set x.toNat v) d
theorem pn (v:Nat):∀(l:List Int) (d:List Nat),(l5 v l d).length=d.length
 |[],d=>rfl
 |x::r,d=>by
  show (l5 v r (d.set x.toNat v)).length=_
  rw[pn v r,List.length_set]
theorem jY (v:Nat) (k:Nat):∀(l:List Int) (d:List Nat),(∀x∈l,x.toNat≠k)->(l5 v l d)[k]! =d[k]!
 |[],d,_=>rfl
 |x::r,d,h=>by
  show (l5 v r (d.set x.toNat v))[k]! =_
  rw[jY v k r _ fun y hy=>h y (List.mem_cons_of_mem _ hy),Mt _ _ _ _ (h x (List.mem_cons_self ..))]
theorem rX (v:Nat) (k:Nat):∀(l:List Int) (d:List Nat),k<d.length->(∃x∈l,x.toNat=k)->(l5 v l d)[k]! =v
 |[],d,_,⟨x,hx,_⟩=>nomatch hx
 |x::r,d,hk,h=>by
  show (l5 v r (d.set x.toNat v))[k]! =_
  by_cases hr:∃y∈r,y.toNat=k
  ·exact rX v k r _ (by rw[List.length_set];exact hk) hr
  ·rw[jY v k r _ fun y hy he=>hr ⟨y,hy,he⟩];obtain ⟨y,hy,he⟩:=h;rcases List.mem_cons.1 hy with rfl|hy
   ·rw[he];exact Ms _ _ _ hk
   ·exact absurd ⟨y,hy,he⟩ hr
theorem wX {ns:List Nd} {kind:Int} {deep:Nat}:∀(l:List Int) (last:Int) (had:List ByteArray) (d:List Nat),0<=last->
 ((eS ns kind l last had=true/\∀x∈l,d[x.toNat]! =0)->c8 ns kind deep l last had d=some (l5 (deep+1) l d))/\
 (¬(eS ns kind l last had=true/\∀x∈l,d[x.toNat]! =0)->c8 ns kind deep l last had d=none)
 |[],last,had,d,_=>⟨fun _=>rfl,fun h=>absurd ⟨rfl,fun _ hx=>nomatch hx⟩ h⟩
 |k::r,last,had,d,h0=>by
  by_cases h1:k<=last\/(ns.length:Int)<=k
  ·have e1:eS ns kind (k::r) last had=false:=by unfold eS;rw[if_pos h1]
   have e2:c8 ns kind deep (k::r) last had d=none:=by
    unfold c8;rw[if_pos (by rcases h1 with h|h;exact .inl h;exact .inr (.inl h))]
   exact ⟨fun h=>absurd h.1 (by rw[e1];simp),fun _=>e2⟩
  ·by_cases h2:d[k.toNat]! ≠0
   ·have e2:c8 ns kind deep (k::r) last had d=none:=by
     unfold c8;rw[if_pos (.inr (.inr h2))]
    exact ⟨fun h=>absurd (h.2 k (List.mem_cons_self ..)) h2,fun _=>e2⟩
   ·have h3:¬(k<=last\/(ns.length:Int)<=k\/d[k.toNat]! ≠0):=fun h=>by
     rcases h with h|h|h
     ·exact h1 (.inl h)
     ·exact h1 (.inr h)
     ·exact h2 h
    by_cases h4:kH kind (ns[k.toNat]!).key had=false
    ·have e1:eS ns kind (k::r) last had=false:=by unfold eS;rw[if_neg h1,if_pos h4]
     have e2:c8 ns kind deep (k::r) last had d=none:=by unfold c8;rw[if_neg h3,if_pos h4]
     exact ⟨fun h=>absurd h.1 (by rw[e1];simp),fun _=>e2⟩
    ·have e1:eS ns kind (k::r) last had=eS ns kind r k ((ns[k.toNat]!).key::had):=by rw[eS,if_neg h1,if_neg h4]
     have e2:c8 ns kind deep (k::r) last had d=c8 ns kind deep r k ((ns[k.toNat]!).key::had) (d.set k.toNat (deep+1)):=by rw[c8,if_neg h3,if_neg h4]
     have uH:0<=k:=by omega
     obtain ⟨i1,i2⟩:=wX (ns:=ns) (kind:=kind) (deep:=deep) r k ((ns[k.toNat]!).key::had) (d.set k.toNat (deep+1)) uH;have he:eS ns kind r k ((ns[k.toNat]!).key::had)=true->∀x∈r,(d.set k.toNat (deep+1))[x.toNat]! =d[x.toNat]! :=fun h x hx=>by
      have:=(iB h).1 x hx;exact Mt _ _ _ _ (by omega)
     rw[e1,e2];refine ⟨fun h=> ?_,fun h=>i2 fun hh=>h ⟨hh.1,fun x hx=> ?_⟩⟩
     ·rw[i1 ⟨h.1,fun x hx=>by rw[he h.1 x hx];exact h.2 x (List.mem_cons_of_mem _ hx)⟩];rfl
     ·rcases List.mem_cons.1 hx with rfl|hx
      ·exact Decidable.not_not.1 h2
      ·rw[<-he hh.1 x hx];exact hh.2 x hx
def dep (ns:List Nd) (k:Nat):Nat:=
 if k=0 then 1
 else
  match pz ns k with
  |[p]=>if h:p<k then dep ns p+1 else 0
  |_=>0
termination_by k
decreasing_by exact h
theorem PN (ns:List Nd):dep ns 0=1:=by rw[dep,if_pos rfl]
theorem ID {ns:List Nd} {k p:Nat} (hk:1<=k) (h:pz ns k=[p]):dep ns k=dep ns p+1:=by
 have hp:p<k:=RH (i:=k) (k:=k) (ns:=ns) (by rw[<-wx,h];exact List.mem_cons_self ..);rw[dep,if_neg (by omega),h];simp only;rw[dif_pos hp]
structure Good (ns:List Nd):Prop where
 node:∀j,j<ns.length->kE ns j (ns[j]!)=true
 one:∀j,1<=j->j<ns.length->∃p,pz ns j=[p]
 deep:∀j,j<ns.length->dep ns j<=16
structure TInv (ns:List Nd) (i:Nat) (d:List Nat):Prop where
 len:d.length=ns.length
 zero:d[0]! =1
 had:∀k p,1<=k->k<ns.length->mK ns i k=[p]->d[k]! =dep ns p+1
 nil:∀k,1<=k->k<ns.length->mK ns i k=[]->d[k]! =0
 few:∀k,1<=k->k<ns.length->mK ns i k=[]\/∃p,mK ns i k=[p]
 node:∀j,j<i->kE ns j (ns[j]!)=true
 one:∀j,1<=j->j<i->∃p,pz ns j=[p]
 deep:∀j,j<i->dep ns j<=16
theorem pM {k:Int}:∀{l:List Int},l.Pairwise (· <·)->k∈l->l.filter (fun x=>decide (x=k))=[k]
 |[],_,h=>nomatch h
 |x::r,hp,h=>by
  obtain ⟨h1,h2⟩:=List.pairwise_cons.1 hp;by_cases e:x=k
  ·subst e;rw[List.filter_cons,if_pos (by simp)];rw[List.filter_eq_nil_iff.2 fun y hy=>by have:=h1 y hy;simp;omega]
  ·rw[List.filter_cons,if_neg (by simp[e])];rcases List.mem_cons.1 h with rfl|h
   ·exact absurd rfl e
   ·exact pM h2 h
theorem FY {k:Int} {l:List Int} (h:¬k∈l):l.filter (fun x=>decide (x=k))=[]:=
 List.filter_eq_nil_iff.2 fun y hy=>by
  simp;rintro rfl;exact h hy
theorem TInv.first (ns:List Nd) (h:ns≠[]):TInv ns 0 (1::List.replicate (ns.length-1) 0):=by
 have hl:0<ns.length:=List.length_pos_iff.2 h;refine ⟨by simp;omega,rfl,fun k p h1 h2 e=>by simp[mK]at e,fun k h1 h2 _=> ?_,fun k _ _=> .inl (by simp[mK]),fun j hj=>absurd hj (Nat.not_lt_zero _),fun j _ hj=>absurd hj (Nat.not_lt_zero _),fun j hj=>absurd hj (Nat.not_lt_zero _)⟩;obtain ⟨m,rfl⟩:∃m,k=m+1:=⟨k-1,by omega⟩;rw[List.getElem!_eq_getElem?_getD,List.getElem?_cons_succ,List.getElem?_replicate]
 split<;>rfl
theorem TInv.next {ns:List Nd} {i:Nat} {d d':List Nat} (h:TInv ns i d) (hi:i<ns.length) (hn:kE ns i (ns[i]!)=true) (h1:1<=i->∃p,pz ns i=[p]) (h2:dep ns i<=16) (hd:d[i]! =dep ns i)
 (hlen:d'.length=d.length) (hk:∀x∈(ns[i]!).kids,(i:Int)<x/\d[x.toNat]! =0) (hp:(ns[i]!).kids.Pairwise (· <·))
 (Im:∀k:Nat,k<ns.length->(k:Int)∈(ns[i]!).kids->d'[k]! =dep ns i+1) (nH:∀k:Nat,¬(k:Int)∈(ns[i]!).kids->d'[k]! =d[k]!):TInv ns (i+1) d':=by
 have hE:∀k:Nat,1<=k->k<ns.length->(k:Int)∈(ns[i]!).kids->mK ns (i+1) k=[i]:=fun k eP eZ hm=>by
  have h0:=(hk _ hm).2;rw[Int.toNat_natCast]at h0;have he:mK ns i k=[]:=by
   rcases h.few k eP eZ with e|⟨p,e⟩
   ·exact e
   ·have:=h.had k p eP eZ e;omega
  rw[ot,he,pM hp hm];rfl
 have hN:∀k:Nat,¬(k:Int)∈(ns[i]!).kids->mK ns (i+1) k=mK ns i k:=fun k hm=>by
  rw[ot,FY hm];simp
 have hz:¬((0:Nat):Int)∈(ns[i]!).kids:=fun hm=>by
  have:=(hk _ hm).1;omega
 refine ⟨hlen.trans h.len,(nH 0 hz).trans h.zero,fun k p eP eZ e=> ?_,fun k eP eZ e=> ?_,fun k eP eZ=> ?_,fun j hj=> ?_,fun j hj1 hj=> ?_,fun j hj=> ?_⟩
 ·by_cases hm:(k:Int)∈(ns[i]!).kids
  ·rw[hE k eP eZ hm]at e;obtain rfl:i=p:=by simpa using e
   exact Im k eZ hm
  ·rw[hN k hm]at e;rw[nH k hm];exact h.had k p eP eZ e
 ·by_cases hm:(k:Int)∈(ns[i]!).kids
  ·rw[hE k eP eZ hm]at e;cases e
  ·rw[hN k hm]at e;rw[nH k hm];exact h.nil k eP eZ e
 ·by_cases hm:(k:Int)∈(ns[i]!).kids
  ·exact .inr ⟨i,hE k eP eZ hm⟩
  ·rw[hN k hm];exact h.few k eP eZ
 ·rcases Nat.lt_succ_iff_lt_or_eq.1 hj with g|rfl
  ·exact h.node j g
  ·exact hn
 ·rcases Nat.lt_succ_iff_lt_or_eq.1 hj with g|rfl
  ·exact h.one j hj1 g
  ·exact h1 hj1
 ·rcases Nat.lt_succ_iff_lt_or_eq.1 hj with g|rfl
  ·exact h.deep j g
  ·exact h2
theorem tH {n:Nd} (h:dY n=true):n.kids=[]:=by
 unfold dY at h;rw[Bool.and_eq_true]at h;exact of_decide_eq_true h.1
theorem Fa {ns:List Nd} {i:Nat} {d:List Nat} (h:TInv ns i d) (hi:i<ns.length):
 (cW ns i (ns[i]!) d=none->¬Good ns)/\∀d',cW ns i (ns[i]!) d=some d'->TInv ns (i+1) d':=by
 have hT:d[i]! =0\/16<d[i]! ->¬Good ns:=fun ht hg=>by
  rcases Nat.eq_zero_or_pos i with h0|h0
  ·subst h0;have:=h.zero;omega
  ·obtain ⟨p,hp⟩:=hg.one i h0 hi;have e:=h.had i p h0 hi hp;have hd:=hg.deep i hi;rw[ID h0 hp]at hd;omega
 by_cases ht:d[i]! =0\/16<d[i]!
 ·have e:cW ns i (ns[i]!) d=none:=by unfold cW;rw[if_pos ht]
  exact ⟨fun _=>hT ht,fun d' hd=>by rw[e]at hd;cases hd⟩
 ·have yg:d[i]! =dep ns i:=by
   rcases Nat.eq_zero_or_pos i with h0|h0
   ·subst h0;rw[PN];exact h.zero
   ·rcases h.few i h0 hi with e|⟨p,e⟩
    ·have:=h.nil i h0 hi e;omega
    ·rw[h.had i p h0 hi e,ID h0 e]
  have So:1<=i->∃p,pz ns i=[p]:=fun h0=>by
   rcases h.few i h0 hi with e|⟨p,e⟩
   ·have:=h.nil i h0 hi e;omega
   ·exact ⟨p,e⟩
  have h16:dep ns i<=16:=by omega
  by_cases hk:(ns[i]!).kind=1
  ·by_cases hs:dY (ns[i]!)=true
   ·have e:cW ns i (ns[i]!) d=some d:=by unfold cW;rw[if_neg ht,if_pos hk,if_pos hs]
    have gu:=tH hs;refine ⟨(fun hh=>by rw[e]at hh;cases hh),fun d' hd=> ?_⟩;rw[e]at hd;obtain rfl:=aBm hd;refine h.next hi ?_ So h16 yg rfl (fun x hx=>by rw[gu]at hx;cases hx) (by rw[gu];exact List.Pairwise.nil) (fun k _ hm=>by rw[gu]at hm;cases hm) (fun _ _=>rfl);unfold kE;rw[if_neg (by omega),if_neg (fun hh=>hh.2 hs),if_neg (by omega)]
   ·have e:cW ns i (ns[i]!) d=none:=by unfold cW;rw[if_neg ht,if_pos hk,if_neg hs]
    refine ⟨fun _ hg=> ?_,fun d' hd=>by rw[e]at hd;cases hd⟩;have hn:=hg.node i hi;unfold kE at hn;rw[if_neg (by omega),if_pos ⟨hk,hs⟩]at hn;cases hn
  ·by_cases hb:((ns[i]!).kind≠2/\(ns[i]!).kind≠3)\/(ns[i]!).kids=[]\/(ns[i]!).text≠⟨#[]⟩\/(ns[i]!).quoted=true
   ·have e:cW ns i (ns[i]!) d=none:=by unfold cW;rw[if_neg ht,if_neg hk,if_pos hb]
    refine ⟨fun _ hg=> ?_,fun d' hd=>by rw[e]at hd;cases hd⟩;have hn:=hg.node i hi;unfold kE at hn;by_cases hr:(ns[i]!).kind<1\/3<(ns[i]!).kind
    ·rw[if_pos hr]at hn;cases hn
    ·rw[if_neg hr,if_neg (fun hh=>hk hh.1),if_pos ⟨by omega,by
      rcases hb with hb|hb|hb|hb
      ·omega
      ·exact .inl hb
      ·exact .inr (.inl hb)
      ·exact .inr (.inr (.inl hb))⟩]at hn
     cases hn
   ·have e:cW ns i (ns[i]!) d=c8 ns (ns[i]!).kind d[i]! (ns[i]!).kids (i:Int) [] d:=by unfold cW;rw[if_neg ht,if_neg hk,if_neg hb]
    obtain ⟨i1,i2⟩:=wX (ns:=ns) (kind:=(ns[i]!).kind) (deep:=d[i]!) (ns[i]!).kids (i:Int) [] d (Int.natCast_nonneg _);rw[e];have gu:(ns[i]!).kind=2\/(ns[i]!).kind=3:=by
     rcases Decidable.em ((ns[i]!).kind=2) with g|g
     ·exact .inl g
     ·rcases Decidable.em ((ns[i]!).kind=3) with g2|g2
      ·exact .inr g2
      ·exact absurd (.inl ⟨g,g2⟩) hb
    have hnR:kE ns i (ns[i]!)=eS ns (ns[i]!).kind (ns[i]!).kids (i:Int) []:=by
     unfold kE;rw[if_neg (by omega),if_neg (fun hh=>hk hh.1)];cases hq:eS ns (ns[i]!).kind (ns[i]!).kids (i:Int) [] with
     |true=>rw[if_neg];rintro ⟨_,g|g|g|g⟩<;>first|exact g rfl|exact hb (.inr (.inl g))|exact hb (.inr (.inr (.inl g)))|exact hb (.inr (.inr (.inr g)))
     |false=>rw[if_pos ⟨by omega,.inr (.inr (.inr (by simp)))⟩]
    by_cases hc:eS ns (ns[i]!).kind (ns[i]!).kids (i:Int) []=true/\∀x∈(ns[i]!).kids,d[x.toNat]! =0
    ·rw[i1 hc];refine ⟨(fun hh=>by cases hh),fun d' hd=> ?_⟩;obtain rfl:=aBm hd;obtain ⟨s1,s2⟩:=iB hc.1;refine h.next hi (hnR.trans hc.1) So h16 yg (pn _ _ _) (fun x hx=>⟨(s1 x hx).1,hc.2 x hx⟩) s2 (fun k eZ hm=> ?_) (fun k hm=> ?_)
     ·rw[<-yg];exact rX _ k _ _ (by rw[h.len];exact eZ) ⟨_,hm,Int.toNat_natCast _⟩
     ·refine jY _ k _ _ fun x hx he=>hm ?_;have:=(s1 x hx).1;have e2:(k:Int)=x:=by omega
      rw[e2];exact hx
    ·rw[i2 hc];refine ⟨fun _ hg=>hc ⟨hnR ▸ hg.node i hi,fun x hx=> ?_⟩,fun d' hd=>by cases hd⟩;have hkR:eS ns (ns[i]!).kind (ns[i]!).kids (i:Int) []=true:=hnR ▸ hg.node i hi;obtain ⟨s1,s2⟩:=iB hkR;have hx1:=s1 x hx;obtain ⟨k,rfl⟩:∃k:Nat,x=(k:Int):=⟨x.toNat,by omega⟩;rw[Int.toNat_natCast];rcases h.few k (by omega) (by omega) with e0|⟨p,e0⟩
     ·exact h.nil k (by omega) (by omega) e0
     ·exfalso
      obtain ⟨q,hq⟩:=hg.one k (by omega) (by omega);obtain ⟨r,hr⟩:=yV ns k (k-(i+1)) (i+1);rw[show i+1+(k-(i+1))=k from by omega,<-wx,hq,ot,e0,pM s2 hx]at hr;simp at hr
theorem we {ns:List Nd}:∀(r:List Nd) (i:Nat) (d:List Nat),ns.drop i=r->i<=ns.length->TInv ns i d->(fA ns r i d=true↔Good ns)
 |[],i,d,hr,hi,h=>by
  have hl:i=ns.length:=by
   have:=congrArg List.length hr;simp at this;omega
  subst hl;exact ⟨fun _=>⟨h.node,h.one,h.deep⟩,fun _=>rfl⟩
 |n::r,i,d,hr,hi,h=>by
  have aN:i<ns.length:=by
   have:=congrArg List.length hr;simp at this;omega
  have hn:ns[i]! =n:=by
   have e:(ns.drop i)[0]? =some n:=by rw[hr];rfl
   rw[List.getElem?_drop]at e;rw[List.getElem!_eq_getElem?_getD]
   simpa using congrArg (fun o=>o.getD default) e
  have hd:ns.drop (i+1)=r:=by
   rw[<-List.drop_drop,hr];rfl
  obtain ⟨h1,h2⟩:=Fa h aN;rw[hn]at h1 h2;unfold fA;cases hp:cW ns i n d with
  |none=>exact ⟨fun hh=>by simp at hh,fun hg=>absurd hg (h1 hp)⟩
  |some d'=>exact we r (i+1) d' hd aN (h2 d' hp)
theorem jI (ns:List Nd):dj ns=true↔(ns≠[]/\ns.length<=4096/\(ns[0]!).key=⟨#[]⟩)/\Good ns:=by
 unfold dj;rw[Bool.and_eq_true,decide_eq_true_eq];refine and_congr_right fun h=> ?_;exact we ns 0 _ (by simp) (Nat.zero_le _) (TInv.first ns h.1)
