/-
Parts of a proof.
-/
import Derived.Lib.Bytealg
import Derived.RangeFuncNested
import Derived.RangeFuncBound
import Derived.RangeFuncCalls
import Derived.RangeFuncLeaves
import Derived.Shelf.Abstract
import Derived.Shelf.RegionOpen
import Derived.OwnWalkIn
import Derived.TacticsInMore
import Derived.LoopNIn
import Derived.LoopIn
import Derived.Maps.AppendAt
import Derived.Test.YtfenoaeoedobmaaGreatDoorOw41
set_option linter.unusedVariables false
set_option linter.unusedSimpArgs false
namespace Go.Proofs.YtfenoaeoedobmaaGreatDoor
open Go Go.RowKit
def cH:Nat->List UInt8->Nat->Nat->List Tok×Option (Nat×Nat×Int)
 |0,_,_,_=>([],none)
 |f+1,l,k,n=>
  if l=[] then ([],none)
  else match du (cJ l).1 ((n+1:Nat):Int) with
   | .error c=>([],some (k,n+1,c))
   | .ok ts=>(ts++(cH f (cJ l).2 (k+cl ts) (n+1)).1,(cH f (cJ l).2 (k+cl ts) (n+1)).2)
def rF (acc:List Tok) (p:List Tok×Option (Nat×Nat×Int)):Except (Nat×Nat×Int) (List Tok):=
 match p.2 with
 |none=> .ok (acc++p.1)
 |some e=> .error e
theorem td:∀(f:Nat) (l:List UInt8) (k n:Nat) (acc:List Tok),kz f l k n acc=rF acc (cH f l k n)
 |0,l,k,n,acc=>by unfold kz cH rF;simp
 |f+1,l,k,n,acc=>by
  unfold kz cH
  split
  ·unfold rF;simp
  ·cases h:du (cJ l).1 ((n+1:Nat):Int) with
   |error c=>rfl
   |ok ts=>
    simp only;rw[td f];unfold rF;simp only;cases (cH f (cJ l).2 (k+cl ts) (n+1)).2<;>simp
theorem kA:∀(f g:Nat) (l:List UInt8) (k n:Nat),l.length<=f->l.length<=g->cH f l k n=cH g l k n
 |0,0,_,_,_,_,_=>rfl
 |0,g+1,l,k,n,h,_=>by
  have:l=[]:=List.eq_nil_of_length_eq_zero (by omega);unfold cH;rw[if_pos this]
 |f+1,0,l,k,n,_,h=>by
  have:l=[]:=List.eq_nil_of_length_eq_zero (by omega);unfold cH;rw[if_pos this]
 |f+1,g+1,l,k,n,hf,hg=>by
  unfold cH
  split
  ·rfl
  ·rename_i hl
   have:=iN l hl
   split
   ·rfl
   ·rename_i ts h
    rw[kA f g (cJ l).2 (k+cl ts) (n+1) (by omega) (by omega)]
abbrev Yl:=Tok×(Int×Int×Int)
def yTok (t:Tok):Yl:=(t,(0,0,0))
def q8 (e:Nat×Nat×Int):Yl:=(⟨0,0,0,[],false⟩,((e.1:Int),(e.2.1:Int),e.2.2))
def yE (p:List Tok×Option (Nat×Nat×Int)):List Yl:=p.1.map yTok++(match p.2 with|none=>[]|some e=>[q8 e])
def fF (l:List UInt8):List Yl:=if 65536<l.length then [q8 (0,0,3)] else yE (cH l.length l 0 0)
theorem rE {l:List UInt8} {i:Nat} (h:bP (l.drop i)=false):i<l.length:=by
 rcases Nat.lt_or_ge i l.length with q|q
 ·exact q
 ·rw[List.drop_eq_nil_of_le q]at h;cases h
theorem nj {l:List UInt8}:∀(f i:Nat),(∀c∈(dj l f i).1,c<l.length)/\(dj l f i).1.length<=l.length-i
 |0,i=>⟨fun c h=>(by cases h),Nat.zero_le _⟩
 |f+1,i=>by
  unfold dj
  split
  ·rename_i h
   have hi:=rE h.1;obtain ⟨q1,q2⟩:=nj (l:=l) f (i+1+aT (l.drop (i+1)));refine ⟨fun c hc=> ?_,by simp only[aAd];omega⟩;rcases List.mem_cons.1 hc with rfl|hc
   ·exact hi
   ·exact q1 c hc
  ·exact ⟨fun c h=>(by cases h),Nat.zero_le _⟩
theorem vG {t x:List UInt8} {q:Bool} (hq:∀y m,de t=some (y,m)->y.length<=t.length) (h:iC t= .ok (some (x,q))):x.length<=t.length/\bP t=false:=by
 unfold iC at h
 split at h
 ·cases h
 ·rename_i ho
  refine ⟨?_,by simpa using ho⟩
  split at h
  ·split at h
   ·cases h
   ·rename_i y m hy
    split at h
    ·cases h
    ·injection h with h
     injection h with h
     injection h with h _
     subst h;exact hq _ _ hy
  ·split at h
   ·cases h
   ·rename_i y hy
    injection h with h
    injection h with h
    injection h with h _
    subst h;exact B6 hy
theorem Ae {t x:List UInt8} {q:Bool} {m:Nat} (hq:∀y m,de t=some (y,m)->y.length<=t.length) (h:rT t= .ok (some (x,q,m))):x.length<=t.length:=by
 unfold rT at h
 split at h
 ·split at h
  ·cases h
  ·rename_i y k hy
   injection h with h
   split at h
   ·injection h with h
    injection h with h _
    subst h;exact hq _ _ hy
   ·cases h
 ·injection h with h
  split at h
  ·injection h with h
   injection h with h _
   subst h;rw[List.length_take];omega
  ·cases h
structure TokB (n:Int) (L:Nat) (t:Tok):Prop where
 kind:2<=t.kind/\t.kind<=4
 line:t.line=n
 col:0<=t.col/\t.col<=(L:Int)
 text:t.text.length<=L
theorem qU {l:List UInt8} {n:Int} {ts us:List Tok} {i:Nat} (hq:∀t y m,de t=some (y,m)->y.length<=t.length) (hts:∀t∈ts,TokB n l.length t) (h:dP l n ts i= .ok us):(∀t∈us,TokB n l.length t)/\us.length<=ts.length+1:=by
 unfold dP at h
 split at h
 ·cases h
 ·injection h with h;subst h;exact ⟨hts,by omega⟩
 ·rename_i x q hs
  injection h with h
  subst h;obtain ⟨h1,h2⟩:=vG (hq _) hs;have hi:=rE h2;rw[List.length_drop]at h1;refine ⟨fun t ht=> ?_,by simp⟩;rcases List.mem_append.1 ht with ht|ht
  ·exact hts t ht
  ·obtain rfl:=List.mem_singleton.1 ht;exact ⟨⟨by show (2:Int)<=4;decide,by show (4:Int)<=4;decide⟩,rfl,⟨by show (0:Int)<=(i:Int);omega,by show (i:Int)<=_;omega⟩,by show x.length<=_;omega⟩
theorem vM {l:List UInt8} {n:Int} {ts us:List Tok} {i:Nat} (hq:∀t y m,de t=some (y,m)->y.length<=t.length) (hts:∀t∈ts,TokB n l.length t) (h:fI l n ts i= .ok us):(∀t∈us,TokB n l.length t)/\us.length<=ts.length+2:=by
 unfold fI at h
 split at h
 ·injection h with h;subst h;exact ⟨hts,by omega⟩
 ·rename_i ho
  have hi:=rE (l:=l) (i:=i) (by simpa using ho)
  split at h
  ·cases h
  ·have:=qU hq hts h;exact ⟨this.1,by omega⟩
  ·rename_i x q m hk
   have h1:=Ae (hq _) hk;rw[List.length_drop]at h1;have:=qU hq (fun t ht=>by
    rcases List.mem_append.1 ht with ht|ht
    ·exact hts t ht
    ·obtain rfl:=List.mem_singleton.1 ht;exact ⟨⟨by show (2:Int)<=3;decide,by show (3:Int)<=4;decide⟩,rfl,⟨by show (0:Int)<=(i:Int);omega,by show (i:Int)<=_;omega⟩,by show x.length<=_;omega⟩) h
   rw[aAc]at this;exact ⟨this.1,by have:=this.2;simp at this;omega⟩
theorem jY {l:List UInt8} {n:Int} {us:List Tok} (hq:∀t y m,de t=some (y,m)->y.length<=t.length) (h:du l n= .ok us):(us=[⟨1,n,0,[],false⟩]\/∀t∈us,TokB n l.length t)/\us.length<=l.length+2:=by
 unfold du at h
 split at h
 ·cases h
 ·split at h
  ·injection h with h;subst h;exact ⟨.inl rfl,by simp⟩
  ·obtain ⟨q1,q2⟩:=nj (l:=l) (l.length+1) (aT l);have:=vM hq (fun t ht=>by
    obtain ⟨c,hc,rfl⟩:=List.mem_map.1 ht;have:=q1 c hc;exact ⟨⟨by show (2:Int)<=2;decide,by show (2:Int)<=4;decide⟩,rfl,⟨by show (0:Int)<=(c:Int);omega,by show (c:Int)<=_;omega⟩,Nat.zero_le _⟩) h
   rw[List.length_map]at this;exact ⟨.inr this.1,by omega⟩
theorem zT {l:List UInt8} {n:Int} {us:List Tok} (hq:∀t y m,de t=some (y,m)->y.length<=t.length) (h:du l n= .ok us):cl us<=1:=by
 rcases (jY hq h).1 with rfl|h
 ·simp[cl]
 ·have:us.filter (fun t=>t.kind==1)=[]:=by
   rw[List.filter_eq_nil_iff];intro t ht;have:=(h t ht).kind;simp only[beq_iff_eq];omega
  unfold cl;rw[this];exact Nat.zero_le _
theorem Br {t:List UInt8} {c:Int} (h:iC t= .error c):c=82\/c=83:=by
 unfold iC at h
 split at h
 ·cases h
 ·split at h
  ·split at h
   ·injection h with h;exact .inl h.symm
   ·split at h
    ·injection h with h;exact .inl h.symm
    ·cases h
  ·split at h
   ·injection h with h;exact .inr h.symm
   ·cases h
theorem m9 {l:List UInt8} {n c:Int} (h:du l n= .error c):c≠0:=by
 have he:∀ts i,dP l n ts i= .error c->c≠0:=by
  intro ts i h;unfold dP at h
  split at h
  ·rename_i e hs
   injection h with h
   have:=Br hs;omega
  ·cases h
  ·cases h
 unfold du at h
 split at h
 ·rename_i hs
  injection h with h
  rw[<-h];exact hs
 ·split at h
  ·cases h
  ·unfold fI at h
   split at h
   ·cases h
   ·split at h
    ·rename_i e hk
     injection h with h
     subst h;unfold rT at hk
     split at hk
     ·split at hk
      ·injection hk with hk;omega
      ·cases hk
     ·cases hk
    ·exact he _ _ h
    ·exact he _ _ h
theorem ot:∀(f:Nat) (l:List UInt8) (k n:Nat) (e:Nat×Nat×Int),(cH f l k n).2=some e->e.2.2≠0
 |0,_,_,_,e,h=>by cases h
 |f+1,l,k,n,e,h=>by
  unfold cH at h
  split at h
  ·cases h
  ·cases hl:du (cJ l).1 ((n+1:Nat):Int) with
   |error c=>
    rw[hl]at h;have h2:=aAf h;rw[<-h2];exact m9 hl
   |ok ts=>
    rw[hl]at h;exact ot f _ _ _ e h
theorem nM {bs:List UInt8} (hl:¬65536<bs.length):fF bs=yE (cH bs.length bs 0 0)/\iB bs=rF [] (cH bs.length bs 0 0):=by
 refine ⟨by unfold fF;rw[if_neg hl],?_⟩;unfold iB;rw[if_neg hl,td,kA (bs.length+1) bs.length bs 0 0 (by omega) (aAa _)]
theorem all_zero {bs:List UInt8} (h:∀x∈fF bs,x.2.2.2=0):iB bs= .ok ((fF bs).map (·.1)):=by
 by_cases hl:65536<bs.length
 ·have:=h (q8 (0,0,3)) (by unfold fF;rw[if_pos hl];exact List.mem_singleton.2 rfl);simp[q8]at this
 ·obtain ⟨h1,h2⟩:=nM hl;rw[h1]at h |-;rw[h2];unfold yE rF at*;cases he:(cH bs.length bs 0 0).2 with
  |none=>
   simp only[List.append_nil,List.nil_append,List.map_map];congr 1
   conv=>lhs;rw[<-List.map_id (cH bs.length bs 0 0).1]
   rfl
  |some e=>
   rw[he]at h;have h4:e.2.2=0:=h (q8 e) (List.mem_append_right _ (List.mem_singleton.2 rfl));exact absurd h4 (ot _ _ _ _ e he)
theorem Bq {bs:List UInt8} {x:Yl} (hx:x∈fF bs) (h:x.2.2.2≠0):∃e,iB bs= .error e/\x.2=((e.1:Int),(e.2.1:Int),e.2.2):=by
 by_cases hl:65536<bs.length
 ·unfold fF at hx;rw[if_pos hl]at hx;obtain rfl:=List.mem_singleton.1 hx;exact ⟨(0,0,3),by unfold iB;rw[if_pos hl],rfl⟩
 ·obtain ⟨h1,h2⟩:=nM hl;rw[h1]at hx;rw[h2];unfold yE rF at*;rcases List.mem_append.1 hx with hx|hx
  ·obtain ⟨t,-,rfl⟩:=List.mem_map.1 hx;exact absurd rfl h
  ·cases he:(cH bs.length bs 0 0).2 with
   |none=>rw[he]at hx;cases hx
   |some e=>
    rw[he]at hx;obtain rfl:=List.mem_singleton.1 hx;exact ⟨e,rfl,rfl⟩
theorem uP:∀l:List UInt8,l≠[]->(cJ l).1.length+1+(cJ l).2.length<=l.length\/((cJ l).2=[]/\(cJ l).1.length=l.length)
 |[],h=>absurd rfl h
 |c::r,_=>by
  unfold cJ
  split
  ·left;simp;omega
  ·by_cases hr:r=[]
   ·right;subst hr;exact ⟨rfl,rfl⟩
   ·rcases uP r hr with h|⟨h1,h2⟩
    ·left;simp only[aAd];omega
    ·right;exact ⟨h1,by simp only[aAd];omega⟩
theorem lW (hq:∀t y m,de t=some (y,m)->y.length<=t.length):∀(f:Nat) (l:List UInt8) (k n:Nat),(cH f l k n).1.length<=3*l.length
 |0,_,_,_=>Nat.zero_le _
 |f+1,l,k,n=>by
  unfold cH
  split
  ·exact Nat.zero_le _
  ·rename_i hl
   cases h:du (cJ l).1 ((n+1:Nat):Int) with
   |error c=>exact Nat.zero_le _
   |ok ts=>
    simp only[aAc];have h1:=(jY hq h).2;have h2:=lW hq f (cJ l).2 (k+cl ts) (n+1);have h3:=List.length_pos_iff.2 hl;rcases uP l hl with h4|⟨h4,h5⟩
    ·omega
    ·rw[h4]at h2 |-;simp only[List.length_nil,Nat.mul_zero]at h2;omega
theorem AP (hq:∀t y m,de t=some (y,m)->y.length<=t.length) (bs:List UInt8):(fF bs).length<=200000:=by
 unfold fF
 split
 ·simp
 ·have:=lW hq bs.length bs 0 0;unfold yE;rw[aAc,List.length_map]
  split<;>simp<;>omega
theorem nX:∀l:List UInt8,(∃j:Nat,Lib.indexByte l 10=(j:Int)/\j<l.length/\cJ l=(l.take j,l.drop (j+1)))\/(Lib.indexByte l 10= -1/\cJ l=(l,[]))
 |[]=> .inr ⟨rfl,rfl⟩
 |c::r=>by
  unfold Lib.indexByte cJ;by_cases hc:c=10
  ·left
   exact ⟨0,by rw[if_pos (by simpa using hc)];rfl,by simp,by rw[if_pos hc];rfl⟩
  ·have hb:¬(c==10)=true:=by simpa using hc
   rw[if_neg hb,if_neg hc];rcases nX r with ⟨j,h1,h2,h3⟩|⟨h1,h2⟩
   ·left
    refine ⟨j+1,by rw[h1,if_neg (by simp)];omega,by simp;omega,by rw[h3];rfl⟩
   ·right
    refine ⟨by rw[h1];rfl,by rw[h2]⟩
theorem rp {α:Type} {w:World} {ao:Option Addr} {cap sz m n:Nat} {xs:List α} {cells:α->List Value} (h:SlR w (.slice ao n cap) sz xs cells) (hm:m<=n):SlR w (.slice ao m cap) sz (xs.take m) cells:=by
 obtain ⟨ao',cap',e,hl,hat⟩:=h;injection e with e1 e2 e3
 subst e1 e2 e3;have hlen:(xs.take m).length=m:=by rw[List.length_take];omega
 refine ⟨ao,cap,by rw[hlen],by omega,fun h0=> ?_⟩;obtain ⟨b,o,ha,hb,hc⟩:=hat (by omega);refine ⟨b,o,ha,hb,fun i x hx j u hu=>hc i x ?_ j u hu⟩;rw[List.getElem?_take]at hx
 split at hx
 ·exact hx
 ·cases hx
theorem nP {α:Type} {w:World} {ao ao':Option Addr} {cap sz m n:Nat} {xs:List α} {cells:α->List Value} (h:SlR w (.slice ao n cap) sz xs cells) (hm:m<=n) (hn:n<=cap) (ha:ao'=(if cap=m then ao else ao.map (·.add (m*sz)))):SlR w (.slice ao' (n-m) (cap-m)) sz (xs.drop m) cells:=by
 obtain ⟨ao2,cap2,e,hl,hat⟩:=h;injection e with e1 e2 e3
 subst e1 e2 e3;have hlen:(xs.drop m).length=xs.length-m:=List.length_drop ..;refine ⟨ao',cap-m,by rw[hlen],by omega,fun h0=> ?_⟩;obtain ⟨b,o,he,hb,hc⟩:=hat (by omega);rw[if_neg (by omega),he]at ha;refine ⟨b,o+m*sz,by rw[ha];simp[Addr.add],hb,fun i x hx j u hu=> ?_⟩;rw[List.getElem?_drop]at hx;have:=hc (m+i) x hx j u hu;rw[show o+m*sz+i*sz+j=o+(m+i)*sz+j by rw[Nat.add_mul];omega];exact this
def pZ (ds:List (List Nd)) (x:Except (Nat×Flt) (List (List Nd))):Except (Nat×Flt) (List (List Nd)):=match x with| .error e=> .error e| .ok l=> .ok (ds++l)
theorem E2 (f k:Nat):ofL f [] k= .ok []:=by
 cases f with
 |zero=>rfl
 |succ f=>unfold ofL;rw[if_pos rfl]
theorem Cf {f k:Nat} {ts:List Tok} (h:ts≠[]) (h0:docN ts=0):ofL (f+1) ts k=ofL f (ts.drop 1) k:=by
 conv=>lhs;unfold ofL
 rw[if_neg h,if_pos h0]
theorem E3 {f k:Nat} {ts:List Tok} {e:Flt} (h:ts≠[]) (h0:¬docN ts=0) (hd:jF (ts.take (docN ts))= .error e):ofL (f+1) ts k= .error (k,e):=by
 conv=>lhs;unfold ofL
 rw[if_neg h,if_neg h0,hd]
theorem IV {f k:Nat} {ts:List Tok} {ns:List Nd} (h:ts≠[]) (h0:¬docN ts=0) (hd:jF (ts.take (docN ts))= .ok ns):ofL (f+1) ts k=pZ [ns] (ofL f (ts.drop (docN ts+1)) (k+1)):=by
 conv=>lhs;unfold ofL
 rw[if_neg h,if_neg h0,hd];simp only;cases ofL f (ts.drop (docN ts+1)) (k+1)<;>rfl
theorem BZ (a b:List (List Nd)) (x:Except (Nat×Flt) (List (List Nd))):pZ a (pZ b x)=pZ (a++b) x:=by
 cases x with
 |error e=>rfl
 |ok l=>simp[pZ]
def SOf (w0:World) (x:Except (Nat×Flt) (List (List Nd))) (r:Ending) (w':World):Prop:=
 (match x with
  | .ok L=>∃V n ds,r= .returned (.tuple #[V,.agg #[.int .i64 0,.int .i64 0,.int .i64 0]])/\RowO fx w0 w' 33 1 V n ds/\n=ds.length/\n<=1048576/\bQ ds=L
  | .error e=>r= .returned (.tuple #[.slice none 0 0,.agg #[.int .i64 (e.1:Int),.int .i64 e.2.1,.int .i64 e.2.2]]))/\Below w0.heap.size w0 w'
structure OfS (w1 wr:World) (X:Except (Nat×Flt) (List (List Nd))) (N:Nat) (ao:Option Addr) (n cap:Nat) (v:Value) (k:Nat):Prop where
 toks:∃rest,SlR w1 (.slice ao n cap) 5 rest Tok.cells/\n=rest.length/\(∀t∈rest,TokOk t)/\∃ds,k=ds.length/\RowO fx w1 wr 33 1 v k ds/\∃f,n<=f/\X=pZ (bQ ds) (ofL f rest k)
 ncap:n<=cap
 cnt:k+n<=N
theorem qo:(Tryz.prog.info? 121).map (fun i=>(i.zero,i.size,i.bytes))=some (some (.agg #[.int .i64 0,.int .i64 0,.int .i64 0,.string ⟨#[]⟩,.bool false]),5,48):=by kernel_rfl
def slN:Value->Nat
 | .slice _ n _=>n
 |_=>0
theorem xS {m n m1:Nat} (h:m<=n) (hn:n<=1048576) (h1:m1=if m<n then m+1 else n):(if (n:Int)<wrap64 ((m:Int)+1) then (n:Int) else wrap64 ((m:Int)+1))=(m1:Int):=by
 have wk:wrap64 ((m:Int)+1)=(m:Int)+1:=by unfold wrap64;omega
 rw[wk,h1];clear wk h1;by_cases hmn:m<n
 ·have e:¬((n:Int)<(m:Int)+1):=by omega
  rw[if_pos hmn,if_neg e];rfl
 ·have e:(n:Int)<(m:Int)+1:=by omega
  rw[if_neg hmn,if_pos e]
theorem DE {m n m1:Nat} (h1:m1=if m<n then m+1 else n):m1<=n:=by
 rw[h1]
 split<;>omega
theorem yr {m n m1:Nat} (hp:0<n) (h1:m1=if m<n then m+1 else n):0<m1:=by
 rw[h1]
 split<;>omega
theorem OfS.skip {w1 wr w2:World} {X:Except (Nat×Flt) (List (List Nd))} {N n cap k:Nat} {ao ao':Option Addr} {v:Value} {rest:List Tok} (hs:SlR w1 (.slice ao n cap) 5 rest Tok.cells) (hn:n=rest.length) (hc:n<=cap) (hk:k+n<=N) (hok:∀t∈rest,TokOk t) {ds:List DocV} (hds:k=ds.length) (hro:RowO fx w1 wr 33 1 v k ds) {f:Nat} (hf:n<=f) (hX:X=pZ (bQ ds) (ofL f rest k))
 (h0:docN rest=0) (hp:0<n) (hb:Below wr.heap.size wr w2) (ha:ao'=(if cap=1 then ao else ao.map (·.add (1*5)))):OfS w1 w2 X N ao' (n-1) (cap-1) v k:=by
 refine ⟨⟨rest.drop 1,(nP (by rw[hn]at hs;exact hs) (by omega) (by omega) ha |> fun h=>by rw[<-hn]at h;exact h),by rw[List.length_drop,hn],fun t ht=>hok t (List.mem_of_mem_drop ht),ds,hds,hro.later hb,?_⟩,by omega,by omega⟩;obtain ⟨f',rfl⟩:∃f',f=f'+1:=⟨f-1,by omega⟩;exact ⟨f',by omega,by rw[hX,Cf (by rintro rfl;simp at hn;omega) h0]⟩
theorem OfS.fall {X:Except (Nat×Flt) (List (List Nd))} {n k:Nat} {rest:List Tok} (hn:n=rest.length) {ds:List DocV} {f:Nat} (hf:n<=f) (hX:X=pZ (bQ ds) (ofL f rest k)) {e:Flt} (hd:jF (rest.take (docN rest))= .error e) (h0:0<docN rest) (hp:0<n):X= .error (k,e):=by
 obtain ⟨f',rfl⟩:∃f',f=f'+1:=⟨f-1,by omega⟩;rw[hX,E3 (by rintro rfl;simp at hn;omega) (by omega) hd];rfl
theorem Aw (ds:List DocV) (d:DocV):bQ (ds++[d])=bQ ds++[nds d.ms]:=by unfold bQ;rw[List.map_append];rfl
theorem OfS.step {w1 w2:World} {X:Except (Nat×Flt) (List (List Nd))} {N n cap k m:Nat} {ao ao':Option Addr} {v':Value} {rest:List Tok} (hs:SlR w1 (.slice ao n cap) 5 rest Tok.cells) (hn:n=rest.length) (hc:n<=cap) (hk:k+n<=N) (hok:∀t∈rest,TokOk t) {ds:List DocV} (hds:k=ds.length) {f:Nat} (hf:n<=f) (hX:X=pZ (bQ ds) (ofL f rest k))
 {d:DocV} (hd:jF (rest.take (docN rest))= .ok (nds d.ms)) (h0:0<docN rest) (hp:0<n) (hm:m=if docN rest<n then docN rest+1 else n) (hro:RowO fx w1 w2 33 1 v' (k+1) (ds++[d])) (ha:ao'=(if cap=m then ao else ao.map (·.add (m*5)))):OfS w1 w2 X N ao' (n-m) (cap-m) v' (k+1):=by
 have hle:=sh rest;have hmn:m<=n:=by rw[hm];split<;>omega
 have hm1:1<=m:=by rw[hm];split<;>omega
 have hdr:rest.drop (docN rest+1)=rest.drop m:=by
  rw[hm]
  split
  ·rfl
  ·rw[List.drop_eq_nil_of_le (by omega),List.drop_eq_nil_of_le (by omega)]
 refine ⟨⟨rest.drop m,(nP (by rw[hn]at hs;exact hs) (by omega) (by omega) ha |> fun h=>by rw[<-hn]at h;exact h),by rw[List.length_drop,hn],fun t ht=>hok t (List.mem_of_mem_drop ht),ds++[d],by rw[aAc,hds];rfl,hro,?_⟩,by omega,by omega⟩;obtain ⟨f',rfl⟩:∃f',f=f'+1:=⟨f-1,by omega⟩;refine ⟨f',by omega,?_⟩;rw[hX,IV (by rintro rfl;simp at hn;omega) (by omega) hd,BZ,Aw,hdr]
theorem kC {w:World} {b:Nat} {V v0 v1 v2:Value} {tmps:Array Value} (h2:tmps[2]? =some V) (h3:tmps[3]? =some (.pointer (some ⟨b,0,none⟩))) (hb:w.heap[b]? =some (.cells #[v0,v1,v2] 27 (0,0))):
 (results Tryz.f27 tmps).run Tryz.prog w= .ok (.tuple #[V,.agg #[v0,v1,v2]]) w:=by
 have h1:=run_loadVar_mid (P:= Tryz.prog) w b 0 27 [v0,v1,v2] _ (gA (l:=[v0,v1,v2]) hb) Tryz.underlying27 rfl (by kernel_rfl);rw[Array.getElem?_eq_some_iff]at h2 h3;obtain ⟨l2,e2⟩:=h2;obtain ⟨l3,e3⟩:=h3;simp[results,Tryz.results27,asAddr,Array.getD,l2,e2,l3,e3,h1]
def gm (c:UInt8):List Value:=[.int .u8 (c.toNat:Int)]
def ScF (B:Nat) (W:World) (k:Nat):Prop:=k=B\/(∃v,W.cell? ⟨B,0,none⟩=some v/\v.ownBlock=some k)\/∃o,W.heap[k]? =some o/\o.isCells=false
def ScO (B:Nat) (W:World):Prop:=∀v k,W.cell? ⟨B,0,none⟩=some v->v.ownBlock=some k->k<W.heap.size
structure ScK (B:Nat) (W W':World):Prop where
 mod:Mod (ScF B W) W W'
 back:∀k,k<W.heap.size->ScF B W' k->ScF B W k
 own:ScO B W->ScO B W'
theorem ScK.trans {B:Nat} {a b c:World} (h:ScK B a b) (k:ScK B b c):ScK B a c:=
 ⟨h.mod.trans' k.mod (fun i hi hF=>h.back i hi hF),fun i hi hF=>h.back i hi (k.back i (Nat.lt_of_lt_of_le hi h.mod.size) hF),fun ho=>k.own (h.own ho)⟩
theorem ScF.later {B:Nat} {W W2:World} {k:Nat} (hB:B<W.heap.size) (hb:Below W.heap.size W W2) (hk:k<W.heap.size) (h:ScF B W2 k):ScF B W k:=by
 rcases h with h|⟨v,h1,h2⟩|⟨o,h1,h2⟩
 ·exact .inl h
 ·exact .inr (.inl ⟨v,(hb.cell (p:=⟨B,0,none⟩) hB).symm.trans h1,h2⟩)
 ·exact .inr (.inr ⟨o,(hb.block k hk).symm.trans h1,h2⟩)
theorem ScO.later {B:Nat} {W W2:World} (hB:B<W.heap.size) (hb:Below W.heap.size W W2) (h:ScO B W):ScO B W2:=fun v k h1 h2=>
 Nat.lt_of_lt_of_le (h v k ((hb.cell (p:=⟨B,0,none⟩) hB).symm.trans h1) h2) hb.size
theorem ScK.below {B:Nat} {W W2:World} (hB:B<W.heap.size) (hb:Below W.heap.size W W2):ScK B W W2:=
 ⟨(bh hb).mono (fun _ _ q=>q.elim),fun k hk h=>ScF.later hB hb hk h,ScO.later hB hb⟩
theorem ScK.refl {B:Nat} {W:World} (hB:B<W.heap.size):ScK B W W:=ScK.below hB (aAb _ _)
theorem ScF.new {B:Nat} {W W2:World} {k:Nat} (hB:B<W.heap.size) (hO:ScO B W) (hb:Below W.heap.size W W2) (hk:W.heap.size<=k) {o:Obj} (ho:W2.heap[k]? =some o) (hc:o.isCells=true):¬ScF B W2 k:=by
 rintro (h|⟨v,h1,h2⟩|⟨o',h1,h2⟩)
 ·omega
 ·have:=hO v k ((hb.cell (p:=⟨B,0,none⟩) hB).symm.trans h1) h2;omega
 ·rw[ho]at h1;cases h1;rw[hc]at h2;cases h2
theorem ScK.put {B:Nat} {W:World} {l:Nat} {o:Obj} (o':Obj) (hB:B<W.heap.size) (hne:B≠l) (hl:W.heap[l]? =some o) (ho:o.isCells=false):ScK B W (W.putObj l o'):=by
 have hg:=grownBy_putObj' W l o';have hsame:∀k,k<W.heap.size->k≠l->(W.putObj l o').heap[k]? =W.heap[k]? :=fun k hk h=>hg.block k hk (fun e=>h (aAf e));have hcell:(W.putObj l o').cell? ⟨B,0,none⟩=W.cell? ⟨B,0,none⟩:=World.cell?_of_block (hsame B hB hne);refine ⟨(Mod.refl _ _).grown hg (fun k e hk=> ?_),fun k hk h=> ?_,fun h v k h1 h2=> ?_⟩
 ·obtain rfl:=aAf e;exact .inr (.inr ⟨o,hl,ho⟩)
 ·rcases h with h|⟨v,h1,h2⟩|⟨o2,h1,h2⟩
  ·exact .inl h
  ·exact .inr (.inl ⟨v,hcell.symm.trans h1,h2⟩)
  ·by_cases hkl:k=l
   ·subst hkl;exact .inr (.inr ⟨o,hl,ho⟩)
   ·exact .inr (.inr ⟨o2,(hsame k hk hkl).symm.trans h1,h2⟩)
 ·exact Nat.lt_of_lt_of_le (h v k (hcell.symm.trans h1) h2) hg.size
structure SlN {α:Type} (B:Nat) (W:World) (v:Value) (sz:Nat) (xs:List α) (cells:α->List Value):Prop where
 sl:SlR W v sz xs cells
 nf:∀b o n c,v= .slice (some ⟨b,o,none⟩) n c->0<xs.length->¬ScF B W b
theorem SlN.to {α:Type} {B:Nat} {W W2:World} {v:Value} {sz:Nat} {xs:List α} {cells:α->List Value} (h:SlN B W v sz xs cells) (k:ScK B W W2):SlN B W2 v sz xs cells:=by
 obtain ⟨⟨ao,cap,hv,hl,hat⟩,hnf⟩:=h;have key:0<xs.length->∃b o,ao=some ⟨b,o,none⟩/\b<W.heap.size/\W2.heap[b]? =W.heap[b]? /\¬ScF B W2 b:=fun h0=>by
  obtain ⟨b,o,ha,hb,-⟩:=hat h0;have h1:=hnf b o _ _ (by rw[hv,ha]) h0;exact ⟨b,o,ha,hb,k.mod.block b hb h1,fun q=>h1 (k.back b hb q)⟩
 refine ⟨⟨ao,cap,hv,hl,fun h0=> ?_⟩,fun b o n c e h0=> ?_⟩
 ·obtain ⟨b,o,ha,hb,hc⟩:=hat h0;obtain ⟨b',o',ha',hb',he,-⟩:=key h0;rw[ha]at ha';cases ha';exact ⟨b,o,ha,Nat.lt_of_lt_of_le hb k.mod.size,fun i x hi j u hu=>(World.cell?_of_block he).trans (hc i x hi j u hu)⟩
 ·obtain ⟨b',o',ha',hb',he,hn⟩:=key h0;rw[hv,ha']at e;cases e;exact hn
structure ScI (B:Nat) (W:World):Prop where
 lt:B<W.heap.size
 own:ScO B W
 gl:Glob W
 g1:¬ScF B W 1
 g2:¬ScF B W 4
theorem ScI.to {B:Nat} {W W2:World} (h:ScI B W) (k:ScK B W W2):ScI B W2:=by
 obtain ⟨⟨m,c0⟩,⟨ev,c1,c2⟩⟩:=h.gl;have l0:=World.block_lt_of_cell? _ _ c0;have l1:=World.block_lt_of_cell? _ _ c1;exact ⟨Nat.lt_of_lt_of_le h.lt k.mod.size,k.own h.own,⟨⟨m,k.mod.cell c0 h.g1⟩,⟨ev,k.mod.cell c1 h.g2,c2⟩⟩,fun q=>h.g1 (k.back _ l0 q),fun q=>h.g2 (k.back _ l1 q)⟩
theorem ScI.later {B:Nat} {W W2:World} (h:ScI B W) (hb:Below W.heap.size W W2):ScI B W2:=h.to (ScK.below h.lt hb)
theorem Bf {α:Type} {B:Nat} {w:World} {ao:Option Addr} {cap sz m n:Nat} {xs:List α} {cells:α->List Value} (h:SlN B w (.slice ao n cap) sz xs cells) (hm:m<=n):SlN B w (.slice ao m cap) sz (xs.take m) cells:=by
 refine ⟨rp h.sl hm,fun b o n' c e h0=> ?_⟩;cases e;exact h.nf b o _ _ rfl (by rw[List.length_take]at h0;omega)
theorem Bg {α:Type} {B:Nat} {w:World} {ao ao':Option Addr} {cap sz m n:Nat} {xs:List α} {cells:α->List Value} (h:SlN B w (.slice ao n cap) sz xs cells) (hm:m<=n) (hn:n<=cap) (ha:ao'=(if cap=m then ao else ao.map (·.add (m*sz)))):SlN B w (.slice ao' (n-m) (cap-m)) sz (xs.drop m) cells:=by
 refine ⟨nP h.sl hm hn ha,fun b o n' c e h0=> ?_⟩;have hx:0<xs.length:=by rw[List.length_drop]at h0;omega
 cases e;cases ao with
 |none=>split at ha<;>cases ha
 |some a=>
  obtain ⟨b0,o0,s0⟩:=a;have hs:s0=none:=by
   obtain ⟨ao2,cap2,e2,-,hat⟩:=h.sl;injection e2 with e2 _ _
   obtain ⟨b,o,ha2,-⟩:=hat hx;rw[<-e2]at ha2;cases ha2;rfl
  subst hs;have hb:b=b0:=by
   split at ha
   ·cases ha;rfl
   ·have ha:=aAf ha;unfold Addr.add at ha;simp only at ha
    split at ha<;>cases ha<;>rfl
  subst hb;exact h.nf b o0 _ _ rfl hx
theorem xD {α:Type} {B:Nat} {w:World} {sz:Nat} {cells:α->List Value}:SlN B w (.slice none 0 0) sz ([]:List α) cells:=
 ⟨⟨none,0,rfl,Nat.zero_le _,fun h=>absurd h (Nat.lt_irrefl 0)⟩,fun b o n c e=>by cases e⟩
theorem F1 {w:World} {v:Value} {bs:List UInt8} (h:SlR w v 1 bs gm):(convert 42 9 v).run Tryz.prog w= .ok (.string ⟨bs.toArray⟩) w:=by
 obtain ⟨ao,cap,rfl,hl,hat⟩:=h;by_cases h0:0<bs.length
 ·obtain ⟨b,o,rfl,hb,hc⟩:=hat h0;refine run_convert_bytes_back (P:= Tryz.prog) w 42 9 5 ⟨b,o,none⟩ cap bs Tryz.underlying42 Tryz.underlying5 Tryz.underlying9 (fun j hj=> ?_);have:=hc j bs[j] (aAg hj) 0 (.int .u8 (bs[j].toNat:Int)) rfl;rw[Nat.mul_one,Nat.add_zero]at this;rw[Addr.add_lit];exact this
 ·obtain rfl:bs=[]:=List.eq_nil_of_length_eq_zero (by omega);have:=run_convert_bytes_string (P:= Tryz.prog) w 42 9 5 ao 0 cap Tryz.underlying42 Tryz.underlying5 Tryz.underlying9;rw[show (([]:List UInt8).length)=0 from rfl,this];cases ao<;>simp[Conv.bytesToString,loadCells]
  all_goals rfl
theorem Le (w:World) (ao:Option Addr) (cap g:Nat) (bs:List UInt8) (hT:SlR w (.slice ao bs.length cap) 1 bs gm) (h0:0<bs.length) (hcap:bs.length<=cap) (hg:w.cell? ⟨g,0,none⟩=some (.int .u8 10)):
 Calls Tryz.prog 104 #[.slice ao bs.length cap,.slice (some ⟨g,0,none⟩) 1 1] w fun e w'=>(∃v1 v2 fd ao2 n2 c2,e= .returned (.tuple #[v1,v2,.bool fd])/\SlR w v1 1 (cJ bs).1 gm/\v2= .slice ao2 n2 c2/\n2<=c2/\n2=(cJ bs).2.length/\SlR w v2 1 (cJ bs).2 gm/\
  ∀B,SlN B w (.slice ao bs.length cap) 1 bs gm->SlN B w v1 1 (cJ bs).1 gm/\SlN B w v2 1 (cJ bs).2 gm)/\∃q,w'=w.drewN q:=by
 have hT2:=hT;obtain ⟨ao',cap',e1,hl,hat⟩:=hT;injection e1 with e1 e2 e3
 subst e1 e3;obtain ⟨b,o,rfl,hb,hc⟩:=hat h0;have hx:(bs.map fun c=>(c.toNat:Int)).length=bs.length:=List.length_map ..;have hbo:Lib.bytesOf (bs.map fun c=>(c.toNat:Int))=bs:=by
  unfold Lib.bytesOf;rw[List.map_map]
  conv=>rhs;rw[<-List.map_id bs]
  refine List.map_congr_left fun c _=> ?_;simp
 have hidx:= Tryz.bytes_Index_one_at ⟨b,o,none⟩ bs.length cap g 0 1 (bs.map fun c=>(c.toNat:Int)) 10 w hx (fun i hi=>by
  rw[Addr.add_lit];have:=hc i bs[i] (aAg hi) 0 (.int .u8 (bs[i].toNat:Int)) rfl;rw[Nat.mul_one,Nat.add_zero]at this;rw[this,List.getD_eq_getElem?_getD,List.getElem?_map,aAg hi];rfl) hg
 rw[hbo,show (10:Int).toNat.toUInt8=10 from rfl]at hidx;have hcut:= Tryz.bytes_Cut_of (some ⟨b,o,none⟩) (some ⟨g,0,none⟩) bs.length cap 1 1 (Lib.indexByte bs 10) w hcap (by
  rcases nX bs with ⟨j,h,_,_⟩|⟨h,_⟩<;>omega) (fun h=>by
  rcases nX bs with ⟨j,h1,h2,_⟩|⟨h1,_⟩<;>omega) (by omega) (hidx.mono fun e w' h=>⟨h.1,0,h.2⟩)
 refine hcut.mono fun e w' ⟨he,hw⟩=>⟨?_,hw⟩;rw[he];unfold Lib.cutV;rcases nX bs with ⟨j,h1,h2,h3⟩|⟨h1,h3⟩
 ·rw[h1,if_pos (by omega),h3];have hfrom:Lib.fromV (some ⟨b,o,none⟩) bs.length cap ((j:Int).toNat+1)= .slice (if cap=j+1 then some ⟨b,o,none⟩ else (some (⟨b,o,none⟩:Addr)).map (·.add ((j+1)*1))) (bs.length-(j+1)) (cap-(j+1)):=by
   unfold Lib.fromV;rw[Int.toNat_natCast,Nat.mul_one]
  rw[hfrom];refine ⟨_,_,_,_,_,_,rfl,by rw[Int.toNat_natCast];exact rp hT2 (by omega),rfl,by omega,by rw[List.length_drop],nP hT2 (by omega) hcap rfl,fun B hN=>⟨?_,?_⟩⟩
  ·rw[Int.toNat_natCast];exact Bf hN (by omega)
  ·exact Bg hN (by omega) hcap rfl
 ·rw[h1,if_neg (by omega),h3];exact ⟨_,_,_,_,_,_,rfl,hT2,rfl,aAa _,rfl,xD (B:=0).sl,fun B hN=>⟨hN,xD⟩⟩
