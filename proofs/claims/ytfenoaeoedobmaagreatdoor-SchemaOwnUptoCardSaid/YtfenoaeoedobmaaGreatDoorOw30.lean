/-
Parts of a proof.
-/
import Derived.Test.YtfenoaeoedobmaaGreatDoorOw29
set_option linter.unusedVariables false
set_option linter.unusedSimpArgs false
set_option maxHeartbeats 4000000
set_option maxRecDepth 20000
namespace Go.Proofs.YtfenoaeoedobmaaGreatDoor
open Go Go.RowKit
theorem jo {w:World} {ops:Array Oper} {o:Oper} {a:Act} {K:Act->World->Prop} {Q:Exit->Act->World->Prop} {E:Prop} (e sl:TypeId) (z:Value) (size nb:Nat) (hsl: Tryz.prog.underlying sl=some (.slice e))
 (hinf:(Tryz.prog.info? e).map (fun i=>(i.zero,i.size,i.bytes))=some (some z,size,nb)) (hzs:z.cells.size=size) (hsz:0<size) (hnb:nb<=1000) (hgd:o.guard=none) (s x:Operand)
 (ho:o.op= .call {callee:= .builtin .append,args:=#[s,x],argTypes:=#[sl,sl]})
 (v:Value) (n:Nat) (xs:List Value) (hs:a.eval s=v) (hown:w.ownsRow 0 e size v n xs) (g:Nat) (arr:Array Value) (news:List Value) (hx:a.eval x= .slice (some ⟨g,0,none⟩) 1 1)
 (hnew:w.heap[g]? =some (.cells arr e (0,0))) (harr:arr.toList=news) (hl:news.length=size) (h1:∀u∈news,u.oneCell'=true) (hlen:n<=2000000) (q:Nat) (hq:q=n+1)
 (h:∀ao' c' w',w'.ownsRow 0 e size (.slice ao' q c') q (xs++news)->w.grownBy w' v.ownBlock->(∀g,(Value.slice ao' q c').ownBlock=some g->v.ownBlock=some g\/w.heap.size<=g)->
  K (a.put o.dst (.slice ao' q c')) w'):if Region.wanted o (yielded ops a.tmps)=true then Oper.wp Tryz.prog o a w K Q else E:=by
 obtain ⟨i,hi,hz,hsize,hby⟩:=info_parts hinf;subst hq;refine gI w hgd s x sl ho e i z size nb hsl hi hz hsize hby hzs hsz v n xs hs hown (some ⟨g,0,none⟩) 1 1 news hx (by omega) (fun hn=>by cases hn) (fun ad had=> ?_) h1 (by unfold maxLen;omega) ?_ ?_
 ·obtain rfl:=aAf had;intro j u hj;have e2:Addr.add ⟨g,0,none⟩ j=⟨g,j,none⟩:=by
   simp[Addr.add];exact fun h=>h.symm
  rw[e2,af hnew,<-Array.getElem?_toList,harr];exact hj
 ·have h3:(n+1)*nb<=2000001*1000:=Nat.mul_le_mul (by omega) hnb;omega
 ·intro v' w' h1 h2 h3;have hf:∃ao' c',v'= .slice ao' (n+1) c':=by
   rcases h1.2 with ⟨hv,hn⟩|⟨g,cap,cur,hv,_⟩
   ·rw[hv,hn];exact ⟨none,0,rfl⟩
   ·exact ⟨_,_,hv⟩
  obtain ⟨ao',c',rfl⟩:=hf;exact h ao' c' w' h1 h2 h3
theorem rL {ms:List NdM} {i:Nat} {m':NdM}:nds (ms.set i m')=(nds ms).set i m'.nd:=by unfold nds;rw[List.map_set]
theorem mr {ms:List NdM} {i kid:Nat} {m:NdM} (h:ms[i]? =some m) (kv:Value):nds (ms.set i ⟨{m.nd with kids:=m.nd.kids++[(kid:Int)]},kv⟩)=dh (nds ms) i kid:=by
 rw[rL];unfold dh;have:(nds ms)[i]? =some m.nd:=by unfold nds;rw[List.getElem?_map,h];rfl
 rw[this]
theorem yd {w0 w w1 w5:World} {rb:Nat} {lv:Value} {ts:List Tok} {k i kid q g:Nat} {nv:Value} {ao5:Option Addr} {c5:Nat} {ms:List NdM} {m:NdM} (h:RdS w0 w rb lv ts k nv ms) (hi:ms[i]? =some m) (hg:nv.ownBlock=some g) (hq:q=m.nd.kids.length) (hql:q<1048576)
 (hb1:Below w.heap.size w w1) (own2:w5.ownsRow 0 3 1 (.slice ao5 (q+1) c5) (q+1) (m.nd.kids.flatMap aP++[.int .i64 (kid:Int)])) (gr2:w1.grownBy w5 m.kv.ownBlock)
 (new2:∀g,(Value.slice ao5 (q+1) c5).ownBlock=some g->m.kv.ownBlock=some g\/w1.heap.size<=g):
 Mod (RdF rb nv ms) w w5/\w5.heap[rb]? =w.heap[rb]? /\w5.heap[g]? =w.heap[g]? /\
 RdS w0 (w5.setCell ⟨g,i*6+5,none⟩ (.slice ao5 (q+1) c5)) rb lv ts k nv (ms.set i ⟨{m.nd with kids:=m.nd.kids++[(kid:Int)]},.slice ao5 (q+1) c5⟩)/\
 Mod (RdF rb nv ms) w (w5.setCell ⟨g,i*6+5,none⟩ (.slice ao5 (q+1) c5))/\
 ∀b,nOwn nv (ms.set i ⟨{m.nd with kids:=m.nd.kids++[(kid:Int)]},.slice ao5 (q+1) c5⟩) b->nOwn nv ms b\/w.heap.size<=b:=by
 subst hq;have h1:=h.later hb1;have hmm:=List.mem_of_getElem? hi;have hP:=h1.nr.each m hmm;have hM:Mod (fun b=>m.kv.ownBlock=some b) w1 w5:=(Mod.refl _ _).grown gr2 (fun b e _=>e);have hrb:w5.heap[rb]? =w1.heap[rb]? :=hM.block rb (ag h1.blk) (fun e=>(h.nr.kid m hmm rb e).2 rfl);have hgb:w5.heap[g]? =w1.heap[g]? :=hM.block g (h1.nr.row.lt g hg).2 (fun e=>(h.nr.kid m hmm g e).1 hg);have hW:Mod (RdF rb nv ms) w w5:=(Mod.ofBelow (F:=RdF rb nv ms) hb1 (fun b hb hge=>by omega)).trans' hM (fun b hb q=> .inr (.inr ⟨m,hmm,q⟩))
 have hS:Mod (fun b=>b=g) w5 (w5.setCell ⟨g,i*6+5,none⟩ (.slice ao5 (m.nd.kids.length+1) c5)):=(Mod.refl _ _).setCell _ _ (fun _=>rfl);have hW2:Mod (RdF rb nv ms) w (w5.setCell ⟨g,i*6+5,none⟩ (.slice ao5 (m.nd.kids.length+1) c5)):=hW.trans' hS (fun b hb q=> .inr (.inl (by rw[q];exact hg)));have hgr:g≠rb:=(h.nr.new g hg).2;have hP5:NdP w5 w0.heap.size ⟨{m.nd with kids:=m.nd.kids++[(kid:Int)]},.slice ao5 (m.nd.kids.length+1) c5⟩:=by
  refine ⟨?_,fun b hb=> ?_,hP.kind,hP.line,hP.text,hP.key,?_⟩
  ·show w5.ownsRow 0 3 1 (.slice ao5 (m.nd.kids.length+1) c5) (m.nd.kids++[(kid:Int)]).length ((m.nd.kids++[(kid:Int)]).flatMap aP)
   rw[aAc,List.flatMap_append,List.flatMap_singleton];exact own2
  ·rcases new2 b hb with q|q
   ·exact hP.fresh b q
   ·exact aAe h1.below.size q
  ·show (m.nd.kids++[(kid:Int)]).length<=1048576
   rw[aAc];simp;omega
 have hN:=NRowM.kids (m':=⟨{m.nd with kids:=m.nd.kids++[(kid:Int)]},.slice ao5 (m.nd.kids.length+1) c5⟩) h1.nr h1.below.size (ag h1.blk) hi hg hM rfl hP5 new2;refine ⟨hW,hrb.trans (hb1.block _ (ag h.blk)),hgb.trans (hb1.block _ (h.nr.row.lt g hg).2),⟨h.toks,h.wf,h.below.trans (hW2.below h.below.size (fun b hb=>(h.rd_lt hb).1)),h.rge,?_,hN,h.kle⟩,hW2,fun b hb=> ?_⟩
 ·rw[hS.block rb (Nat.lt_of_lt_of_le (ag h1.blk) hM.size) (fun e=>hgr e.symm),hrb];exact h1.blk
 ·rcases hb with hb|⟨x,hx,hb⟩
  ·exact .inl (.inl hb)
  ·rcases List.mem_or_eq_of_mem_set hx with hx|rfl
   ·exact .inl (.inr ⟨x,hx,hb⟩)
   ·rcases new2 b hb with q|q
    ·exact .inl (.inr ⟨m,hmm,q⟩)
    ·exact .inr (aAe hb1.size q)
def iQ (n:Nat) (ns ns2:List Nd):Prop:=ns.length<=ns2.length/\∀j,j<n->ns2[j]? =ns[j]?
theorem iQ.refl (n:Nat) (ns:List Nd):iQ n ns ns:=⟨aAa _,fun _ _=>rfl⟩
theorem iQ.trans {n:Nat} {a b c:List Nd} (h:iQ n a b) (k:iQ n b c):iQ n a c:=⟨aAe h.1 k.1,fun j hj=>(k.2 j hj).trans (h.2 j hj)⟩
theorem iQ.mono {n m:Nat} {a b:List Nd} (h:iQ n a b) (hm:m<=n):iQ m a b:=⟨h.1,fun j hj=>h.2 j (by omega)⟩
theorem kI (ns:List Nd) (i kid:Nat):(dh ns i kid).length=ns.length:=by
 unfold dh
 split
 ·rw[List.length_set]
 ·rfl
theorem o7 (ns:List Nd) (i kid:Nat):iQ i ns (dh ns i kid):=by
 refine ⟨by rw[kI];exact aAa _,fun j hj=> ?_⟩;unfold dh
 split
 ·rw[List.getElem?_set_ne (by omega)]
 ·rfl
theorem nZ (ns r:List Nd):iQ ns.length ns (ns++r):=⟨by rw[aAc];omega,fun j hj=>List.getElem?_append_left hj⟩
def Gh (blk:Blk):Prop:=∀k ns key k2 ns2 i,blk k ns key= .ok (k2,ns2,i)->iQ ns.length ns ns2/\ns.length<ns2.length/\i=ns.length
theorem jV {ns:List Nd} {d:Nat} {kind:Int} {key:ByteArray} {t:Tok} {ns1:List Nd} (h:iX ns d kind key t= .ok ns1):ns1=ns++[⟨kind,key,⟨#[]⟩,false,t.line,[]⟩]/\0<d:=by
 unfold iX at h
 split at h
 ·cases h
 ·injection h with h
  exact ⟨h.symm,by omega⟩
theorem jM {blk:Blk} (hb:Gh blk) {ts:List Tok} {d:Nat} {is:Bool} {t:Tok} {k:Nat} {ns:List Nd} {key:ByteArray} {k2:Nat} {ns2:List Nd} {i:Nat} (h:iy blk ts d is t k ns key= .ok (k2,ns2,i)):iQ ns.length ns ns2/\ns.length<ns2.length/\i=ns.length:=by
 unfold iy at h
 split at h
 ·exact hb _ _ _ _ _ _ h
 ·split at h
  ·cases h
  ·rename_i ns3 hn
   injection h with h
   injection h with h1 h2
   injection h2 with h2 h3
   obtain ⟨e,_⟩:=jV hn;rw[<-h2,<-h3,e];exact ⟨nZ _ _,by rw[aAc];simp,rfl⟩
theorem oR {blk:Blk} (hb:Gh blk) {ts:List Tok} {d:Nat} {col:Int} {i:Nat}:∀(f k:Nat) (ns:List Nd) (k2:Nat) (ns2:List Nd),dg blk ts d col i f k ns= .ok (k2,ns2)->i<ns.length->iQ i ns ns2
 |0,k,ns,k2,ns2,h,_=>by
  unfold dg at h;injection h with h
  injection h with h1 h2
  rw[h2];exact iQ.refl _ _
 |f+1,k,ns,k2,ns2,h,hi=>by
  unfold dg at h;simp only at h
  split at h
  ·split at h
   ·cases h
   ·rename_i k3 ns3 kid hv
    have h1:=jM hb hv;have h2:=oR hb f _ _ _ _ h (by rw[kI];omega);exact ((h1.1.mono (by omega)).trans (o7 ns3 i kid)).trans h2
  ·injection h with h
   injection h with h1 h2
   rw[h2];exact iQ.refl _ _
theorem pn {blk:Blk} (hb:Gh blk) {ts:List Tok} {d:Nat} {col:Int} {i:Nat}:∀(f:Nat) (seen:List (List UInt8)) (k:Nat) (ns:List Nd) (k2:Nat) (ns2:List Nd),cU blk ts d col i f seen k ns= .ok (k2,ns2)->i<ns.length->iQ i ns ns2
 |0,seen,k,ns,k2,ns2,h,_=>by
  unfold cU at h;injection h with h
  injection h with h1 h2
  rw[h2];exact iQ.refl _ _
 |f+1,seen,k,ns,k2,ns2,h,hi=>by
  unfold cU at h;simp only at h
  split at h
  ·split at h
   ·cases h
   ·split at h
    ·cases h
    ·rename_i k3 ns3 kid hv
     have h1:=jM hb hv;have h2:=pn hb f _ _ _ _ _ h (by rw[kI];omega);exact ((h1.1.mono (by omega)).trans (o7 ns3 i kid)).trans h2
  ·injection h with h
   injection h with h1 h2
   rw[h2];exact iQ.refl _ _
def nG (L:Except Flt (Nat×List Nd)) (i:Nat):Except Flt (Nat×List Nd×Nat):=match L with| .error e=> .error e| .ok (k2,ns2)=> .ok (k2,ns2,i)
def lE (ts:List Tok) (D k:Nat) (ns:List Nd) (key:ByteArray) (t:Tok):Except Flt (Nat×List Nd×Nat):=
 match iX ns D 2 key t with
 | .error e=> .error e
 | .ok ns1=>nG (cU (bM ts (D-1)) ts (D-1) t.col ns.length (ts.length-k) [] k ns1) ns.length
def lr (ts:List Tok) (D k:Nat) (ns:List Nd) (key:ByteArray) (t:Tok):Except Flt (Nat×List Nd×Nat):=
 match iX ns D 3 key t with
 | .error e=> .error e
 | .ok ns1=>nG (dg (bM ts (D-1)) ts (D-1) t.col ns.length (ts.length-k) k ns1) ns.length
def ng (ts:List Tok) (D k:Nat) (ns:List Nd) (key:ByteArray) (t:Tok):Except Flt (Nat×List Nd×Nat):=
 match iX ns D 1 key t with
 | .error e=> .error e
 | .ok _=> .ok (k+1,ns++[⟨1,key,⟨t.text.toArray⟩,t.quoted,t.line,[]⟩],ns.length)
theorem uU (ts:List Tok) (D k:Nat) (ns:List Nd) (key:ByteArray):bM ts D k ns key=if (aq ts k).kind=3 then lE ts D k ns key (aq ts k) else if (aq ts k).kind=2 then lr ts D k ns key (aq ts k) else ng ts D k ns key (aq ts k):=by
 cases D with
 |zero=>
  have h0:∀kind,iX ns 0 kind key (aq ts k)= .error ((aq ts k).line,92):=fun kind=>by unfold iX;rw[if_pos (Or.inl rfl)]
  unfold bM lE lr ng;rw[h0,h0,h0]
  split
  ·rfl
  ·split<;>rfl
 |succ d=>
  rw[bM];unfold lE lr ng;rw[Nat.add_sub_cancel]
  split
  ·split
   ·rename_i e h;rw[h]
   ·rename_i n h;rw[h];unfold nG;rfl
  ·split
   ·split
    ·rename_i e h;rw[h]
    ·rename_i n h;rw[h];unfold nG;rfl
   ·split
    ·rename_i e h;rw[h]
    ·rename_i n h;rw[h]
theorem jH (ts:List Tok):∀d,Gh (bM ts d)
 |0=>fun k ns key k2 ns2 i h=>by unfold bM at h;cases h
 |d+1=>fun k ns key k2 ns2 i h=>by
  have ih:=jH ts d;rw[uU]at h;unfold lE lr ng at h;rw[Nat.add_sub_cancel]at h
  split at h
  ·split at h
   ·cases h
   ·rename_i ns1 hn
    obtain ⟨e,_⟩:=jV hn;unfold nG at h
    split at h
    ·cases h
    ·rename_i k3 ns3 hd
     injection h with h
     injection h with h1 h2
     injection h2 with h2 h3
     subst h2 h3;have hk:=pn ih _ _ _ _ _ _ hd (by rw[e,aAc];simp);rw[e]at hk;have h4:=(nZ ns _).trans hk;exact ⟨h4,by have:=hk.1;rw[aAc]at this;simp at this;omega,rfl⟩
  ·split at h
   ·split at h
    ·cases h
    ·rename_i ns1 hn
     obtain ⟨e,_⟩:=jV hn;unfold nG at h
     split at h
     ·cases h
     ·rename_i k3 ns3 hd
      injection h with h
      injection h with h1 h2
      injection h2 with h2 h3
      subst h2 h3;have hk:=oR ih _ _ _ _ _ hd (by rw[e,aAc];simp);rw[e]at hk;have h4:=(nZ ns _).trans hk;exact ⟨h4,by have:=hk.1;rw[aAc]at this;simp at this;omega,rfl⟩
   ·split at h
    ·cases h
    ·injection h with h
     injection h with h1 h2
     injection h2 with h2 h3
     rw[<-h2,<-h3];exact ⟨nZ _ _,by rw[aAc];simp,rfl⟩
theorem zZ {blk:Blk} {ts:List Tok} {d:Nat} {col:Int} {i k:Nat} {ns:List Nd} (f:Nat) (h:¬((aq ts k).kind=2/\(aq ts k).col=col)):dg blk ts d col i f k ns= .ok (k,ns):=by
 cases f with
 |zero=>rfl
 |succ f=>
  unfold dg;simp only;rw[if_neg h]
theorem z8 {blk:Blk} {ts:List Tok} {d:Nat} {col:Int} {i k:Nat} {ns:List Nd} {e:Flt} (h:(aq ts k).kind=2/\(aq ts k).col=col) (hv:iy blk ts d (mn (aq ts (k+1)) (aq ts k)) (aq ts k) (k+1) ns ⟨#[]⟩= .error e):
 dg blk ts d col i (ts.length-k) k ns= .error e:=by
 have hk:=eO (ts:=ts) (k:=k) (by rw[h.1];decide);rw[show ts.length-k=(ts.length-k-1)+1 by omega];unfold dg;simp only;rw[if_pos h,hv]
theorem wJ {blk:Blk} {ts:List Tok} (hb:vh ts blk) {d:Nat} {col:Int} {i k k2 kid:Nat} {ns ns2:List Nd} (h:(aq ts k).kind=2/\(aq ts k).col=col) (hv:iy blk ts d (mn (aq ts (k+1)) (aq ts k)) (aq ts k) (k+1) ns ⟨#[]⟩= .ok (k2,ns2,kid)):
 dg blk ts d col i (ts.length-k) k ns=dg blk ts d col i (ts.length-k2) k2 (dh ns2 i kid)/\k<k2/\k2<=ts.length:=by
 have hk:=eO (ts:=ts) (k:=k) (by rw[h.1];decide);have hg:=gy hb hv (by omega);refine ⟨?_,by omega,hg.2⟩;rw[show ts.length-k=(ts.length-k-1)+1 by omega]
 conv=>lhs;unfold dg
 simp only;rw[if_pos h,hv];exact oT hb _ _ _ _ (by omega) (by omega) hg.2
theorem AA {blk:Blk} {ts:List Tok} {d:Nat} {col:Int} {i k:Nat} {seen:List (List UInt8)} {ns:List Nd} (f:Nat) (h:¬((aq ts k).kind=3/\(aq ts k).col=col)):cU blk ts d col i f seen k ns= .ok (k,ns):=by
 cases f with
 |zero=>rfl
 |succ f=>
  unfold cU;simp only;rw[if_neg h]
theorem Az {blk:Blk} {ts:List Tok} {d:Nat} {col:Int} {i k:Nat} {seen:List (List UInt8)} {ns:List Nd} (h:(aq ts k).kind=3/\(aq ts k).col=col) (hs:(aq ts k).text∈seen):
 cU blk ts d col i (ts.length-k) seen k ns= .error ((aq ts k).line,91):=by
 have hk:=eO (ts:=ts) (k:=k) (by rw[h.1];decide);rw[show ts.length-k=(ts.length-k-1)+1 by omega];unfold cU;simp only;rw[if_pos h,if_pos hs]
theorem AB {blk:Blk} {ts:List Tok} {d:Nat} {col:Int} {i k:Nat} {seen:List (List UInt8)} {ns:List Nd} {e:Flt} (h:(aq ts k).kind=3/\(aq ts k).col=col) (hs:¬(aq ts k).text∈seen) (hv:iy blk ts d (dC (aq ts (k+1)) (aq ts k)) (aq ts k) (k+1) ns ⟨(aq ts k).text.toArray⟩= .error e):
 cU blk ts d col i (ts.length-k) seen k ns= .error e:=by
 have hk:=eO (ts:=ts) (k:=k) (by rw[h.1];decide);rw[show ts.length-k=(ts.length-k-1)+1 by omega];unfold cU;simp only;rw[if_pos h,if_neg hs,hv]
theorem xh {blk:Blk} {ts:List Tok} (hb:vh ts blk) {d:Nat} {col:Int} {i k k2 kid:Nat} {seen:List (List UInt8)} {ns ns2:List Nd} (h:(aq ts k).kind=3/\(aq ts k).col=col) (hs:¬(aq ts k).text∈seen) (hv:iy blk ts d (dC (aq ts (k+1)) (aq ts k)) (aq ts k) (k+1) ns ⟨(aq ts k).text.toArray⟩= .ok (k2,ns2,kid)):
 cU blk ts d col i (ts.length-k) seen k ns=cU blk ts d col i (ts.length-k2) ((aq ts k).text::seen) k2 (dh ns2 i kid)/\k<k2/\k2<=ts.length:=by
 have hk:=eO (ts:=ts) (k:=k) (by rw[h.1];decide);have hg:=gy hb hv (by omega);refine ⟨?_,by omega,hg.2⟩;rw[show ts.length-k=(ts.length-k-1)+1 by omega]
 conv=>lhs;unfold cU
 simp only;rw[if_pos h,if_neg hs,hv];exact pq hb _ _ _ _ _ (by omega) (by omega) hg.2
structure LpS (w0 w wr:World) (rb fb tb i:Nat) (lv:Value) (ts:List Tok) (nv:Value) (ms:List NdM) (t u:Tok) (k:Nat) (nv':Value) (ms':List NdM):Prop where
 rd:RdS w0 wr rb lv ts k nv' ms'
 mod:Mod (RdF rb nv ms) w wr
 own:∀g,nOwn nv' ms' g->nOwn nv ms g\/w.heap.size<=g
 first:wr.heap[fb]? =some (.cells t.a 121 (0,0))
 tok:wr.heap[tb]? =some (.cells u.a 121 (0,0))
 nf:¬RdF rb nv' ms' fb
 nt:¬RdF rb nv' ms' tb
 ffw:w.heap.size<=fb
 tfw:w.heap.size<=tb
 kid:∃x,(nds ms')[i]? =some x/\x.kids.length<=k
section
variable {w0 w wr w2:World} {rb fb tb i k:Nat} {lv nv nv':Value} {ts:List Tok} {ms ms':List NdM} {t u:Tok}
theorem LpS.later (h:LpS w0 w wr rb fb tb i lv ts nv ms t u k nv' ms') (hb:Below wr.heap.size wr w2):LpS w0 w w2 rb fb tb i lv ts nv ms t u k nv' ms':=
 ⟨h.rd.later hb,h.mod.trans' (bh hb) (fun _ _ q=>q.elim),h.own,(hb.block _ (ag h.first)).trans h.first,(hb.block _ (ag h.tok)).trans h.tok,h.nf,h.nt,h.ffw,h.tfw,h.kid⟩
theorem LpS.call {k2:Nat} {nv2:Value} {ms2:List NdM} (h:LpS w0 w wr rb fb tb i lv ts nv ms t u k nv' ms') (hR:RdS w0 w2 rb lv ts k2 nv2 ms2) (hm:Mod (RdF rb nv' ms') wr w2) (ho:∀g,nOwn nv2 ms2 g->nOwn nv' ms' g\/wr.heap.size<=g) (hk:∃x,(nds ms2)[i]? =some x/\x.kids.length<=k2):
 LpS w0 w w2 rb fb tb i lv ts nv ms t u k2 nv2 ms2:=by
 have hno:∀b,b<wr.heap.size->¬RdF rb nv' ms' b->¬RdF rb nv2 ms2 b:=fun b hb hn q=>by
  rcases q with q|q
  ·exact hn (.inl q)
  ·rcases ho b q with q|q
   ·exact hn (.inr q)
   ·omega
 refine ⟨hR,l9 (w0:=w0) h.mod h.own hm,qI h.mod.size h.own ho,hm.heap h.first h.nf,hm.heap h.tok h.nt,hno _ (ag h.first) h.nf,hno _ (ag h.tok) h.nt,h.ffw,h.tfw,hk⟩
theorem LpS.move (h:LpS w0 w wr rb fb tb i lv ts nv ms t u k nv' ms') (hk:k+1<=ts.length):LpS w0 w (wr.setCell ⟨rb,1,none⟩ (.int .i64 ((k+1:Nat):Int))) rb fb tb i lv ts nv ms t u (k+1) nv' ms':=by
 have hM:Mod (fun b=>b=rb) wr (wr.setCell ⟨rb,1,none⟩ (.int .i64 ((k+1:Nat):Int))):=(Mod.refl _ _).setCell _ _ (fun _=>rfl);obtain ⟨x,hx,hl⟩:=h.kid;exact ⟨h.rd.move hk,h.mod.trans' hM (fun _ _ q=> .inl q),h.own,hM.heap h.first (fun e=>h.nf (.inl e)),hM.heap h.tok (fun e=>h.nt (.inl e)),h.nf,h.nt,h.ffw,h.tfw,x,hx,by omega⟩
theorem LpS.newTok (h:LpS w0 w wr rb fb tb i lv ts nv ms t u k nv' ms') {tb2:Nat} {u2:Tok} (hb:Below wr.heap.size wr w2) (ht:w2.heap[tb2]? =some (.cells u2.a 121 (0,0))) (hge:wr.heap.size<=tb2):LpS w0 w w2 rb fb tb2 i lv ts nv ms t u2 k nv' ms':=by
 have h2:=h.later hb;refine ⟨h2.rd,h2.mod,h2.own,h2.first,ht,h2.nf,fun q=> ?_,h.ffw,aAe h.mod.size hge,h.kid⟩;have:=h.rd.rd_lt q;omega
theorem LpS.cells (h:LpS w0 w wr rb fb tb i lv ts nv ms t u k nv' ms'):
 (wr.cell? ⟨tb,0,none⟩=some (.int .i64 u.kind)/\wr.cell? ⟨tb,1,none⟩=some (.int .i64 u.line)/\wr.cell? ⟨tb,2,none⟩=some (.int .i64 u.col)/\wr.cell? ⟨tb,3,none⟩=some (.string ⟨u.text.toArray⟩)/\wr.cell? ⟨tb,4,none⟩=some (.bool u.quoted))/\wr.cell? ⟨fb,2,none⟩=some (.int .i64 t.col)/\(∀j,wr.frozen? ⟨tb,j,none⟩=false):=by
 have h1:=h.tok;have h2:=h.first;unfold Tok.a at h1 h2;exact ⟨⟨af h1 0,af h1 1,af h1 2,af h1 3,af h1 4⟩,af h2 2,fun j=>ai h1 j⟩
end
theorem ql {w w':World} {T:TypeId} {t:Tok} (h:Below (w.alloc (.cells t.a T)).heap.size (w.alloc (.cells t.a T)) w'):w'.heap[w.heap.size]? =some (.cells t.a T (0,0)):=
 (h.block _ (by simp)).trans (ah (w:=w) _)
def curs (rb:Nat) (w:World):Nat:=(intOf ((w.cell? ⟨rb,1,none⟩).getD undef)).toNat
theorem RdS.curs {w0 w:World} {rb:Nat} {lv:Value} {ts:List Tok} {k:Nat} {nv:Value} {ms:List NdM} (h:RdS w0 w rb lv ts k nv ms):curs rb w=k:=by
 unfold Proofs.YtfenoaeoedobmaaGreatDoor.curs;have h1:=h.blk;unfold rdA at h1;have h2:=af h1 1;rw[h2];simp[intOf]
theorem tU {w0 w w1:World} {rb k:Nat} {lv nv nv1:Value} {ts:List Tok} {ms ms1:List NdM} {t:Tok} {x:Nd} (h:RdS w0 w rb lv ts k nv ms) (hR1:RdS w0 w1 rb lv ts k nv1 ms1) (hm1:Mod (RdF rb nv ms) (w.alloc (.cells t.a 121)) w1)
 (ho1:∀g,nOwn nv1 ms1 g->nOwn nv ms g\/(w.alloc (.cells t.a 121)).heap.size<=g) (hn1:nds ms1=nds ms++[x]) (hx:x.kids=[]):LpS w0 w w1 rb w.heap.size w.heap.size ms.length lv ts nv ms t t k nv1 ms1:=by
 have hs:(w.alloc (.cells t.a 121)).heap.size=w.heap.size+1:=by simp
 have hb:Below w.heap.size w (w.alloc (.cells t.a 121)):=(aAb _ _).alloc (aAa _) _;have hf:¬RdF rb nv ms w.heap.size:=fun q=>by have:=h.rd_lt q;omega
 have hf1:¬RdF rb nv1 ms1 w.heap.size:=fun q=>by
  rcases q with q|q
  ·exact hf (.inl q)
  ·rcases ho1 _ q with q|q
   ·exact hf (.inr q)
   ·omega
 have hblk:w1.heap[w.heap.size]? =some (.cells t.a 121 (0,0)):=hm1.heap (ah (w:=w) _) hf;refine ⟨hR1,(Mod.ofBelow (F:=RdF rb nv ms) hb (fun k hk hge=>by omega)).trans hm1,fun g hg=> ?_,hblk,hblk,hf1,hf1,aAa _,aAa _,x,?_,by rw[hx];exact Nat.zero_le _⟩
 ·rcases ho1 g hg with q|q
  ·exact .inl q
  ·exact .inr (by omega)
 ·rw[hn1,List.getElem?_append_right (by rw[bt];exact aAa _),bt,Nat.sub_self];rfl
theorem gD {w w':World} {g j:Nat} {v:Value} (h:w'.heap[g]? =w.heap[g]?) (hc:w.cell? ⟨g,j,none⟩=some v):w'.cell? ⟨g,j,none⟩=some v:=(World.cell?_of_block (w:=w) h).trans hc
theorem jB {w w':World} {g j:Nat} (h:w'.heap[g]? =w.heap[g]?) (hc:w.frozen? ⟨g,j,none⟩=false):w'.frozen? ⟨g,j,none⟩=false:=(World.frozen?_of_block (w:=w) h).trans hc
theorem qR {ms:List NdM} {i q k kid:Nat} {m:NdM} {kv:Value} (hm:ms[i]? =some m) (hq:q=m.nd.kids.length) (hk:q+1<=k):∃x,(nds (ms.set i ⟨{m.nd with kids:=m.nd.kids++[(kid:Int)]},kv⟩))[i]? =some x/\x.kids.length<=k:=by
 refine ⟨{m.nd with kids:=m.nd.kids++[(kid:Int)]},?_,by simp only[aAc,List.length_singleton];omega⟩;rw[rL,List.getElem?_set_self (by rw[bt];exact (aAh hm).1)]
theorem rG {k:Int}:∀u∈[Value.int .i64 k],u.oneCell'=true:=fun u hu=>by
 rw[List.mem_singleton]at hu;rw[hu];rfl
theorem qQ {w0 w wb w4:World} {rb fb tb i k k2:Nat} {lv nv nv' nv2:Value} {ts:List Tok} {ms ms' ms2:List NdM} {ns2:List Nd} {t u:Tok} (h:LpS w0 w wb rb fb tb i lv ts nv ms t u (k+1) nv' ms') (hR:RdS w0 w4 rb lv ts k2 nv2 ms2) (hn:nds ms2=ns2) (hm:Mod (RdF rb nv' ms') wb w4) (ho:∀g,nOwn nv2 ms2 g->nOwn nv' ms' g\/wb.heap.size<=g)
 (hkeep:iQ (nds ms').length (nds ms') ns2) (hkid:∃x,(nds ms')[i]? =some x/\x.kids.length<=k) (hk:k<k2):
 Hid (LpS w0 w w4 rb fb tb i lv ts nv ms t u k2 nv2 ms2)/\∃(g c:Nat) (ka:Option Addr) (kc q:Nat) (m:NdM),nv2= .slice (some ⟨g,0,none⟩) ms2.length c/\nv2.ownBlock=some g/\ms2[i]? =some m/\m.kv= .slice ka q kc/\q=m.nd.kids.length/\q<1048576/\q+1<=k2/\w4.cell? ⟨g,i*6+5,none⟩=some (.slice ka q kc)/\(∀j,w4.frozen? ⟨g,j,none⟩=false):=by
 obtain ⟨x,hx,hxl⟩:=hkid;have hi:i<(nds ms').length:=(aAh hx).1;have hx2:(nds ms2)[i]? =some x:=by rw[hn,hkeep.2 i hi,hx]
 obtain ⟨m,hmi,hmx⟩:∃m,ms2[i]? =some m/\m.nd=x:=by
  unfold nds at hx2;rw[List.getElem?_map]at hx2;cases hmi:ms2[i]? with
  |none=>rw[hmi]at hx2;cases hx2
  |some m=>rw[hmi]at hx2;exact ⟨m,rfl,aAf hx2⟩
 obtain ⟨g,c,hnv,hg,hat,hgf⟩:=hR.nr.at hmi;obtain ⟨ka,kc,hkv⟩:=cR (hR.nr.each m (List.mem_of_getElem? hmi)).row;have hlen:ts.length<=1048576:=by obtain ⟨_,_,_,q,_⟩:=hR.tok_at;exact q
 have hkl:=hR.kle;refine ⟨hid (h.call hR hm ho ⟨x,hx2,by omega⟩),g,c,ka,kc,_,m,hnv,hg,hmi,hkv,rfl,by rw[hmx];omega,by rw[hmx];omega,?_,hgf⟩;have h5:=hat.c5;rw[hkv]at h5;exact h5
theorem Ei {w0 w:World} {rb:Nat} {lv:Value} {ts:List Tok} {k:Nat} {nv:Value} {ms:List NdM} (h:RdS w0 w rb lv ts k nv ms) (D:Nat) (hD:D<=17) (t:Tok) (ht:t=aq ts k) (hk2:t.kind=2) (key:ByteArray) (hkey:key.size<=1048576) (IH:1<=D->mK w0 rb lv ts (D-1)):
 Calls Tryz.prog 147 #[.pointer (some ⟨rb,0,none⟩),.agg t.a,.int .i64 ((17-D:Nat):Int),.string key] w (cK w0 w rb lv ts nv ms (lr ts D k (nds ms) key t)):=by
 have hb1:∀ob,Below w.heap.size w (w.alloc ob):=fun ob=>(aAb _ _).alloc (aAa _) ob;have hok:TokOk t:=by rw[ht];exact h.ok k
 have Hbeg:=hid (fun ob=>lL (h.later (hb1 ob)) D hD 3 (by decide) key hkey t hok);have H:=hid h;have Hb:=hid hb1;have Hx:=hid (And.intro ht (And.intro hk2 (And.intro hD hok)));have IH:=hid IH;obtain ⟨X,hX⟩:=ex (lr ts D k (nds ms) key t);rw[<-hX];have HX:=hid hX;obtain ⟨B,hB⟩:=ex (jj k (nds ms) D 3 key t);rw[<-hB]at Hbeg;have HB:=hid hB;have Ha:=hid (show t.a=#[.int .i64 t.kind,.int .i64 t.line,.int .i64 t.col,.string ⟨t.text.toArray⟩,.bool t.quoted] from rfl)
 rw[Ha.o]at Hbeg |-;clear h hb1 hok hX hB ht hk2 hD hkey;go_enter Tryz.func147,Tryz.ntmps147
 go_wp2_with fail
 refine (Hbeg.o _).mono ?_;intro r w1 hh;cases B with
 |error e=>
  obtain ⟨rfl,h1,h2⟩:=hh;have hx:X= .error e:=by
   rw[HX.o];have:=HB.o;unfold jj at this;unfold lr
   split at this
   ·rename_i e2 h2
    (try rw[h2]);injection this with this
    rw[this]
   ·cases this
  rw[hx];exact ⟨rfl,rfl,h1,aAe (Hb.o _).size h2⟩
 |ok y=>
  obtain ⟨k1,ns1,i⟩:=y;obtain ⟨hr,nv1,ms1,hR1,hn1,hm1,ho1⟩:=hh;subst hr;have hfb:¬RdF rb nv ms w.heap.size:=fun q=>by have:=H.o.rd_lt q;omega
  obtain ⟨rfl,hns,rfl,hxx,hDp⟩:k1=k/\ns1=nds ms++[⟨3,key,⟨#[]⟩,false,t.line,[]⟩]/\i=ms.length/\X=nG (dg (bM ts (D-1)) ts (D-1) t.col ms.length (ts.length-k) k ns1) ms.length/\0<D:=by
   have h1:=HB.o;have h2:=HX.o;unfold jj at h1;unfold lr at h2;cases hN:iX (nds ms) D 3 key t with
   |error e=>rw[hN]at h1;cases h1
   |ok n1=>
    rw[hN]at h1 h2;injection h1 with h1
    injection h1 with h1 h3
    injection h3 with h3 h4
    rw[bt]at h4 h2;obtain ⟨e,hDp⟩:=jV hN;exact ⟨h1,by rw[h3,e],h4,by rw[h2,h3],hDp⟩
  have hL1:=tU H.o hR1 hm1 ho1 (hn1.trans hns) rfl;have Hxx:=hid hxx;have HDp:=hid (And.intro hDp Hx.o.2.2.1);clear hDp;have HL:=hid (And.intro hL1 hn1);have Hi:=hid (show ms.length<ms1.length by have:=congrArg List.length (hn1.trans hns);rw[bt,aAc,bt]at this;simp at this;omega);clear hR1 hm1 ho1 hn1 hns hxx hL1 HB HX Hbeg hfb;obtain ⟨n0,hn0⟩:=ex (ms.length);rw[<-hn0]
  have Hn0:=hid hn0;clear hn0
  go_wp2_with fail
  refine (fW HL.o.1.rd).mono ?_;rintro r w2 ⟨rfl,h2⟩;have Hb2:=hid h2;clear h2;have HL2:=hid (show LpS w0 w (w2.alloc (.cells (aq ts k1).a 121)) rb w.heap.size w2.heap.size n0 lv ts nv ms t (aq ts k1) k1 nv1 ms1 from by
   rw[Hn0.o];exact HL.o.1.newTok (Hb2.o.trans ((aAb _ _).alloc (aAa _) _ |>.mono Hb2.o.size)) (ah (w:=w2) _) Hb2.o.size)
  unfold Tok.a at HL2 |-;go_wp2
  go_loopw [10,11,12] (fun v10 v11 v12 wr=>∃tb:Nat,v10= .pointer (some ⟨tb,0,none⟩)/\Hid (∃k nv' ms',LpS w0 w wr rb w.heap.size tb n0 lv ts nv ms t (aq ts k) k nv' ms'/\X=nG (dg (bM ts (D-1)) ts (D-1) t.col n0 (ts.length-k) k (nds ms')) n0)) (fun _ _ _ wr=>ts.length-curs rb wr)
  case atStart=>
   exact ⟨_,rfl,hid ⟨k1,nv1,ms1,HL2.o,by rw[Hxx.o,HL.o.2,Hn0.o]⟩⟩
  case round=>
   clear HL2 Hb2 HL Hxx Hi;obtain ⟨tb,rfl,HH⟩:=hrel;obtain ⟨k,nv',ms',hL,hx⟩:=HH.o;obtain ⟨⟨c0,c1,c2,c3,c4⟩,f2,fz⟩:=hL.cells;have Hl:=hid hL;have Hxk:=hid hx;clear hL hx HH;obtain ⟨u,hu⟩:=ex (aq ts k);rw[<-hu]at c0 c1 c2 c3 c4 Hl;have Hu:=hid hu;clear hu;have done:¬(u.kind=2/\u.col=t.col)->cK w0 w rb lv ts nv ms X (.returned (.int .i64 (n0:Int))) wr:=fun hn=>by
    rw[Hxk.o,zZ _ (by rw[<-Hu.o];exact hn)];exact ⟨rfl,nv',ms',Hl.o.rd,rfl,Hl.o.mod,Hl.o.own⟩
   by_cases k2:u.kind=2
   ·have e2:(u.kind==2)=true:=beq_iff_eq.2 k2;by_cases k3:u.col=t.col
    ·have e3:(u.col==t.col)=true:=beq_iff_eq.2 k3;clear done;have hkl:=eO (ts:=ts) (k:=k) (by rw[<-Hu.o,k2];decide);have Hc:=hid (show (aq ts k).kind=2/\(aq ts k).col=t.col from by rw[<-Hu.o];exact ⟨k2,k3⟩);have hblk:=Hl.o.rd.blk;unfold rdA at hblk;have y1:=af hblk 1;have yf:=ai hblk 1;simp at y1;have hlen:ts.length<=1048576:=by obtain ⟨_,_,_,q,_⟩:=Hl.o.rd.tok_at;exact q
     have Hlen:=hid hlen;have hwk:wrap64 ((k:Int)+1)=((k+1:Nat):Int):=(aW (by omega) (by omega)).trans (by omega);have Hmv:=hid (show LpS w0 w (wr.setCell ⟨rb,1,none⟩ (.int .i64 ((k:Int)+1))) rb w.heap.size tb n0 lv ts nv ms t u (k+1) nv' ms' from Hl.o.move (by omega));have Hkl:=hid hkl;have Hkid:=hid Hl.o.kid;have Hcur:=hid Hl.o.rd.curs;clear hblk k2 k3 Hl hkl hlen
     go_wp2_with fail
     refine (fW Hmv.o.rd).mono ?_;rintro r w3 ⟨rfl,h3⟩;obtain ⟨n,hn⟩:=ex (aq ts (k+1));rw[<-hn];have Hn:=hid hn;have hL3:=(Hmv.o.later h3).later ((aAb _ _).alloc (aAa _) (.cells n.a 121));have HL3:=hid hL3;obtain ⟨⟨c0,c1,c2,c3,c4⟩,_,_⟩:=hL3.cells;have hbv:((17-D:Nat):Int)+1=((17-(D-1):Nat):Int):=by
      have h1:=HDp.o;omega
     obtain ⟨V,hV⟩:=ex (iy (bM ts (D-1)) ts (D-1) (mn n u) u (k+1) (nds ms') ⟨#[]⟩);have HV:=hid (fun is (hi:mn n u=is)=>show Calls Tryz.prog 181 #[.pointer (some ⟨rb,0,none⟩),.bool is,.agg u.a,.int .i64 (((17-D:Nat):Int)+1),.string ⟨#[]⟩] (w3.alloc (.cells n.a 121)) (cK w0 (w3.alloc (.cells n.a 121)) rb lv ts nv' ms' V) from by
      rw[hV,hi,hbv];exact xr hL3.rd (D-1) (by have:=HDp.o;omega) is u (by rw[Hu.o];exact hL3.rd.ok k) ⟨#[]⟩ (by decide) (IH.o HDp.o.1))
     have HVe:=hid hV;obtain ⟨wb,hwb⟩:=ex (w3.alloc (.cells n.a 121));have Hwb:=hid hwb;rw[<-hwb]at HV HL3 c0 c1 c2 c3 c4;have d0:=af (show wb.heap[w3.heap.size]? =some (.cells #[.int .i64 n.kind,.int .i64 n.line,.int .i64 n.col,.string ⟨n.text.toArray⟩,.bool n.quoted] 121 (0,0)) by rw[hwb];exact ah (w:=w3) _);have d1:=d0 1;have d2:=d0 2;simp at d1 d2
     clear hn hL3 h3 y1 yf e2 e3 hwk Hmv f2 fz hbv hV d0;unfold Tok.a at HV hwb |-;go_upto_region 7 with (fail)
     rw[<-hwb];clear hwb;go_cut [12] from 20 to 76 (fun s12 w4=>∃kid:Nat,s12= .int .i64 (kid:Int)/\Hid (∃k2 ns2 nv2 ms2,V= .ok (k2,ns2,kid)/\RdS w0 w4 rb lv ts k2 nv2 ms2/\nds ms2=ns2/\Mod (RdF rb nv' ms') wb w4/\(∀g,nOwn nv2 ms2 g->nOwn nv' ms' g\/wb.heap.size<=g)))
     case first=>
      cases b1:(n.line==u.line)<;>cases b2:decide (u.col<n.col)
      all_goals
       go_wp2_with fail
       refine (HV.o _ (by unfold mn;rw[b1,b2];rfl)).mono ?_;intro r w4 hh;clear HV c0 c1 c2 c3 c4 d1 d2;cases V with
       |error e=>
        obtain ⟨rfl,h1,h2⟩:=hh;have hv:=HVe.o;rw[Hn.o,Hu.o]at hv;have hx:X= .error e:=by rw[Hxk.o,z8 Hc.o hv.symm];rfl
        subst hx;exact ⟨rfl,rfl,h1,aAe HL3.o.mod.size h2⟩
       |ok y=>
        obtain ⟨k2,ns2,kid⟩:=y;obtain ⟨hr,nv2,ms2,hR2,hn2,hm2,ho2⟩:=hh;subst hr;have HR:=hid (show ∃k2' ns2' nv2 ms2,(Except.ok (k2,ns2,kid):Except Flt (Nat×List Nd×Nat))= .ok (k2',ns2',kid)/\RdS w0 w4 rb lv ts k2' nv2 ms2/\nds ms2=ns2'/\Mod (RdF rb nv' ms') wb w4/\(∀g,nOwn nv2 ms2 g->nOwn nv' ms' g\/wb.heap.size<=g) from ⟨k2,ns2,nv2,ms2,rfl,hR2,hn2,hm2,ho2⟩);clear hR2 hn2 hm2 ho2;go_wp2
        go_meet
        case rel=>exact ⟨kid,rfl,HR⟩
     case rest=>
      clear c0 c1 c2 c3 c4 d1 d2 HV;obtain ⟨kid,rfl,HR⟩:=hcut;obtain ⟨k2,ns2,nv2,ms2,hVk,hR2,hn2,hm2,ho2⟩:=HR.o;obtain ⟨w4,hw4⟩:=ex (wc);subst hw4;have hv:=HVe.o;rw[Hn.o,Hu.o,hVk]at hv;obtain ⟨hst,hk2,hk2l⟩:=wJ (i:=n0) (jI ts (D-1)) Hc.o hv.symm;have hkeep:=(jM (jH ts (D-1)) hv.symm).1;have Hst:=hid (And.intro hst (And.intro hk2 hk2l));obtain ⟨HS4,g,c,ka,kc,q,m,hnv2,hg,hm,hmk,hq,hql,hxk2,hc5,hgf⟩:=qQ (w4:=w4) HL3.o hR2 hn2 hm2 ho2 hkeep Hkid.o hk2
      subst hnv2;clear hv hst hk2 hk2l hkeep HVe HL3 hR2 hm2 ho2 HR hVk;have hblk:=HS4.o.rd.blk;unfold rdA at hblk;have z2:=af hblk 2;simp at z2;have bi:(n0:Int)<(ms2.length:Int):=by have:=(aAh hm).1;omega
      have Hown:=hid (fun ob=>show ((w4.alloc ob).drew).ownsRow 0 3 1 (.slice ka q kc) q (m.nd.kids.flatMap aP) from by
       have:=(HS4.o.rd.nr.each m (List.mem_of_getElem? hm)).row;rw[hmk,<-hq]at this;exact World.ownsRow.alloc (w:=w4) this ob)
      have Hend:=hid (fun ob ao5 c5 (w5:World) (a1:w5.ownsRow 0 3 1 (.slice ao5 (q+1) c5) (q+1) (m.nd.kids.flatMap aP++[.int .i64 (kid:Int)])) (a2:((w4.alloc ob).drew).grownBy w5 (Value.slice ka q kc).ownBlock)
       (a3:∀g,(Value.slice ao5 (q+1) c5).ownBlock=some g->(Value.slice ka q kc).ownBlock=some g\/((w4.alloc ob).drew).heap.size<=g)=>yd HS4.o.rd hm hg hq hql (((aAb w4.heap.size w4).alloc (aAa _) ob).drew) a1 (by rw[hmk];exact a2) (by rw[hmk];exact a3))
      have Hql:=hid (show q<=2000000 by omega);have Hq:=hid (And.intro hq (And.intro hxk2 (And.intro hm hn2)));have Hg:=hid (And.intro z2 hc5);have Hgf:=hid hgf;clear hblk hm hmk hq hql hxk2 hgf hg hn2 z2 hc5;go_wp2;refine dW (fun w'=>w'.cell? ⟨rb,2,none⟩=some (.slice (some ⟨g,0,none⟩) ms2.length c)/\w'.cell? ⟨g,n0*6+5,none⟩=some (.slice ka q kc)) (fun i=>decide (i<16)) (by kernel_rfl) ?_;have hS:w4.drew.cell? ⟨rb,2,none⟩=some (.slice (some ⟨g,0,none⟩) ms2.length c)/\w4.drew.cell? ⟨g,n0*6+5,none⟩=some (.slice ka q kc):=Hg.o
      refine wL (i:=0) (v:= ?_) rfl ?_ hS ?_;rotate_left
      ·intro w' hSw;obtain ⟨s1,s2⟩:=hSw;go_simp
       try with_reducible rfl
      simp only[Act.put,sA,sZ,sS];refine wL (i:=1) (v:= ?_) rfl ?_ hS ?_;rotate_left
      ·intro w' hSw;obtain ⟨s1,s2⟩:=hSw;go_simp
       try with_reducible rfl
      simp only[Act.put,sA,sZ,sS];refine wL (i:=2) (v:= ?_) rfl ?_ hS ?_;rotate_left
      ·intro w' hSw;obtain ⟨s1,s2⟩:=hSw;go_simp
       try with_reducible rfl
      simp only[Act.put,sA,sZ,sS];refine wL (i:=3) (v:= ?_) rfl ?_ hS ?_;rotate_left
      ·intro w' hSw;obtain ⟨s1,s2⟩:=hSw;go_simp
       try with_reducible rfl
      simp only[Act.put,sA,sZ,sS];refine wL (i:=4) (v:= ?_) rfl ?_ hS ?_;rotate_left
      ·intro w' hSw;obtain ⟨s1,s2⟩:=hSw;go_simp
       try with_reducible rfl
      simp only[Act.put,sA,sZ,sS];refine wL (i:=5) (v:= ?_) rfl ?_ hS ?_;rotate_left
      ·intro w' hSw;obtain ⟨s1,s2⟩:=hSw;go_simp
       try with_reducible rfl
      simp only[Act.put,sA,sZ,sS];refine wL (i:=6) (v:= ?_) rfl ?_ hS ?_;rotate_left
      ·intro w' hSw;obtain ⟨s1,s2⟩:=hSw;go_simp
       try with_reducible rfl
      simp only[Act.put,sA,sZ,sS];refine wL (i:=7) (v:= ?_) rfl ?_ hS ?_;rotate_left
      ·intro w' hSw;obtain ⟨s1,s2⟩:=hSw;go_simp
       try with_reducible rfl
      simp only[Act.put,sA,sZ,sS];refine wL (i:=8) (v:= ?_) rfl ?_ hS ?_;rotate_left
      ·intro w' hSw;obtain ⟨s1,s2⟩:=hSw;go_simp
       try with_reducible rfl
      simp only[Act.put,sA,sZ,sS];refine wL (i:=9) (v:= ?_) rfl ?_ hS ?_;rotate_left
      ·intro w' hSw;obtain ⟨s1,s2⟩:=hSw;go_simp
       try with_reducible rfl
      simp only[Act.put,sA,sZ,sS];refine wL (i:=10) (v:= ?_) rfl ?_ hS ?_;rotate_left
      ·intro w' hSw;obtain ⟨s1,s2⟩:=hSw;go_simp
       try with_reducible rfl
      simp only[Act.put,sA,sZ,sS];refine wL (i:=11) (v:= ?_) rfl ?_ hS ?_;rotate_left
      ·intro w' hSw;obtain ⟨s1,s2⟩:=hSw;go_simp
       try with_reducible rfl
      simp only[Act.put,sA,sZ,sS];refine wL (i:=12) (v:= ?_) rfl ?_ hS ?_;rotate_left
      ·intro w' hSw;obtain ⟨s1,s2⟩:=hSw;go_simp
       try with_reducible rfl
      simp only[Act.put,sA,sZ,sS];refine wL (i:=13) (v:= ?_) rfl ?_ hS ?_;rotate_left
      ·intro w' hSw;obtain ⟨s1,s2⟩:=hSw;go_simp
       try with_reducible rfl
      simp only[Act.put,sA,sZ,sS];refine aK (i:=14) (by kernel_rfl) rfl (fun K hK=> ?_);go_simp;refine hK.out _ _ (fun _=>⟨bR ((aAb w4.drew.heap.size w4.drew).alloc (aAa _) _) hS.1,bR ((aAb w4.drew.heap.size w4.drew).alloc (aAa _) _) hS.2⟩) ?_;clear hK K
      try simp only[Act.put,sA,sZ,sS]
      refine aK (i:=15) (by kernel_rfl) rfl (fun K hK=> ?_);refine jo 3 53 (.int .i64 0) 1 8 Tryz.underlying53 gR rfl (by decide) (by decide) rfl _ _ rfl (.slice ka q kc) q (m.nd.kids.flatMap aP) rfl (Hown.o _) w4.heap.size #[.int .i64 (kid:Int)] [.int .i64 (kid:Int)] rfl (ah (w:=w4) _) rfl rfl rG Hql.o (q+1) rfl ?_;intro ao5 c5 w5 own2 gr2 new2
      have HE:=hid (Hend.o _ _ _ _ own2 gr2 new2);have q1:=gD HE.o.2.2.1 Hg.o.2;have q2:=jB HE.o.2.2.1 (Hgf.o (n0*6+5));have q3:=gD HE.o.2.1 Hg.o.1;refine hK.out _ _ (fun _=>⟨q3,q1⟩) ?_;clear hK K own2 gr2 new2 Hown Hend hS
      try simp only[Act.put,sA,sZ,sS]
      refine aK (i:=16) (by kernel_rfl) rfl (fun K hK=> ?_);go_simp;refine hK.out _ _ (fun h=>absurd h (by decide)) ?_;clear hK K;refine aK (i:=17) (by kernel_rfl) rfl (fun K hK=> ?_);go_simp;refine hK.out _ _ (fun h=>absurd h (by decide)) ?_;clear hK K;refine aK (i:=18) (by kernel_rfl) rfl (fun K hK=> ?_);go_simp;refine hK.out _ _ (fun h=>absurd h (by decide)) ?_;clear hK K
      refine dX (by kernel_rfl) ?_ _;clear q1 q2 q3;have hL5:=HS4.o.call HE.o.2.2.2.1 HE.o.2.2.2.2.1 HE.o.2.2.2.2.2 (qR Hq.o.2.2.1 Hq.o.1 Hq.o.2.1);have Hns:=hid (mr (kid:=kid) Hq.o.2.2.1 (.slice ao5 (q+1) c5));obtain ⟨⟨c0,c1,c2,c3,c4⟩,_,_⟩:=hL5.cells;have HL5:=hid hL5;obtain ⟨w6,hw6⟩:=ex (w5.setCell ⟨g,n0*6+5,none⟩ (.slice ao5 (q+1) c5));rw[<-hw6]at HL5 c0 c1 c2 c3 c4 |-
      clear hL5 hw6 HE Hql Hg Hgf HS4
      go_wp2_with fail
      have hb6:Below w6.heap.size w6 (w6.alloc (.cells u.a 121)):=(aAb _ _).alloc (aAa _) _;refine (fW (HL5.o.later hb6).rd).mono ?_;rintro r w7 ⟨rfl,h7⟩;have f7:=ql h7;unfold Tok.a at f7;have HE:=hid (EA f7 (.int .i64 (aq ts k2).kind) (.int .i64 (aq ts k2).line) (.int .i64 (aq ts k2).col) (.string ⟨(aq ts k2).text.toArray⟩) (.bool (aq ts k2).quoted))
      have Hb7:=hid (hb6.trans (h7.mono hb6.size));obtain ⟨e0,e1,e2,e3,e4⟩:=cB5 f7;have ef:=fun j=>ai f7 j;simp at e0 e1 e2 e3 e4;have HF:=hid (HL5.o.newTok (u2:=aq ts k2) (Hb7.o.trans (HE.o.1.below Hb7.o.size (fun b hb=>by omega))) HE.o.2 (aAa _));have HX2:=hid (show X=nG (dg (bM ts (D-1)) ts (D-1) t.col n0 (ts.length-k2) k2 (nds (ms2.set n0 ⟨{m.nd with kids:=m.nd.kids++[(kid:Int)]},.slice ao5 (q+1) c5⟩))) n0 by rw[Hxk.o,Hst.o.1,Hns.o,Hq.o.2.2.2])
      clear h7 hb6 f7 HL5 HE Hb7 c0 c1 c2 c3 c4;unfold Tok.a;go_wp2;exact ⟨⟨_,rfl,hid ⟨k2,_,_,HF.o,HX2.o⟩⟩,by rw[HF.o.rd.curs,Hcur.o];have:=Hst.o.2;omega⟩
    ·have e3:(u.col==t.col)=false:=beq_eq_false_iff_ne.2 k3;have HD:=hid (done (fun h=>k3 h.2));clear done k3 k2;go_wp2;exact bodyPost_ret (results_tmp (t:=8) rfl _ _ _) rfl HD.o
   ·have e2:(u.kind==2)=false:=beq_eq_false_iff_ne.2 k2;have HD:=hid (done (fun h=>k2 h.1));clear done k2;go_wp2;exact bodyPost_ret (results_tmp (t:=8) rfl _ _ _) rfl HD.o
