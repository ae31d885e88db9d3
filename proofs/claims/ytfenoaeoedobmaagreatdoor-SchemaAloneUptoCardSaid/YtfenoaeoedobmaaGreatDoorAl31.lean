/-
Parts of a proof.
-/
import Derived.Test.YtfenoaeoedobmaaGreatDoorAl30
set_option linter.unusedVariables false
set_option linter.unusedSimpArgs false
set_option maxHeartbeats 4000000
set_option maxRecDepth 20000
namespace Go.Proofs.YtfenoaeoedobmaaGreatDoor
open Go Go.RowKit
theorem aGi {w:World} {ops:Array Oper} {o:Oper} {a:Act} {K:Act->World->Prop} {Q:Exit->Act->World->Prop} {E:Prop} (e sl:TypeId) (z:Value) (size nb:Nat) (hsl: Tryz.prog.underlying sl=some (.slice e))
 (hinf:(Tryz.prog.info? e).map (fun i=>(i.zero,i.size,i.bytes))=some (some z,size,nb)) (hzs:z.cells.size=size) (hsz:0<size) (hnb:nb<=1000) (hgd:o.guard=none) (s x:Operand)
 (ho:o.op= .call {callee:= .builtin .append,args:=#[s,x],argTypes:=#[sl,sl]})
 (v:Value) (n:Nat) (xs:List Value) (hs:a.eval s=v) (hown:w.ownsRow 0 e size v n xs) (g:Nat) (arr:Array Value) (news:List Value) (hx:a.eval x= .slice (some ⟨g,0,none⟩) 1 1)
 (hnew:w.heap[g]? =some (.cells arr e (0,0))) (harr:arr.toList=news) (hl:news.length=size) (h1:∀u∈news,u.oneCell'=true) (hlen:n<=2000000) (q:Nat) (hq:q=n+1)
 (h:∀ao' c' w',w'.ownsRow 0 e size (.slice ao' q c') q (xs++news)->w.grownBy w' v.ownBlock->(∀g,(Value.slice ao' q c').ownBlock=some g->v.ownBlock=some g\/w.heap.size<=g)->
  K (a.put o.dst (.slice ao' q c')) w'):if Region.wanted o (yielded ops a.tmps)=true then Oper.wp Tryz.prog o a w K Q else E:=by
 obtain ⟨i,hi,hz,hsize,hby⟩:=info_parts hinf;subst hq;refine aDv w hgd s x sl ho e i z size nb hsl hi hz hsize hby hzs hsz v n xs hs hown (some ⟨g,0,none⟩) 1 1 news hx (by omega) (fun hn=>by cases hn) (fun ad had=> ?_) h1 (by unfold maxLen;omega) ?_ ?_
 ·obtain rfl:=a3p had;intro j u hj;have e2:Addr.add ⟨g,0,none⟩ j=⟨g,j,none⟩:=by
   simp[Addr.add];exact fun h=>h.symm
  rw[e2,aAa hnew,<-Array.getElem?_toList,harr];exact hj
 ·have h3:(n+1)*nb<=2000001*1000:=Nat.mul_le_mul (by omega) hnb;omega
 ·intro v' w' h1 h2 h3;have hf:∃ao' c',v'= .slice ao' (n+1) c':=by
   rcases h1.2 with ⟨hv,hn⟩|⟨g,cap,cur,hv,_⟩
   ·rw[hv,hn];exact ⟨none,0,rfl⟩
   ·exact ⟨_,_,hv⟩
  obtain ⟨ao',c',rfl⟩:=hf;exact h ao' c' w' h1 h2 h3
theorem aOl {ms:List NdM} {i:Nat} {m':NdM}:nds (ms.set i m')=(nds ms).set i m'.nd:=by unfold nds;rw[List.map_set]
theorem aI4 {ms:List NdM} {i kid:Nat} {m:NdM} (h:ms[i]? =some m) (kv:Value):nds (ms.set i ⟨{m.nd with kids:=m.nd.kids++[(kid:Int)]},kv⟩)=aCo (nds ms) i kid:=by
 rw[aOl];unfold aCo;have:(nds ms)[i]? =some m.nd:=by unfold nds;rw[List.getElem?_map,h];rfl
 rw[this]
theorem aUp {w0 w w1 w5:World} {rb:Nat} {lv:Value} {ts:List Tok} {k i kid q g:Nat} {nv:Value} {ao5:Option Addr} {c5:Nat} {ms:List NdM} {m:NdM} (h:RdS w0 w rb lv ts k nv ms) (hi:ms[i]? =some m) (hg:nv.ownBlock=some g) (hq:q=m.nd.kids.length) (hql:q<1048576)
 (hb1:Below w.heap.size w w1) (own2:w5.ownsRow 0 3 1 (.slice ao5 (q+1) c5) (q+1) (m.nd.kids.flatMap aA4++[.int .i64 (kid:Int)])) (gr2:w1.grownBy w5 m.kv.ownBlock)
 (new2:∀g,(Value.slice ao5 (q+1) c5).ownBlock=some g->m.kv.ownBlock=some g\/w1.heap.size<=g):
 Mod (RdF rb nv ms) w w5/\w5.heap[rb]? =w.heap[rb]? /\w5.heap[g]? =w.heap[g]? /\
 RdS w0 (w5.setCell ⟨g,i*6+5,none⟩ (.slice ao5 (q+1) c5)) rb lv ts k nv (ms.set i ⟨{m.nd with kids:=m.nd.kids++[(kid:Int)]},.slice ao5 (q+1) c5⟩)/\
 Mod (RdF rb nv ms) w (w5.setCell ⟨g,i*6+5,none⟩ (.slice ao5 (q+1) c5))/\
 ∀b,nOwn nv (ms.set i ⟨{m.nd with kids:=m.nd.kids++[(kid:Int)]},.slice ao5 (q+1) c5⟩) b->nOwn nv ms b\/w.heap.size<=b:=by
 subst hq;have h1:=h.later hb1;have hmm:=List.mem_of_getElem? hi;have hP:=h1.nr.each m hmm;have hM:Mod (fun b=>m.kv.ownBlock=some b) w1 w5:=(Mod.refl _ _).grown gr2 (fun b e _=>e);have hrb:w5.heap[rb]? =w1.heap[rb]? :=hM.block rb (aAb h1.blk) (fun e=>(h.nr.kid m hmm rb e).2 rfl);have hgb:w5.heap[g]? =w1.heap[g]? :=hM.block g (h1.nr.row.lt g hg).2 (fun e=>(h.nr.kid m hmm g e).1 hg);have hW:Mod (RdF rb nv ms) w w5:=(Mod.ofBelow (F:=RdF rb nv ms) hb1 (fun b hb hge=>by omega)).trans' hM (fun b hb q=> .inr (.inr ⟨m,hmm,q⟩))
 have hS:Mod (fun b=>b=g) w5 (w5.setCell ⟨g,i*6+5,none⟩ (.slice ao5 (m.nd.kids.length+1) c5)):=(Mod.refl _ _).setCell _ _ (fun _=>rfl);have hW2:Mod (RdF rb nv ms) w (w5.setCell ⟨g,i*6+5,none⟩ (.slice ao5 (m.nd.kids.length+1) c5)):=hW.trans' hS (fun b hb q=> .inr (.inl (by rw[q];exact hg)));have hgr:g≠rb:=(h.nr.new g hg).2;have hP5:NdP w5 w0.heap.size ⟨{m.nd with kids:=m.nd.kids++[(kid:Int)]},.slice ao5 (m.nd.kids.length+1) c5⟩:=by
  refine ⟨?_,fun b hb=> ?_,hP.kind,hP.line,hP.text,hP.key,?_⟩
  ·show w5.ownsRow 0 3 1 (.slice ao5 (m.nd.kids.length+1) c5) (m.nd.kids++[(kid:Int)]).length ((m.nd.kids++[(kid:Int)]).flatMap aA4)
   rw[a3m,List.flatMap_append,List.flatMap_singleton];exact own2
  ·rcases new2 b hb with q|q
   ·exact hP.fresh b q
   ·exact a3o h1.below.size q
  ·show (m.nd.kids++[(kid:Int)]).length<=1048576
   rw[a3m];simp;omega
 have hN:=NRowM.kids (m':=⟨{m.nd with kids:=m.nd.kids++[(kid:Int)]},.slice ao5 (m.nd.kids.length+1) c5⟩) h1.nr h1.below.size (aAb h1.blk) hi hg hM rfl hP5 new2;refine ⟨hW,hrb.trans (hb1.block _ (aAb h.blk)),hgb.trans (hb1.block _ (h.nr.row.lt g hg).2),⟨h.toks,h.wf,h.below.trans (hW2.below h.below.size (fun b hb=>(h.rd_lt hb).1)),h.rge,?_,hN,h.kle⟩,hW2,fun b hb=> ?_⟩
 ·rw[hS.block rb (Nat.lt_of_lt_of_le (aAb h1.blk) hM.size) (fun e=>hgr e.symm),hrb];exact h1.blk
 ·rcases hb with hb|⟨x,hx,hb⟩
  ·exact .inl (.inl hb)
  ·rcases List.mem_or_eq_of_mem_set hx with hx|rfl
   ·exact .inl (.inr ⟨x,hx,hb⟩)
   ·rcases new2 b hb with q|q
    ·exact .inl (.inr ⟨m,hmm,q⟩)
    ·exact .inr (a3o hb1.size q)
def PreN (n:Nat) (ns ns2:List Nd):Prop:=ns.length<=ns2.length/\∀j,j<n->ns2[j]? =ns[j]?
theorem PreN.refl (n:Nat) (ns:List Nd):PreN n ns ns:=⟨a3k _,fun _ _=>rfl⟩
theorem PreN.trans {n:Nat} {a b c:List Nd} (h:PreN n a b) (k:PreN n b c):PreN n a c:=⟨a3o h.1 k.1,fun j hj=>(k.2 j hj).trans (h.2 j hj)⟩
theorem PreN.mono {n m:Nat} {a b:List Nd} (h:PreN n a b) (hm:m<=n):PreN m a b:=⟨h.1,fun j hj=>h.2 j (by omega)⟩
theorem aHb (ns:List Nd) (i kid:Nat):(aCo ns i kid).length=ns.length:=by
 unfold aCo
 split
 ·rw[List.length_set]
 ·rfl
theorem aKj (ns:List Nd) (i kid:Nat):PreN i ns (aCo ns i kid):=by
 refine ⟨by rw[aHb];exact a3k _,fun j hj=> ?_⟩;unfold aCo
 split
 ·rw[List.getElem?_set_ne (by omega)]
 ·rfl
theorem aLi (ns r:List Nd):PreN ns.length ns (ns++r):=⟨by rw[a3m];omega,fun j hj=>List.getElem?_append_left hj⟩
def Keep (blk:Blk):Prop:=∀k ns key k2 ns2 i,blk k ns key= .ok (k2,ns2,i)->PreN ns.length ns ns2/\ns.length<ns2.length/\i=ns.length
theorem aHc {ns:List Nd} {d:Nat} {kind:Int} {key:ByteArray} {t:Tok} {ns1:List Nd} (h:newP ns d kind key t= .ok ns1):ns1=ns++[⟨kind,key,⟨#[]⟩,false,t.line,[]⟩]/\0<d:=by
 unfold newP at h
 split at h
 ·cases h
 ·injection h with h
  exact ⟨h.symm,by omega⟩
theorem aGj {blk:Blk} (hb:Keep blk) {ts:List Tok} {d:Nat} {is:Bool} {t:Tok} {k:Nat} {ns:List Nd} {key:ByteArray} {k2:Nat} {ns2:List Nd} {i:Nat} (h:valP blk ts d is t k ns key= .ok (k2,ns2,i)):PreN ns.length ns ns2/\ns.length<ns2.length/\i=ns.length:=by
 unfold valP at h
 split at h
 ·exact hb _ _ _ _ _ _ h
 ·split at h
  ·cases h
  ·rename_i ns3 hn
   injection h with h
   injection h with h1 h2
   injection h2 with h2 h3
   obtain ⟨e,_⟩:=aHc hn;rw[<-h2,<-h3,e];exact ⟨aLi _ _,by rw[a3m];simp,rfl⟩
theorem aKk {blk:Blk} (hb:Keep blk) {ts:List Tok} {d:Nat} {col:Int} {i:Nat}:∀(f k:Nat) (ns:List Nd) (k2:Nat) (ns2:List Nd),listL blk ts d col i f k ns= .ok (k2,ns2)->i<ns.length->PreN i ns ns2
 |0,k,ns,k2,ns2,h,_=>by
  unfold listL at h;injection h with h
  injection h with h1 h2
  rw[h2];exact PreN.refl _ _
 |f+1,k,ns,k2,ns2,h,hi=>by
  unfold listL at h;simp only at h
  split at h
  ·split at h
   ·cases h
   ·rename_i k3 ns3 kid hv
    have h1:=aGj hb hv;have h2:=aKk hb f _ _ _ _ h (by rw[aHb];omega);exact ((h1.1.mono (by omega)).trans (aKj ns3 i kid)).trans h2
  ·injection h with h
   injection h with h1 h2
   rw[h2];exact PreN.refl _ _
theorem aKl {blk:Blk} (hb:Keep blk) {ts:List Tok} {d:Nat} {col:Int} {i:Nat}:∀(f:Nat) (seen:List (List UInt8)) (k:Nat) (ns:List Nd) (k2:Nat) (ns2:List Nd),dictL blk ts d col i f seen k ns= .ok (k2,ns2)->i<ns.length->PreN i ns ns2
 |0,seen,k,ns,k2,ns2,h,_=>by
  unfold dictL at h;injection h with h
  injection h with h1 h2
  rw[h2];exact PreN.refl _ _
 |f+1,seen,k,ns,k2,ns2,h,hi=>by
  unfold dictL at h;simp only at h
  split at h
  ·split at h
   ·cases h
   ·split at h
    ·cases h
    ·rename_i k3 ns3 kid hv
     have h1:=aGj hb hv;have h2:=aKl hb f _ _ _ _ _ h (by rw[aHb];omega);exact ((h1.1.mono (by omega)).trans (aKj ns3 i kid)).trans h2
  ·injection h with h
   injection h with h1 h2
   rw[h2];exact PreN.refl _ _
def finX (L:Except Flt (Nat×List Nd)) (i:Nat):Except Flt (Nat×List Nd×Nat):=match L with| .error e=> .error e| .ok (k2,ns2)=> .ok (k2,ns2,i)
def dictX (ts:List Tok) (D k:Nat) (ns:List Nd) (key:ByteArray) (t:Tok):Except Flt (Nat×List Nd×Nat):=
 match newP ns D 2 key t with
 | .error e=> .error e
 | .ok ns1=>finX (dictL (aBc ts (D-1)) ts (D-1) t.col ns.length (ts.length-k) [] k ns1) ns.length
def listX (ts:List Tok) (D k:Nat) (ns:List Nd) (key:ByteArray) (t:Tok):Except Flt (Nat×List Nd×Nat):=
 match newP ns D 3 key t with
 | .error e=> .error e
 | .ok ns1=>finX (listL (aBc ts (D-1)) ts (D-1) t.col ns.length (ts.length-k) k ns1) ns.length
def leafX (ts:List Tok) (D k:Nat) (ns:List Nd) (key:ByteArray) (t:Tok):Except Flt (Nat×List Nd×Nat):=
 match newP ns D 1 key t with
 | .error e=> .error e
 | .ok _=> .ok (k+1,ns++[⟨1,key,⟨t.text.toArray⟩,t.quoted,t.line,[]⟩],ns.length)
theorem aP5 (ts:List Tok) (D k:Nat) (ns:List Nd) (key:ByteArray):aBc ts D k ns key=if (nextT ts k).kind=3 then dictX ts D k ns key (nextT ts k) else if (nextT ts k).kind=2 then listX ts D k ns key (nextT ts k) else leafX ts D k ns key (nextT ts k):=by
 cases D with
 |zero=>
  have h0:∀kind,newP ns 0 kind key (nextT ts k)= .error ((nextT ts k).line,92):=fun kind=>by unfold newP;rw[if_pos (Or.inl rfl)]
  unfold aBc dictX listX leafX;rw[h0,h0,h0]
  split
  ·rfl
  ·split<;>rfl
 |succ d=>
  rw[aBc];unfold dictX listX leafX;rw[Nat.add_sub_cancel]
  split
  ·split
   ·rename_i e h;rw[h]
   ·rename_i n h;rw[h];unfold finX;rfl
  ·split
   ·split
    ·rename_i e h;rw[h]
    ·rename_i n h;rw[h];unfold finX;rfl
   ·split
    ·rename_i e h;rw[h]
    ·rename_i n h;rw[h]
theorem aFz (ts:List Tok):∀d,Keep (aBc ts d)
 |0=>fun k ns key k2 ns2 i h=>by unfold aBc at h;cases h
 |d+1=>fun k ns key k2 ns2 i h=>by
  have ih:=aFz ts d;rw[aP5]at h;unfold dictX listX leafX at h;rw[Nat.add_sub_cancel]at h
  split at h
  ·split at h
   ·cases h
   ·rename_i ns1 hn
    obtain ⟨e,_⟩:=aHc hn;unfold finX at h
    split at h
    ·cases h
    ·rename_i k3 ns3 hd
     injection h with h
     injection h with h1 h2
     injection h2 with h2 h3
     subst h2 h3;have hk:=aKl ih _ _ _ _ _ _ hd (by rw[e,a3m];simp);rw[e]at hk;have h4:=(aLi ns _).trans hk;exact ⟨h4,by have:=hk.1;rw[a3m]at this;simp at this;omega,rfl⟩
  ·split at h
   ·split at h
    ·cases h
    ·rename_i ns1 hn
     obtain ⟨e,_⟩:=aHc hn;unfold finX at h
     split at h
     ·cases h
     ·rename_i k3 ns3 hd
      injection h with h
      injection h with h1 h2
      injection h2 with h2 h3
      subst h2 h3;have hk:=aKk ih _ _ _ _ _ hd (by rw[e,a3m];simp);rw[e]at hk;have h4:=(aLi ns _).trans hk;exact ⟨h4,by have:=hk.1;rw[a3m]at this;simp at this;omega,rfl⟩
   ·split at h
    ·cases h
    ·injection h with h
     injection h with h1 h2
     injection h2 with h2 h3
     rw[<-h2,<-h3];exact ⟨aLi _ _,by rw[a3m];simp,rfl⟩
theorem aUq {blk:Blk} {ts:List Tok} {d:Nat} {col:Int} {i k:Nat} {ns:List Nd} (f:Nat) (h:¬((nextT ts k).kind=2/\(nextT ts k).col=col)):listL blk ts d col i f k ns= .ok (k,ns):=by
 cases f with
 |zero=>rfl
 |succ f=>
  unfold listL;simp only;rw[if_neg h]
theorem aUr {blk:Blk} {ts:List Tok} {d:Nat} {col:Int} {i k:Nat} {ns:List Nd} {e:Flt} (h:(nextT ts k).kind=2/\(nextT ts k).col=col) (hv:valP blk ts d (aKd (nextT ts (k+1)) (nextT ts k)) (nextT ts k) (k+1) ns ⟨#[]⟩= .error e):
 listL blk ts d col i (ts.length-k) k ns= .error e:=by
 have hk:=aC8 (ts:=ts) (k:=k) (by rw[h.1];decide);rw[show ts.length-k=(ts.length-k-1)+1 by omega];unfold listL;simp only;rw[if_pos h,hv]
theorem aRp {blk:Blk} {ts:List Tok} (hb:Goes ts blk) {d:Nat} {col:Int} {i k k2 kid:Nat} {ns ns2:List Nd} (h:(nextT ts k).kind=2/\(nextT ts k).col=col) (hv:valP blk ts d (aKd (nextT ts (k+1)) (nextT ts k)) (nextT ts k) (k+1) ns ⟨#[]⟩= .ok (k2,ns2,kid)):
 listL blk ts d col i (ts.length-k) k ns=listL blk ts d col i (ts.length-k2) k2 (aCo ns2 i kid)/\k<k2/\k2<=ts.length:=by
 have hk:=aC8 (ts:=ts) (k:=k) (by rw[h.1];decide);have hg:=aD5 hb hv (by omega);refine ⟨?_,by omega,hg.2⟩;rw[show ts.length-k=(ts.length-k-1)+1 by omega]
 conv=>lhs;unfold listL
 simp only;rw[if_pos h,hv];exact aKh hb _ _ _ _ (by omega) (by omega) hg.2
theorem aUs {blk:Blk} {ts:List Tok} {d:Nat} {col:Int} {i k:Nat} {seen:List (List UInt8)} {ns:List Nd} (f:Nat) (h:¬((nextT ts k).kind=3/\(nextT ts k).col=col)):dictL blk ts d col i f seen k ns= .ok (k,ns):=by
 cases f with
 |zero=>rfl
 |succ f=>
  unfold dictL;simp only;rw[if_neg h]
theorem aUt {blk:Blk} {ts:List Tok} {d:Nat} {col:Int} {i k:Nat} {seen:List (List UInt8)} {ns:List Nd} (h:(nextT ts k).kind=3/\(nextT ts k).col=col) (hs:(nextT ts k).text∈seen):
 dictL blk ts d col i (ts.length-k) seen k ns= .error ((nextT ts k).line,91):=by
 have hk:=aC8 (ts:=ts) (k:=k) (by rw[h.1];decide);rw[show ts.length-k=(ts.length-k-1)+1 by omega];unfold dictL;simp only;rw[if_pos h,if_pos hs]
theorem aUu {blk:Blk} {ts:List Tok} {d:Nat} {col:Int} {i k:Nat} {seen:List (List UInt8)} {ns:List Nd} {e:Flt} (h:(nextT ts k).kind=3/\(nextT ts k).col=col) (hs:¬(nextT ts k).text∈seen) (hv:valP blk ts d (aCu (nextT ts (k+1)) (nextT ts k)) (nextT ts k) (k+1) ns ⟨(nextT ts k).text.toArray⟩= .error e):
 dictL blk ts d col i (ts.length-k) seen k ns= .error e:=by
 have hk:=aC8 (ts:=ts) (k:=k) (by rw[h.1];decide);rw[show ts.length-k=(ts.length-k-1)+1 by omega];unfold dictL;simp only;rw[if_pos h,if_neg hs,hv]
theorem aRq {blk:Blk} {ts:List Tok} (hb:Goes ts blk) {d:Nat} {col:Int} {i k k2 kid:Nat} {seen:List (List UInt8)} {ns ns2:List Nd} (h:(nextT ts k).kind=3/\(nextT ts k).col=col) (hs:¬(nextT ts k).text∈seen) (hv:valP blk ts d (aCu (nextT ts (k+1)) (nextT ts k)) (nextT ts k) (k+1) ns ⟨(nextT ts k).text.toArray⟩= .ok (k2,ns2,kid)):
 dictL blk ts d col i (ts.length-k) seen k ns=dictL blk ts d col i (ts.length-k2) ((nextT ts k).text::seen) k2 (aCo ns2 i kid)/\k<k2/\k2<=ts.length:=by
 have hk:=aC8 (ts:=ts) (k:=k) (by rw[h.1];decide);have hg:=aD5 hb hv (by omega);refine ⟨?_,by omega,hg.2⟩;rw[show ts.length-k=(ts.length-k-1)+1 by omega]
 conv=>lhs;unfold dictL
 simp only;rw[if_pos h,if_neg hs,hv];exact aKg hb _ _ _ _ _ (by omega) (by omega) hg.2
structure LpS (w0 w wr:World) (rb fb tb i:Nat) (lv:Value) (ts:List Tok) (nv:Value) (ms:List NdM) (t u:Tok) (k:Nat) (nv':Value) (ms':List NdM):Prop where
 rd:RdS w0 wr rb lv ts k nv' ms'
 mod:Mod (RdF rb nv ms) w wr
 own:∀g,nOwn nv' ms' g->nOwn nv ms g\/w.heap.size<=g
 first:wr.heap[fb]? =some (.cells t.a 121 (0,0))
 tok:wr.heap[tb]? =some (.cells u.a 121 (0,0))
 nf:¬RdF rb nv' ms' fb
 nt:¬RdF rb nv' ms' tb
 ffw:w.heap.size<=fb
 tfw:w.heap.size<=tb
 kid:∃x,(nds ms')[i]? =some x/\x.kids.length<=k
section
variable {w0 w wr w2:World} {rb fb tb i k:Nat} {lv nv nv':Value} {ts:List Tok} {ms ms':List NdM} {t u:Tok}
theorem LpS.later (h:LpS w0 w wr rb fb tb i lv ts nv ms t u k nv' ms') (hb:Below wr.heap.size wr w2):LpS w0 w w2 rb fb tb i lv ts nv ms t u k nv' ms':=
 ⟨h.rd.later hb,h.mod.trans' (aCe hb) (fun _ _ q=>q.elim),h.own,(hb.block _ (aAb h.first)).trans h.first,(hb.block _ (aAb h.tok)).trans h.tok,h.nf,h.nt,h.ffw,h.tfw,h.kid⟩
theorem LpS.call {k2:Nat} {nv2:Value} {ms2:List NdM} (h:LpS w0 w wr rb fb tb i lv ts nv ms t u k nv' ms') (hR:RdS w0 w2 rb lv ts k2 nv2 ms2) (hm:Mod (RdF rb nv' ms') wr w2) (ho:∀g,nOwn nv2 ms2 g->nOwn nv' ms' g\/wr.heap.size<=g) (hk:∃x,(nds ms2)[i]? =some x/\x.kids.length<=k2):
 LpS w0 w w2 rb fb tb i lv ts nv ms t u k2 nv2 ms2:=by
 have hno:∀b,b<wr.heap.size->¬RdF rb nv' ms' b->¬RdF rb nv2 ms2 b:=fun b hb hn q=>by
  rcases q with q|q
  ·exact hn (.inl q)
  ·rcases ho b q with q|q
   ·exact hn (.inr q)
   ·omega
 refine ⟨hR,aI2 (w0:=w0) h.mod h.own hm,aM6 h.mod.size h.own ho,hm.heap h.first h.nf,hm.heap h.tok h.nt,hno _ (aAb h.first) h.nf,hno _ (aAb h.tok) h.nt,h.ffw,h.tfw,hk⟩
theorem LpS.move (h:LpS w0 w wr rb fb tb i lv ts nv ms t u k nv' ms') (hk:k+1<=ts.length):LpS w0 w (wr.setCell ⟨rb,1,none⟩ (.int .i64 ((k+1:Nat):Int))) rb fb tb i lv ts nv ms t u (k+1) nv' ms':=by
 have hM:Mod (fun b=>b=rb) wr (wr.setCell ⟨rb,1,none⟩ (.int .i64 ((k+1:Nat):Int))):=(Mod.refl _ _).setCell _ _ (fun _=>rfl);obtain ⟨x,hx,hl⟩:=h.kid;exact ⟨h.rd.move hk,h.mod.trans' hM (fun _ _ q=> .inl q),h.own,hM.heap h.first (fun e=>h.nf (.inl e)),hM.heap h.tok (fun e=>h.nt (.inl e)),h.nf,h.nt,h.ffw,h.tfw,x,hx,by omega⟩
theorem LpS.newTok (h:LpS w0 w wr rb fb tb i lv ts nv ms t u k nv' ms') {tb2:Nat} {u2:Tok} (hb:Below wr.heap.size wr w2) (ht:w2.heap[tb2]? =some (.cells u2.a 121 (0,0))) (hge:wr.heap.size<=tb2):LpS w0 w w2 rb fb tb2 i lv ts nv ms t u2 k nv' ms':=by
 have h2:=h.later hb;refine ⟨h2.rd,h2.mod,h2.own,h2.first,ht,h2.nf,fun q=> ?_,h.ffw,a3o h.mod.size hge,h.kid⟩;have:=h.rd.rd_lt q;omega
theorem LpS.cells (h:LpS w0 w wr rb fb tb i lv ts nv ms t u k nv' ms'):
 (wr.cell? ⟨tb,0,none⟩=some (.int .i64 u.kind)/\wr.cell? ⟨tb,1,none⟩=some (.int .i64 u.line)/\wr.cell? ⟨tb,2,none⟩=some (.int .i64 u.col)/\wr.cell? ⟨tb,3,none⟩=some (.string ⟨u.text.toArray⟩)/\wr.cell? ⟨tb,4,none⟩=some (.bool u.quoted))/\wr.cell? ⟨fb,2,none⟩=some (.int .i64 t.col)/\(∀j,wr.frozen? ⟨tb,j,none⟩=false):=by
 have h1:=h.tok;have h2:=h.first;unfold Tok.a at h1 h2;exact ⟨⟨aAa h1 0,aAa h1 1,aAa h1 2,aAa h1 3,aAa h1 4⟩,aAa h2 2,fun j=>aAd h1 j⟩
end
theorem aM7 {w w':World} {T:TypeId} {t:Tok} (h:Below (w.alloc (.cells t.a T)).heap.size (w.alloc (.cells t.a T)) w'):w'.heap[w.heap.size]? =some (.cells t.a T (0,0)):=
 (h.block _ (by simp)).trans (aAc (w:=w) _)
def curs (rb:Nat) (w:World):Nat:=(intOf ((w.cell? ⟨rb,1,none⟩).getD undef)).toNat
theorem RdS.curs {w0 w:World} {rb:Nat} {lv:Value} {ts:List Tok} {k:Nat} {nv:Value} {ms:List NdM} (h:RdS w0 w rb lv ts k nv ms):curs rb w=k:=by
 unfold Proofs.YtfenoaeoedobmaaGreatDoor.curs;have h1:=h.blk;unfold rdA at h1;have h2:=aAa h1 1;rw[h2];simp[intOf]
theorem aP6 {w0 w w1:World} {rb k:Nat} {lv nv nv1:Value} {ts:List Tok} {ms ms1:List NdM} {t:Tok} {x:Nd} (h:RdS w0 w rb lv ts k nv ms) (hR1:RdS w0 w1 rb lv ts k nv1 ms1) (hm1:Mod (RdF rb nv ms) (w.alloc (.cells t.a 121)) w1)
 (ho1:∀g,nOwn nv1 ms1 g->nOwn nv ms g\/(w.alloc (.cells t.a 121)).heap.size<=g) (hn1:nds ms1=nds ms++[x]) (hx:x.kids=[]):LpS w0 w w1 rb w.heap.size w.heap.size ms.length lv ts nv ms t t k nv1 ms1:=by
 have hs:(w.alloc (.cells t.a 121)).heap.size=w.heap.size+1:=by simp
 have hb:Below w.heap.size w (w.alloc (.cells t.a 121)):=(a3l _ _).alloc (a3k _) _;have hf:¬RdF rb nv ms w.heap.size:=fun q=>by have:=h.rd_lt q;omega
 have hf1:¬RdF rb nv1 ms1 w.heap.size:=fun q=>by
  rcases q with q|q
  ·exact hf (.inl q)
  ·rcases ho1 _ q with q|q
   ·exact hf (.inr q)
   ·omega
 have hblk:w1.heap[w.heap.size]? =some (.cells t.a 121 (0,0)):=hm1.heap (aAc (w:=w) _) hf;refine ⟨hR1,(Mod.ofBelow (F:=RdF rb nv ms) hb (fun k hk hge=>by omega)).trans hm1,fun g hg=> ?_,hblk,hblk,hf1,hf1,a3k _,a3k _,x,?_,by rw[hx];exact Nat.zero_le _⟩
 ·rcases ho1 g hg with q|q
  ·exact .inl q
  ·exact .inr (by omega)
 ·rw[hn1,List.getElem?_append_right (by rw[aA5];exact a3k _),aA5,Nat.sub_self];rfl
theorem aD6 {w w':World} {g j:Nat} {v:Value} (h:w'.heap[g]? =w.heap[g]?) (hc:w.cell? ⟨g,j,none⟩=some v):w'.cell? ⟨g,j,none⟩=some v:=(World.cell?_of_block (w:=w) h).trans hc
theorem aF0 {w w':World} {g j:Nat} (h:w'.heap[g]? =w.heap[g]?) (hc:w.frozen? ⟨g,j,none⟩=false):w'.frozen? ⟨g,j,none⟩=false:=(World.frozen?_of_block (w:=w) h).trans hc
theorem aM8 {ms:List NdM} {i q k kid:Nat} {m:NdM} {kv:Value} (hm:ms[i]? =some m) (hq:q=m.nd.kids.length) (hk:q+1<=k):∃x,(nds (ms.set i ⟨{m.nd with kids:=m.nd.kids++[(kid:Int)]},kv⟩))[i]? =some x/\x.kids.length<=k:=by
 refine ⟨{m.nd with kids:=m.nd.kids++[(kid:Int)]},?_,by simp only[a3m,List.length_singleton];omega⟩;rw[aOl,List.getElem?_set_self (by rw[aA5];exact (a3r hm).1)]
theorem aOm {k:Int}:∀u∈[Value.int .i64 k],u.oneCell'=true:=fun u hu=>by
 rw[List.mem_singleton]at hu;rw[hu];rfl
theorem aM9 {w0 w wb w4:World} {rb fb tb i k k2:Nat} {lv nv nv' nv2:Value} {ts:List Tok} {ms ms' ms2:List NdM} {ns2:List Nd} {t u:Tok} (h:LpS w0 w wb rb fb tb i lv ts nv ms t u (k+1) nv' ms') (hR:RdS w0 w4 rb lv ts k2 nv2 ms2) (hn:nds ms2=ns2) (hm:Mod (RdF rb nv' ms') wb w4) (ho:∀g,nOwn nv2 ms2 g->nOwn nv' ms' g\/wb.heap.size<=g)
 (hkeep:PreN (nds ms').length (nds ms') ns2) (hkid:∃x,(nds ms')[i]? =some x/\x.kids.length<=k) (hk:k<k2):
 Hid (LpS w0 w w4 rb fb tb i lv ts nv ms t u k2 nv2 ms2)/\∃(g c:Nat) (ka:Option Addr) (kc q:Nat) (m:NdM),nv2= .slice (some ⟨g,0,none⟩) ms2.length c/\nv2.ownBlock=some g/\ms2[i]? =some m/\m.kv= .slice ka q kc/\q=m.nd.kids.length/\q<1048576/\q+1<=k2/\w4.cell? ⟨g,i*6+5,none⟩=some (.slice ka q kc)/\(∀j,w4.frozen? ⟨g,j,none⟩=false):=by
 obtain ⟨x,hx,hxl⟩:=hkid;have hi:i<(nds ms').length:=(a3r hx).1;have hx2:(nds ms2)[i]? =some x:=by rw[hn,hkeep.2 i hi,hx]
 obtain ⟨m,hmi,hmx⟩:∃m,ms2[i]? =some m/\m.nd=x:=by
  unfold nds at hx2;rw[List.getElem?_map]at hx2;cases hmi:ms2[i]? with
  |none=>rw[hmi]at hx2;cases hx2
  |some m=>rw[hmi]at hx2;exact ⟨m,rfl,a3p hx2⟩
 obtain ⟨g,c,hnv,hg,hat,hgf⟩:=hR.nr.at hmi;obtain ⟨ka,kc,hkv⟩:=aB4 (hR.nr.each m (List.mem_of_getElem? hmi)).row;have hlen:ts.length<=1048576:=by obtain ⟨_,_,_,q,_⟩:=hR.tok_at;exact q
 have hkl:=hR.kle;refine ⟨hid (h.call hR hm ho ⟨x,hx2,by omega⟩),g,c,ka,kc,_,m,hnv,hg,hmi,hkv,rfl,by rw[hmx];omega,by rw[hmx];omega,?_,hgf⟩;have h5:=hat.c5;rw[hkv]at h5;exact h5
theorem a19 {w0 w:World} {rb:Nat} {lv:Value} {ts:List Tok} {k:Nat} {nv:Value} {ms:List NdM} (h:RdS w0 w rb lv ts k nv ms) (D:Nat) (hD:D<=17) (t:Tok) (ht:t=nextT ts k) (hk2:t.kind=2) (key:ByteArray) (hkey:key.size<=1048576) (IH:1<=D->aKi w0 rb lv ts (D-1)):
 Calls Tryz.prog 147 #[.pointer (some ⟨rb,0,none⟩),.agg t.a,.int .i64 ((17-D:Nat):Int),.string key] w (aBu w0 w rb lv ts nv ms (listX ts D k (nds ms) key t)):=by
 have hb1:∀ob,Below w.heap.size w (w.alloc ob):=fun ob=>(a3l _ _).alloc (a3k _) ob;have hok:TokOk t:=by rw[ht];exact h.ok k
 have Hbeg:=hid (fun ob=>aI3 (h.later (hb1 ob)) D hD 3 (by decide) key hkey t hok);have H:=hid h;have Hb:=hid hb1;have Hx:=hid (And.intro ht (And.intro hk2 (And.intro hD hok)));have IH:=hid IH;obtain ⟨X,hX⟩:∃X,X=listX ts D k (nds ms) key t:=⟨_,rfl⟩;rw[<-hX];have HX:=hid hX;obtain ⟨B,hB⟩:∃B,B=begX k (nds ms) D 3 key t:=⟨_,rfl⟩;rw[<-hB]at Hbeg;have HB:=hid hB;have Ha:=hid (show t.a=#[.int .i64 t.kind,.int .i64 t.line,.int .i64 t.col,.string ⟨t.text.toArray⟩,.bool t.quoted] from rfl)
 rw[Ha.out]at Hbeg |-;clear h hb1 hok hX hB ht hk2 hD hkey;go_enter Tryz.func147,Tryz.ntmps147
 go_wp2_with fail
 refine (Hbeg.out _).mono ?_;intro r w1 hh;cases B with
 |error e=>
  obtain ⟨rfl,h1,h2⟩:=hh;have hx:X= .error e:=by
   rw[HX.out];have:=HB.out;unfold begX at this;unfold listX
   split at this
   ·rename_i e2 h2
    try rw[h2]
    injection this with this
    rw[this]
   ·cases this
  rw[hx];exact ⟨rfl,rfl,h1,a3o (Hb.out _).size h2⟩
 |ok y=>
  obtain ⟨k1,ns1,i⟩:=y;obtain ⟨hr,nv1,ms1,hR1,hn1,hm1,ho1⟩:=hh;subst hr;have hfb:¬RdF rb nv ms w.heap.size:=fun q=>by have:=H.out.rd_lt q;omega
  obtain ⟨rfl,hns,rfl,hxx,hDp⟩:k1=k/\ns1=nds ms++[⟨3,key,⟨#[]⟩,false,t.line,[]⟩]/\i=ms.length/\X=finX (listL (aBc ts (D-1)) ts (D-1) t.col ms.length (ts.length-k) k ns1) ms.length/\0<D:=by
   have h1:=HB.out;have h2:=HX.out;unfold begX at h1;unfold listX at h2;cases hN:newP (nds ms) D 3 key t with
   |error e=>rw[hN]at h1;cases h1
   |ok n1=>
    rw[hN]at h1 h2;injection h1 with h1
    injection h1 with h1 h3
    injection h3 with h3 h4
    rw[aA5]at h4 h2;obtain ⟨e,hDp⟩:=aHc hN;exact ⟨h1,by rw[h3,e],h4,by rw[h2,h3],hDp⟩
  have hL1:=aP6 H.out hR1 hm1 ho1 (hn1.trans hns) rfl;have Hxx:=hid hxx;have HDp:=hid (And.intro hDp Hx.out.2.2.1);clear hDp;have HL:=hid (And.intro hL1 hn1);have Hi:=hid (show ms.length<ms1.length by have:=congrArg List.length (hn1.trans hns);rw[aA5,a3m,aA5]at this;simp at this;omega);clear hR1 hm1 ho1 hn1 hns hxx hL1 HB HX Hbeg hfb;obtain ⟨n0,hn0⟩:∃n0,n0=ms.length:=⟨_,rfl⟩
  rw[<-hn0];have Hn0:=hid hn0;clear hn0
  go_wp2_with fail
  refine (aEv HL.out.1.rd).mono ?_;rintro r w2 ⟨rfl,h2⟩;have Hb2:=hid h2;clear h2;have HL2:=hid (show LpS w0 w (w2.alloc (.cells (nextT ts k1).a 121)) rb w.heap.size w2.heap.size n0 lv ts nv ms t (nextT ts k1) k1 nv1 ms1 from by
   rw[Hn0.out];exact HL.out.1.newTok (Hb2.out.trans ((a3l _ _).alloc (a3k _) _ |>.mono Hb2.out.size)) (aAc (w:=w2) _) Hb2.out.size)
  unfold Tok.a at HL2 |-;go_wp2
  go_loopw [10,11,12] (fun v10 v11 v12 wr=>∃tb:Nat,v10= .pointer (some ⟨tb,0,none⟩)/\Hid (∃k nv' ms',LpS w0 w wr rb w.heap.size tb n0 lv ts nv ms t (nextT ts k) k nv' ms'/\X=finX (listL (aBc ts (D-1)) ts (D-1) t.col n0 (ts.length-k) k (nds ms')) n0)) (fun _ _ _ wr=>ts.length-curs rb wr)
  case atStart=>
   exact ⟨_,rfl,hid ⟨k1,nv1,ms1,HL2.out,by rw[Hxx.out,HL.out.2,Hn0.out]⟩⟩
  case round=>
   clear HL2 Hb2 HL Hxx Hi;obtain ⟨tb,rfl,HH⟩:=hrel;obtain ⟨k,nv',ms',hL,hx⟩:=HH.out;obtain ⟨⟨c0,c1,c2,c3,c4⟩,f2,fz⟩:=hL.cells;have Hl:=hid hL;have Hxk:=hid hx;clear hL hx HH;obtain ⟨u,hu⟩:∃u,u=nextT ts k:=⟨_,rfl⟩;rw[<-hu]at c0 c1 c2 c3 c4 Hl;have Hu:=hid hu;clear hu;have done:¬(u.kind=2/\u.col=t.col)->aBu w0 w rb lv ts nv ms X (.returned (.int .i64 (n0:Int))) wr:=fun hn=>by
    rw[Hxk.out,aUq _ (by rw[<-Hu.out];exact hn)];exact ⟨rfl,nv',ms',Hl.out.rd,rfl,Hl.out.mod,Hl.out.own⟩
   by_cases k2:u.kind=2
   ·have e2:(u.kind==2)=true:=beq_iff_eq.2 k2;by_cases k3:u.col=t.col
    ·have e3:(u.col==t.col)=true:=beq_iff_eq.2 k3;clear done;have hkl:=aC8 (ts:=ts) (k:=k) (by rw[<-Hu.out,k2];decide);have Hc:=hid (show (nextT ts k).kind=2/\(nextT ts k).col=t.col from by rw[<-Hu.out];exact ⟨k2,k3⟩);have hblk:=Hl.out.rd.blk;unfold rdA at hblk;have y1:=aAa hblk 1;have yf:=aAd hblk 1;simp at y1;have hlen:ts.length<=1048576:=by obtain ⟨_,_,_,q,_⟩:=Hl.out.rd.tok_at;exact q
     have Hlen:=hid hlen;have hwk:wrap64 ((k:Int)+1)=((k+1:Nat):Int):=(aAv (by omega) (by omega)).trans (by omega);have Hmv:=hid (show LpS w0 w (wr.setCell ⟨rb,1,none⟩ (.int .i64 ((k:Int)+1))) rb w.heap.size tb n0 lv ts nv ms t u (k+1) nv' ms' from Hl.out.move (by omega));have Hkl:=hid hkl;have Hkid:=hid Hl.out.kid;have Hcur:=hid Hl.out.rd.curs;clear hblk k2 k3 Hl hkl hlen
     go_wp2_with fail
     refine (aEv Hmv.out.rd).mono ?_;rintro r w3 ⟨rfl,h3⟩;obtain ⟨n,hn⟩:∃n,n=nextT ts (k+1):=⟨_,rfl⟩;rw[<-hn];have Hn:=hid hn;have hL3:=(Hmv.out.later h3).later ((a3l _ _).alloc (a3k _) (.cells n.a 121));have HL3:=hid hL3;obtain ⟨⟨c0,c1,c2,c3,c4⟩,_,_⟩:=hL3.cells;have hbv:((17-D:Nat):Int)+1=((17-(D-1):Nat):Int):=by
      have h1:=HDp.out;omega
     obtain ⟨V,hV⟩:∃V,V=valP (aBc ts (D-1)) ts (D-1) (aKd n u) u (k+1) (nds ms') ⟨#[]⟩:=⟨_,rfl⟩;have HV:=hid (fun is (hi:aKd n u=is)=>show Calls Tryz.prog 181 #[.pointer (some ⟨rb,0,none⟩),.bool is,.agg u.a,.int .i64 (((17-D:Nat):Int)+1),.string ⟨#[]⟩] (w3.alloc (.cells n.a 121)) (aBu w0 (w3.alloc (.cells n.a 121)) rb lv ts nv' ms' V) from by
      rw[hV,hi,hbv];exact aUo hL3.rd (D-1) (by have:=HDp.out;omega) is u (by rw[Hu.out];exact hL3.rd.ok k) ⟨#[]⟩ (by decide) (IH.out HDp.out.1))
     have HVe:=hid hV;obtain ⟨wb,hwb⟩:∃wb,wb=w3.alloc (.cells n.a 121):=⟨_,rfl⟩;have Hwb:=hid hwb;rw[<-hwb]at HV HL3 c0 c1 c2 c3 c4;have d0:=aAa (show wb.heap[w3.heap.size]? =some (.cells #[.int .i64 n.kind,.int .i64 n.line,.int .i64 n.col,.string ⟨n.text.toArray⟩,.bool n.quoted] 121 (0,0)) by rw[hwb];exact aAc (w:=w3) _);have d1:=d0 1;have d2:=d0 2
     simp at d1 d2;clear hn hL3 h3 y1 yf e2 e3 hwk Hmv f2 fz hbv hV d0;unfold Tok.a at HV hwb |-;go_upto_region 7 with (fail)
     rw[<-hwb];clear hwb;go_cut [12] from 20 to 76 (fun s12 w4=>∃kid:Nat,s12= .int .i64 (kid:Int)/\Hid (∃k2 ns2 nv2 ms2,V= .ok (k2,ns2,kid)/\RdS w0 w4 rb lv ts k2 nv2 ms2/\nds ms2=ns2/\Mod (RdF rb nv' ms') wb w4/\(∀g,nOwn nv2 ms2 g->nOwn nv' ms' g\/wb.heap.size<=g)))
     case first=>
      cases b1:(n.line==u.line)<;>cases b2:decide (u.col<n.col)
      all_goals
       go_wp2_with fail
       refine (HV.out _ (by unfold aKd;rw[b1,b2];rfl)).mono ?_;intro r w4 hh;clear HV c0 c1 c2 c3 c4 d1 d2;cases V with
       |error e=>
        obtain ⟨rfl,h1,h2⟩:=hh;have hv:=HVe.out;rw[Hn.out,Hu.out]at hv;have hx:X= .error e:=by rw[Hxk.out,aUr Hc.out hv.symm];rfl
        subst hx;exact ⟨rfl,rfl,h1,a3o HL3.out.mod.size h2⟩
       |ok y=>
        obtain ⟨k2,ns2,kid⟩:=y;obtain ⟨hr,nv2,ms2,hR2,hn2,hm2,ho2⟩:=hh;subst hr;have HR:=hid (show ∃k2' ns2' nv2 ms2,(Except.ok (k2,ns2,kid):Except Flt (Nat×List Nd×Nat))= .ok (k2',ns2',kid)/\RdS w0 w4 rb lv ts k2' nv2 ms2/\nds ms2=ns2'/\Mod (RdF rb nv' ms') wb w4/\(∀g,nOwn nv2 ms2 g->nOwn nv' ms' g\/wb.heap.size<=g) from ⟨k2,ns2,nv2,ms2,rfl,hR2,hn2,hm2,ho2⟩);clear hR2 hn2 hm2 ho2;go_wp2
        go_meet
        case rel=>exact ⟨kid,rfl,HR⟩
     case rest=>
      clear c0 c1 c2 c3 c4 d1 d2 HV;obtain ⟨kid,rfl,HR⟩:=hcut;obtain ⟨k2,ns2,nv2,ms2,hVk,hR2,hn2,hm2,ho2⟩:=HR.out;obtain ⟨w4,hw4⟩:∃w4,w4=wc:=⟨_,rfl⟩;subst hw4;have hv:=HVe.out;rw[Hn.out,Hu.out,hVk]at hv;obtain ⟨hst,hk2,hk2l⟩:=aRp (i:=n0) (aFy ts (D-1)) Hc.out hv.symm;have hkeep:=(aGj (aFz ts (D-1)) hv.symm).1;have Hst:=hid (And.intro hst (And.intro hk2 hk2l));obtain ⟨HS4,g,c,ka,kc,q,m,hnv2,hg,hm,hmk,hq,hql,hxk2,hc5,hgf⟩:=aM9 (w4:=w4) HL3.out hR2 hn2 hm2 ho2 hkeep Hkid.out hk2
      subst hnv2;clear hv hst hk2 hk2l hkeep HVe HL3 hR2 hm2 ho2 HR hVk;have hblk:=HS4.out.rd.blk;unfold rdA at hblk;have z2:=aAa hblk 2;simp at z2;have bi:(n0:Int)<(ms2.length:Int):=by have:=(a3r hm).1;omega
      have Hown:=hid (fun ob=>show ((w4.alloc ob).drew).ownsRow 0 3 1 (.slice ka q kc) q (m.nd.kids.flatMap aA4) from by
       have:=(HS4.out.rd.nr.each m (List.mem_of_getElem? hm)).row;rw[hmk,<-hq]at this;exact World.ownsRow.alloc (w:=w4) this ob)
      have Hend:=hid (fun ob ao5 c5 (w5:World) (a1:w5.ownsRow 0 3 1 (.slice ao5 (q+1) c5) (q+1) (m.nd.kids.flatMap aA4++[.int .i64 (kid:Int)])) (a2:((w4.alloc ob).drew).grownBy w5 (Value.slice ka q kc).ownBlock)
       (a3:∀g,(Value.slice ao5 (q+1) c5).ownBlock=some g->(Value.slice ka q kc).ownBlock=some g\/((w4.alloc ob).drew).heap.size<=g)=>aUp HS4.out.rd hm hg hq hql (((a3l w4.heap.size w4).alloc (a3k _) ob).drew) a1 (by rw[hmk];exact a2) (by rw[hmk];exact a3))
      have Hql:=hid (show q<=2000000 by omega);have Hq:=hid (And.intro hq (And.intro hxk2 (And.intro hm hn2)));have Hg:=hid (And.intro z2 hc5);have Hgf:=hid hgf;clear hblk hm hmk hq hql hxk2 hgf hg hn2 z2 hc5;go_wp2;refine aCl (fun w'=>w'.cell? ⟨rb,2,none⟩=some (.slice (some ⟨g,0,none⟩) ms2.length c)/\w'.cell? ⟨g,n0*6+5,none⟩=some (.slice ka q kc)) (fun i=>decide (i<16)) (by kernel_rfl) ?_;have hS:w4.drew.cell? ⟨rb,2,none⟩=some (.slice (some ⟨g,0,none⟩) ms2.length c)/\w4.drew.cell? ⟨g,n0*6+5,none⟩=some (.slice ka q kc):=Hg.out
      refine wK (i:=0) (v:= ?_) rfl (by kernel_rfl) (fun _ _ _ h=>h) (by rfl) ?_ hS ?_;rotate_left
      ·intro w' hSw;obtain ⟨s1,s2⟩:=hSw;go_simp
       try with_reducible rfl
      simp only[Act.put,sA,sZ,sS];refine wK (i:=1) (v:= ?_) rfl (by kernel_rfl) (fun _ _ _ h=>h) (by rfl) ?_ hS ?_;rotate_left
      ·intro w' hSw;obtain ⟨s1,s2⟩:=hSw;go_simp
       try with_reducible rfl
      simp only[Act.put,sA,sZ,sS];refine wK (i:=2) (v:= ?_) rfl (by kernel_rfl) (fun _ _ _ h=>h) (by rfl) ?_ hS ?_;rotate_left
      ·intro w' hSw;obtain ⟨s1,s2⟩:=hSw;go_simp
       try with_reducible rfl
      simp only[Act.put,sA,sZ,sS];refine wK (i:=3) (v:= ?_) rfl (by kernel_rfl) (fun _ _ _ h=>h) (by rfl) ?_ hS ?_;rotate_left
      ·intro w' hSw;obtain ⟨s1,s2⟩:=hSw;go_simp
       try with_reducible rfl
      simp only[Act.put,sA,sZ,sS];refine wK (i:=4) (v:= ?_) rfl (by kernel_rfl) (fun _ _ _ h=>h) (by rfl) ?_ hS ?_;rotate_left
      ·intro w' hSw;obtain ⟨s1,s2⟩:=hSw;go_simp
       try with_reducible rfl
      simp only[Act.put,sA,sZ,sS];refine wK (i:=5) (v:= ?_) rfl (by kernel_rfl) (fun _ _ _ h=>h) (by rfl) ?_ hS ?_;rotate_left
      ·intro w' hSw;obtain ⟨s1,s2⟩:=hSw;go_simp
       try with_reducible rfl
      simp only[Act.put,sA,sZ,sS];refine wK (i:=6) (v:= ?_) rfl (by kernel_rfl) (fun _ _ _ h=>h) (by rfl) ?_ hS ?_;rotate_left
      ·intro w' hSw;obtain ⟨s1,s2⟩:=hSw;go_simp
       try with_reducible rfl
      simp only[Act.put,sA,sZ,sS];refine wK (i:=7) (v:= ?_) rfl (by kernel_rfl) (fun _ _ _ h=>h) (by rfl) ?_ hS ?_;rotate_left
      ·intro w' hSw;obtain ⟨s1,s2⟩:=hSw;go_simp
       try with_reducible rfl
      simp only[Act.put,sA,sZ,sS];refine wK (i:=8) (v:= ?_) rfl (by kernel_rfl) (fun _ _ _ h=>h) (by rfl) ?_ hS ?_;rotate_left
      ·intro w' hSw;obtain ⟨s1,s2⟩:=hSw;go_simp
       try with_reducible rfl
      simp only[Act.put,sA,sZ,sS];refine wK (i:=9) (v:= ?_) rfl (by kernel_rfl) (fun _ _ _ h=>h) (by rfl) ?_ hS ?_;rotate_left
      ·intro w' hSw;obtain ⟨s1,s2⟩:=hSw;go_simp
       try with_reducible rfl
      simp only[Act.put,sA,sZ,sS];refine wK (i:=10) (v:= ?_) rfl (by kernel_rfl) (fun _ _ _ h=>h) (by rfl) ?_ hS ?_;rotate_left
      ·intro w' hSw;obtain ⟨s1,s2⟩:=hSw;go_simp
       try with_reducible rfl
      simp only[Act.put,sA,sZ,sS];refine wK (i:=11) (v:= ?_) rfl (by kernel_rfl) (fun _ _ _ h=>h) (by rfl) ?_ hS ?_;rotate_left
      ·intro w' hSw;obtain ⟨s1,s2⟩:=hSw;go_simp
       try with_reducible rfl
      simp only[Act.put,sA,sZ,sS];refine wK (i:=12) (v:= ?_) rfl (by kernel_rfl) (fun _ _ _ h=>h) (by rfl) ?_ hS ?_;rotate_left
      ·intro w' hSw;obtain ⟨s1,s2⟩:=hSw;go_simp
       try with_reducible rfl
      simp only[Act.put,sA,sZ,sS];refine wK (i:=13) (v:= ?_) rfl (by kernel_rfl) (fun _ _ _ h=>h) (by rfl) ?_ hS ?_;rotate_left
      ·intro w' hSw;obtain ⟨s1,s2⟩:=hSw;go_simp
       try with_reducible rfl
      simp only[Act.put,sA,sZ,sS];refine aAj (i:=14) (by kernel_rfl) rfl (fun K hK=> ?_);go_simp;refine hK.out _ _ (fun _=>⟨aBb ((a3l w4.drew.heap.size w4.drew).alloc (a3k _) _) hS.1,aBb ((a3l w4.drew.heap.size w4.drew).alloc (a3k _) _) hS.2⟩) ?_;clear hK K
      try simp only[Act.put,sA,sZ,sS]
      refine aAj (i:=15) (by kernel_rfl) rfl (fun K hK=> ?_);refine aGi 3 53 (.int .i64 0) 1 8 Tryz.underlying53 aFg rfl (by decide) (by decide) rfl _ _ rfl (.slice ka q kc) q (m.nd.kids.flatMap aA4) rfl (Hown.out _) w4.heap.size #[.int .i64 (kid:Int)] [.int .i64 (kid:Int)] rfl (aAc (w:=w4) _) rfl rfl aOm Hql.out (q+1) rfl ?_;intro ao5 c5 w5 own2 gr2 new2
      have HE:=hid (Hend.out _ _ _ _ own2 gr2 new2);have q1:=aD6 HE.out.2.2.1 Hg.out.2;have q2:=aF0 HE.out.2.2.1 (Hgf.out (n0*6+5));have q3:=aD6 HE.out.2.1 Hg.out.1;refine hK.out _ _ (fun _=>⟨q3,q1⟩) ?_;clear hK K own2 gr2 new2 Hown Hend hS
      try simp only[Act.put,sA,sZ,sS]
      refine aAj (i:=16) (by kernel_rfl) rfl (fun K hK=> ?_);go_simp;refine hK.out _ _ (fun h=>absurd h (by decide)) ?_;clear hK K;refine aAj (i:=17) (by kernel_rfl) rfl (fun K hK=> ?_);go_simp;refine hK.out _ _ (fun h=>absurd h (by decide)) ?_;clear hK K;refine aAj (i:=18) (by kernel_rfl) rfl (fun K hK=> ?_);go_simp;refine hK.out _ _ (fun h=>absurd h (by decide)) ?_;clear hK K
      refine aCk (by kernel_rfl) ?_ _;clear q1 q2 q3;have hL5:=HS4.out.call HE.out.2.2.2.1 HE.out.2.2.2.2.1 HE.out.2.2.2.2.2 (aM8 Hq.out.2.2.1 Hq.out.1 Hq.out.2.1);have Hns:=hid (aI4 (kid:=kid) Hq.out.2.2.1 (.slice ao5 (q+1) c5));obtain ⟨⟨c0,c1,c2,c3,c4⟩,_,_⟩:=hL5.cells;have HL5:=hid hL5;obtain ⟨w6,hw6⟩:∃w6,w6=w5.setCell ⟨g,n0*6+5,none⟩ (.slice ao5 (q+1) c5):=⟨_,rfl⟩;rw[<-hw6]at HL5 c0 c1 c2 c3 c4 |-
      clear hL5 hw6 HE Hql Hg Hgf HS4
      go_wp2_with fail
      have hb6:Below w6.heap.size w6 (w6.alloc (.cells u.a 121)):=(a3l _ _).alloc (a3k _) _;refine (aEv (HL5.out.later hb6).rd).mono ?_;rintro r w7 ⟨rfl,h7⟩;have f7:=aM7 h7;unfold Tok.a at f7;have HE:=hid (set5 f7 (.int .i64 (nextT ts k2).kind) (.int .i64 (nextT ts k2).line) (.int .i64 (nextT ts k2).col) (.string ⟨(nextT ts k2).text.toArray⟩) (.bool (nextT ts k2).quoted))
      have Hb7:=hid (hb6.trans (h7.mono hb6.size));obtain ⟨e0,e1,e2,e3,e4⟩:=cB5 f7;have ef:=fun j=>aAd f7 j;simp at e0 e1 e2 e3 e4;have HF:=hid (HL5.out.newTok (u2:=nextT ts k2) (Hb7.out.trans (HE.out.1.below Hb7.out.size (fun b hb=>by omega))) HE.out.2 (a3k _));have HX2:=hid (show X=finX (listL (aBc ts (D-1)) ts (D-1) t.col n0 (ts.length-k2) k2 (nds (ms2.set n0 ⟨{m.nd with kids:=m.nd.kids++[(kid:Int)]},.slice ao5 (q+1) c5⟩))) n0 by rw[Hxk.out,Hst.out.1,Hns.out,Hq.out.2.2.2])
      clear h7 hb6 f7 HL5 HE Hb7 c0 c1 c2 c3 c4;unfold Tok.a;go_wp2;exact ⟨⟨_,rfl,hid ⟨k2,_,_,HF.out,HX2.out⟩⟩,by rw[HF.out.rd.curs,Hcur.out];have:=Hst.out.2;omega⟩
    ·have e3:(u.col==t.col)=false:=beq_eq_false_iff_ne.2 k3;have HD:=hid (done (fun h=>k3 h.2));clear done k3 k2;go_wp2;exact bodyPost_ret (results_tmp (t:=8) rfl _ _ _) rfl HD.out
   ·have e2:(u.kind==2)=false:=beq_eq_false_iff_ne.2 k2;have HD:=hid (done (fun h=>k2 h.1));clear done k2;go_wp2;exact bodyPost_ret (results_tmp (t:=8) rfl _ _ _) rfl HD.out
