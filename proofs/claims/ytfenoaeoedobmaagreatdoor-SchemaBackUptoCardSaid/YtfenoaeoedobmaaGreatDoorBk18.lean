/-
Parts of a proof.
-/
import Derived.Test.YtfenoaeoedobmaaGreatDoorBk17
set_option linter.unusedVariables false
set_option linter.unusedSimpArgs false
set_option maxHeartbeats 4000000
set_option maxRecDepth 20000
namespace Go.Proofs.YtfenoaeoedobmaaGreatDoor
open Go Go.RowKit
theorem aN4 {w:World} {ops:Array Oper} {rest:List Oper} {o:Oper} {a:Act} {Q:Exit->Act->World->Prop} (e sl:TypeId) (z:Value) (size nb:Nat) (hsl: Tryz.prog.underlying sl=some (.slice e))
 (hinf:(Tryz.prog.info? e).map (fun i=>(i.zero,i.size,i.bytes))=some (some z,size,nb)) (hzs:z.cells.size=size) (hsz:0<size) (hnb:nb<=1000) (hgd:o.guard=none) (s x:Operand)
 (ho:o.op= .call {callee:= .builtin .append,args:=#[s,x],argTypes:=#[sl,sl]})
 (v:Value) (n:Nat) (xs:List Value) (hs:a.eval s=v) (hown:w.ownsRow 0 e size v n xs) (g:Nat) (arr:Array Value) (news:List Value) (hx:a.eval x= .slice (some ⟨g,0,none⟩) 1 1)
 (hnew:w.heap[g]? =some (.cells arr e (0,0))) (harr:arr.toList=news) (hl:news.length=size) (h1:∀u∈news,u.oneCell'=true) (hlen:n<=1000000) (q:Nat) (hq:q=n+1)
 (h:∀ao' c' w',w'.ownsRow 0 e size (.slice ao' q c') q (xs++news)->w.grownBy w' v.ownBlock->(∀g,(Value.slice ao' q c').ownBlock=some g->v.ownBlock=some g\/w.heap.size<=g)->
  wpList Tryz.prog ops Q rest (a.put o.dst (.slice ao' q c')) w'):wpList Tryz.prog ops Q (o::rest) a w:=by
 refine aFj hgd s x sl ho e z size nb hsl hinf hzs hsz v n xs hs hown (some ⟨g,0,none⟩) 1 1 news hx (by omega) (fun hn=>by cases hn) (fun ad had=> ?_) h1 (by unfold maxLen;omega) ?_ q hq h
 ·obtain rfl:=a7h had;intro j u hj;have e2:Addr.add ⟨g,0,none⟩ j=⟨g,j,none⟩:=by
   simp[Addr.add];exact fun h=>h.symm
  rw[e2,aAa hnew,<-Array.getElem?_toList,harr];exact hj
 ·have h3:(n+1)*nb<=1000001*1000:=Nat.mul_le_mul (by omega) hnb;omega
theorem aPz {w:World} {ops:Array Oper} {o:Oper} {a:Act} {K:Act->World->Prop} {Q:Exit->Act->World->Prop} {E:Prop} (e sl:TypeId) (z:Value) (size nb:Nat) (hsl: Tryz.prog.underlying sl=some (.slice e))
 (hinf:(Tryz.prog.info? e).map (fun i=>(i.zero,i.size,i.bytes))=some (some z,size,nb)) (hzs:z.cells.size=size) (hsz:0<size) (hnb:nb<=1000) (hgd:o.guard=none) (s x:Operand)
 (ho:o.op= .call {callee:= .builtin .append,args:=#[s,x],argTypes:=#[sl,sl]})
 (v:Value) (n:Nat) (xs:List Value) (hs:a.eval s=v) (hown:w.ownsRow 0 e size v n xs) (g:Nat) (arr:Array Value) (news:List Value) (hx:a.eval x= .slice (some ⟨g,0,none⟩) 1 1)
 (hnew:w.heap[g]? =some (.cells arr e (0,0))) (harr:arr.toList=news) (hl:news.length=size) (h1:∀u∈news,u.oneCell'=true) (hlen:n<=1000000) (q:Nat) (hq:q=n+1)
 (h:∀ao' c' w',w'.ownsRow 0 e size (.slice ao' q c') q (xs++news)->w.grownBy w' v.ownBlock->(∀g,(Value.slice ao' q c').ownBlock=some g->v.ownBlock=some g\/w.heap.size<=g)->
  K (a.put o.dst (.slice ao' q c')) w'):if Region.wanted o (yielded ops a.tmps)=true then Oper.wp Tryz.prog o a w K Q else E:=by
 obtain ⟨i,hi,hz,hsize,hby⟩:=info_parts hinf;subst hq;refine aEa w hgd s x sl ho e i z size nb hsl hi hz hsize hby hzs hsz v n xs hs hown (some ⟨g,0,none⟩) 1 1 news hx (by omega) (fun hn=>by cases hn) (fun ad had=> ?_) h1 (by unfold maxLen;omega) ?_ ?_
 ·obtain rfl:=a7h had;intro j u hj;have e2:Addr.add ⟨g,0,none⟩ j=⟨g,j,none⟩:=by
   simp[Addr.add];exact fun h=>h.symm
  rw[e2,aAa hnew,<-Array.getElem?_toList,harr];exact hj
 ·have h3:(n+1)*nb<=1000001*1000:=Nat.mul_le_mul (by omega) hnb;omega
 ·intro v' w' h1 h2 h3;have hf:∃ao' c',v'= .slice ao' (n+1) c':=by
   rcases h1.2 with ⟨hv,hn⟩|⟨g,cap,cur,hv,_⟩
   ·rw[hv,hn];exact ⟨none,0,rfl⟩
   ·exact ⟨_,_,hv⟩
  obtain ⟨ao',c',rfl⟩:=hf;exact h ao' c' w' h1 h2 h3
theorem aG2:(Tryz.prog.info? 55).map (fun i=>(i.zero,i.size,i.bytes))=some (some (.agg #[.int .i64 0,.string ⟨#[]⟩,.string ⟨#[]⟩,.bool false,.int .i64 0,.slice none 0 0]),6,80):=by kernel_rfl
theorem aK6 {w:World} {kv:Value} {keys:List ByteArray} (hk:SlR w kv 1 keys aAp) (x:ByteArray):
 Calls Tryz.prog 79 #[kv,.string x] w fun r w'=>r= .returned (.bool (decide (x∈keys)))/\w'=w:=by
 obtain ⟨ao,c,rfl,hl,hat⟩:=aNz hk;rcases Nat.eq_zero_or_pos keys.length with h0|h0
 ·have e:=List.eq_nil_of_length_eq_zero h0;subst e;refine (Tryz.slices_Contains_string_empty ao c x w).mono ?_;rintro r w' ⟨hr,hw⟩;exact ⟨by rw[hr];rfl,hw⟩
 ·obtain ⟨b,o,rfl,_,hc⟩:=hat h0;refine (Tryz.slices_Contains_string b o keys.length c keys x w (a7c _) (by omega) (fun j hj=> ?_)).mono ?_
  ·have e:keys[j]? =some (keys.getD j ByteArray.empty):=by rw[List.getD_eq_getElem?_getD,a7i hj];rfl
   exact hc j _ e
  ·rintro r w' ⟨hr,hw⟩;refine ⟨?_,hw⟩;rw[hr,List.take_length];have e:Lib.containsS keys x=decide (x∈keys):=by
    by_cases hm:x∈keys
    ·rw[dT hm];exact (Lib.containsS_iff _ _).2 hm
    ·rw[dF hm];exact Bool.eq_false_iff.2 fun q=>hm ((Lib.containsS_iff _ _).1 q)
   rw[e]
theorem aZ6 {ns:List Nd} {keys:List ByteArray} {k:Nat} {r:List Int} (h:(ns[k]!).key∈keys):onlyP ns keys ((k:Int)::r)=onlyP ns keys r:=by
 rw[onlyP,Int.toNat_natCast,if_pos h]
theorem aVx {ns:List Nd} {keys:List ByteArray} {k:Nat} {r:List Int} (h:¬(ns[k]!).key∈keys):onlyP ns keys ((k:Int)::r)= .error ((ns[k]!).line,121):=by
 rw[onlyP,Int.toNat_natCast,if_neg h]
def Ends (x:R Unit) (r:Ending):Prop:=match x with| .ok _=>r= .returned (.tuple #[])| .error e=>r=Pan e
theorem aN5 (w:World) (db b o cap:Nat) (ms:List NdM) (h:DocM w db b o cap ms) (m:NdM) (hm:m∈ms) (kv:Value) (keys:List ByteArray) (hkeys:SlR w kv 1 keys aAp):
 Calls Tryz.prog 45 #[.pointer (some ⟨db,0,none⟩),m.v,kv] w fun r w'=>Ends (onlyP (nds ms) keys m.nd.kids) r/\Below w.heap.size w w':=by
 have hok:=h.ok hm;obtain ⟨ao2,c2,hkv,hl2,hks⟩:=aAj hok.kids;obtain ⟨q,hq⟩:∃q,q=m.nd.kids.length:=⟨_,rfl⟩;rw[<-hq]at hkv hl2 hks;have HD:=hid h;obtain ⟨n,hn⟩:∃n,n=ms.length:=⟨_,rfl⟩;have hdoc:=h.doc;rw[<-hn]at hdoc;have d0:∀ob,(w.alloc ob).cell? ⟨db,0,none⟩=some (.slice (some ⟨b,o,none⟩) n cap):=fun ob=>(World.cell?_of_block (aAe ob (aAb hdoc))).trans (aAa hdoc 0);have Hkid:=hid (fun j (hj:j<q)=>show ∃(k:Nat) (mk:NdM),m.nd.kids[j]? =some (k:Int)/\ms[k]? =some mk/\k<n from by
  obtain ⟨x,hx⟩:∃x,m.nd.kids[j]? =some x:=aAh (by omega);obtain ⟨k,mk,e,hk,_⟩:=h.kid hm (List.mem_of_getElem? hx);exact ⟨k,mk,by rw[hx,e],hk,by rw[hn];exact (a7j hk).1⟩)
 have Hks:=hid hks;have Hq:=hid hq;have Hl2:=hid hl2;have Hbn:=hid (fun o=>(a7d w.heap.size w).alloc (a7c _) o);have Hin:=hid (fun ob x=>aK6 (w:=w.alloc ob) (hkeys.later ((a7d w.heap.size w).alloc (a7c _) ob)) x);have Hfail:=hid (fun w1 l=>aGa w1 l 121);rw[aAx hkv];obtain ⟨kind,hkind⟩:∃kind,kind=m.nd.kind:=⟨_,rfl⟩;rw[<-hkind];obtain ⟨res,hres⟩:∃res,res=onlyP (nds ms) keys m.nd.kids:=⟨_,rfl⟩
 rw[<-hres];have Hres:=hid hres;clear h hm hok hkv hq hks hl2 hn hdoc hkind hkeys hres;go_enter Tryz.func45,Tryz.ntmps45;go_wp2
 go_loopw [11] (fun vi wr=>∃j:Nat,vi= .int .i64 (j:Int)/\(w.alloc (.cells #[.int .i64 kind,.string m.nd.key,.string m.nd.text,.bool m.nd.quoted,.int .i64 m.nd.line,.slice ao2 q c2] 55))=wr/\Hid (j<=q/\res=onlyP (nds ms) keys (m.nd.kids.drop j))) (fun vi _=>q-(intOf vi).toNat)
 case atStart=>exact ⟨0,rfl,rfl,hid ⟨Nat.zero_le _,Hres.out⟩⟩
 case round=>
  obtain ⟨j,rfl,rfl,H⟩:=hrel;by_cases hj:j<q
  ·have tj:decide (j<q)=true:=dT hj;have bj:(j:Int)<(q:Int):=by omega
   obtain ⟨k,mk,hx,hk,hkn⟩:=Hkid.out j hj;obtain ⟨b2,o2,rfl,hb2,hc⟩:=Hks.out (by omega);have x1:∀ob,(w.alloc ob).cell? ⟨b2,o2+j,none⟩=some (.int .i64 (k:Int)):=fun ob=>(World.cell?_of_block (aAe ob hb2)).trans (hc j _ hx);have y1:∀ob,(w.alloc ob).cell? ⟨b,o+k*6+1,none⟩=some (.string mk.nd.key):=fun ob=>(World.cell?_of_block (aAe ob HD.out.blt)).trans (HD.out.at hk).1.c1;have y4:∀ob,(w.alloc ob).cell? ⟨b,o+k*6+4,none⟩=some (.int .i64 mk.nd.line):=fun ob=>(World.cell?_of_block (aAe ob HD.out.blt)).trans (HD.out.at hk).1.c4
   have bk:(k:Int)<(n:Int):=by omega
   have hst:=H.out.2;rw[aEc hx]at hst;have hkd:=aDv hk;have Hi:=hid (fun ob=>Hin.out ob mk.nd.key);by_cases e:mk.nd.key∈keys
   ·rw[aZ6 (by rw[hkd];exact e)]at hst;rw[dT e]at Hi;have Hst:=hid (show j+1<=q/\res=onlyP (nds ms) keys (m.nd.kids.drop (j+1)) from ⟨hj,hst⟩);obtain ⟨Hms,Hgo⟩:=aA3 (k:=j) (n:=q) hj (by have:=Hl2.out;omega);clear hst hkd hk hx hc hb2 H Hkid Hks hj hkn e HD Hin
    go_wp2_with fail
    refine (Hi.out _).mono ?_;rintro r w1 ⟨rfl,rfl⟩;clear Hi;go_wp2;go_roundw
    case rel=>exact ⟨j+1,Hgo.out,trivial,Hst⟩
    case measure=>exact Hms.out
   ·rw[aVx (by rw[hkd];exact e),hkd]at hst;rw[dF e]at Hi;have Hst:=hid hst;clear hst hkd hk hx hc hb2 H Hkid Hks hj hkn e HD Hin
    go_wp2_with fail
    refine (Hi.out _).mono ?_;rintro r w1 ⟨rfl,rfl⟩;clear Hi
    go_wp2_with fail
    refine (Hfail.out _ _).mono ?_;rintro r w1 ⟨rfl,rfl⟩;exact ⟨rfl,by rw[Hst.out];rfl,Hbn.out _⟩
  ·have tj:decide (j<q)=false:=dF hj;have Hst:=hid (show res= .ok () from by
    rw[H.out.2,List.drop_eq_nil_of_le (by have:=Hq.out;omega)];rfl)
   clear H Hkid Hks hj HD;go_wp2
   first|go_end0|refine bodyPost_ret (results_none rfl _ _ _) rfl ?_
   exact ⟨by rw[Hst.out];rfl,Hbn.out _⟩
def kidsM (ms:List NdM) (m:NdM):List NdM:=m.nd.kids.map fun k=>ms[k.toNat]!
theorem aFp (ms:List NdM) (m:NdM):(kidsM ms m).length=m.nd.kids.length:=List.length_map ..
theorem aZ7 {ms:List NdM} {m:NdM} {j k:Nat} {mk:NdM} (hx:m.nd.kids[j]? =some (k:Int)) (hk:ms[k]? =some mk):(kidsM ms m)[j]? =some mk:=by
 unfold kidsM;rw[List.getElem?_map,hx];simp[List.getElem!_eq_getElem?_getD,hk]
theorem nd_len (m:NdM):m.cells.length=6:=rfl
theorem aRl (m:NdM) {ao:Option Addr} {q c:Nat} (h:m.kv= .slice ao q c):∀u∈m.cells,u.oneCell'=true:=by
 intro u hu;unfold NdM.cells at hu;rw[h]at hu;simp only[List.mem_cons,List.not_mem_nil,or_false]at hu;rcases hu with rfl|rfl|rfl|rfl|rfl|rfl<;>rfl
theorem aVy {α:Type} {l:List α} {j:Nat} {x:α} {f:α->List Value} (h:l[j]? =some x):(l.take (j+1)).flatMap f=(l.take j).flatMap f++f x:=by
 rw[List.take_add_one,h];simp
theorem aVz {ns:List Nd} {n:Nd} {a b:Nat} (h:¬n.kind=3):listP ns n a b= .error (n.line,123):=by unfold listP;rw[if_pos h]
theorem aV0 {ns:List Nd} {n:Nd} {a b:Nat} (h:n.kind=3) (h2:n.kids.length<a\/b<n.kids.length):listP ns n a b= .error (n.line,124):=by unfold listP;rw[if_neg (fun q=>q h),if_pos h2]
theorem aZ8 {ns:List Nd} {n:Nd} {a b:Nat} (h:n.kind=3) (h2:¬(n.kids.length<a\/b<n.kids.length)):listP ns n a b= .ok (n.kids.map fun k=>ns[k.toNat]!):=by unfold listP;rw[if_neg (fun q=>q h),if_neg h2]
theorem aV1 (w:World) (db b o cap:Nat) (ms:List NdM) (h:DocM w db b o cap ms) (m:NdM) (hm:m∈ms) (least most:Nat) (hmost:most<=1000) (hleast:least<=1000):
 Calls Tryz.prog 80 #[.pointer (some ⟨db,0,none⟩),m.v,.int .i64 (least:Int),.int .i64 (most:Int)] w fun r w'=>
  (match listP (nds ms) m.nd least most with| .ok _=>∃v,r= .returned v/\SlR w' v 6 (kidsM ms m) NdM.cells/\(∀g,v.ownBlock=some g->w.heap.size<=g)| .error e=>r=Pan e)/\Below w.heap.size w w':=by
 have hok:=h.ok hm;obtain ⟨ao2,c2,hkv,hl2,hks⟩:=aAj hok.kids;obtain ⟨q,hq⟩:∃q,q=m.nd.kids.length:=⟨_,rfl⟩;rw[<-hq]at hkv hl2 hks;have HD:=hid h;obtain ⟨n,hn⟩:∃n,n=ms.length:=⟨_,rfl⟩;have hdoc:=h.doc;rw[<-hn]at hdoc;have d0:w.cell? ⟨db,0,none⟩=some (.slice (some ⟨b,o,none⟩) n cap):=aAa hdoc 0;have hdlt:=aAb hdoc;have Hkid:=hid (fun j (hj:j<q)=>show ∃(k:Nat) (mk:NdM),m.nd.kids[j]? =some (k:Int)/\ms[k]? =some mk/\k<n from by
  obtain ⟨x,hx⟩:∃x,m.nd.kids[j]? =some x:=aAh (by omega);obtain ⟨k,mk,e,hk,_⟩:=h.kid hm (List.mem_of_getElem? hx);exact ⟨k,mk,by rw[hx,e],hk,by rw[hn];exact (a7j hk).1⟩)
 have Hks:=hid hks;have Hq:=hid hq;have Hbn:=hid (fun o=>(a7d w.heap.size w).alloc (a7c _) o);have Hfail:=hid (fun w1 l e=>aGa w1 l e);rw[aAx hkv];obtain ⟨kind,hkind⟩:∃kind,kind=m.nd.kind:=⟨_,rfl⟩;rw[<-hkind];by_cases h3:kind=3
 ·have t3:(kind==3)=true:=by rw[beq_iff_eq];exact h3
  by_cases hfew:q<least\/most<q
  ·rw[aV0 (by rw[<-hkind];exact h3) (by rw[<-hq];exact hfew)];simp only;by_cases hl:q<least
   ·have t1:decide (q<least)=true:=dT hl;clear h hm hok hkv hq hks hl2 hn hdoc hkind hfew hl HD Hkid Hks hdlt d0 hmost hleast h3;go_enter Tryz.func80,Tryz.ntmps80
    go_wp2_with fail
    refine (Hfail.out _ _ _).mono ?_;rintro r w1 ⟨rfl,rfl⟩;exact ⟨rfl,rfl,Hbn.out _⟩
   ·have t1:decide (q<least)=false:=dF hl;have t2:decide (most<q)=true:=dT (by omega);clear h hm hok hkv hq hks hl2 hn hdoc hkind hfew hl HD Hkid Hks hdlt d0 hmost hleast h3;go_enter Tryz.func80,Tryz.ntmps80
    go_wp2_with fail
    refine (Hfail.out _ _ _).mono ?_;rintro r w1 ⟨rfl,rfl⟩;exact ⟨rfl,rfl,Hbn.out _⟩
  ·rw[aZ8 (by rw[<-hkind];exact h3) (by rw[<-hq];exact hfew)];simp only;have t1:decide (q<least)=false:=dF (by omega);have t2:decide (most<q)=false:=dF (by omega);have Hq1:=hid (show q<=1000 by omega);have Hdlt:=hid hdlt;have Hblt:=hid h.blt;have H0:=hid (fun o=>RO.start (e:= 55) (sz:=6) (Hbn.out o));have Hd1:=hid (show 0<6 by decide);have Hd2:=hid (show 80<=1000 by decide);clear h hm hok hkv hq hks hl2 hn hdoc hkind hfew hdlt hmost hleast h3
   go_enter Tryz.func80,Tryz.ntmps80;go_wp2
   go_loopw [8,35] (fun vv vi wr=>∃(v2:Value) (j:Nat),v2=vv/\vi= .int .i64 (j:Int)/\Hid (j<=q/\RO w wr 55 6 v2 j (((kidsM ms m).take j).flatMap NdM.cells))) (fun _ vi _=>q-(intOf vi).toNat)
   case atStart=>exact ⟨_,0,rfl,rfl,hid ⟨Nat.zero_le _,H0.out _⟩⟩
   case round=>
    clear H0 t1 t2 t3;obtain ⟨v2,j,rfl,rfl,H⟩:=hrel;by_cases hj:j<q
    ·have tj:decide (j<q)=true:=dT hj;have bj:(j:Int)<(q:Int):=by omega
     obtain ⟨k,mk,hx,hk,hkn⟩:=Hkid.out j hj;obtain ⟨b2,o2,rfl,hb2,hc⟩:=Hks.out (by omega);have hbl:=H.out.2.below;have x1:=(hbl.cell (p:=⟨b2,o2+j,none⟩) hb2).trans (hc j _ hx);have d1:=(hbl.cell (p:=⟨db,0,none⟩) Hdlt.out).trans d0;have c:=(HD.out.at hk).1;have hokk:=(HD.out.at hk).2;obtain ⟨ao3,c3,hkv3,_,_⟩:=aAj hokk.kids;obtain ⟨q3,hq3⟩:∃q3,q3=mk.nd.kids.length:=⟨_,rfl⟩;rw[<-hq3]at hkv3;have y0:=(hbl.cell (p:=⟨b,o+k*6,none⟩) Hblt.out).trans c.c0
     have y1:=(hbl.cell (p:=⟨b,o+k*6+1,none⟩) Hblt.out).trans c.c1;have y2:=(hbl.cell (p:=⟨b,o+k*6+2,none⟩) Hblt.out).trans c.c2;have y3:=(hbl.cell (p:=⟨b,o+k*6+3,none⟩) Hblt.out).trans c.c3;have y4:=(hbl.cell (p:=⟨b,o+k*6+4,none⟩) Hblt.out).trans c.c4;have y5:=(hbl.cell (p:=⟨b,o+k*6+5,none⟩) Hblt.out).trans c.c5;rw[hkv3]at y5;have bk:(k:Int)<(n:Int):=by omega
     have hat:=aZ7 (ms:=ms) hx hk;have hfl:=aVy (f:=NdM.cells) hat;obtain ⟨Hms,Hgo⟩:=aA3 (k:=j) (n:=q) hj (by have:=Hq1.out;omega);have Hown:=hid (fun o=>H.out.2.row.alloc o);have Hone:=hid (aRl mk hkv3);have Harr:=hid (show (#[.int .i64 mk.nd.kind,.string mk.nd.key,.string mk.nd.text,.bool mk.nd.quoted,.int .i64 mk.nd.line,.slice ao3 q3 c3]:Array Value).toList=mk.cells by unfold NdM.cells;rw[hkv3])
     have Hjl:=hid (show j<=1000000 by have:=Hq1.out;omega);have Hend:=hid (fun o v' w2 a1 a2 a3=>show j+1<=q/\RO w w2 55 6 v' (j+1) (((kidsM ms m).take (j+1)).flatMap NdM.cells) from ⟨hj,by
      have:=RO.app (w1:=wr.alloc o) (v':=v') (w2:=w2) (m:=j+1) (ys:=((kidsM ms m).take j).flatMap NdM.cells++mk.cells) H.out.2 ((a7d _ wr).alloc (a7c _) o) a1 a2 a3;rw[hfl];exact this⟩)
     clear hat hfl hx hc hb2 hbl hk hkn c hokk hkv3 hq3 H Hkid Hks HD hj d0
     go_wp2_with (at_builtin;refine aN4 55 33 (.agg #[.int .i64 0,.string ⟨#[]⟩,.string ⟨#[]⟩,.bool false,.int .i64 0,.slice none 0 0]) 6 80 Tryz.underlying33 aG2 rfl Hd1.out Hd2.out rfl _ _ rfl v2 j (((kidsM ms m).take j).flatMap NdM.cells) rfl (Hown.out _) wr.heap.size #[.int .i64 mk.nd.kind,.string mk.nd.key,.string mk.nd.text,.bool mk.nd.quoted,.int .i64 mk.nd.line,.slice ao3 q3 c3] mk.cells rfl (aAc _) Harr.out rfl Hone.out Hjl.out (j+1) rfl ?_;intro ao4 c4 w2 own2 gr2 new2;have HE:=hid (Hend.out _ _ _ own2 gr2 new2);clear own2 gr2 new2)
     go_roundw
     case rel=>exact ⟨_,_,_,⟨j+1,Hgo.out,HE⟩,rfl,rfl,rfl⟩
     case measure=>exact Hms.out
    ·have tj:decide (j<q)=false:=dF hj;have He:=hid (show SlR wr v2 6 (kidsM ms m) NdM.cells/\(∀g,v2.ownBlock=some g->w.heap.size<=g)/\Below w.heap.size w wr from by
      have ej:j=q:=by have:=H.out.1;omega
      subst ej;have h2:=H.out.2;rw[List.take_of_length_le (by rw[aFp];have:=Hq.out;omega)]at h2;exact ⟨SlR.ofRow h2.row (by rw[aFp];exact Hq.out) nd_len (by have:=Hq1.out;omega) (by decide),h2.new,h2.below⟩)
     clear H Hkid Hks hj HD d0;go_wp2;go_ret;exact ⟨⟨_,rfl,He.out.1,He.out.2.1⟩,He.out.2.2⟩
 ·have t3:(kind==3)=false:=by rw[beq_eq_false_iff_ne];exact h3
  have p3:¬kind=3:=h3;rw[aVz (by rw[<-hkind];exact h3)];simp only;clear h hm hok hkv hq hks hl2 hn hdoc hkind HD Hkid Hks hdlt d0 hmost hleast h3;go_enter Tryz.func80,Tryz.ntmps80
  go_wp2_with fail
  refine (Hfail.out _ _ _).mono ?_;rintro r w1 ⟨rfl,rfl⟩;exact ⟨rfl,rfl,Hbn.out _⟩
theorem aZ9:∀i:Fin 101,aDa (floatOfInt .f64 (i.val:Int))=floatOfInt .f64 (i.val:Int)/\floatOfInt .f64 (i.val:Int)<INF:=by decide+kernel
theorem aV2 {i:Int} (h1:¬i<0) (h2:¬100<i):aDa (floatOfInt .f64 i)=floatOfInt .f64 i/\floatOfInt .f64 i<INF:=by
 obtain ⟨n,rfl⟩:∃n:Nat,i=(n:Int):=⟨i.toNat,by omega⟩;exact aZ9 ⟨n,by omega⟩
theorem a5k {x:Nat} (h:x<18446744073709551616):negW x<18446744073709551616:=by
 have e:(18446744073709551616:Nat)=2 ^ 64:=by decide
 rw[e]at h |-;exact Nat.xor_lt_two_pow h (by decide)
theorem aTo (s:ByteArray):(readN s).real<18446744073709551616:=by
 unfold readN
 split
 ·exact (by decide:(0:Nat)<18446744073709551616)
 ·split
  ·rename_i m k b _
   have h1:=scW_lt m k
   show (if b=true then negW (scW m k) else scW m k)<_
   split
   ·exact a5k h1
   ·exact h1
  ·exact (by decide:(0:Nat)<18446744073709551616)
theorem aK7 (s:ByteArray) (q:Bool):(readS s q).real<18446744073709551616:=by
 unfold readS
 repeat' split
 all_goals first|exact (by decide:(0:Nat)<18446744073709551616)|exact (by decide:nanB<18446744073709551616)|exact (by decide:infB<18446744073709551616)|exact (by decide:ninfB<18446744073709551616)|exact aTo s
def EndV {α:Type} (f:α->Value) (x:R α) (r:Ending):Prop:=match x with| .ok a=>r= .returned (f a)| .error e=>r=Pan e
theorem aN6 {n:Nd} (h:¬n.kind=1):aCd n= .error (n.line,123):=by unfold aCd;rw[if_pos h]
theorem aP0 {x:Nat} (h:x<INF):∀w,(binOp .add 56 (.float .f64 x) (.float .f64 0)).run Tryz.prog w= .ok (.float .f64 x) w:=by
 intro w;have:=add0 h;have h2:FloatKind.f64.format.add x 0=some x:=this;simp[binOp,Op.floatArith,h2]
theorem a0a (w:World) (m:NdM) (hm:m.Ok w) (hg:Glob w):
 Calls Tryz.prog 81 #[m.v] w fun r w'=>EndV (fun x=> .float .f64 x) (aCd m.nd) r/\Below w.heap.size w w':=by
 obtain ⟨ao,c,hkv,_⟩:=aEg hm.kids;have hts:=hm.text;rw[aAx hkv];obtain ⟨⟨kind,key,text,quoted,line,kids⟩,kv⟩:=m;simp only at hkv hts |-;subst hkv;generalize kids.length=n at*;have hsf:∀(W:World) (a:Addr) (r:Nat),(store a (.float .f64 r)).run Tryz.prog W=stored Tryz.prog W a (.float .f64 r) .plain:=fun W a r=>run_store _ W a _ _ rfl;have Hb0:=hid (fun o=>(a7d w.heap.size w).alloc (a7c _) o)
 have Hf:=hid (fun w1=>aGa w1 line 123);by_cases hk:kind=1
 ·have hw:aCd ⟨kind,key,text,quoted,line,kids⟩=if (readS text quoted).kind=3 then
   (if (readS text quoted).int<0\/100<(readS text quoted).int then .error (line,123) else .ok (floatOfInt .f64 (readS text quoted).int))
   else if (readS text quoted).kind=4 then
   (if cent (readS text quoted).real=true then .ok (aDa (readS text quoted).real) else .error (line,123))
   else .error (line,123):=by
   unfold aCd;rw[if_neg (fun q=>q hk)]
  rw[hw];have hrl:=aK7 text quoted;have Hr:=hid (fun w1 (hb1:Below w.heap.size w w1)=>aJa w1 text (by omega) quoted (hg.later hb1).rng);unfold aIm at Hr;generalize readS text quoted=rv at*;obtain ⟨vk,vb,vi,vr,vt⟩:=rv;unfold Val.v valV at Hr;simp only at hrl Hr |-;have hb0:=Hb0.out (.cells #[.int .i64 1,.string key,.string text,.bool quoted,.int .i64 line,.slice ao n c] 55)
  subst hk;clear hw hm hts hg;have hadd0:=aP0 (x:=0) (by unfold INF;decide);by_cases k3:vk=3
  ·rw[if_pos k3];have t3:(vk==3)=true:=by rw[beq_iff_eq];exact k3
   by_cases hi:vi<0\/100<vi
   ·rw[if_pos hi];by_cases h0:vi<0
    ·have t1:decide (vi<0)=true:=dT h0;clear hi h0 k3 hrl hadd0;go_enter Tryz.func81,Tryz.ntmps81
     go_wp2_with fail
     refine (Hr.out _ hb0).mono ?_;rintro r w1 ⟨rfl,hb⟩;have hlt:w.heap.size<w1.heap.size:=by have:=hb.size;simp at this;omega
     have D4:∀ob,(w1.alloc ob).cell? ⟨w.heap.size,4,none⟩=some (.int .i64 line):=fun ob=>(World.cell?_of_block (aAe ob hlt)).trans ((hb.cell (p:=⟨w.heap.size,4,none⟩) (by simp)).trans (aAa (aAc _) 4));have Hb:=hid (hb0.trans (hb.mono hb0.size));clear hb Hr hb0
     go_wp2_with fail
     refine (Hf.out _).mono ?_;rintro r w2 ⟨rfl,rfl⟩;exact ⟨rfl,rfl,(Hb.out).alloc (Below.size Hb.out) _⟩
    ·have t1:decide (vi<0)=false:=dF h0;have t2:decide (100<vi)=true:=dT (by omega);clear hi h0 k3 hrl hadd0;go_enter Tryz.func81,Tryz.ntmps81
     go_wp2_with fail
     refine (Hr.out _ hb0).mono ?_;rintro r w1 ⟨rfl,hb⟩;have hlt:w.heap.size<w1.heap.size:=by have:=hb.size;simp at this;omega
     have D4:∀ob,(w1.alloc ob).cell? ⟨w.heap.size,4,none⟩=some (.int .i64 line):=fun ob=>(World.cell?_of_block (aAe ob hlt)).trans ((hb.cell (p:=⟨w.heap.size,4,none⟩) (by simp)).trans (aAa (aAc _) 4));have Hb:=hid (hb0.trans (hb.mono hb0.size));clear hb Hr hb0
     go_wp2_with fail
     refine (Hf.out _).mono ?_;rintro r w2 ⟨rfl,rfl⟩;exact ⟨rfl,rfl,(Hb.out).alloc (Below.size Hb.out) _⟩
   ·rw[if_neg hi];have t1:decide (vi<0)=false:=dF (by omega);have t2:decide (100<vi)=false:=dF (by omega);obtain ⟨z1,z2⟩:=aV2 (i:=vi) (by omega) (by omega);have hadd:=aP0 z2;cases ho:(FloatKind.f64.format.order (floatOfInt .f64 vi) 0==some .eq) with
    |true=>
     have He:=hid (show floatOfInt .f64 vi=0 by rw[<-z1];unfold aDa;rw[if_pos ho]);clear hi k3 z1 z2 hrl hadd;go_enter Tryz.func81,Tryz.ntmps81
     go_wp2_with fail
     refine (Hr.out _ hb0).mono ?_;rintro r w1 ⟨rfl,hb⟩;have Hb:=hid (hb0.trans (hb.mono hb0.size));clear hb Hr hb0 Hf;go_wp2;go_ret;exact ⟨by rw[He.out];rfl,(Hb.out).alloc (Below.size Hb.out) _⟩
    |false=>
     clear hi k3 z1 z2 hrl hadd0;go_enter Tryz.func81,Tryz.ntmps81
     go_wp2_with fail
     refine (Hr.out _ hb0).mono ?_;rintro r w1 ⟨rfl,hb⟩;have Hb:=hid (hb0.trans (hb.mono hb0.size));clear hb Hr hb0 Hf;go_wp2;go_ret;exact ⟨rfl,(Hb.out).alloc (Below.size Hb.out) _⟩
  ·rw[if_neg k3];have t3:(vk==3)=false:=by rw[beq_eq_false_iff_ne];exact k3
   by_cases k4:vk=4
   ·rw[if_pos k4];have t4:(vk==4)=true:=by rw[beq_iff_eq];exact k4
    cases hc:cent vr with
    |true=>
     rw[if_pos rfl];have hfin:=aRb hrl hc;have hadd:=aP0 hfin;have hc2:=hc;unfold cent at hc2;rw[Bool.and_eq_true]at hc2;obtain ⟨c1,c2⟩:=hc2;unfold HUND at c2;cases ho:(FloatKind.f64.format.order vr 0==some .eq) with
     |true=>
      have e:aDa vr=0:=by unfold aDa;rw[if_pos ho]
      rw[e];have c3:(FloatKind.f64.format.order vr 0==some .gt||true)=true:=by simp
      rw[ho]at c1;clear k3 k4 hrl hc hfin hadd e c3 c1;go_enter Tryz.func81,Tryz.ntmps81
      go_wp2_with fail
      refine (Hr.out _ hb0).mono ?_;rintro r w1 ⟨rfl,hb⟩;have Hb:=hid (hb0.trans (hb.mono hb0.size));clear hb Hr hb0 Hf;go_wp2;go_ret;exact ⟨rfl,(Hb.out).alloc (Below.size Hb.out) _⟩
     |false=>
      have e:aDa vr=vr:=by unfold aDa;rw[if_neg (by rw[ho];decide)]
      rw[e]at hadd |-;rw[ho,Bool.or_false]at c1;clear k3 k4 hrl hc hfin e hadd0;go_enter Tryz.func81,Tryz.ntmps81
      go_wp2_with fail
      refine (Hr.out _ hb0).mono ?_;rintro r w1 ⟨rfl,hb⟩;have Hb:=hid (hb0.trans (hb.mono hb0.size));clear hb Hr hb0 Hf;go_wp2;go_ret;exact ⟨rfl,(Hb.out).alloc (Below.size Hb.out) _⟩
    |false=>
     rw[if_neg (by decide)];unfold cent HUND at hc;clear k3 k4 hrl hadd0;cases c1:(FloatKind.f64.format.order vr 0==some .gt||FloatKind.f64.format.order vr 0==some .eq) with
     |true=>
      rw[c1,Bool.true_and]at hc;go_enter Tryz.func81,Tryz.ntmps81
      go_wp2_with fail
      refine (Hr.out _ hb0).mono ?_;rintro r w1 ⟨rfl,hb⟩;have hlt:w.heap.size<w1.heap.size:=by have:=hb.size;simp at this;omega
      have D4:∀ob,(w1.alloc ob).cell? ⟨w.heap.size,4,none⟩=some (.int .i64 line):=fun ob=>(World.cell?_of_block (aAe ob hlt)).trans ((hb.cell (p:=⟨w.heap.size,4,none⟩) (by simp)).trans (aAa (aAc _) 4));have Hb:=hid (hb0.trans (hb.mono hb0.size));clear hb Hr hb0
      go_wp2_with fail
      refine (Hf.out _).mono ?_;rintro r w2 ⟨rfl,rfl⟩;exact ⟨rfl,rfl,(Hb.out).alloc (Below.size Hb.out) _⟩
     |false=>
      clear hc;go_enter Tryz.func81,Tryz.ntmps81
      go_wp2_with fail
      refine (Hr.out _ hb0).mono ?_;rintro r w1 ⟨rfl,hb⟩;have hlt:w.heap.size<w1.heap.size:=by have:=hb.size;simp at this;omega
      have D4:∀ob,(w1.alloc ob).cell? ⟨w.heap.size,4,none⟩=some (.int .i64 line):=fun ob=>(World.cell?_of_block (aAe ob hlt)).trans ((hb.cell (p:=⟨w.heap.size,4,none⟩) (by simp)).trans (aAa (aAc _) 4));have Hb:=hid (hb0.trans (hb.mono hb0.size));clear hb Hr hb0
      go_wp2_with fail
      refine (Hf.out _).mono ?_;rintro r w2 ⟨rfl,rfl⟩;exact ⟨rfl,rfl,(Hb.out).alloc (Below.size Hb.out) _⟩
   ·rw[if_neg k4];have t4:(vk==4)=false:=by rw[beq_eq_false_iff_ne];exact k4
    clear k3 k4 hrl hadd0;go_enter Tryz.func81,Tryz.ntmps81
    go_wp2_with fail
    refine (Hr.out _ hb0).mono ?_;rintro r w1 ⟨rfl,hb⟩;have hlt:w.heap.size<w1.heap.size:=by have:=hb.size;simp at this;omega
    have D4:∀ob,(w1.alloc ob).cell? ⟨w.heap.size,4,none⟩=some (.int .i64 line):=fun ob=>(World.cell?_of_block (aAe ob hlt)).trans ((hb.cell (p:=⟨w.heap.size,4,none⟩) (by simp)).trans (aAa (aAc _) 4));have Hb:=hid (hb0.trans (hb.mono hb0.size));clear hb Hr hb0
    go_wp2_with fail
    refine (Hf.out _).mono ?_;rintro r w2 ⟨rfl,rfl⟩;exact ⟨rfl,rfl,(Hb.out).alloc (Below.size Hb.out) _⟩
 ·rw[aN6 hk];have t1:(kind==1)=false:=by rw[beq_eq_false_iff_ne];exact hk
  have p1:¬kind=1:=hk;clear hk hg hm hts;go_enter Tryz.func81,Tryz.ntmps81
  go_wp2_with fail
  refine (Hf.out _).mono ?_;rintro r w1 ⟨rfl,rfl⟩;exact ⟨rfl,rfl,Hb0.out _⟩
