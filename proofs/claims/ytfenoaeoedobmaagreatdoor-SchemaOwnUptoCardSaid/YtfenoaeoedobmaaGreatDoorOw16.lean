/-
Parts of a proof.
-/
import Derived.Test.YtfenoaeoedobmaaGreatDoorOw15
set_option linter.unusedVariables false
set_option linter.unusedSimpArgs false
set_option maxHeartbeats 4000000
set_option maxRecDepth 20000
namespace Go.Proofs.YtfenoaeoedobmaaGreatDoor
open Go Go.RowKit
def eK (ns:List Nd):ByteArray×Int:=
 if dI ns=false then (⟨#[]⟩,100) else if 65536<(nk ns).length then (⟨#[]⟩,3) else (⟨(nk ns).toArray⟩,0)
theorem vL {a b:ByteArray×Int} (h:a=b):Ending.returned (.tuple #[.string a.1,.int .i64 a.2])= .returned (.tuple #[.string b.1,.int .i64 b.2]):=by rw[h]
theorem Dr (w:World) (V:Value) (ms:List NdM) (h:Nds w V ms) (hg:Glob w):
 Calls Tryz.prog 24 #[V] w fun r w'=>r= .returned (.tuple #[.string (eK (nds ms)).1,.int .i64 (eK (nds ms)).2])/\Below w.heap.size w w':=by
 have Ht:=hid (FE w V ms h hg);cases ht:dI (nds ms) with
 |false=>
  have hv:(⟨#[]⟩,100)=eK (nds ms):=by unfold eK;rw[if_pos ht]
  rw[ht]at Ht;have Hv:=hid hv;clear h hg ht hv;go_enter Tryz.func24,Tryz.ntmps24
  go_wp2_with fail
  refine Ht.o.mono ?_;rintro r w1 ⟨rfl,hb⟩;have Hb:=hid hb;clear hb Ht;go_wp2;refine bodyPost_ret (results_tmp2 rfl _ _ _) rfl ?_;exact ⟨vL Hv.o,Hb.o⟩
 |true=>
  have hlen:0<ms.length:=by
   have:=((iz _).1 ht).1.1;rw[<-bt];exact List.length_pos_iff.2 this
  have hnn:(nds ms).length=ms.length:=bt ms;have HL:=hid (fun w1 (hb1:Below w.heap.size w w1)=>KW h ht ms.length 0 0 false (w1.alloc (.cells #[.slice none 0 0] 114)) w1.heap.size (.slice none 0 0) []
   ⟨hb1.alloc hb1.size _,hb1.size,(fun g hg=>by cases hg)⟩ ⟨ah _,World.ownsRow_nil _ _ _ _,(fun g hg=>by cases hg),by decide⟩ hlen (by omega) (aAa _))
  have hE:nD (nds ms) ms.length 0 0 false []=nk (nds ms):=by unfold nk;rw[hnn]
  rw[hE]at HL;have hv:eK (nds ms)=if 65536<(nk (nds ms)).length then (⟨#[]⟩,3) else (⟨(nk (nds ms)).toArray⟩,0):=by unfold eK;rw[if_neg (by rw[ht];decide)]
  rw[hv];rw[ht]at Ht;have HV:=hid h;obtain ⟨e,he⟩:=ex (nk (nds ms));rw[<-he]at HL |-;obtain ⟨rv,hrv⟩:∃rv:ByteArray×Int,rv=if 65536<e.length then (⟨#[]⟩,3) else (⟨e.toArray⟩,0):=⟨_,rfl⟩
  rw[<-hrv];have Hrv:=hid hrv;clear h hg ht hlen hnn hE hv he hrv;go_enter Tryz.func24,Tryz.ntmps24
  go_wp2_with fail
  refine Ht.o.mono ?_;rintro r w1 ⟨rfl,hb⟩;have Hb:=hid hb;have Hl:=hid (HL.o w1 hb);have hs1:=hb.size;clear hb Ht HL
  go_wp2_with fail
  refine Hl.o.mono ?_;rintro r w2 ⟨rfl,v2,hp⟩;have hbn:=Hb.o;have HB:=hid (show Below w.heap.size w w2 from (hbn.alloc hbn.size (.cells #[.slice none 0 0] 114)).trans (hp.mod.below (hbn.alloc hbn.size _).size (fun k hk=>by
   rcases hk with e|e
   ·rw[e];exact hs1
   ·cases e)))
  have p0:=af hp.pg.blk 0;simp at p0;obtain ⟨ao1,c1v,hv1⟩:∃ao c,v2= .slice ao e.length c:=by
   rcases hp.pg.row.2 with ⟨hv,hn⟩|⟨g,cap,cur,hv,_⟩
   ·exact ⟨none,0,by rw[hv,hn]⟩
   ·exact ⟨_,_,hv⟩
  have hc:=jG hp.pg.row;rw[hv1]at p0 hc;clear hp Hl hbn hs1 hv1 Hb;by_cases h65:65536<e.length
  ·have t1:decide (65536<(e.length:Int))=true:=dT (by omega);have He:=hid (show (⟨#[]⟩,3)=rv by rw[Hrv.o,if_pos h65]);clear h65;go_wp2;refine bodyPost_ret (results_tmp2 rfl _ _ _) rfl ?_;exact ⟨vL He.o,HB.o⟩
  ·have t1:decide (65536<(e.length:Int))=false:=dF (by omega);have He:=hid (show (⟨e.toArray⟩,0)=rv by rw[Hrv.o,if_neg h65]);clear h65;go_wp2;refine bodyPost_ret (results_tmp2 rfl _ _ _) rfl ?_;exact ⟨vL He.o,HB.o⟩
theorem Ds (w:World) (V:Value) (ms:List NdM) (h:Nds w V ms) (hg:Glob w):
 Calls Tryz.prog 34 #[V] w fun r w'=>r= .returned (.int .i64 (eK (nds ms)).2)/\Below w.heap.size w w':=by
 have He:=hid (Dr w V ms h hg);generalize eK (nds ms)=e at*;obtain ⟨e1,e2⟩:=e;clear h hg;go_enter Tryz.func34,Tryz.ntmps34
 go_wp2_with fail
 refine He.o.mono ?_;rintro r w1 ⟨rfl,hb⟩;have Hb:=hid hb;clear hb He;go_wp2;go_ret;exact ⟨rfl,Hb.o⟩
theorem cX {ns:List Nd} {m:Nd} {key:ByteArray} {k:Nat} (h:bz ns m key=some k):bH ns m key= .ok (ns[k]!):=by
 unfold bH bC;rw[h];rfl
theorem cY {ns:List Nd} {m:Nd} {key:ByteArray} (h:bz ns m key=none):bH ns m key= .error (m.line,122):=by
 unfold bH bC;rw[h];rfl
theorem oW {ns:List Nd}:∀{l:List Int} {last:Int} {had:List ByteArray},dw ns 2 l last had=true->
 (∀a∈l,¬(ns[a.toNat]!).key∈had)/\l.Pairwise (fun a b=>(ns[a.toNat]!).key≠(ns[b.toNat]!).key)
 |[],_,_,_=>⟨(fun _ h=>nomatch h),List.Pairwise.nil⟩
 |k::r,last,had,h=>by
  unfold dw at h
  split at h
  ·cases h
  ·split at h
   ·cases h
   ·rename_i h1 h2
    obtain ⟨h3,h4⟩:=oW h;have h5:¬(ns[k.toNat]!).key∈had:=fun hm=>h2 (by unfold g8;rw[dT (show (2:Int)=2/\(ns[k.toNat]!).key∈had from ⟨rfl,hm⟩)];simp);refine ⟨fun a ha=> ?_,List.Pairwise.cons (fun a ha he=> ?_) h4⟩
    ·rcases List.mem_cons.1 ha with rfl|ha
     ·exact h5
     ·exact fun hm=>h3 a ha (List.mem_cons_of_mem _ hm)
    ·exact h3 a ha (by rw[<-he];exact List.mem_cons_self ..)
theorem jD {ns:List Nd} {m:Nd} {key:ByteArray} {x:Nat} (h:bz ns m key=some x):∃z∈m.kids,z.toNat=x/\(ns[z.toNat]!).key=key:=by
 unfold bz at h;cases hf:m.kids.find? (fun k=>decide ((ns[k.toNat]!).key=key)) with
 |none=>rw[hf]at h;cases h
 |some z=>
  rw[hf]at h;refine ⟨z,List.mem_of_find?_eq_some hf,by simpa using h,?_⟩;have:=List.find?_some hf
  simpa using this
structure MapOk (ns:List Nd) (m:Nd):Prop where
 up:m.kids.Pairwise (· <·)
 low:∀z∈m.kids,0<=z/\z<(ns.length:Int)
 keys:m.kind=2->m.kids.Pairwise (fun a b=>(ns[a.toNat]!).key≠(ns[b.toNat]!).key)
theorem Cz {ns:List Nd} {i:Nat} (h:jd ns i (ns[i]!)=true):MapOk ns (ns[i]!):=by
 unfold jd at h
 split at h
 ·cases h
 ·rename_i h0
  split at h
  ·cases h
  ·rename_i h1
   split at h
   ·cases h
   ·rename_i h2
    by_cases hk:(ns[i]!).kind=1
    ·have hs:dd (ns[i]!)=true:=Decidable.not_not.1 fun hh=>h1 ⟨hk,hh⟩;have e:=mT hs;exact ⟨(by rw[e];exact List.Pairwise.nil),(by rw[e];exact fun z hz=>nomatch hz),(fun _=>by rw[e];exact List.Pairwise.nil)⟩
    ·have hR:dw ns (ns[i]!).kind (ns[i]!).kids (i:Int) []=true:=Decidable.not_not.1 fun hh=>h2 ⟨by omega,.inr (.inr (.inr hh))⟩;obtain ⟨s1,s2⟩:=fq hR;exact ⟨s2,fun z hz=>⟨by have:=(s1 z hz).1;omega,(s1 z hz).2⟩,fun h2k=>(oW (by rw[h2k]at hR;exact hR)).2⟩
def yj (s:ByteArray):ByteArray:=⟨(s.data.toList.map bO).toArray⟩
def Pan (e:Stop):Ending:= .panicked [{v:= .iface 76 (.agg #[.int .i64 e.1,.int .i64 e.2]),recovered:=false}]
theorem iu (w:World) (l e:Int):Calls Tryz.prog 40 #[.int .i64 l,.int .i64 e] w fun r w'=>r=Pan (l,e)/\w'=w:=by
 go_enter Tryz.func40,Tryz.ntmps40;go_wp2;exact ⟨rfl,rfl,rfl⟩
structure DocM (w:World) (db b o cap:Nat) (ms:List NdM):Prop where
 nod:Nds w (.slice (some ⟨b,o,none⟩) ms.length cap) ms
 blt:b<w.heap.size
 doc:w.heap[db]? =some (.cells #[.slice (some ⟨b,o,none⟩) ms.length cap] 79 (0,0))
 tree:dI (nds ms)=true
theorem DocM.later {w w2:World} {db b o cap:Nat} {ms:List NdM} (h:DocM w db b o cap ms) (hb:Below w.heap.size w w2):DocM w2 db b o cap ms:=
 ⟨h.nod.later hb,Nat.lt_of_lt_of_le h.blt hb.size,(hb.block _ (ag h.doc)).trans h.doc,h.tree⟩
theorem DocM.at {w:World} {db b o cap:Nat} {ms:List NdM} (h:DocM w db b o cap ms) {i:Nat} {m:NdM} (hm:ms[i]? =some m):NdAt w b (o+i*6) m/\m.Ok w:=by
 obtain ⟨ao,cap',hv,hl,hat⟩:=h.nod.open;have h0:0<ms.length:=by have:=(aAh hm).1;omega
 obtain ⟨b',o',rfl,hlt,hat⟩:=hat h0;simp only[Value.slice.injEq,Option.some.injEq,Addr.mk.injEq,and_true,true_and]at hv;obtain ⟨⟨rfl,rfl⟩,rfl⟩:=hv;exact hat i m hm
theorem DocM.ok {w:World} {db b o cap:Nat} {ms:List NdM} (h:DocM w db b o cap ms) {m:NdM} (hm:m∈ms):m.Ok w:=h.nod.each m hm
theorem DocM.mapOk {w:World} {db b o cap:Nat} {ms:List NdM} (h:DocM w db b o cap ms) {m:NdM} (hm:m∈ms):MapOk (nds ms) m.nd:=by
 obtain ⟨i,hi,e⟩:=List.getElem_of_mem hm;have h2:ms[i]? =some m:=by rw[aAg hi,e]
 obtain ⟨_,hg⟩:=(iz _).1 h.tree;have:=Cz (hg.node i (by rw[bt];exact hi));rw[eS h2]at this;exact this
theorem DocM.kid {w:World} {db b o cap:Nat} {ms:List NdM} (h:DocM w db b o cap ms) {m:NdM} (hm:m∈ms) {x:Int} (hx:x∈m.nd.kids):∃(k:Nat) (mk:NdM),x=(k:Int)/\ms[k]? =some mk/\mk∈ms:=by
 obtain ⟨h1,h2⟩:=(h.mapOk hm).low x hx;rw[bt]at h2;obtain ⟨mk,hmk⟩:∃mk,ms[x.toNat]? =some mk:=au (by omega);exact ⟨x.toNat,mk,by omega,hmk,List.mem_of_getElem? hmk⟩
def eg (b o:Nat) (x:Option Nat):Value:= .pointer (x.map fun k=>⟨b,o+k*6,none⟩)
def jC (ns:List Nd) (l:List Int) (key:ByteArray):Option Nat:=(l.find? fun k=>decide ((ns[k.toNat]!).key=key)).map Int.toNat
theorem ur (ns:List Nd) (m:Nd) (key:ByteArray):bz ns m key=jC ns m.kids key:=rfl
theorem Am {ns:List Nd} {k:Nat} {r:List Int} {key:ByteArray} (h:(ns[k]!).key=key):jC ns ((k:Int)::r) key=some k:=by
 unfold jC;rw[List.find?_cons_of_pos (by simpa using h)];simp
theorem Dd {ns:List Nd} {k:Nat} {r:List Int} {key:ByteArray} (h:¬(ns[k]!).key=key):jC ns ((k:Int)::r) key=jC ns r key:=by
 unfold jC;rw[List.find?_cons_of_neg (by simpa using h)]
theorem fC {α:Type} {l:List α} {j:Nat} {x:α} (h:l[j]? =some x):l.drop j=x::l.drop (j+1):=by
 obtain ⟨hlt,he⟩:=aAh h;rw[List.drop_eq_getElem_cons hlt,he]
theorem j2 (w:World) (db b o cap:Nat) (ms:List NdM) (h:DocM w db b o cap ms) (m:NdM) (hm:m∈ms) (key:ByteArray):
 Calls Tryz.prog 43 #[.pointer (some ⟨db,0,none⟩),m.v,.string key] w fun r w'=>r= .returned (eg b o (bz (nds ms) m.nd key))/\Below w.heap.size w w':=by
 have hok:=h.ok hm;obtain ⟨ao2,c2,hkv,hl2,hks⟩:=aF hok.kids;obtain ⟨q,hq⟩:=ex (m.nd.kids.length);rw[<-hq]at hkv hl2 hks;have HD:=hid h;obtain ⟨n,hn⟩:=ex (ms.length);have hdoc:=h.doc;rw[<-hn]at hdoc;have d0:∀ob,(w.alloc ob).cell? ⟨db,0,none⟩=some (.slice (some ⟨b,o,none⟩) n cap):=fun ob=>(World.cell?_of_block (aj ob (ag hdoc))).trans (af hdoc 0);have Hkid:=hid (fun j (hj:j<q)=>show ∃(k:Nat) (mk:NdM),m.nd.kids[j]? =some (k:Int)/\ms[k]? =some mk/\k<n from by
  obtain ⟨x,hx⟩:∃x,m.nd.kids[j]? =some x:=au (by omega);obtain ⟨k,mk,e,hk,_⟩:=h.kid hm (List.mem_of_getElem? hx);exact ⟨k,mk,by rw[hx,e],hk,by rw[hn];exact (aAh hk).1⟩)
 have Hks:=hid hks;have Hq:=hid hq;have Hl2:=hid hl2;have hv:m.v= .agg #[.int .i64 m.nd.kind,.string m.nd.key,.string m.nd.text,.bool m.nd.quoted,.int .i64 m.nd.line,.slice ao2 q c2]:=by unfold NdM.v;rw[hkv]
 rw[hv,ur];have Hbn:=hid (fun o=>(aAb w.heap.size w).alloc (aAa _) o);obtain ⟨kind,hkind⟩:=ex (m.nd.kind);rw[<-hkind];clear h hm hok hkv hq hks hl2 hn hdoc hv hkind;go_enter Tryz.func43,Tryz.ntmps43;go_wp2
 go_loopw [12] (fun vi wr=>∃j:Nat,vi= .int .i64 (j:Int)/\(w.alloc (.cells #[.int .i64 kind,.string m.nd.key,.string m.nd.text,.bool m.nd.quoted,.int .i64 m.nd.line,.slice ao2 q c2] 55))=wr/\Hid (j<=q/\jC (nds ms) m.nd.kids key=jC (nds ms) (m.nd.kids.drop j) key)) (fun vi _=>q-(intOf vi).toNat)
 case atStart=>exact ⟨0,rfl,rfl,hid ⟨Nat.zero_le _,rfl⟩⟩
 case round=>
  obtain ⟨j,rfl,rfl,H⟩:=hrel;by_cases hj:j<q
  ·have tj:decide (j<q)=true:=dT hj;have bj:(j:Int)<(q:Int):=by omega
   obtain ⟨k,mk,hx,hk,hkn⟩:=Hkid.o j hj;obtain ⟨b2,o2,rfl,hb2,hc⟩:=Hks.o (by omega);have x1:∀ob,(w.alloc ob).cell? ⟨b2,o2+j,none⟩=some (.int .i64 (k:Int)):=fun ob=>(World.cell?_of_block (aj ob hb2)).trans (hc j _ hx);have y1:∀ob,(w.alloc ob).cell? ⟨b,o+k*6+1,none⟩=some (.string mk.nd.key):=fun ob=>(World.cell?_of_block (aj ob HD.o.blt)).trans (HD.o.at hk).1.c1;have bk:(k:Int)<(n:Int):=by omega
   have hst:=H.o.2;rw[fC hx]at hst;have hkd:=eS hk;by_cases e:mk.nd.key=key
   ·have te:=Bw e;rw[Am (by rw[hkd];exact e)]at hst;have Hst:=hid hst;clear hst hkd hk hx hc hb2 H Hkid Hks hj hkn e HD;go_wp2;go_ret;exact ⟨by rw[Hst.o];rfl,Hbn.o _⟩
   ·have te:=EE e;rw[Dd (by rw[hkd];exact e)]at hst;have Hst:=hid (show j+1<=q/\jC (nds ms) m.nd.kids key=jC (nds ms) (m.nd.kids.drop (j+1)) key from ⟨hj,hst⟩);obtain ⟨Hms,Hgo⟩:=aM (k:=j) (n:=q) hj (by have:=Hl2.o;omega);clear hst hkd hk hx hc hb2 H Hkid Hks hj hkn e HD;go_wp2;go_roundw
    case rel=>exact ⟨j+1,Hgo.o,trivial,Hst⟩
    case measure=>exact Hms.o
  ·have tj:decide (j<q)=false:=dF hj;have Hst:=hid (show jC (nds ms) m.nd.kids key=none from by
    rw[H.o.2,List.drop_eq_nil_of_le (by have:=Hq.o;omega)];rfl)
   clear H Hkid Hks hj HD;go_wp2;go_ret;exact ⟨by rw[Hst.o];rfl,Hbn.o _⟩
def kQ (c:Array Value) (o:Nat):List Value->Array Value
 |[]=>c
 |v::r=>kQ (c.setIfInBounds o v) (o+1) r
theorem kX {b:Nat} {t:TypeId}:∀(vs:List Value) (o:Nat) (w:World) (c:Array Value),w.heap[b]? =some (.cells c t (0,0))->(w.setCells b o vs).heap[b]? =some (.cells (kQ c o vs) t (0,0))
 |[],_,_,_,h=>h
 |v::r,o,w,c,h=>by
  rw[World.setCells];exact kX r (o+1) _ _ (aE h o v)
theorem mL:∀(new old pre post:List Value),old.length=new.length->kQ (pre++old++post).toArray pre.length new=(pre++new++post).toArray
 |[],[],pre,post,_=>rfl
 |[],_::_,_,_,h=>by cases h
 |_::_,[],_,_,h=>by cases h
 |v::r,u::o,pre,post,h=>by
  have h1:((pre++u::o++post).toArray).setIfInBounds pre.length v=((pre++[v])++o++post).toArray:=by
   rw[List.setIfInBounds_toArray];congr 1;simp
  have h2:=mL r o (pre++[v]) post (by simpa using h);rw[kQ,h1];rw[aAc,List.length_singleton]at h2;rw[h2];simp
theorem sF {old new:List Value} (h:old.length=new.length):kQ old.toArray 0 new=new.toArray:=by
 have:=mL new old [] [] h
 simpa using this
theorem ln {F:Nat->Prop} {a:World} {pe:Nat} (hF:pe<a.heap.size->F pe):∀(vs:List Value) (o:Nat) (b:World),Mod F a b->Mod F a (b.setCells pe o vs)
 |[],_,_,h=>h
 |v::r,o,b,h=>by
  rw[World.setCells];exact ln hF r (o+1) _ (h.setCell ⟨pe,o,none⟩ v hF)
theorem gA {w:World} {b:Nat} {t:TypeId} {l:List Value} (h:w.heap[b]? =some (.cells l.toArray t (0,0))):w.rangeAt b 0 l:=fun j v hv=>by
 rw[af h (0+j),Nat.zero_add]
 simpa using hv
theorem rz {fn:Func} {w:World} {b t:Nat} {m:NdM} {tmps:Array Value} (h:fn.results=#[.cell t 55]) (h2:tmps[t]? =some (.pointer (some ⟨b,0,none⟩))) (hb:w.heap[b]? =some (NdO m)):
 (results fn tmps).run Tryz.prog w= .ok m.v w:=by
 have hl:=run_loadVar_mid (P:= Tryz.prog) w b 0 55 m.cells _ (gA hb) Tryz.underlying55 rfl (show (Tryz.prog.info? 55).map (·.size)=some 6 by kernel_rfl);rw[Array.getElem?_eq_some_iff]at h2;obtain ⟨l2,e2⟩:=h2;simp[results,h,asAddr,Array.getD,l2,e2,hl];rfl
theorem xo (w:World) (m:NdM) (hm:m.Ok w):
 Calls Tryz.prog 36 #[m.v] w fun r w'=>(match dt m.nd with| .ok _=>r= .returned (.tuple #[])| .error e=>r=Pan e)/\Below w.heap.size w w':=by
 obtain ⟨ao,c,hkv,_⟩:=gQ hm.kids;obtain ⟨⟨kind,key,text,quoted,line,kids⟩,kv⟩:=m;simp only at hkv;subst hkv;unfold NdM.v dt;simp only;generalize kids.length=n at*;have Hb0:=hid (fun o=>(aAb w.heap.size w).alloc (aAa _) o);clear hm;by_cases hk:kind=2
 ·have t1:(kind==2)=true:=by rw[beq_iff_eq];exact hk
  rw[if_neg (fun q=>q hk)];clear hk;go_enter Tryz.func36,Tryz.ntmps36;go_wp2
  first|go_end0|refine bodyPost_ret (results_none rfl _ _ _) rfl ?_
  exact ⟨rfl,Hb0.o _⟩
 ·have t1:(kind==2)=false:=by rw[beq_eq_false_iff_ne];exact hk
  rw[if_pos hk];have Hf:=hid (fun w1=>iu w1 line 123);have p1:¬kind=2:=hk;clear hk;go_enter Tryz.func36,Tryz.ntmps36
  go_wp2_with fail
  refine (Hf.o _).mono ?_;rintro r w1 ⟨rfl,rfl⟩;exact ⟨rfl,rfl,Hb0.o _⟩
def kP (F:FuncId):Prop:=∀(args:Array Value) (w:World),(callFunc F args).run Tryz.prog w= .ok (.enter F args) w
theorem gC {F:FuncId} {fn:Func} (hf: Tryz.prog.funcs[F]? =some fn) (hname:(fn.name=="runtime.NumGoroutine")=false) (hb:fn.body.isNone=false):kP F:=by
 intro args w;have h1:fn.name≠"runtime.NumGoroutine":=by simpa using hname
 have h3:¬fn.body=none:=by intro h;simp[h]at hb
 simp[callFunc,hf,h1,h3]
theorem kN (w:World) (o o':Obj):((w.alloc o).alloc o').heap[w.heap.size+1]? =some o':=by
 have h:=ah (w:=w.alloc o) o';have e:(w.alloc o).heap.size=w.heap.size+1:=by simp
 rw[e]at h;exact h
theorem od (w:World) (m:NdM) (hm:m.Ok w) (F:FuncId) (hF:kP F) (so:ByteArray->Bool) (hso:∀w1,Below w.heap.size w w1->Calls Tryz.prog F #[.string m.nd.text] w1 fun r w'=>r= .returned (.bool (so m.nd.text))/\Below w1.heap.size w1 w'):
 Calls Tryz.prog 41 #[m.v,.func (.func F) #[] #[]] w fun r w'=>(match aS m.nd so with| .ok s=>r= .returned (.string s)| .error e=>r=Pan e)/\Below w.heap.size w w':=by
 obtain ⟨ao,c,hkv,_⟩:=gQ hm.kids;obtain ⟨⟨kind,key,text,quoted,line,kids⟩,kv⟩:=m;simp only at hkv hso;subst hkv;unfold NdM.v aS;simp only;generalize kids.length=n at*;have Hb0:=hid (fun o=>(aAb w.heap.size w).alloc (aAa _) o);have Hs:=hid hso;have Hf:=hid (fun w1=>iu w1 line 123);have hFx:∀(args:Array Value) (w:World),(callFunc F args).run Tryz.prog w= .ok (.enter F args) w:=hF
 clear hm hso hF;by_cases hk:kind=1
 ·have t1:(kind==1)=true:=by rw[beq_iff_eq];exact hk
  generalize so text=sb at*;cases sb with
  |true=>
   rw[if_neg (by simp[hk])];clear Hf t1;subst hk;go_enter Tryz.func41,Tryz.ntmps41
   go_wp2_with fail
   have hb0:=Hb0.o (.cells #[.int .i64 1,.string key,.string text,.bool quoted,.int .i64 line,.slice ao n c] 55);refine (Hs.o _ hb0).mono ?_;rintro r w1 ⟨rfl,hb⟩;have D2:=(hb.cell (p:=⟨w.heap.size,2,none⟩) (by simp)).trans (af (ah _) 2);simp at D2;have Hb:=hid (hb0.trans (hb.mono hb0.size));clear hb Hs hb0;go_wp2;go_ret;exact ⟨rfl,Hb.o⟩
  |false=>
   rw[if_pos (by simp)];clear t1;subst hk;go_enter Tryz.func41,Tryz.ntmps41
   go_wp2_with fail
   have hb0:=Hb0.o (.cells #[.int .i64 1,.string key,.string text,.bool quoted,.int .i64 line,.slice ao n c] 55);refine (Hs.o _ hb0).mono ?_;rintro r w1 ⟨rfl,hb⟩;have D4:=(hb.cell (p:=⟨w.heap.size,4,none⟩) (by simp)).trans (af (ah _) 4);simp at D4;have Hb:=hid (hb0.trans (hb.mono hb0.size));clear hb Hs hb0
   go_wp2_with fail
   refine (Hf.o _).mono ?_;rintro r w1 ⟨rfl,rfl⟩;exact ⟨rfl,rfl,Hb.o⟩
 ·have t1:(kind==1)=false:=by rw[beq_eq_false_iff_ne];exact hk
  have p1:¬kind=1:=hk;rw[if_pos (.inl hk)];clear hk Hs;go_enter Tryz.func41,Tryz.ntmps41
  go_wp2_with fail
  refine (Hf.o _).mono ?_;rintro r w1 ⟨rfl,rfl⟩;exact ⟨rfl,rfl,Hb0.o _⟩
theorem oN {m:NdM} {ao:Option Addr} {q c:Nat} (h:m.kv= .slice ao q c):NdO m= .cells #[.int .i64 m.nd.kind,.string m.nd.key,.string m.nd.text,.bool m.nd.quoted,.int .i64 m.nd.line,.slice ao q c] 55 :=by unfold NdO;rw[h]
theorem aZ {m:NdM} {ao:Option Addr} {q c:Nat} (h:m.kv= .slice ao q c):m.v= .agg #[.int .i64 m.nd.kind,.string m.nd.key,.string m.nd.text,.bool m.nd.quoted,.int .i64 m.nd.line,.slice ao q c]:=by unfold NdM.v;rw[h]
theorem zK {w w2:World} {g T:Nat} (hb:Below w.heap.size w w2) {c:Array Value} {l:List Value} (h:w2.heap[g]? =some (.cells c T (0,0))) (hg:w.heap.size<=g) (hl:c.toList.length=l.length):
 Below w.heap.size w (w2.setCells g 0 l)/\(w2.setCells g 0 l).heap[g]? =some (.cells l.toArray T (0,0)):=by
 refine ⟨hb.trans ((ln (F:=fun q=>q=g) (fun _=>rfl) l 0 _ (Mod.refl _ w2)).below hb.size (fun k hk=>by rw[hk];exact hg)),?_⟩;rw[kX l 0 w2 c h,<-sF hl]
theorem il (w:World) (db b o cap:Nat) (ms:List NdM) (h:DocM w db b o cap ms) (m:NdM) (hm:m∈ms) (key:ByteArray):
 Calls Tryz.prog 37 #[.pointer (some ⟨db,0,none⟩),m.v,.string key] w fun r w'=>(match bz (nds ms) m.nd key with|some k=>∃mk,ms[k]? =some mk/\r= .returned mk.v|none=>r=Pan (m.nd.line,122))/\Below w.heap.size w w':=by
 have hok:=h.ok hm;obtain ⟨ao2,c2,hkv,_,_⟩:=aF hok.kids;obtain ⟨q,hq⟩:=ex (m.nd.kids.length);rw[<-hq]at hkv;have Hf:=hid (fun w1 (hb1:Below w.heap.size w w1)=>j2 w1 db b o cap ms (h.later hb1) m hm key);have hv:=aZ hkv;rw[hv]at Hf |-;have Hfail:=hid (fun w1=>iu w1 m.nd.line 122);have Hb0:=hid (fun o o'=>show Below w.heap.size w ((w.alloc o).alloc o') from ((aAb w.heap.size w).alloc (aAa _) o).alloc (by simp) o')
 have HD:=hid h;have hN:∀k,bz (nds ms) m.nd key=some k->∃mk,ms[k]? =some mk:=fun k hk=>by
  obtain ⟨z,hz,e,_⟩:=jD hk;obtain ⟨k',mk,e2,hk',_⟩:=h.kid hm hz;exact ⟨mk,by rw[<-e,e2];simpa using hk'⟩
 have HN:=hid hN;clear h hm hok hkv hq hv hN;cases hfn:bz (nds ms) m.nd key with
 |none=>
  rw[hfn]at Hf;simp only;have hfa:eg b o none= .pointer none:=rfl;rw[hfa]at Hf;clear HN hfn hfa HD;go_enter Tryz.func37,Tryz.ntmps37
  go_wp2_with fail
  have hb0:=Hb0.o (.cells #[.int .i64 m.nd.kind,.string m.nd.key,.string m.nd.text,.bool m.nd.quoted,.int .i64 m.nd.line,.slice ao2 q c2] 55) (.cells #[.int .i64 0,.string ⟨#[]⟩,.string ⟨#[]⟩,.bool false,.int .i64 0,.slice none 0 0] 55);refine (Hf.o _ hb0).mono ?_;rintro r w1 ⟨rfl,hb⟩;have D4:=(hb.cell (p:=⟨w.heap.size,4,none⟩) (by simp;omega)).trans ((World.cell?_of_block (aj _ (by simp))).trans (af (ah _) 4))
  simp at D4;have Hb:=hid (hb0.trans (hb.mono hb0.size));clear hb Hf hb0 Hb0
  go_wp2_with fail
  refine (Hfail.o _).mono ?_;rintro r w2 ⟨rfl,rfl⟩;exact ⟨rfl,rfl,Hb.o⟩
 |some k=>
  obtain ⟨mk,hmk⟩:=HN.o k hfn;rw[hfn]at Hf;simp only;have hfa:eg b o (some k)= .pointer (some ⟨b,o+k*6,none⟩):=rfl;rw[hfa]at Hf;have hk:=(HD.o.at hmk).1;have hokk:=(HD.o.at hmk).2;obtain ⟨ao3,c3,hkv3,_,_⟩:=aF hokk.kids;obtain ⟨q3,hq3⟩:=ex (mk.nd.kids.length);rw[<-hq3]at hkv3;have Hmk:=hid hmk;have Hk:=hid hk;have Hlt:=hid HD.o.blt;have Hkv3:=hid hkv3;clear HN hfn hfa HD hmk hk hokk hq3 hkv3
  go_enter Tryz.func37,Tryz.ntmps37
  go_wp2_with fail
  have hb0:=Hb0.o (.cells #[.int .i64 m.nd.kind,.string m.nd.key,.string m.nd.text,.bool m.nd.quoted,.int .i64 m.nd.line,.slice ao2 q c2] 55) (.cells #[.int .i64 0,.string ⟨#[]⟩,.string ⟨#[]⟩,.bool false,.int .i64 0,.slice none 0 0] 55);refine (Hf.o _ hb0).mono ?_;rintro r w1 ⟨rfl,hb⟩;have Hb:=hb0.trans (hb.mono hb0.size);have hres:=(hb.block (w.heap.size+1) (by simp)).trans (kN _ _ _)
  have x0:=(Hb.cell (p:=⟨b,o+k*6,none⟩) Hlt.o).trans Hk.o.c0;have x1:=(Hb.cell (p:=⟨b,o+k*6+1,none⟩) Hlt.o).trans Hk.o.c1;have x2:=(Hb.cell (p:=⟨b,o+k*6+2,none⟩) Hlt.o).trans Hk.o.c2;have x3:=(Hb.cell (p:=⟨b,o+k*6+3,none⟩) Hlt.o).trans Hk.o.c3;have x4:=(Hb.cell (p:=⟨b,o+k*6+4,none⟩) Hlt.o).trans Hk.o.c4;have x5:=(Hb.cell (p:=⟨b,o+k*6+5,none⟩) Hlt.o).trans Hk.o.c5;rw[Hkv3.o]at x5
  obtain ⟨r0,r1,r2,r3,r4,r5⟩:=cB6 hres;simp at r0 r1 r2 r3 r4 r5;have f0:=ai hres 0;have f1:=ai hres 1;have f2:=ai hres 2;have f3:=ai hres 3;have f4:=ai hres 4;have f5:=ai hres 5;have HE:=hid (zK Hb (l:=[.int .i64 mk.nd.kind,.string mk.nd.key,.string mk.nd.text,.bool mk.nd.quoted,.int .i64 mk.nd.line,.slice ao3 q3 c3]) hres (by omega) rfl);clear hb Hf hb0 Hb0 hres Hb
  go_wp2;refine bodyPost_ret (rz (m:=mk) (b:=w.heap.size+1) rfl rfl ?_) rfl ?_
  ·exact HE.o.2.trans (by rw[oN Hkv3.o])
  ·exact ⟨⟨mk,Hmk.o,rfl⟩,HE.o.1⟩
theorem qF {w:World} {ops:Array Oper} {rest:List Oper} {o:Oper} {a:Act} {Q:Exit->Act->World->Prop} (e sl:TypeId) (z:Value) (size nb:Nat) (hsl: Tryz.prog.underlying sl=some (.slice e))
 (hinf:(Tryz.prog.info? e).map (fun i=>(i.zero,i.size,i.bytes))=some (some z,size,nb)) (hzs:z.cells.size=size) (hsz:0<size) (hnb:nb<=1000) (hgd:o.guard=none) (s x:Operand)
 (ho:o.op= .call {callee:= .builtin .append,args:=#[s,x],argTypes:=#[sl,sl]})
 (v:Value) (n:Nat) (xs:List Value) (hs:a.eval s=v) (hown:w.ownsRow 0 e size v n xs) (g:Nat) (arr:Array Value) (news:List Value) (hx:a.eval x= .slice (some ⟨g,0,none⟩) 1 1)
 (hnew:w.heap[g]? =some (.cells arr e (0,0))) (harr:arr.toList=news) (hl:news.length=size) (h1:∀u∈news,u.oneCell'=true) (hlen:n<=1000000) (q:Nat) (hq:q=n+1)
 (h:∀ao' c' w',w'.ownsRow 0 e size (.slice ao' q c') q (xs++news)->w.grownBy w' v.ownBlock->(∀g,(Value.slice ao' q c').ownBlock=some g->v.ownBlock=some g\/w.heap.size<=g)->
  wpList Tryz.prog ops Q rest (a.put o.dst (.slice ao' q c')) w'):wpList Tryz.prog ops Q (o::rest) a w:=by
 refine dH hgd s x sl ho e z size nb hsl hinf hzs hsz v n xs hs hown (some ⟨g,0,none⟩) 1 1 news hx (by omega) (fun hn=>by cases hn) (fun ad had=> ?_) h1 (by unfold maxLen;omega) ?_ q hq h
 ·obtain rfl:=aAf had;intro j u hj;have e2:Addr.add ⟨g,0,none⟩ j=⟨g,j,none⟩:=by
   simp[Addr.add];exact fun h=>h.symm
  rw[e2,af hnew,<-Array.getElem?_toList,harr];exact hj
 ·have h3:(n+1)*nb<=1000001*1000:=Nat.mul_le_mul (by omega) hnb;omega
theorem rj {w:World} {ops:Array Oper} {o:Oper} {a:Act} {K:Act->World->Prop} {Q:Exit->Act->World->Prop} {E:Prop} (e sl:TypeId) (z:Value) (size nb:Nat) (hsl: Tryz.prog.underlying sl=some (.slice e))
 (hinf:(Tryz.prog.info? e).map (fun i=>(i.zero,i.size,i.bytes))=some (some z,size,nb)) (hzs:z.cells.size=size) (hsz:0<size) (hnb:nb<=1000) (hgd:o.guard=none) (s x:Operand)
 (ho:o.op= .call {callee:= .builtin .append,args:=#[s,x],argTypes:=#[sl,sl]})
 (v:Value) (n:Nat) (xs:List Value) (hs:a.eval s=v) (hown:w.ownsRow 0 e size v n xs) (g:Nat) (arr:Array Value) (news:List Value) (hx:a.eval x= .slice (some ⟨g,0,none⟩) 1 1)
 (hnew:w.heap[g]? =some (.cells arr e (0,0))) (harr:arr.toList=news) (hl:news.length=size) (h1:∀u∈news,u.oneCell'=true) (hlen:n<=1000000) (q:Nat) (hq:q=n+1)
 (h:∀ao' c' w',w'.ownsRow 0 e size (.slice ao' q c') q (xs++news)->w.grownBy w' v.ownBlock->(∀g,(Value.slice ao' q c').ownBlock=some g->v.ownBlock=some g\/w.heap.size<=g)->
  K (a.put o.dst (.slice ao' q c')) w'):if Region.wanted o (yielded ops a.tmps)=true then Oper.wp Tryz.prog o a w K Q else E:=by
 obtain ⟨i,hi,hz,hsize,hby⟩:=info_parts hinf;subst hq;refine gI w hgd s x sl ho e i z size nb hsl hi hz hsize hby hzs hsz v n xs hs hown (some ⟨g,0,none⟩) 1 1 news hx (by omega) (fun hn=>by cases hn) (fun ad had=> ?_) h1 (by unfold maxLen;omega) ?_ ?_
 ·obtain rfl:=aAf had;intro j u hj;have e2:Addr.add ⟨g,0,none⟩ j=⟨g,j,none⟩:=by
   simp[Addr.add];exact fun h=>h.symm
  rw[e2,af hnew,<-Array.getElem?_toList,harr];exact hj
 ·have h3:(n+1)*nb<=1000001*1000:=Nat.mul_le_mul (by omega) hnb;omega
 ·intro v' w' h1 h2 h3;have hf:∃ao' c',v'= .slice ao' (n+1) c':=by
   rcases h1.2 with ⟨hv,hn⟩|⟨g,cap,cur,hv,_⟩
   ·rw[hv,hn];exact ⟨none,0,rfl⟩
   ·exact ⟨_,_,hv⟩
  obtain ⟨ao',c',rfl⟩:=hf;exact h ao' c' w' h1 h2 h3
theorem iI:(Tryz.prog.info? 55).map (fun i=>(i.zero,i.size,i.bytes))=some (some (.agg #[.int .i64 0,.string ⟨#[]⟩,.string ⟨#[]⟩,.bool false,.int .i64 0,.slice none 0 0]),6,80):=by kernel_rfl
theorem pz {w:World} {kv:Value} {keys:List ByteArray} (hk:SlR w kv 1 keys aR) (x:ByteArray):
 Calls Tryz.prog 79 #[kv,.string x] w fun r w'=>r= .returned (.bool (decide (x∈keys)))/\w'=w:=by
 obtain ⟨ao,c,rfl,hl,hat⟩:=qs hk;rcases Nat.eq_zero_or_pos keys.length with h0|h0
 ·have e:=List.eq_nil_of_length_eq_zero h0;subst e;refine (Tryz.slices_Contains_string_empty ao c x w).mono ?_;rintro r w' ⟨hr,hw⟩;exact ⟨by rw[hr];rfl,hw⟩
 ·obtain ⟨b,o,rfl,_,hc⟩:=hat h0;refine (Tryz.slices_Contains_string b o keys.length c keys x w (aAa _) (by omega) (fun j hj=> ?_)).mono ?_
  ·have e:keys[j]? =some (keys.getD j ByteArray.empty):=by rw[List.getD_eq_getElem?_getD,aAg hj];rfl
   exact hc j _ e
  ·rintro r w' ⟨hr,hw⟩;refine ⟨?_,hw⟩;rw[hr,List.take_length];have e:Lib.containsS keys x=decide (x∈keys):=by
    by_cases hm:x∈keys
    ·rw[dT hm];exact (Lib.containsS_iff _ _).2 hm
    ·rw[dF hm];exact Bool.eq_false_iff.2 fun q=>hm ((Lib.containsS_iff _ _).1 q)
   rw[e]
theorem Cd {ns:List Nd} {keys:List ByteArray} {k:Nat} {r:List Int} (h:(ns[k]!).key∈keys):bG ns keys ((k:Int)::r)=bG ns keys r:=by
 rw[bG,Int.toNat_natCast,if_pos h]
theorem zF {ns:List Nd} {keys:List ByteArray} {k:Nat} {r:List Int} (h:¬(ns[k]!).key∈keys):bG ns keys ((k:Int)::r)= .error ((ns[k]!).line,121):=by
 rw[bG,Int.toNat_natCast,if_neg h]
def Ends (x:R Unit) (r:Ending):Prop:=match x with| .ok _=>r= .returned (.tuple #[])| .error e=>r=Pan e
theorem oI (w:World) (db b o cap:Nat) (ms:List NdM) (h:DocM w db b o cap ms) (m:NdM) (hm:m∈ms) (kv:Value) (keys:List ByteArray) (hkeys:SlR w kv 1 keys aR):
 Calls Tryz.prog 45 #[.pointer (some ⟨db,0,none⟩),m.v,kv] w fun r w'=>Ends (bG (nds ms) keys m.nd.kids) r/\Below w.heap.size w w':=by
 have hok:=h.ok hm;obtain ⟨ao2,c2,hkv,hl2,hks⟩:=aF hok.kids;obtain ⟨q,hq⟩:=ex (m.nd.kids.length);rw[<-hq]at hkv hl2 hks;have HD:=hid h;obtain ⟨n,hn⟩:=ex (ms.length);have hdoc:=h.doc;rw[<-hn]at hdoc;have d0:∀ob,(w.alloc ob).cell? ⟨db,0,none⟩=some (.slice (some ⟨b,o,none⟩) n cap):=fun ob=>(World.cell?_of_block (aj ob (ag hdoc))).trans (af hdoc 0);have Hkid:=hid (fun j (hj:j<q)=>show ∃(k:Nat) (mk:NdM),m.nd.kids[j]? =some (k:Int)/\ms[k]? =some mk/\k<n from by
  obtain ⟨x,hx⟩:∃x,m.nd.kids[j]? =some x:=au (by omega);obtain ⟨k,mk,e,hk,_⟩:=h.kid hm (List.mem_of_getElem? hx);exact ⟨k,mk,by rw[hx,e],hk,by rw[hn];exact (aAh hk).1⟩)
 have Hks:=hid hks;have Hq:=hid hq;have Hl2:=hid hl2;have Hbn:=hid (fun o=>(aAb w.heap.size w).alloc (aAa _) o);have Hin:=hid (fun ob x=>pz (w:=w.alloc ob) (hkeys.later ((aAb w.heap.size w).alloc (aAa _) ob)) x);have Hfail:=hid (fun w1 l=>iu w1 l 121);rw[aZ hkv];obtain ⟨kind,hkind⟩:=ex (m.nd.kind);rw[<-hkind];obtain ⟨res,hres⟩:=ex (bG (nds ms) keys m.nd.kids)
 rw[<-hres];have Hres:=hid hres;clear h hm hok hkv hq hks hl2 hn hdoc hkind hkeys hres;go_enter Tryz.func45,Tryz.ntmps45;go_wp2
 go_loopw [11] (fun vi wr=>∃j:Nat,vi= .int .i64 (j:Int)/\(w.alloc (.cells #[.int .i64 kind,.string m.nd.key,.string m.nd.text,.bool m.nd.quoted,.int .i64 m.nd.line,.slice ao2 q c2] 55))=wr/\Hid (j<=q/\res=bG (nds ms) keys (m.nd.kids.drop j))) (fun vi _=>q-(intOf vi).toNat)
 case atStart=>exact ⟨0,rfl,rfl,hid ⟨Nat.zero_le _,Hres.o⟩⟩
 case round=>
  obtain ⟨j,rfl,rfl,H⟩:=hrel;by_cases hj:j<q
  ·have tj:decide (j<q)=true:=dT hj;have bj:(j:Int)<(q:Int):=by omega
   obtain ⟨k,mk,hx,hk,hkn⟩:=Hkid.o j hj;obtain ⟨b2,o2,rfl,hb2,hc⟩:=Hks.o (by omega);have x1:∀ob,(w.alloc ob).cell? ⟨b2,o2+j,none⟩=some (.int .i64 (k:Int)):=fun ob=>(World.cell?_of_block (aj ob hb2)).trans (hc j _ hx);have y1:∀ob,(w.alloc ob).cell? ⟨b,o+k*6+1,none⟩=some (.string mk.nd.key):=fun ob=>(World.cell?_of_block (aj ob HD.o.blt)).trans (HD.o.at hk).1.c1;have y4:∀ob,(w.alloc ob).cell? ⟨b,o+k*6+4,none⟩=some (.int .i64 mk.nd.line):=fun ob=>(World.cell?_of_block (aj ob HD.o.blt)).trans (HD.o.at hk).1.c4
   have bk:(k:Int)<(n:Int):=by omega
   have hst:=H.o.2;rw[fC hx]at hst;have hkd:=eS hk;have Hi:=hid (fun ob=>Hin.o ob mk.nd.key);by_cases e:mk.nd.key∈keys
   ·rw[Cd (by rw[hkd];exact e)]at hst;rw[dT e]at Hi;have Hst:=hid (show j+1<=q/\res=bG (nds ms) keys (m.nd.kids.drop (j+1)) from ⟨hj,hst⟩);obtain ⟨Hms,Hgo⟩:=aM (k:=j) (n:=q) hj (by have:=Hl2.o;omega);clear hst hkd hk hx hc hb2 H Hkid Hks hj hkn e HD Hin
    go_wp2_with fail
    refine (Hi.o _).mono ?_;rintro r w1 ⟨rfl,rfl⟩;clear Hi;go_wp2;go_roundw
    case rel=>exact ⟨j+1,Hgo.o,trivial,Hst⟩
    case measure=>exact Hms.o
   ·rw[zF (by rw[hkd];exact e),hkd]at hst;rw[dF e]at Hi;have Hst:=hid hst;clear hst hkd hk hx hc hb2 H Hkid Hks hj hkn e HD Hin
    go_wp2_with fail
    refine (Hi.o _).mono ?_;rintro r w1 ⟨rfl,rfl⟩;clear Hi
    go_wp2_with fail
    refine (Hfail.o _ _).mono ?_;rintro r w1 ⟨rfl,rfl⟩;exact ⟨rfl,by rw[Hst.o];rfl,Hbn.o _⟩
  ·have tj:decide (j<q)=false:=dF hj;have Hst:=hid (show res= .ok () from by
    rw[H.o.2,List.drop_eq_nil_of_le (by have:=Hq.o;omega)];rfl)
   clear H Hkid Hks hj HD;go_wp2
   first|go_end0|refine bodyPost_ret (results_none rfl _ _ _) rfl ?_
   exact ⟨by rw[Hst.o];rfl,Hbn.o _⟩
