/-
Parts of a proof, one behind the other (laid dense by a program of mine: pack.py).
-/
import Derived.Test.YtfenoaeoedobmaaGreatDoorRd34
set_option linter.unusedVariables false
set_option linter.unusedSimpArgs false
set_option maxHeartbeats 4000000
set_option maxRecDepth 20000
namespace Go.Proofs.YtfenoaeoedobmaaGreatDoor
open Go Go.RowKit
def stV (st:St):Int×Int:=match st with|none=>(0,0)|some e=>e
def StOk (st:St):Prop:=∀e,st=some e→e.2≠0
theorem StOk.fail {st:St} (h:StOk st) {l c:Int} (hc:c≠0):StOk (failR st l c):=by
 cases st with
 |none=>intro e he;injection he with he;rw[←he];exact hc
 |some x=>exact h
structure DQ (w0 w:World) (db b o cap:Nat) (ms:List NdM) (st:St):Prop where
 nod:Nds w0 (.slice (some ⟨b,o,none⟩) ms.length cap) ms
 blt:b<w0.heap.size
 below:Below w0.heap.size w0 w
 dlo:w0.heap.size≤db
 doc:w.heap[db]? =some (.cells #[.slice (some ⟨b,o,none⟩) ms.length cap,.int .i64 (stV st).1,.int .i64 (stV st).2] 101 (0,0))
 ok:StOk st
 tree:treeP (nds ms)=true
 glob:Glob w0
theorem DQ.g {w0 w:World} {db b o cap:Nat} {ms:List NdM} {st:St} (h:DQ w0 w db b o cap ms st):Glob w:=h.glob.later h.below
theorem DQ.step {w0 w w2:World} {db b o cap:Nat} {ms:List NdM} {st:St} {F:Nat→Prop} (h:DQ w0 w db b o cap ms st) (hm:Mod F w w2) (h1:¬F db) (h2:∀k,F k→w0.heap.size≤k):DQ w0 w2 db b o cap ms st:=
 ⟨h.nod,h.blt,h.below.trans (hm.below h.below.size h2),h.dlo,hm.heap h.doc h1,h.ok,h.tree,h.glob⟩
theorem DQ.later {w0 w w2:World} {db b o cap:Nat} {ms:List NdM} {st:St} (h:DQ w0 w db b o cap ms st) (hb:Below w.heap.size w w2):DQ w0 w2 db b o cap ms st:=
 h.step (F:=fun _=>False) (mod_below hb) id (fun _ f=>f.elim)
theorem DQ.drewN {w0 w:World} {db b o cap:Nat} {ms:List NdM} {st:St} (h:DQ w0 w db b o cap ms st) (k:Nat):DQ w0 (w.drewN k) db b o cap ms st:=h.later (bdH (Below.refl _ _) k)
theorem DQ.at {w0 w:World} {db b o cap:Nat} {ms:List NdM} {st:St} (h:DQ w0 w db b o cap ms st) {k:Nat} {mk:NdM} (hk:ms[k]? =some mk):NdAt w b (o+k*6) mk∧mk.Ok w:=by
 obtain ⟨ao,cap',hv,hl,hat⟩:=(h.nod.later h.below).open;have h0:0<ms.length:=by have:=(List.getElem?_eq_some_iff.1 hk).1;omega
 obtain ⟨b',o',rfl,hlt,hat⟩:=hat h0;simp only[Value.slice.injEq,Option.some.injEq,Addr.mk.injEq,and_true,true_and]at hv;obtain ⟨⟨rfl,rfl⟩,rfl⟩:=hv;exact hat k mk hk
theorem DQ.mapOk {w0 w:World} {db b o cap:Nat} {ms:List NdM} {st:St} (h:DQ w0 w db b o cap ms st) {m:NdM} (hm:m∈ms):MapOk (nds ms) m.nd:=by
 obtain ⟨i,hi,e⟩:=List.getElem_of_mem hm;have h2:ms[i]? =some m:=by rw[List.getElem?_eq_getElem hi,e]
 obtain ⟨_,hg⟩:=(treeP_iff _).1 h.tree;have:=mapOk_of (hg.node i (by rw[nds_len];exact hi));rw[nds_at h2]at this;exact this
theorem DQ.set {w0 w w2:World} {db b o cap:Nat} {ms:List NdM} {st st2:St} (h:DQ w0 w db b o cap ms st) (hm:Mod (fun k=>k=db) w w2) (hd:w2.heap[db]? =some (.cells #[.slice (some ⟨b,o,none⟩) ms.length cap,.int .i64 (stV st2).1,.int .i64 (stV st2).2] 101 (0,0))) (hs:StOk st2):DQ w0 w2 db b o cap ms st2:=
 ⟨h.nod,h.blt,h.below.trans (hm.below h.below.size fun k hk=>by rw[hk];exact h.dlo),h.dlo,hd,hs,h.tree,h.glob⟩
def PostQ (w0 w:World) (db b o cap:Nat) (ms:List NdM) (st:St) (v:Value) (r:Ending) (w':World):Prop:=
 r= .returned v∧DQ w0 w' db b o cap ms st∧Mod (fun k=>k=db) w w'
theorem fail_r {w0 w:World} {db b o cap:Nat} {ms:List NdM} {st:St} (h:DQ w0 w db b o cap ms st) (l c:Int) (hc:c≠0):
 Calls Tryz.prog 55 #[.pointer (some ⟨db,0,none⟩),.int .i64 l,.int .i64 c] w (PostQ w0 w db b o cap ms (failR st l c) (.tuple #[])):=by
 have hd:=h.doc;have d1:=cell_blk hd 1;have d2:=cell_blk hd 2;have f:=fun j=>frozen_blk hd j;simp at d1 d2;have H:=hid h;cases st with
 |none=>
  have hE:PostQ w0 w db b o cap ms (failR none l c) (.tuple #[]) (.returned (.tuple #[])) ((w.setCell ⟨db,1,none⟩ (.int .i64 l)).setCell ⟨db,2,none⟩ (.int .i64 c)):=by
   have m1:Mod (fun k=>k=db) w (w.setCell ⟨db,1,none⟩ (.int .i64 l)):=(Mod.refl _ _).setCell _ _ (fun _=>rfl);have m2:Mod (fun k=>k=db) w ((w.setCell ⟨db,1,none⟩ (.int .i64 l)).setCell ⟨db,2,none⟩ (.int .i64 c)):=m1.setCell _ _ (fun _=>rfl);exact ⟨rfl,h.set m2 (set_blk (set_blk hd 1 _) 2 _) (StOk.fail h.ok hc),m2⟩
  have HE:=hid hE;simp only[stV]at d1 d2;clear hE h hd hc H;go_enter Tryz.func55,Tryz.ntmps55;go_wp2
  first|go_end0|refine bodyPost_ret (results_none rfl _ _ _) rfl ?_
  exact HE.out
 |some e=>
  have te:(e.2==0)=false:=beq_eq_false_iff_ne.2 (h.ok e rfl);have hE:PostQ w0 w db b o cap ms (failR (some e) l c) (.tuple #[]) (.returned (.tuple #[])) w:=⟨rfl,h,Mod.refl _ _⟩;have HE:=hid hE;simp only[stV]at d1 d2;clear hE h hd hc H;go_enter Tryz.func55,Tryz.ntmps55;go_wp2
  first|go_end0|refine bodyPost_ret (results_none rfl _ _ _) rfl ?_
  exact HE.out
def fldV (x:Option Nat):Int:=match x with|none=> -1|some k=>(k:Int)
theorem DQ.kid {w0 w:World} {db b o cap:Nat} {ms:List NdM} {st:St} (h:DQ w0 w db b o cap ms st) {m:NdM} (hm:m∈ms) {x:Int} (hx:x∈m.nd.kids):∃(k:Nat) (mk:NdM),x=(k:Int)∧ms[k]? =some mk∧mk∈ms:=by
 obtain ⟨h1,h2⟩:=(h.mapOk hm).low x hx;rw[nds_len]at h2;obtain ⟨mk,hmk⟩:∃mk,ms[x.toNat]? =some mk:=at_of_lt (by omega);exact ⟨x.toNat,mk,by omega,hmk,List.mem_of_getElem? hmk⟩
theorem DQ.fld {w0 w:World} {db b o cap:Nat} {ms:List NdM} {st:St} (h:DQ w0 w db b o cap ms st) {m:NdM} (hm:m∈ms) {key:ByteArray} {k:Nat} (hk:fieldN (nds ms) m.nd key=some k):∃mk,ms[k]? =some mk∧mk∈ms∧(nds ms)[k]! =mk.nd:=by
 obtain ⟨z,hz,e,_⟩:=fieldN_some hk;obtain ⟨k',mk,e2,hk',hmem⟩:=h.kid hm hz;have h2:ms[k]? =some mk:=by rw[←e,e2];simpa using hk'
 exact ⟨mk,h2,hmem,nds_at h2⟩
theorem field_r {w0 w:World} {db b o cap:Nat} {ms:List NdM} {st:St} (h:DQ w0 w db b o cap ms st) {i:Nat} {m:NdM} (hi:ms[i]? =some m) (key:ByteArray):
 Calls Tryz.prog 59 #[.pointer (some ⟨db,0,none⟩),.int .i64 (i:Int),.string key] w fun r w'=>r= .returned (.int .i64 (fldV (fieldN (nds ms) m.nd key)))∧w'=w:=by
 obtain ⟨c,hok⟩:=h.at hi;obtain ⟨ao2,c2,hkv,hl2,hks⟩:=ints_open hok.kids;obtain ⟨q,hq⟩:∃q,q=m.nd.kids.length:=⟨_,rfl⟩;rw[←hq]at hkv hl2 hks;obtain ⟨n,hn⟩:∃n,n=ms.length:=⟨_,rfl⟩;have hdoc:=h.doc;rw[←hn]at hdoc;have d0:w.cell? ⟨db,0,none⟩=some (.slice (some ⟨b,o,none⟩) n cap):=cell_blk hdoc 0;have ci:=c.c5;rw[hkv]at ci;have bi:(i:Int)<(n:Int):=by have:=(List.getElem?_eq_some_iff.1 hi).1;omega
 have HD:=hid h;have Hkid:=hid (fun j (hj:j<q)=>show ∃(k:Nat) (mk:NdM),m.nd.kids[j]? =some (k:Int)∧ms[k]? =some mk∧k<n from by
  obtain ⟨x,hx⟩:∃x,m.nd.kids[j]? =some x:=at_of_lt (by omega);obtain ⟨k,mk,e,hk,_⟩:=h.kid (List.mem_of_getElem? hi) (List.mem_of_getElem? hx);exact ⟨k,mk,by rw[hx,e],hk,by rw[hn];exact (List.getElem?_eq_some_iff.1 hk).1⟩)
 have Hks:=hid hks;have Hq:=hid hq;have Hl2:=hid hl2;rw[fieldN_find];clear h hok hkv hq hks hl2 hn hdoc c hi;go_enter Tryz.func59,Tryz.ntmps59;go_wp2
 go_loopw [7] (fun vi wr=>∃j:Nat,vi= .int .i64 (j:Int)∧w=wr∧Hid (j≤q∧findK (nds ms) m.nd.kids key=findK (nds ms) (m.nd.kids.drop j) key)) (fun vi _=>q-(intOf vi).toNat)
 case atStart=>exact ⟨0,rfl,rfl,hid ⟨Nat.zero_le _,rfl⟩⟩
 case round=>
  obtain ⟨j,rfl,rfl,H⟩:=hrel;by_cases hj:j<q
  ·have tj:decide (j<q)=true:=dT hj;have bj:(j:Int)<(q:Int):=by omega
   obtain ⟨k,mk,hx,hk,hkn⟩:=Hkid.out j hj;obtain ⟨b2,o2,rfl,hb2,hc⟩:=Hks.out (by omega);have x1:=hc j _ hx;have y1:=(HD.out.at hk).1.c1;have bk:(k:Int)<(n:Int):=by omega
   have hst:=H.out.2;rw[drop_at hx]at hst;have hkd:=nds_at hk;by_cases e:mk.nd.key=key
   ·have te:=same_yes e;rw[findK_yes (by rw[hkd];exact e)]at hst;have Hst:=hid hst;clear hst hkd hk hx hc hb2 H Hkid Hks hj hkn e HD;go_wp2;go_ret;exact ⟨by rw[Hst.out];rfl,rfl⟩
   ·have te:=same_no e;rw[findK_no (by rw[hkd];exact e)]at hst;have Hst:=hid (show j+1≤q∧findK (nds ms) m.nd.kids key=findK (nds ms) (m.nd.kids.drop (j+1)) key from ⟨hj,hst⟩);obtain ⟨Hms,Hgo⟩:=step_two (k:=j) (n:=q) hj (by have:=Hl2.out;omega);clear hst hkd hk hx hc hb2 H Hkid Hks hj hkn e HD;go_wp2;go_roundw
    case rel=>exact ⟨j+1,Hgo.out,trivial,Hst⟩
    case measure=>exact Hms.out
  ·have tj:decide (j<q)=false:=dF hj;have Hst:=hid (show findK (nds ms) m.nd.kids key=none from by
    rw[H.out.2,List.drop_eq_nil_of_le (by have:=Hq.out;omega)];rfl)
   clear H Hkid Hks hj HD;go_wp2;go_ret;exact ⟨by rw[Hst.out];rfl,rfl⟩
theorem need_r {w0 w:World} {db b o cap:Nat} {ms:List NdM} {st:St} (h:DQ w0 w db b o cap ms st) {i:Nat} {m:NdM} (hi:ms[i]? =some m) (key:ByteArray):
 Calls Tryz.prog 53 #[.pointer (some ⟨db,0,none⟩),.int .i64 (i:Int),.string key] w (PostQ w0 w db b o cap ms (needR (nds ms) m.nd key st).2 (.int .i64 (fldV (needR (nds ms) m.nd key st).1))):=by
 have Hf:=hid (field_r h hi key);cases hx:fieldN (nds ms) m.nd key with
 |some k=>
  rw[needR_of hx];have HE:=hid (show PostQ w0 w db b o cap ms st (.int .i64 (k:Int)) (.returned (.int .i64 (k:Int))) w from ⟨rfl,h,Mod.refl _ _⟩);have hv:fldV (some k)=(k:Int):=rfl;rw[hx,hv]at Hf;simp only[hv];have tk:decide ((k:Int)<0)=false:=dF (by omega);clear hx h hi hv;go_enter Tryz.func53,Tryz.ntmps53
  go_wp2_with fail
  refine Hf.out.mono ?_;rintro r w1 ⟨rfl,hw⟩;obtain rfl:=hw.symm;clear Hf;go_wp2;go_ret;exact HE.out
 |none=>
  rw[needR_no hx];have Hfl:=hid (fail_r h m.nd.line 122 (by decide));obtain ⟨c,_⟩:=h.at hi;have ci:=c.c4;obtain ⟨n,hn⟩:∃n,n=ms.length:=⟨_,rfl⟩;have hdoc:=h.doc;rw[←hn]at hdoc;have d0:w.cell? ⟨db,0,none⟩=some (.slice (some ⟨b,o,none⟩) n cap):=cell_blk hdoc 0;have bi:(i:Int)<(n:Int):=by have:=(List.getElem?_eq_some_iff.1 hi).1;omega
  have hv:fldV none= -1:=rfl;rw[hx,hv]at Hf;simp only[hv];clear hx h hi hv hdoc hn c;go_enter Tryz.func53,Tryz.ntmps53
  go_wp2_with fail
  refine Hf.out.mono ?_;rintro r w1 ⟨rfl,hw⟩;obtain rfl:=hw.symm;clear Hf
  go_wp2_with fail
  refine Hfl.out.mono ?_;rintro r w2 ⟨rfl,hq,hm⟩;have HE:=hid (And.intro hq hm);clear Hfl hq hm d0 ci;go_wp2;go_ret;exact ⟨rfl,HE.out.1,HE.out.2⟩
theorem text_r {w0 w:World} {db b o cap:Nat} {ms:List NdM} {st:St} (h:DQ w0 w db b o cap ms st) (x:Option Nat) (hx:∀k,x=some k→k<ms.length):
 Calls Tryz.prog 58 #[.pointer (some ⟨db,0,none⟩),.int .i64 (fldV x)] w fun r w'=>r= .returned (.string (textR (nds ms) x))∧w'=w:=by
 cases x with
 |none=>
  have hv:fldV none= -1:=rfl;rw[hv];clear h hx;go_enter Tryz.func58,Tryz.ntmps58;go_wp2;go_ret;exact ⟨rfl,rfl⟩
 |some k=>
  obtain ⟨mk,hk⟩:∃mk,ms[k]? =some mk:=at_of_lt (hx k rfl);obtain ⟨c,_⟩:=h.at hk;have ci:=c.c2;obtain ⟨n,hn⟩:∃n,n=ms.length:=⟨_,rfl⟩;have hdoc:=h.doc;rw[←hn]at hdoc;have d0:w.cell? ⟨db,0,none⟩=some (.slice (some ⟨b,o,none⟩) n cap):=cell_blk hdoc 0;have bi:(k:Int)<(n:Int):=by have:=hx k rfl;omega
  have hv:fldV (some k)=(k:Int):=rfl;have tk:decide ((k:Int)<0)=false:=dF (by omega);have ht:textR (nds ms) (some k)=mk.nd.text:=by unfold textR;simp only[nds_at hk]
  rw[hv,ht];clear h hx hk hn hdoc c hv ht;go_enter Tryz.func58,Tryz.ntmps58;go_wp2;go_ret;exact ⟨rfl,rfl⟩
theorem isMap_r {w0 w:World} {db b o cap:Nat} {ms:List NdM} {st:St} (h:DQ w0 w db b o cap ms st) {i:Nat} {m:NdM} (hi:ms[i]? =some m):
 Calls Tryz.prog 52 #[.pointer (some ⟨db,0,none⟩),.int .i64 (i:Int)] w (PostQ w0 w db b o cap ms (isMapR m.nd st) (.bool (decide (isMapR m.nd st=none)))):=by
 obtain ⟨c,_⟩:=h.at hi;have ci:=c.c0;have cl:=c.c4;obtain ⟨n,hn⟩:∃n,n=ms.length:=⟨_,rfl⟩;have hdoc:=h.doc;rw[←hn]at hdoc;have d0:w.cell? ⟨db,0,none⟩=some (.slice (some ⟨b,o,none⟩) n cap):=cell_blk hdoc 0;have bi:(i:Int)<(n:Int):=by have:=(List.getElem?_eq_some_iff.1 hi).1;omega
 by_cases hk:m.nd.kind=2
 ·have hm:isMapR m.nd st=st:=by unfold isMapR;rw[if_neg (fun q=>q hk)]
  rw[hm];rw[hk]at ci;have d2:w.cell? ⟨db,2,none⟩=some (.int .i64 (stV st).2):=cell_blk hdoc 2;have hz:((stV st).2==0)=decide (st=none):=by
   cases st with
   |none=>rfl
   |some e=>rw[beq_eq_false_iff_ne.2 (show (stV (some e)).2≠0 from h.ok e rfl)];simp
  have HE:=hid (show PostQ w0 w db b o cap ms st (.bool (decide (st=none))) (.returned (.bool ((stV st).2==0))) w from ⟨by rw[hz],h,Mod.refl _ _⟩);generalize (stV st).2=ev at*;clear h hi hn hdoc c hz hm hk;go_enter Tryz.func52,Tryz.ntmps52;go_wp2
  first|go_ret|skip
  exact HE.out
 ·have hm:isMapR m.nd st=failR st m.nd.line 123:=by unfold isMapR;rw[if_pos hk]
  rw[hm];have Hfl:=hid (fail_r h m.nd.line 123 (by decide));have hno:failR st m.nd.line 123≠none:=by cases st<;>nofun
  have hd:decide (failR st m.nd.line 123=none)=false:=dF hno;rw[hd];generalize hfs:failR st m.nd.line 123=fs at*;obtain ⟨e,rfl⟩:∃e,fs=some e:=by cases fs with|none=>exact absurd rfl hno|some e=>exact ⟨e,rfl⟩
  clear h hi hn hdoc c hm hno hd hfs;go_enter Tryz.func52,Tryz.ntmps52
  go_wp2_with fail
  refine Hfl.out.mono ?_;rintro r w2 ⟨rfl,hq,hmd⟩;have e2:=cell_blk hq.doc 2;simp only[stV]at e2;simp at e2;have te:(e.2==0)=false:=beq_eq_false_iff_ne.2 (hq.ok e rfl);have HE:=hid (show PostQ w0 w db b o cap ms (some e) (.bool false) (.returned (.bool false)) w2 from ⟨rfl,hq,hmd⟩);clear Hfl hq hmd d0 ci cl;go_wp2
  first|go_ret|skip
  exact HE.out
theorem mod_later {w w1 w2:World} {db:Nat} (hb:Below w.heap.size w w1) (h:Mod (fun k=>k=db) w1 w2):Mod (fun k=>k=db) w w2:=
 ((mod_below hb).mono (G:=fun k=>k=db) (fun _ _ f=>f.elim)).trans h
theorem DQ.stay {w0 w w2:World} {db b o cap:Nat} {ms:List NdM} {st:St} (h:DQ w0 w db b o cap ms st) (hb:Below w.heap.size w w2) (v:Value):PostQ w0 w db b o cap ms st v (.returned v) w2:=
 ⟨rfl,h.later hb,mod_later hb (Mod.refl _ _)⟩
theorem DQ.heads {w0 w:World} {db b o cap:Nat} {ms:List NdM} {st:St} (h:DQ w0 w db b o cap ms st) {n:Nat} (hn:n=ms.length):w.cell? ⟨db,0,none⟩=some (.slice (some ⟨b,o,none⟩) n cap)∧w.cell? ⟨db,1,none⟩=some (.int .i64 (stV st).1)∧w.cell? ⟨db,2,none⟩=some (.int .i64 (stV st).2)∧db<w.heap.size:=by
 subst hn;exact ⟨cell_blk h.doc 0,cell_blk h.doc 1,cell_blk h.doc 2,lt_of_heap h.doc⟩
theorem word_r {w0 w:World} {db b o cap:Nat} {ms:List NdM} {st:St} (h:DQ w0 w db b o cap ms st) (x:Option Nat) (hx:∀k,x=some k→k<ms.length) (so:Bool):
 Calls Tryz.prog 56 #[.pointer (some ⟨db,0,none⟩),.int .i64 (fldV x),.bool so] w (PostQ w0 w db b o cap ms (wordR (nds ms) x so st).2 (.string (wordR (nds ms) x so st).1)):=by
 cases x with
 |none=>
  have hv:fldV none= -1:=rfl;have hw:wordR (nds ms) none so st=(⟨#[]⟩,st):=by unfold wordR;cases st<;>rfl
  rw[hv,hw];have HE:=hid (h.stay (Below.refl _ _) (.string ⟨#[]⟩));clear h hx hv hw;go_enter Tryz.func56,Tryz.ntmps56;go_wp2;go_ret;exact HE.out
 |some k=>
  obtain ⟨mk,hk⟩:∃mk,ms[k]? =some mk:=at_of_lt (hx k rfl);obtain ⟨c,hok⟩:=h.at hk;obtain ⟨n,hn⟩:∃n,n=ms.length:=⟨_,rfl⟩;obtain ⟨d0,d1,d2,hlt⟩:=h.heads hn;have bi:(k:Int)<(n:Int):=by have:=hx k rfl;omega
  have hv:fldV (some k)=(k:Int):=rfl;have tk:decide ((k:Int)<0)=false:=dF (by omega);rw[hv];cases st with
  |some e=>
   have hw:wordR (nds ms) (some k) so (some e)=(⟨#[]⟩,some e):=rfl;rw[hw];have te:(e.2==0)=false:=beq_eq_false_iff_ne.2 (h.ok e rfl);have pe:¬e.2=0:=h.ok e rfl;simp only[stV]at d1 d2;have HE:=hid (h.stay (Below.refl _ _) (.string ⟨#[]⟩));clear h hx hv hw c hok hk hn hlt;go_enter Tryz.func56,Tryz.ntmps56;go_wp2;go_ret;exact HE.out
  |none=>
   simp only[stV]at d1 d2;obtain ⟨ao3,c3,hkv3,_,_⟩:=ints_open hok.kids;obtain ⟨q3,hq3⟩:∃q3,q3=mk.nd.kids.length:=⟨_,rfl⟩;rw[←hq3]at hkv3;have y0:=c.c0;have y1:=c.c1;have y2:=c.c2;have y3:=c.c3;have y4:=c.c4;have y5:=c.c5;rw[hkv3]at y5;have hkd:=nds_at hk;have Hb:=hid (fun ob=>(Below.refl w.heap.size w).alloc (Nat.le_refl _) ob);have H:=hid h;have Hf:=hid (fun w1 (hb:Below w.heap.size w w1)=>fail_r (h.later hb) mk.nd.line 123 (by decide))
   have hw:wordR (nds ms) (some k) so none=if mk.nd.kind≠1∨so=false then (⟨#[]⟩,some (mk.nd.line,123)) else (mk.nd.text,none):=by
    show (if ((nds ms)[k]!).kind≠1∨so=false then _ else _)=_
    rw[hkd]
   rw[hw];have hfr:failR none mk.nd.line 123=some (mk.nd.line,123):=rfl;rw[hfr]at Hf;clear h hx hv hw c hok hk hn hlt hkv3 hq3 hkd hfr;generalize mk.nd.kind=kd at*;by_cases hkd:kd=1
   ·subst hkd;cases so with
    |true=>
     rw[if_neg (by simp)];clear Hf;go_enter Tryz.func56,Tryz.ntmps56;go_wp2;go_ret;exact H.out.stay (Hb.out _) _
    |false=>
     rw[if_pos (by simp)];go_enter Tryz.func56,Tryz.ntmps56
     go_wp2_with fail
     refine (Hf.out _ (Hb.out _)).mono ?_;rintro r w2 ⟨rfl,hq,hm⟩;have HE:=hid (And.intro hq (mod_later (Hb.out _) hm));clear hq hm Hf y0 y1 y2 y3 y4 y5 d0 d1 d2;go_wp2;go_ret;exact ⟨rfl,HE.out.1,HE.out.2⟩
   ·rw[if_pos (.inl hkd)];go_enter Tryz.func56,Tryz.ntmps56
    go_wp2_with fail
    refine (Hf.out _ (Hb.out _)).mono ?_;rintro r w2 ⟨rfl,hq,hm⟩;have HE:=hid (And.intro hq (mod_later (Hb.out _) hm));clear hq hm Hf y0 y1 y2 y3 y4 y5 d0 d1 d2;go_wp2;go_ret;exact ⟨rfl,HE.out.1,HE.out.2⟩
def PostL (w0 w:World) (db b o cap:Nat) (ms:List NdM) (p:List Int×St) (r:Ending) (w':World):Prop:=
 (∃v,r= .returned v∧SlR w0 v 1 p.1 intCell)∧DQ w0 w' db b o cap ms p.2∧Mod (fun k=>k=db) w w'
theorem PostL.nil {w0 w w':World} {db b o cap:Nat} {ms:List NdM} {st:St} (h:DQ w0 w' db b o cap ms st) (hm:Mod (fun k=>k=db) w w'):PostL w0 w db b o cap ms ([],st) (.returned (.slice none 0 0)) w':=
 ⟨⟨_,rfl,SlR.nil⟩,h,hm⟩
theorem list_r {w0 w:World} {db b o cap:Nat} {ms:List NdM} {st:St} (h:DQ w0 w db b o cap ms st) (x:Option Nat) (hx:∀k,x=some k→k<ms.length) (least most:Nat) (hmost:most≤1000) (hleast:least≤1000):
 Calls Tryz.prog 90 #[.pointer (some ⟨db,0,none⟩),.int .i64 (fldV x),.int .i64 (least:Int),.int .i64 (most:Int)] w (PostL w0 w db b o cap ms (listR (nds ms) x least most st)):=by
 cases x with
 |none=>
  have hv:fldV none= -1:=rfl;have hw:listR (nds ms) none least most st=([],st):=by unfold listR;cases st<;>rfl
  rw[hv,hw];have HE:=hid (PostL.nil h (Mod.refl _ w));clear h hx hv hw hmost hleast;go_enter Tryz.func90,Tryz.ntmps90;go_wp2;go_ret;exact HE.out
 |some k=>
  obtain ⟨mk,hk⟩:∃mk,ms[k]? =some mk:=at_of_lt (hx k rfl);obtain ⟨c,hok⟩:=h.at hk;obtain ⟨n,hn⟩:∃n,n=ms.length:=⟨_,rfl⟩;obtain ⟨d0,d1,d2,hlt⟩:=h.heads hn;have bi:(k:Int)<(n:Int):=by have:=hx k rfl;omega
  have hv:fldV (some k)=(k:Int):=rfl;have tk:decide ((k:Int)<0)=false:=dF (by omega);rw[hv];cases st with
  |some e=>
   have hw:listR (nds ms) (some k) least most (some e)=([],some e):=rfl;rw[hw];have te:(e.2==0)=false:=beq_eq_false_iff_ne.2 (h.ok e rfl);have pe:¬e.2=0:=h.ok e rfl;simp only[stV]at d1 d2;have HE:=hid (PostL.nil h (Mod.refl _ w));clear h hx hv hw c hok hk hn hlt hmost hleast;go_enter Tryz.func90,Tryz.ntmps90;go_wp2;go_ret;exact HE.out
  |none=>
   simp only[stV]at d1 d2;obtain ⟨ao3,c3,hkv3,hkl,_⟩:=ints_open hok.kids;obtain ⟨q3,hq3⟩:∃q3,q3=mk.nd.kids.length:=⟨_,rfl⟩;have hk0:=(h.nod.each mk (List.mem_of_getElem? hk)).kids;rw[←hq3]at hkv3 hkl;have y0:=c.c0;have y1:=c.c1;have y2:=c.c2;have y3:=c.c3;have y4:=c.c4;have y5:=c.c5;rw[hkv3]at y5;have hkd:=nds_at hk;have Hb:=hid (fun ob=>(Below.refl w.heap.size w).alloc (Nat.le_refl _) ob);have H:=hid h
   have Hf:=hid (fun w1 c (hb:Below w.heap.size w w1) (hc:c≠0)=>fail_r (h.later hb) mk.nd.line c hc);have hw:listR (nds ms) (some k) least most none=if mk.nd.kind≠3 then ([],some (mk.nd.line,123)) else if mk.nd.kids.length<least∨most<mk.nd.kids.length then ([],some (mk.nd.line,124)) else (mk.nd.kids,none):=by
    show (if ((nds ms)[k]!).kind≠3 then _ else if ((nds ms)[k]!).kids.length<least∨most<((nds ms)[k]!).kids.length then _ else _)=_
    rw[hkd]
   rw[hw,←hq3];rw[hkv3]at hk0;have Hk0:=hid hk0;have hfr:∀c,failR none mk.nd.line c=some (mk.nd.line,c):=fun _=>rfl;simp only[hfr]at Hf;clear h hx hv hw c hok hk hn hlt hkv3 hq3 hkd hfr hk0;generalize mk.nd.kind=kd at*;by_cases hkd:kd=3
   ·subst hkd;rw[if_neg (by simp)];by_cases hl:q3<least
    ·rw[if_pos (.inl hl)];have t1:decide (q3<least)=true:=dT hl;clear hl hmost hleast hkl;go_enter Tryz.func90,Tryz.ntmps90
     go_wp2_with fail
     refine (Hf.out _ _ (Hb.out _) (by decide)).mono ?_;rintro r w2 ⟨rfl,hq,hm⟩;have HE:=hid (PostL.nil hq (mod_later (Hb.out _) hm));clear hq hm Hf y0 y1 y2 y3 y4 y5 d0 d1 d2;go_wp2;go_ret;exact HE.out
    ·have t1:decide (q3<least)=false:=dF hl;by_cases hm:most<q3
     ·rw[if_pos (.inr hm)];have t2:decide (most<q3)=true:=dT hm;clear hl hmost hleast hkl hm;go_enter Tryz.func90,Tryz.ntmps90
      go_wp2_with fail
      refine (Hf.out _ _ (Hb.out _) (by decide)).mono ?_;rintro r w2 ⟨rfl,hq,hm⟩;have HE:=hid (PostL.nil hq (mod_later (Hb.out _) hm));clear hq hm Hf y0 y1 y2 y3 y4 y5 d0 d1 d2;go_wp2;go_ret;exact HE.out
     ·rw[if_neg (by omega)];have t2:decide (most<q3)=false:=dF hm;clear hl hmost hleast hkl hm Hf;go_enter Tryz.func90,Tryz.ntmps90;go_wp2;go_ret;exact ⟨⟨_,rfl,Hk0.out⟩,H.out.later (Hb.out _),mod_later (Hb.out _) (Mod.refl _ _)⟩
   ·rw[if_pos hkd];clear hmost hleast hkl;go_enter Tryz.func90,Tryz.ntmps90
    go_wp2_with fail
    refine (Hf.out _ _ (Hb.out _) (by decide)).mono ?_;rintro r w2 ⟨rfl,hq,hm⟩;have HE:=hid (PostL.nil hq (mod_later (Hb.out _) hm));clear hq hm Hf y0 y1 y2 y3 y4 y5 d0 d1 d2;go_wp2;go_ret;exact HE.out
theorem weight_r {w0 w:World} {db b o cap:Nat} {ms:List NdM} {st:St} (h:DQ w0 w db b o cap ms st) (x:Option Nat) (hx:∀k,x=some k→k<ms.length):
 Calls Tryz.prog 130 #[.pointer (some ⟨db,0,none⟩),.int .i64 (fldV x)] w (PostQ w0 w db b o cap ms (weightR (nds ms) x st).2 (.float .f64 (weightR (nds ms) x st).1)):=by
 have hst:= @store_float;cases x with
 |none=>
  have hv:fldV none= -1:=rfl;have hw:weightR (nds ms) none st=(0,st):=by unfold weightR;cases st<;>rfl
  rw[hv,hw];have HE:=hid (h.stay (Below.refl _ _) (.float .f64 0));clear h hx hv hw;go_enter Tryz.func130,Tryz.ntmps130;go_wp2;go_ret;exact HE.out
 |some k=>
  obtain ⟨mk,hk⟩:∃mk,ms[k]? =some mk:=at_of_lt (hx k rfl);obtain ⟨c,hok⟩:=h.at hk;obtain ⟨n,hn⟩:∃n,n=ms.length:=⟨_,rfl⟩;obtain ⟨d0,d1,d2,hlt⟩:=h.heads hn;have bi:(k:Int)<(n:Int):=by have:=hx k rfl;omega
  have hv:fldV (some k)=(k:Int):=rfl;have tk:decide ((k:Int)<0)=false:=dF (by omega);rw[hv];cases st with
  |some e=>
   have hw:weightR (nds ms) (some k) (some e)=(0,some e):=rfl;rw[hw];have te:(e.2==0)=false:=beq_eq_false_iff_ne.2 (h.ok e rfl);have pe:¬e.2=0:=h.ok e rfl;simp only[stV]at d1 d2;have HE:=hid (h.stay (Below.refl _ _) (.float .f64 0));clear h hx hv hw c hok hk hn hlt;go_enter Tryz.func130,Tryz.ntmps130;go_wp2;go_ret;exact HE.out
  |none=>
   simp only[stV]at d1 d2;obtain ⟨ao3,c3,hkv3,hkl,_⟩:=ints_open hok.kids;obtain ⟨q3,hq3⟩:∃q3,q3=mk.nd.kids.length:=⟨_,rfl⟩;rw[←hq3]at hkv3 hkl;have y0:=c.c0;have y1:=c.c1;have y2:=c.c2;have y3:=c.c3;have y4:=c.c4;have y5:=c.c5;rw[hkv3]at y5;have hkd:=nds_at hk;have hts:=hok.text;have Hb:=hid (fun ob=>(Below.refl w.heap.size w).alloc (Nat.le_refl _) ob);have H:=hid h;have Hf:=hid (fun w1 (hb:Below w.heap.size w w1)=>fail_r (h.later hb) mk.nd.line 123 (by decide))
   have hfr:failR none mk.nd.line 123=some (mk.nd.line,123):=rfl;rw[hfr]at Hf;have Hr:=hid (fun w1=>refRead_walk w1 mk.nd.text (by omega) mk.nd.quoted);unfold ReadPost at Hr;have hw:weightR (nds ms) (some k) none=match weightP mk.nd with| .ok x=>(x,none)| .error e=>(0,some e):=by
    show (match weightP ((nds ms)[k]!) with| .ok x=>(x,none)| .error e=>(0,some e))=_
    rw[hkd]
   rw[hw];have hwp:weightP mk.nd=if mk.nd.kind≠1 then .error (mk.nd.line,123) else if (readS mk.nd.text mk.nd.quoted).kind=3 then
    (if (readS mk.nd.text mk.nd.quoted).int<0∨100<(readS mk.nd.text mk.nd.quoted).int then .error (mk.nd.line,123) else .ok (floatOfInt .f64 (readS mk.nd.text mk.nd.quoted).int))
    else if (readS mk.nd.text mk.nd.quoted).kind=4 then
    (if cent (readS mk.nd.text mk.nd.quoted).real=true then .ok (noMinus (readS mk.nd.text mk.nd.quoted).real) else .error (mk.nd.line,123))
    else .error (mk.nd.line,123):=rfl
   rw[hwp];have hrl:=readS_real mk.nd.text mk.nd.quoted;generalize readS mk.nd.text mk.nd.quoted=rv at*;obtain ⟨vk,vb,vi,vr,vt⟩:=rv;unfold Val.v valV at Hr;simp only at hrl Hr ⊢;clear h hx hv hw c hok hk hn hlt hkv3 hq3 hkd hfr hwp hts hkl;generalize mk.nd.kind=kd at*;by_cases hkd:kd=1
   ·subst hkd;rw[if_neg (by simp)];by_cases k3:vk=3
    ·subst k3;rw[if_pos rfl];by_cases h0:vi<0
     ·rw[if_pos (.inl h0)];simp only;have t1:decide (0≤vi)=false:=dF (by omega);clear h0 hrl;go_enter Tryz.func130,Tryz.ntmps130
      go_wp2_with fail
      refine (Hr.out _).mono ?_;rintro r w3 ⟨rfl,hb⟩;have hb0:=Hb.out (.cells #[.int .i64 1,.string mk.nd.key,.string mk.nd.text,.bool mk.nd.quoted,.int .i64 mk.nd.line,.slice ao3 q3 c3] 55);have hlt:w.heap.size<w3.heap.size:=by have:=hb.size;simp at this;omega
      have D0:∀ob,(w3.alloc ob).cell? ⟨w.heap.size,0,none⟩=some (.int .i64 1):=fun ob=>(World.cell?_of_block (alloc_old ob hlt)).trans ((hb.cell (p:=⟨w.heap.size,0,none⟩) (by simp)).trans (cell_blk (alloc_new _) 0));have D4:∀ob,(w3.alloc ob).cell? ⟨w.heap.size,4,none⟩=some (.int .i64 mk.nd.line):=fun ob=>(World.cell?_of_block (alloc_old ob hlt)).trans ((hb.cell (p:=⟨w.heap.size,4,none⟩) (by simp)).trans (cell_blk (alloc_new _) 4))
      have HB:=hid (fun ob=>(hb0.trans (hb.mono hb0.size)).alloc (hb0.trans (hb.mono hb0.size)).size ob);clear hb Hr hb0 hlt
      go_wp2_with fail
      refine (Hf.out _ (HB.out _)).mono ?_;rintro r w2 ⟨rfl,hq,hm⟩;have HE:=hid (And.intro hq (mod_later (HB.out _) hm));clear hq hm Hf HB D0 D4;go_wp2;go_ret;exact ⟨rfl,HE.out.1,HE.out.2⟩
     ·have t1:decide (0≤vi)=true:=dT (by omega);by_cases h1:100<vi
      ·rw[if_pos (.inr h1)];simp only;have t2:decide (vi≤100)=false:=dF (by omega);clear h0 h1 hrl;go_enter Tryz.func130,Tryz.ntmps130
       go_wp2_with fail
       refine (Hr.out _).mono ?_;rintro r w3 ⟨rfl,hb⟩;have hb0:=Hb.out (.cells #[.int .i64 1,.string mk.nd.key,.string mk.nd.text,.bool mk.nd.quoted,.int .i64 mk.nd.line,.slice ao3 q3 c3] 55);have hlt:w.heap.size<w3.heap.size:=by have:=hb.size;simp at this;omega
       have D0:∀ob,(w3.alloc ob).cell? ⟨w.heap.size,0,none⟩=some (.int .i64 1):=fun ob=>(World.cell?_of_block (alloc_old ob hlt)).trans ((hb.cell (p:=⟨w.heap.size,0,none⟩) (by simp)).trans (cell_blk (alloc_new _) 0));have D4:∀ob,(w3.alloc ob).cell? ⟨w.heap.size,4,none⟩=some (.int .i64 mk.nd.line):=fun ob=>(World.cell?_of_block (alloc_old ob hlt)).trans ((hb.cell (p:=⟨w.heap.size,4,none⟩) (by simp)).trans (cell_blk (alloc_new _) 4))
       have HB:=hid (fun ob=>(hb0.trans (hb.mono hb0.size)).alloc (hb0.trans (hb.mono hb0.size)).size ob);clear hb Hr hb0 hlt
       go_wp2_with fail
       refine (Hf.out _ (HB.out _)).mono ?_;rintro r w2 ⟨rfl,hq,hm⟩;have HE:=hid (And.intro hq (mod_later (HB.out _) hm));clear hq hm Hf HB D0 D4;go_wp2;go_ret;exact ⟨rfl,HE.out.1,HE.out.2⟩
      ·rw[if_neg (by omega)];simp only;have t2:decide (vi≤100)=true:=dT (by omega);clear h0 h1 hrl Hf;go_enter Tryz.func130,Tryz.ntmps130
       go_wp2_with fail
       refine (Hr.out _).mono ?_;rintro r w3 ⟨rfl,hb⟩;have hb0:=Hb.out (.cells #[.int .i64 1,.string mk.nd.key,.string mk.nd.text,.bool mk.nd.quoted,.int .i64 mk.nd.line,.slice ao3 q3 c3] 55);have hlt:w.heap.size<w3.heap.size:=by have:=hb.size;simp at this;omega
       have D0:∀ob,(w3.alloc ob).cell? ⟨w.heap.size,0,none⟩=some (.int .i64 1):=fun ob=>(World.cell?_of_block (alloc_old ob hlt)).trans ((hb.cell (p:=⟨w.heap.size,0,none⟩) (by simp)).trans (cell_blk (alloc_new _) 0));have D4:∀ob,(w3.alloc ob).cell? ⟨w.heap.size,4,none⟩=some (.int .i64 mk.nd.line):=fun ob=>(World.cell?_of_block (alloc_old ob hlt)).trans ((hb.cell (p:=⟨w.heap.size,4,none⟩) (by simp)).trans (cell_blk (alloc_new _) 4))
       have HB:=hid (fun ob=>(hb0.trans (hb.mono hb0.size)).alloc (hb0.trans (hb.mono hb0.size)).size ob);clear hb Hr hb0 hlt;go_wp2;go_ret;exact H.out.stay (HB.out _) _
    ·rw[if_neg k3];have t3:(vk==3)=false:=by rw[beq_eq_false_iff_ne];exact k3
     by_cases k4:vk=4
     ·subst k4;rw[if_pos rfl];cases hc:cent vr with
      |true=>
       rw[if_pos rfl];have hc2:=hc;unfold cent at hc2;rw[Bool.and_eq_true]at hc2;obtain ⟨c1,c2⟩:=hc2;unfold HUND at c2;simp only;cases ho:(FloatKind.f64.format.order vr 0==some .eq) with
       |true=>
        have e:noMinus vr=0:=by unfold noMinus;rw[if_pos ho]
        rw[e];rw[ho]at c1;clear k3 hrl hc e Hf;go_enter Tryz.func130,Tryz.ntmps130
        go_wp2_with fail
        refine (Hr.out _).mono ?_;rintro r w3 ⟨rfl,hb⟩;have hb0:=Hb.out (.cells #[.int .i64 1,.string mk.nd.key,.string mk.nd.text,.bool mk.nd.quoted,.int .i64 mk.nd.line,.slice ao3 q3 c3] 55);have hlt:w.heap.size<w3.heap.size:=by have:=hb.size;simp at this;omega
        have D0:∀ob,(w3.alloc ob).cell? ⟨w.heap.size,0,none⟩=some (.int .i64 1):=fun ob=>(World.cell?_of_block (alloc_old ob hlt)).trans ((hb.cell (p:=⟨w.heap.size,0,none⟩) (by simp)).trans (cell_blk (alloc_new _) 0));have D4:∀ob,(w3.alloc ob).cell? ⟨w.heap.size,4,none⟩=some (.int .i64 mk.nd.line):=fun ob=>(World.cell?_of_block (alloc_old ob hlt)).trans ((hb.cell (p:=⟨w.heap.size,4,none⟩) (by simp)).trans (cell_blk (alloc_new _) 4))
        have HB:=hid (fun ob=>(hb0.trans (hb.mono hb0.size)).alloc (hb0.trans (hb.mono hb0.size)).size ob);clear hb Hr hb0 hlt;go_wp2;go_ret;exact H.out.stay (HB.out _) _
       |false=>
        have e:noMinus vr=vr:=by unfold noMinus;rw[if_neg (by rw[ho];decide)]
        rw[e];rw[ho,Bool.or_false]at c1;clear k3 hrl hc e Hf;go_enter Tryz.func130,Tryz.ntmps130
        go_wp2_with fail
        refine (Hr.out _).mono ?_;rintro r w3 ⟨rfl,hb⟩;have hb0:=Hb.out (.cells #[.int .i64 1,.string mk.nd.key,.string mk.nd.text,.bool mk.nd.quoted,.int .i64 mk.nd.line,.slice ao3 q3 c3] 55);have hlt:w.heap.size<w3.heap.size:=by have:=hb.size;simp at this;omega
        have D0:∀ob,(w3.alloc ob).cell? ⟨w.heap.size,0,none⟩=some (.int .i64 1):=fun ob=>(World.cell?_of_block (alloc_old ob hlt)).trans ((hb.cell (p:=⟨w.heap.size,0,none⟩) (by simp)).trans (cell_blk (alloc_new _) 0));have D4:∀ob,(w3.alloc ob).cell? ⟨w.heap.size,4,none⟩=some (.int .i64 mk.nd.line):=fun ob=>(World.cell?_of_block (alloc_old ob hlt)).trans ((hb.cell (p:=⟨w.heap.size,4,none⟩) (by simp)).trans (cell_blk (alloc_new _) 4))
        have HB:=hid (fun ob=>(hb0.trans (hb.mono hb0.size)).alloc (hb0.trans (hb.mono hb0.size)).size ob);clear hb Hr hb0 hlt;go_wp2;go_ret;exact H.out.stay (HB.out _) _
      |false=>
       rw[if_neg (by decide)];simp only;unfold cent HUND at hc;clear k3 hrl;cases c1:(FloatKind.f64.format.order vr 0==some .gt||FloatKind.f64.format.order vr 0==some .eq) with
       |true=>
        rw[c1,Bool.true_and]at hc;go_enter Tryz.func130,Tryz.ntmps130
        go_wp2_with fail
        refine (Hr.out _).mono ?_;rintro r w3 ⟨rfl,hb⟩;have hb0:=Hb.out (.cells #[.int .i64 1,.string mk.nd.key,.string mk.nd.text,.bool mk.nd.quoted,.int .i64 mk.nd.line,.slice ao3 q3 c3] 55);have hlt:w.heap.size<w3.heap.size:=by have:=hb.size;simp at this;omega
        have D0:∀ob,(w3.alloc ob).cell? ⟨w.heap.size,0,none⟩=some (.int .i64 1):=fun ob=>(World.cell?_of_block (alloc_old ob hlt)).trans ((hb.cell (p:=⟨w.heap.size,0,none⟩) (by simp)).trans (cell_blk (alloc_new _) 0));have D4:∀ob,(w3.alloc ob).cell? ⟨w.heap.size,4,none⟩=some (.int .i64 mk.nd.line):=fun ob=>(World.cell?_of_block (alloc_old ob hlt)).trans ((hb.cell (p:=⟨w.heap.size,4,none⟩) (by simp)).trans (cell_blk (alloc_new _) 4))
        have HB:=hid (fun ob=>(hb0.trans (hb.mono hb0.size)).alloc (hb0.trans (hb.mono hb0.size)).size ob);clear hb Hr hb0 hlt
        go_wp2_with fail
        refine (Hf.out _ (HB.out _)).mono ?_;rintro r w2 ⟨rfl,hq,hm⟩;have HE:=hid (And.intro hq (mod_later (HB.out _) hm));clear hq hm Hf HB D0 D4;go_wp2;go_ret;exact ⟨rfl,HE.out.1,HE.out.2⟩
       |false=>
        clear hc;go_enter Tryz.func130,Tryz.ntmps130
        go_wp2_with fail
        refine (Hr.out _).mono ?_;rintro r w3 ⟨rfl,hb⟩;have hb0:=Hb.out (.cells #[.int .i64 1,.string mk.nd.key,.string mk.nd.text,.bool mk.nd.quoted,.int .i64 mk.nd.line,.slice ao3 q3 c3] 55);have hlt:w.heap.size<w3.heap.size:=by have:=hb.size;simp at this;omega
        have D0:∀ob,(w3.alloc ob).cell? ⟨w.heap.size,0,none⟩=some (.int .i64 1):=fun ob=>(World.cell?_of_block (alloc_old ob hlt)).trans ((hb.cell (p:=⟨w.heap.size,0,none⟩) (by simp)).trans (cell_blk (alloc_new _) 0));have D4:∀ob,(w3.alloc ob).cell? ⟨w.heap.size,4,none⟩=some (.int .i64 mk.nd.line):=fun ob=>(World.cell?_of_block (alloc_old ob hlt)).trans ((hb.cell (p:=⟨w.heap.size,4,none⟩) (by simp)).trans (cell_blk (alloc_new _) 4))
        have HB:=hid (fun ob=>(hb0.trans (hb.mono hb0.size)).alloc (hb0.trans (hb.mono hb0.size)).size ob);clear hb Hr hb0 hlt
        go_wp2_with fail
        refine (Hf.out _ (HB.out _)).mono ?_;rintro r w2 ⟨rfl,hq,hm⟩;have HE:=hid (And.intro hq (mod_later (HB.out _) hm));clear hq hm Hf HB D0 D4;go_wp2;go_ret;exact ⟨rfl,HE.out.1,HE.out.2⟩
     ·rw[if_neg k4];have t4:(vk==4)=false:=by rw[beq_eq_false_iff_ne];exact k4
      simp only;clear hrl;go_enter Tryz.func130,Tryz.ntmps130
      go_wp2_with fail
      refine (Hr.out _).mono ?_;rintro r w3 ⟨rfl,hb⟩;have hb0:=Hb.out (.cells #[.int .i64 1,.string mk.nd.key,.string mk.nd.text,.bool mk.nd.quoted,.int .i64 mk.nd.line,.slice ao3 q3 c3] 55);have hlt:w.heap.size<w3.heap.size:=by have:=hb.size;simp at this;omega
      have D0:∀ob,(w3.alloc ob).cell? ⟨w.heap.size,0,none⟩=some (.int .i64 1):=fun ob=>(World.cell?_of_block (alloc_old ob hlt)).trans ((hb.cell (p:=⟨w.heap.size,0,none⟩) (by simp)).trans (cell_blk (alloc_new _) 0));have D4:∀ob,(w3.alloc ob).cell? ⟨w.heap.size,4,none⟩=some (.int .i64 mk.nd.line):=fun ob=>(World.cell?_of_block (alloc_old ob hlt)).trans ((hb.cell (p:=⟨w.heap.size,4,none⟩) (by simp)).trans (cell_blk (alloc_new _) 4))
      have HB:=hid (fun ob=>(hb0.trans (hb.mono hb0.size)).alloc (hb0.trans (hb.mono hb0.size)).size ob);clear hb Hr hb0 hlt
      go_wp2_with fail
      refine (Hf.out _ (HB.out _)).mono ?_;rintro r w2 ⟨rfl,hq,hm⟩;have HE:=hid (And.intro hq (mod_later (HB.out _) hm));clear hq hm Hf HB D0 D4;go_wp2;go_ret;exact ⟨rfl,HE.out.1,HE.out.2⟩
   ·rw[if_pos hkd];have t1:(kd==1)=false:=by rw[beq_eq_false_iff_ne];exact hkd
    simp only;clear hrl;go_enter Tryz.func130,Tryz.ntmps130
    go_wp2_with fail
    refine (Hr.out _).mono ?_;rintro r w3 ⟨rfl,hb⟩;have hb0:=Hb.out (.cells #[.int .i64 kd,.string mk.nd.key,.string mk.nd.text,.bool mk.nd.quoted,.int .i64 mk.nd.line,.slice ao3 q3 c3] 55);have hlt:w.heap.size<w3.heap.size:=by have:=hb.size;simp at this;omega
    have D0:∀ob,(w3.alloc ob).cell? ⟨w.heap.size,0,none⟩=some (.int .i64 kd):=fun ob=>(World.cell?_of_block (alloc_old ob hlt)).trans ((hb.cell (p:=⟨w.heap.size,0,none⟩) (by simp)).trans (cell_blk (alloc_new _) 0));have D4:∀ob,(w3.alloc ob).cell? ⟨w.heap.size,4,none⟩=some (.int .i64 mk.nd.line):=fun ob=>(World.cell?_of_block (alloc_old ob hlt)).trans ((hb.cell (p:=⟨w.heap.size,4,none⟩) (by simp)).trans (cell_blk (alloc_new _) 4))
    have HB:=hid (fun ob=>(hb0.trans (hb.mono hb0.size)).alloc (hb0.trans (hb.mono hb0.size)).size ob);clear hb Hr hb0 hlt
    go_wp2_with fail
    refine (Hf.out _ (HB.out _)).mono ?_;rintro r w2 ⟨rfl,hq,hm⟩;have HE:=hid (And.intro hq (mod_later (HB.out _) hm));clear hq hm Hf HB D0 D4;go_wp2;go_ret;exact ⟨rfl,HE.out.1,HE.out.2⟩
end Go.Proofs.YtfenoaeoedobmaaGreatDoor
