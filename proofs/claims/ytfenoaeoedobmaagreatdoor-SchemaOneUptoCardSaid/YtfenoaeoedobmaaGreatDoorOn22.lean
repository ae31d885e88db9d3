/-
Parts of a proof.
-/
import Derived.Test.YtfenoaeoedobmaaGreatDoorOn21
set_option linter.unusedVariables false
set_option linter.unusedSimpArgs false
set_option maxHeartbeats 4000000
set_option maxRecDepth 20000
namespace Go.Proofs.YtfenoaeoedobmaaGreatDoor
open Go Go.RowKit
def Pan (e:fx):Ending:= .panicked [{v:= .iface 76 (.agg #[.int .i64 e.1,.int .i64 e.2]),recovered:=false}]
theorem lg (w:World) (l e:Int):Calls Tryz.prog 40 #[.int .i64 l,.int .i64 e] w fun r w'=>r=Pan (l,e)/\w'=w:=by
 go_enter Tryz.func40,Tryz.ntmps40;go_wp2;exact ⟨rfl,rfl,rfl⟩
structure DocM (w:World) (db b o cap:Nat) (ms:List NdM):Prop where
 nod:Nds w (.slice (some ⟨b,o,none⟩) ms.length cap) ms
 blt:b<w.heap.size
 doc:w.heap[db]? =some (.cells #[.slice (some ⟨b,o,none⟩) ms.length cap] 79 (0,0))
 tree:dj (nds ms)=true
theorem DocM.later {w w2:World} {db b o cap:Nat} {ms:List NdM} (h:DocM w db b o cap ms) (hb:Below w.heap.size w w2):DocM w2 db b o cap ms:=
 ⟨h.nod.later hb,Nat.lt_of_lt_of_le h.blt hb.size,(hb.block _ (af h.doc)).trans h.doc,h.tree⟩
theorem DocM.at {w:World} {db b o cap:Nat} {ms:List NdM} (h:DocM w db b o cap ms) {i:Nat} {m:NdM} (hm:ms[i]? =some m):NdAt w b (o+i*6) m/\m.Ok w:=by
 obtain ⟨ao,mn,hv,hl,bN⟩:=h.nod.open;have h0:0<ms.length:=by have:=(aBo hm).1;omega
 obtain ⟨b',o',rfl,aN,bN⟩:=bN h0;simp only[Value.slice.injEq,Option.some.injEq,Addr.mk.injEq,and_true,true_and]at hv;obtain ⟨⟨rfl,rfl⟩,rfl⟩:=hv;exact bN i m hm
theorem DocM.ok {w:World} {db b o cap:Nat} {ms:List NdM} (h:DocM w db b o cap ms) {m:NdM} (hm:m∈ms):m.Ok w:=h.nod.each m hm
theorem DocM.mapOk {w:World} {db b o cap:Nat} {ms:List NdM} (h:DocM w db b o cap ms) {m:NdM} (hm:m∈ms):MapOk (nds ms) m.nd:=by
 obtain ⟨i,hi,e⟩:=List.getElem_of_mem hm;have h2:ms[i]? =some m:=by rw[aBn hi,e]
 obtain ⟨_,hg⟩:=(jI _).1 h.tree;have:=NM (hg.node i (by rw[bP];exact hi));rw[gI h2]at this;exact this
theorem DocM.kid {w:World} {db b o cap:Nat} {ms:List NdM} (h:DocM w db b o cap ms) {m:NdM} (hm:m∈ms) {x:Int} (hx:x∈m.nd.kids):∃(k:Nat) (mk:NdM),x=(k:Int)/\ms[k]? =some mk/\mk∈ms:=by
 obtain ⟨h1,h2⟩:=(h.mapOk hm).low x hx;rw[bP]at h2;obtain ⟨mk,cN⟩:∃mk,ms[x.toNat]? =some mk:=aF (by omega);exact ⟨x.toNat,mk,by omega,cN,List.mem_of_getElem? cN⟩
def fO (b o:Nat) (x:Option Nat):Value:= .pointer (x.map fun k=>⟨b,o+k*6,none⟩)
def nO (ns:List Nd) (l:List Int) (key:ByteArray):Option Nat:=(l.find? fun k=>decide ((ns[k.toNat]!).key=key)).map Int.toNat
theorem Df (ns:List Nd) (m:Nd) (key:ByteArray):bH ns m key=nO ns m.kids key:=rfl
theorem KW {ns:List Nd} {k:Nat} {r:List Int} {key:ByteArray} (h:(ns[k]!).key=key):nO ns ((k:Int)::r) key=some k:=by
 unfold nO;rw[List.find?_cons_of_pos (by simpa using h)];simp
theorem Po {ns:List Nd} {k:Nat} {r:List Int} {key:ByteArray} (h:¬(ns[k]!).key=key):nO ns ((k:Int)::r) key=nO ns r key:=by
 unfold nO;rw[List.find?_cons_of_neg (by simpa using h)]
theorem iI {α:Type} {l:List α} {j:Nat} {x:α} (h:l[j]? =some x):l.drop j=x::l.drop (j+1):=by
 obtain ⟨aN,he⟩:=aBo h;rw[List.drop_eq_getElem_cons aN,he]
theorem oD (w:World) (db b o cap:Nat) (ms:List NdM) (h:DocM w db b o cap ms) (m:NdM) (hm:m∈ms) (key:ByteArray):
 Calls Tryz.prog 43 #[.pointer (some ⟨db,0,none⟩),m.v,.string key] w fun r w'=>r= .returned (fO b o (bH (nds ms) m.nd key))/\Below w.heap.size w w':=by
 have hok:=h.ok hm;obtain ⟨kp,c2,cI,mF,hks⟩:=aL hok.kids;obtain ⟨q,hq⟩:=ex (m.nd.kids.length);rw[<-hq]at cI mF hks;have HD:=hid h;obtain ⟨n,hn⟩:=ex (ms.length);have nM:=h.doc;rw[<-hn]at nM;have d0:∀ob,(w.alloc ob).cell? ⟨db,0,none⟩=some (.slice (some ⟨b,o,none⟩) n cap):=fun ob=>(World.cell?_of_block (ai ob (af nM))).trans (aa nM 0);have iW:=hid (fun j (hj:j<q)=>show ∃(k:Nat) (mk:NdM),m.nd.kids[j]? =some (k:Int)/\ms[k]? =some mk/\k<n from by
  obtain ⟨x,hx⟩:∃x,m.nd.kids[j]? =some x:=aF (by omega);obtain ⟨k,mk,e,hk,_⟩:=h.kid hm (List.mem_of_getElem? hx);exact ⟨k,mk,by rw[hx,e],hk,by rw[hn];exact (aBo hk).1⟩)
 have uN:=hid hks;have Hq:=hid hq;have Hl2:=hid mF;have hv:m.v= .agg #[.int .i64 m.nd.kind,.string m.nd.key,.string m.nd.text,.bool m.nd.quoted,.int .i64 m.nd.line,.slice kp q c2]:=by unfold NdM.v;rw[cI]
 rw[hv,Df];have fD:=hid (fun o=>(aBi w.heap.size w).alloc (aBh _) o);obtain ⟨kind,cd⟩:=ex (m.nd.kind);rw[<-cd];clear h hm hok cI hq hks mF hn nM hv cd;go_enter Tryz.func43,Tryz.ntmps43;go_wp2
 go_loopw [12] (fun vi wr=>∃j:Nat,vi= .int .i64 (j:Int)/\(w.alloc (.cells #[.int .i64 kind,.string m.nd.key,.string m.nd.text,.bool m.nd.quoted,.int .i64 m.nd.line,.slice kp q c2] 55))=wr/\Hid (j<=q/\nO (nds ms) m.nd.kids key=nO (nds ms) (m.nd.kids.drop j) key)) (fun vi _=>q-(intOf vi).toNat)
 case atStart=>exact ⟨0,rfl,rfl,hid ⟨Nat.zero_le _,rfl⟩⟩
 case round=>
  obtain ⟨j,rfl,rfl,H⟩:=hrel;by_cases hj:j<q
  ·have tj:decide (j<q)=true:=dT hj;have bj:(j:Int)<(q:Int):=by omega
   obtain ⟨k,mk,hx,hk,cg⟩:=iW.o j hj;obtain ⟨b2,o2,rfl,bI,hc⟩:=uN.o (by omega);have x1:∀ob,(w.alloc ob).cell? ⟨b2,o2+j,none⟩=some (.int .i64 (k:Int)):=fun ob=>(World.cell?_of_block (ai ob bI)).trans (hc j _ hx);have y1:∀ob,(w.alloc ob).cell? ⟨b,o+k*6+1,none⟩=some (.string mk.nd.key):=fun ob=>(World.cell?_of_block (ai ob HD.o.blt)).trans (HD.o.at hk).1.c1;have bk:(k:Int)<(n:Int):=by omega
   have cw:=H.o.2;rw[iI hx]at cw;have gu:=gI hk;by_cases e:mk.nd.key=key
   ·have te:=ME e;rw[KW (by rw[gu];exact e)]at cw;have jQ:=hid cw;clear cw gu hk hx hc bI H iW uN hj cg e HD;go_wp2;go_ret;exact ⟨by rw[jQ.o];rfl,fD.o _⟩
   ·have te:=Ro e;rw[Po (by rw[gu];exact e)]at cw;have jQ:=hid (show j+1<=q/\nO (nds ms) m.nd.kids key=nO (nds ms) (m.nd.kids.drop (j+1)) key from ⟨hj,cw⟩);obtain ⟨cY,df⟩:=bL (k:=j) (n:=q) hj (by have:=Hl2.o;omega);clear cw gu hk hx hc bI H iW uN hj cg e HD;go_wp2;go_roundw
    case rel=>exact ⟨j+1,df.o,trivial,jQ⟩
    case measure=>exact cY.o
  ·have tj:decide (j<q)=false:=dF hj;have jQ:=hid (show nO (nds ms) m.nd.kids key=none from by
    rw[H.o.2,List.drop_eq_nil_of_le (by have:=Hq.o;omega)];rfl)
   clear H iW uN hj HD;go_wp2;go_ret;exact ⟨by rw[jQ.o];rfl,fD.o _⟩
def p7 (c:Array Value) (o:Nat):List Value->Array Value
 |[]=>c
 |v::r=>p7 (c.setIfInBounds o v) (o+1) r
theorem qj {b:Nat} {t:TypeId}:∀(vs:List Value) (o:Nat) (w:World) (c:Array Value),w.heap[b]? =some (.cells c t (0,0))->(w.setCells b o vs).heap[b]? =some (.cells (p7 c o vs) t (0,0))
 |[],_,_,_,h=>h
 |v::r,o,w,c,h=>by
  rw[World.setCells];exact qj r (o+1) _ _ (aI h o v)
theorem tz:∀(new X1 pre post:List Value),X1.length=new.length->p7 (pre++X1++post).toArray pre.length new=(pre++new++post).toArray
 |[],[],pre,post,_=>rfl
 |[],_::_,_,_,h=>by cases h
 |_::_,[],_,_,h=>by cases h
 |v::r,u::o,pre,post,h=>by
  have h1:((pre++u::o++post).toArray).setIfInBounds pre.length v=((pre++[v])++o++post).toArray:=by
   rw[List.setIfInBounds_toArray];congr 1;simp
  have h2:=tz r o (pre++[v]) post (by simpa using h);rw[p7,h1];rw[aBj,List.length_singleton]at h2;rw[h2];simp
theorem BJ {X1 new:List Value} (h:X1.length=new.length):p7 X1.toArray 0 new=new.toArray:=by
 have:=tz new X1 [] [] h
 simpa using this
theorem qD {F:Nat->Prop} {a:World} {pe:Nat} (hF:pe<a.heap.size->F pe):∀(vs:List Value) (o:Nat) (b:World),Mod F a b->Mod F a (b.setCells pe o vs)
 |[],_,_,h=>h
 |v::r,o,b,h=>by
  rw[World.setCells];exact qD hF r (o+1) _ (h.setCell ⟨pe,o,none⟩ v hF)
theorem jK {w:World} {b:Nat} {t:TypeId} {l:List Value} (h:w.heap[b]? =some (.cells l.toArray t (0,0))):w.rangeAt b 0 l:=fun j v hv=>by
 rw[aa h (0+j),Nat.zero_add]
 simpa using hv
theorem Ad {fn:Func} {w:World} {b t:Nat} {m:NdM} {tmps:Array Value} (h:fn.results=#[.cell t 55]) (h2:tmps[t]? =some (.pointer (some ⟨b,0,none⟩))) (hb:w.heap[b]? =some (NdO m)):
 (results fn tmps).run Tryz.prog w= .ok m.v w:=by
 have hl:=run_loadVar_mid (P:= Tryz.prog) w b 0 55 m.cells _ (jK hb) Tryz.underlying55 rfl (show (Tryz.prog.info? 55).map (·.size)=some 6 by kernel_rfl);rw[Array.getElem?_eq_some_iff]at h2;obtain ⟨l2,e2⟩:=h2;simp[results,h,asAddr,Array.getD,l2,e2,hl];rfl
theorem Gh (w:World) (m:NdM) (hm:m.Ok w):
 Calls Tryz.prog 36 #[m.v] w fun r w'=>(match dg m.nd with| .ok _=>r= .returned (.tuple #[])| .error e=>r=Pan e)/\Below w.heap.size w w':=by
 obtain ⟨ao,c,cI,_⟩:=j6 hm.kids;obtain ⟨⟨kind,key,text,quoted,line,kids⟩,kv⟩:=m;simp only at cI;subst cI;unfold NdM.v dg;simp only;generalize kids.length=n at*;have lW:=hid (fun o=>(aBi w.heap.size w).alloc (aBh _) o);clear hm;by_cases hk:kind=2
 ·have t1:(kind==2)=true:=by rw[beq_iff_eq];exact hk
  rw[if_neg (fun q=>q hk)];clear hk;go_enter Tryz.func36,Tryz.ntmps36;go_wp2
  first|go_end0|refine bodyPost_ret (results_none rfl _ _ _) rfl ?_
  exact ⟨rfl,lW.o _⟩
 ·have t1:(kind==2)=false:=by rw[beq_eq_false_iff_ne];exact hk
  rw[if_pos hk];have Hf:=hid (fun w1=>lg w1 line 123);have p1:¬kind=2:=hk;clear hk;go_enter Tryz.func36,Tryz.ntmps36
  go_wp2_with fail
  refine (Hf.o _).mono ?_;rintro r w1 ⟨rfl,rfl⟩;exact ⟨rfl,rfl,lW.o _⟩
def pX (F:FuncId):Prop:=∀(args:Array Value) (w:World),(callFunc F args).run Tryz.prog w= .ok (.enter F args) w
theorem jO {F:FuncId} {fn:Func} (hf: Tryz.prog.funcs[F]? =some fn) (ZG:(fn.name=="runtime.NumGoroutine")=false) (hb:fn.body.isNone=false):pX F:=by
 intro args w;have h1:fn.name≠"runtime.NumGoroutine":=by simpa using ZG
 have h3:¬fn.body=none:=by intro h;simp[h]at hb
 simp[callFunc,hf,h1,h3]
theorem pQ (w:World) (o o':Obj):((w.alloc o).alloc o').heap[w.heap.size+1]? =some o':=by
 have h:=ag (w:=w.alloc o) o';have e:(w.alloc o).heap.size=w.heap.size+1:=by simp
 rw[e]at h;exact h
theorem vD (w:World) (m:NdM) (hm:m.Ok w) (F:FuncId) (hF:pX F) (so:ByteArray->Bool) (KE:∀w1,Below w.heap.size w w1->Calls Tryz.prog F #[.string m.nd.text] w1 fun r w'=>r= .returned (.bool (so m.nd.text))/\Below w1.heap.size w1 w'):
 Calls Tryz.prog 41 #[m.v,.func (.func F) #[] #[]] w fun r w'=>(match aO m.nd so with| .ok s=>r= .returned (.string s)| .error e=>r=Pan e)/\Below w.heap.size w w':=by
 obtain ⟨ao,c,cI,_⟩:=j6 hm.kids;obtain ⟨⟨kind,key,text,quoted,line,kids⟩,kv⟩:=m;simp only at cI KE;subst cI;unfold NdM.v aO;simp only;generalize kids.length=n at*;have lW:=hid (fun o=>(aBi w.heap.size w).alloc (aBh _) o);have Hs:=hid KE;have Hf:=hid (fun w1=>lg w1 line 123);have hFx:∀(args:Array Value) (w:World),(callFunc F args).run Tryz.prog w= .ok (.enter F args) w:=hF
 clear hm KE hF;by_cases hk:kind=1
 ·have t1:(kind==1)=true:=by rw[beq_iff_eq];exact hk
  generalize so text=sb at*;cases sb with
  |true=>
   rw[if_neg (by simp[hk])];clear Hf t1;subst hk;go_enter Tryz.func41,Tryz.ntmps41
   go_wp2_with fail
   have cK:=lW.o (.cells #[.int .i64 1,.string key,.string text,.bool quoted,.int .i64 line,.slice ao n c] 55);refine (Hs.o _ cK).mono ?_;rintro r w1 ⟨rfl,hb⟩;have D2:=(hb.cell (p:=⟨w.heap.size,2,none⟩) (by simp)).trans (aa (ag _) 2);simp at D2;have Hb:=hid (cK.trans (hb.mono cK.size));clear hb Hs cK;go_wp2;go_ret;exact ⟨rfl,Hb.o⟩
  |false=>
   rw[if_pos (by simp)];clear t1;subst hk;go_enter Tryz.func41,Tryz.ntmps41
   go_wp2_with fail
   have cK:=lW.o (.cells #[.int .i64 1,.string key,.string text,.bool quoted,.int .i64 line,.slice ao n c] 55);refine (Hs.o _ cK).mono ?_;rintro r w1 ⟨rfl,hb⟩;have D4:=(hb.cell (p:=⟨w.heap.size,4,none⟩) (by simp)).trans (aa (ag _) 4);simp at D4;have Hb:=hid (cK.trans (hb.mono cK.size));clear hb Hs cK
   go_wp2_with fail
   refine (Hf.o _).mono ?_;rintro r w1 ⟨rfl,rfl⟩;exact ⟨rfl,rfl,Hb.o⟩
 ·have t1:(kind==1)=false:=by rw[beq_eq_false_iff_ne];exact hk
  have p1:¬kind=1:=hk;rw[if_pos (.inl hk)];clear hk Hs;go_enter Tryz.func41,Tryz.ntmps41
  go_wp2_with fail
  refine (Hf.o _).mono ?_;rintro r w1 ⟨rfl,rfl⟩;exact ⟨rfl,rfl,lW.o _⟩
theorem wH {m:NdM} {ao:Option Addr} {q c:Nat} (h:m.kv= .slice ao q c):NdO m= .cells #[.int .i64 m.nd.kind,.string m.nd.key,.string m.nd.text,.bool m.nd.quoted,.int .i64 m.nd.line,.slice ao q c] 55 :=by unfold NdO;rw[h]
theorem bA {m:NdM} {ao:Option Addr} {q c:Nat} (h:m.kv= .slice ao q c):m.v= .agg #[.int .i64 m.nd.kind,.string m.nd.key,.string m.nd.text,.bool m.nd.quoted,.int .i64 m.nd.line,.slice ao q c]:=by unfold NdM.v;rw[h]
theorem J1 {w w2:World} {g T:Nat} (hb:Below w.heap.size w w2) {c:Array Value} {l:List Value} (h:w2.heap[g]? =some (.cells c T (0,0))) (hg:w.heap.size<=g) (hl:c.toList.length=l.length):
 Below w.heap.size w (w2.setCells g 0 l)/\(w2.setCells g 0 l).heap[g]? =some (.cells l.toArray T (0,0)):=by
 refine ⟨hb.trans ((qD (F:=fun q=>q=g) (fun _=>rfl) l 0 _ (Mod.refl _ w2)).below hb.size (fun k hk=>by rw[hk];exact hg)),?_⟩;rw[qj l 0 w2 c h,<-BJ hl]
theorem kS (w:World) (db b o cap:Nat) (ms:List NdM) (h:DocM w db b o cap ms) (m:NdM) (hm:m∈ms) (key:ByteArray):
 Calls Tryz.prog 37 #[.pointer (some ⟨db,0,none⟩),m.v,.string key] w fun r w'=>(match bH (nds ms) m.nd key with|some k=>∃mk,ms[k]? =some mk/\r= .returned mk.v|none=>r=Pan (m.nd.line,122))/\Below w.heap.size w w':=by
 have hok:=h.ok hm;obtain ⟨kp,c2,cI,_,_⟩:=aL hok.kids;obtain ⟨q,hq⟩:=ex (m.nd.kids.length);rw[<-hq]at cI;have Hf:=hid (fun w1 (bG:Below w.heap.size w w1)=>oD w1 db b o cap ms (h.later bG) m hm key);have hv:=bA cI;rw[hv]at Hf |-;have xO:=hid (fun w1=>lg w1 m.nd.line 122);have lW:=hid (fun o o'=>show Below w.heap.size w ((w.alloc o).alloc o') from ((aBi w.heap.size w).alloc (aBh _) o).alloc (by simp) o')
 have HD:=hid h;have hN:∀k,bH (nds ms) m.nd key=some k->∃mk,ms[k]? =some mk:=fun k hk=>by
  obtain ⟨z,hz,e,_⟩:=nP hk;obtain ⟨k',mk,e2,Sy,_⟩:=h.kid hm hz;exact ⟨mk,by rw[<-e,e2];simpa using Sy⟩
 have HN:=hid hN;clear h hm hok cI hq hv hN;cases eh:bH (nds ms) m.nd key with
 |none=>
  rw[eh]at Hf;simp only;have C1:fO b o none= .pointer none:=rfl;rw[C1]at Hf;clear HN eh C1 HD;go_enter Tryz.func37,Tryz.ntmps37
  go_wp2_with fail
  have cK:=lW.o (.cells #[.int .i64 m.nd.kind,.string m.nd.key,.string m.nd.text,.bool m.nd.quoted,.int .i64 m.nd.line,.slice kp q c2] 55) (.cells #[.int .i64 0,.string ⟨#[]⟩,.string ⟨#[]⟩,.bool false,.int .i64 0,.slice none 0 0] 55);refine (Hf.o _ cK).mono ?_;rintro r w1 ⟨rfl,hb⟩;have D4:=(hb.cell (p:=⟨w.heap.size,4,none⟩) (by simp;omega)).trans ((World.cell?_of_block (ai _ (by simp))).trans (aa (ag _) 4))
  simp at D4;have Hb:=hid (cK.trans (hb.mono cK.size));clear hb Hf cK lW
  go_wp2_with fail
  refine (xO.o _).mono ?_;rintro r w2 ⟨rfl,rfl⟩;exact ⟨rfl,rfl,Hb.o⟩
 |some k=>
  obtain ⟨mk,cN⟩:=HN.o k eh;rw[eh]at Hf;simp only;have C1:fO b o (some k)= .pointer (some ⟨b,o+k*6,none⟩):=rfl;rw[C1]at Hf;have hk:=(HD.o.at cN).1;have j7:=(HD.o.at cN).2;obtain ⟨IM,c3,gO,_,_⟩:=aL j7.kids;obtain ⟨q3,CT⟩:=ex (mk.nd.kids.length);rw[<-CT]at gO;have pZ:=hid cN;have Hk:=hid hk;have kO:=hid HD.o.blt;have Hkv3:=hid gO;clear HN eh C1 HD cN hk j7 CT gO
  go_enter Tryz.func37,Tryz.ntmps37
  go_wp2_with fail
  have cK:=lW.o (.cells #[.int .i64 m.nd.kind,.string m.nd.key,.string m.nd.text,.bool m.nd.quoted,.int .i64 m.nd.line,.slice kp q c2] 55) (.cells #[.int .i64 0,.string ⟨#[]⟩,.string ⟨#[]⟩,.bool false,.int .i64 0,.slice none 0 0] 55);refine (Hf.o _ cK).mono ?_;rintro r w1 ⟨rfl,hb⟩;have Hb:=cK.trans (hb.mono cK.size);have dw:=(hb.block (w.heap.size+1) (by simp)).trans (pQ _ _ _)
  have x0:=(Hb.cell (p:=⟨b,o+k*6,none⟩) kO.o).trans Hk.o.c0;have x1:=(Hb.cell (p:=⟨b,o+k*6+1,none⟩) kO.o).trans Hk.o.c1;have x2:=(Hb.cell (p:=⟨b,o+k*6+2,none⟩) kO.o).trans Hk.o.c2;have x3:=(Hb.cell (p:=⟨b,o+k*6+3,none⟩) kO.o).trans Hk.o.c3;have x4:=(Hb.cell (p:=⟨b,o+k*6+4,none⟩) kO.o).trans Hk.o.c4;have x5:=(Hb.cell (p:=⟨b,o+k*6+5,none⟩) kO.o).trans Hk.o.c5;rw[Hkv3.o]at x5
  obtain ⟨r0,r1,r2,r3,r4,r5⟩:=cB6 dw;simp at r0 r1 r2 r3 r4 r5;have f0:=ah dw 0;have f1:=ah dw 1;have f2:=ah dw 2;have f3:=ah dw 3;have f4:=ah dw 4;have f5:=ah dw 5;have HE:=hid (J1 Hb (l:=[.int .i64 mk.nd.kind,.string mk.nd.key,.string mk.nd.text,.bool mk.nd.quoted,.int .i64 mk.nd.line,.slice IM q3 c3]) dw (by omega) rfl);clear hb Hf cK lW dw Hb
  go_wp2;refine bodyPost_ret (Ad (m:=mk) (b:=w.heap.size+1) rfl rfl ?_) rfl ?_
  ·exact HE.o.2.trans (by rw[wH Hkv3.o])
  ·exact ⟨⟨mk,pZ.o,rfl⟩,HE.o.1⟩
theorem yO {w:World} {ops:Array Oper} {rest:List Oper} {o:Oper} {a:Act} {Q:Exit->Act->World->Prop} (e sl:TypeId) (z:Value) (size nb:Nat) (jg: Tryz.prog.underlying sl=some (.slice e))
 (oN:(Tryz.prog.info? e).map (fun i=>(i.zero,i.size,i.bytes))=some (some z,size,nb)) (xR:z.cells.size=size) (gQ:0<size) (Sr:nb<=1000) (ln:o.guard=none) (s x:Operand)
 (ho:o.op= .call {callee:= .builtin .append,args:=#[s,x],argTypes:=#[sl,sl]})
 (v:Value) (n:Nat) (xs:List Value) (hs:a.eval s=v) (dh:w.ownsRow 0 e size v n xs) (g:Nat) (arr:Array Value) (news:List Value) (hx:a.eval x= .slice (some ⟨g,0,none⟩) 1 1)
 (ku:w.heap[g]? =some (.cells arr e (0,0))) (eC:arr.toList=news) (hl:news.length=size) (h1:∀u∈news,u.oneCell'=true) (hlen:n<=1000000) (q:Nat) (hq:q=n+1)
 (h:∀fj c' w',w'.ownsRow 0 e size (.slice fj q c') q (xs++news)->w.grownBy w' v.ownBlock->(∀g,(Value.slice fj q c').ownBlock=some g->v.ownBlock=some g\/w.heap.size<=g)->
  wpList Tryz.prog ops Q rest (a.put o.dst (.slice fj q c')) w'):wpList Tryz.prog ops Q (o::rest) a w:=by
 refine iY ln s x sl ho e z size nb jg oN xR gQ v n xs hs dh (some ⟨g,0,none⟩) 1 1 news hx (by omega) (fun hn=>by cases hn) (fun ad had=> ?_) h1 (by unfold maxLen;omega) ?_ q hq h
 ·obtain rfl:=aBm had;intro j u hj;have e2:Addr.add ⟨g,0,none⟩ j=⟨g,j,none⟩:=by
   simp[Addr.add];exact fun h=>h.symm
  rw[e2,aa ku,<-Array.getElem?_toList,eC];exact hj
 ·have h3:(n+1)*nb<=1000001*1000:=Nat.mul_le_mul (by omega) Sr;omega
theorem zZ {w:World} {ops:Array Oper} {o:Oper} {a:Act} {K:Act->World->Prop} {Q:Exit->Act->World->Prop} {E:Prop} (e sl:TypeId) (z:Value) (size nb:Nat) (jg: Tryz.prog.underlying sl=some (.slice e))
 (oN:(Tryz.prog.info? e).map (fun i=>(i.zero,i.size,i.bytes))=some (some z,size,nb)) (xR:z.cells.size=size) (gQ:0<size) (Sr:nb<=1000) (ln:o.guard=none) (s x:Operand)
 (ho:o.op= .call {callee:= .builtin .append,args:=#[s,x],argTypes:=#[sl,sl]})
 (v:Value) (n:Nat) (xs:List Value) (hs:a.eval s=v) (dh:w.ownsRow 0 e size v n xs) (g:Nat) (arr:Array Value) (news:List Value) (hx:a.eval x= .slice (some ⟨g,0,none⟩) 1 1)
 (ku:w.heap[g]? =some (.cells arr e (0,0))) (eC:arr.toList=news) (hl:news.length=size) (h1:∀u∈news,u.oneCell'=true) (hlen:n<=1000000) (q:Nat) (hq:q=n+1)
 (h:∀fj c' w',w'.ownsRow 0 e size (.slice fj q c') q (xs++news)->w.grownBy w' v.ownBlock->(∀g,(Value.slice fj q c').ownBlock=some g->v.ownBlock=some g\/w.heap.size<=g)->
  K (a.put o.dst (.slice fj q c')) w'):if Region.wanted o (yielded ops a.tmps)=true then Oper.wp Tryz.prog o a w K Q else E:=by
 obtain ⟨i,hi,hz,js,FP⟩:=info_parts oN;subst hq;refine jU w ln s x sl ho e i z size nb jg hi hz js FP xR gQ v n xs hs dh (some ⟨g,0,none⟩) 1 1 news hx (by omega) (fun hn=>by cases hn) (fun ad had=> ?_) h1 (by unfold maxLen;omega) ?_ ?_
 ·obtain rfl:=aBm had;intro j u hj;have e2:Addr.add ⟨g,0,none⟩ j=⟨g,j,none⟩:=by
   simp[Addr.add];exact fun h=>h.symm
  rw[e2,aa ku,<-Array.getElem?_toList,eC];exact hj
 ·have h3:(n+1)*nb<=1000001*1000:=Nat.mul_le_mul (by omega) Sr;omega
 ·intro v' w' h1 h2 h3;have hf:∃fj c',v'= .slice fj (n+1) c':=by
   rcases h1.2 with ⟨hv,hn⟩|⟨g,cap,cur,hv,_⟩
   ·rw[hv,hn];exact ⟨none,0,rfl⟩
   ·exact ⟨_,_,hv⟩
  obtain ⟨fj,c',rfl⟩:=hf;exact h fj c' w' h1 h2 h3
theorem ou:(Tryz.prog.info? 55).map (fun i=>(i.zero,i.size,i.bytes))=some (some (.agg #[.int .i64 0,.string ⟨#[]⟩,.string ⟨#[]⟩,.bool false,.int .i64 0,.slice none 0 0]),6,80):=by kernel_rfl
theorem xA {w:World} {kv:Value} {keys:List ByteArray} (hk:SlR w kv 1 keys bc) (x:ByteArray):
 Calls Tryz.prog 79 #[kv,.string x] w fun r w'=>r= .returned (.bool (decide (x∈keys)))/\w'=w:=by
 obtain ⟨ao,c,rfl,hl,bN⟩:=yA hk;rcases Nat.eq_zero_or_pos keys.length with h0|h0
 ·have e:=List.eq_nil_of_length_eq_zero h0;subst e;refine (Tryz.slices_Contains_string_empty ao c x w).mono ?_;rintro r w' ⟨hr,hw⟩;exact ⟨by rw[hr];rfl,hw⟩
 ·obtain ⟨b,o,rfl,_,hc⟩:=bN h0;refine (Tryz.slices_Contains_string b o keys.length c keys x w (aBh _) (by omega) (fun j hj=> ?_)).mono ?_
  ·have e:keys[j]? =some (keys.getD j ByteArray.empty):=by rw[List.getD_eq_getElem?_getD,aBn hj];rfl
   exact hc j _ e
  ·rintro r w' ⟨hr,hw⟩;refine ⟨?_,hw⟩;rw[hr,List.take_length];have e:Lib.containsS keys x=decide (x∈keys):=by
    by_cases hm:x∈keys
    ·rw[dT hm];exact (Lib.containsS_iff _ _).2 hm
    ·rw[dF hm];exact Bool.eq_false_iff.2 fun q=>hm ((Lib.containsS_iff _ _).1 q)
   rw[e]
theorem Nm {ns:List Nd} {keys:List ByteArray} {k:Nat} {r:List Int} (h:(ns[k]!).key∈keys):bE ns keys ((k:Int)::r)=bE ns keys r:=by
 rw[bE,Int.toNat_natCast,if_pos h]
theorem JV {ns:List Nd} {keys:List ByteArray} {k:Nat} {r:List Int} (h:¬(ns[k]!).key∈keys):bE ns keys ((k:Int)::r)= .error ((ns[k]!).line,121):=by
 rw[bE,Int.toNat_natCast,if_neg h]
def D5 (x:R Unit) (r:Ending):Prop:=match x with| .ok _=>r= .returned (.tuple #[])| .error e=>r=Pan e
theorem wA (w:World) (db b o cap:Nat) (ms:List NdM) (h:DocM w db b o cap ms) (m:NdM) (hm:m∈ms) (kv:Value) (keys:List ByteArray) (T4:SlR w kv 1 keys bc):
 Calls Tryz.prog 45 #[.pointer (some ⟨db,0,none⟩),m.v,kv] w fun r w'=>D5 (bE (nds ms) keys m.nd.kids) r/\Below w.heap.size w w':=by
 have hok:=h.ok hm;obtain ⟨kp,c2,cI,mF,hks⟩:=aL hok.kids;obtain ⟨q,hq⟩:=ex (m.nd.kids.length);rw[<-hq]at cI mF hks;have HD:=hid h;obtain ⟨n,hn⟩:=ex (ms.length);have nM:=h.doc;rw[<-hn]at nM;have d0:∀ob,(w.alloc ob).cell? ⟨db,0,none⟩=some (.slice (some ⟨b,o,none⟩) n cap):=fun ob=>(World.cell?_of_block (ai ob (af nM))).trans (aa nM 0);have iW:=hid (fun j (hj:j<q)=>show ∃(k:Nat) (mk:NdM),m.nd.kids[j]? =some (k:Int)/\ms[k]? =some mk/\k<n from by
  obtain ⟨x,hx⟩:∃x,m.nd.kids[j]? =some x:=aF (by omega);obtain ⟨k,mk,e,hk,_⟩:=h.kid hm (List.mem_of_getElem? hx);exact ⟨k,mk,by rw[hx,e],hk,by rw[hn];exact (aBo hk).1⟩)
 have uN:=hid hks;have Hq:=hid hq;have Hl2:=hid mF;have fD:=hid (fun o=>(aBi w.heap.size w).alloc (aBh _) o);have Hin:=hid (fun ob x=>xA (w:=w.alloc ob) (T4.later ((aBi w.heap.size w).alloc (aBh _) ob)) x);have xO:=hid (fun w1 l=>lg w1 l 121);rw[bA cI];obtain ⟨kind,cd⟩:=ex (m.nd.kind);rw[<-cd];obtain ⟨res,dw⟩:=ex (bE (nds ms) keys m.nd.kids)
 rw[<-dw];have pV:=hid dw;clear h hm hok cI hq hks mF hn nM cd T4 dw;go_enter Tryz.func45,Tryz.ntmps45;go_wp2
 go_loopw [11] (fun vi wr=>∃j:Nat,vi= .int .i64 (j:Int)/\(w.alloc (.cells #[.int .i64 kind,.string m.nd.key,.string m.nd.text,.bool m.nd.quoted,.int .i64 m.nd.line,.slice kp q c2] 55))=wr/\Hid (j<=q/\res=bE (nds ms) keys (m.nd.kids.drop j))) (fun vi _=>q-(intOf vi).toNat)
 case atStart=>exact ⟨0,rfl,rfl,hid ⟨Nat.zero_le _,pV.o⟩⟩
 case round=>
  obtain ⟨j,rfl,rfl,H⟩:=hrel;by_cases hj:j<q
  ·have tj:decide (j<q)=true:=dT hj;have bj:(j:Int)<(q:Int):=by omega
   obtain ⟨k,mk,hx,hk,cg⟩:=iW.o j hj;obtain ⟨b2,o2,rfl,bI,hc⟩:=uN.o (by omega);have x1:∀ob,(w.alloc ob).cell? ⟨b2,o2+j,none⟩=some (.int .i64 (k:Int)):=fun ob=>(World.cell?_of_block (ai ob bI)).trans (hc j _ hx);have y1:∀ob,(w.alloc ob).cell? ⟨b,o+k*6+1,none⟩=some (.string mk.nd.key):=fun ob=>(World.cell?_of_block (ai ob HD.o.blt)).trans (HD.o.at hk).1.c1;have y4:∀ob,(w.alloc ob).cell? ⟨b,o+k*6+4,none⟩=some (.int .i64 mk.nd.line):=fun ob=>(World.cell?_of_block (ai ob HD.o.blt)).trans (HD.o.at hk).1.c4
   have bk:(k:Int)<(n:Int):=by omega
   have cw:=H.o.2;rw[iI hx]at cw;have gu:=gI hk;have Hi:=hid (fun ob=>Hin.o ob mk.nd.key);by_cases e:mk.nd.key∈keys
   ·rw[Nm (by rw[gu];exact e)]at cw;rw[dT e]at Hi;have jQ:=hid (show j+1<=q/\res=bE (nds ms) keys (m.nd.kids.drop (j+1)) from ⟨hj,cw⟩);obtain ⟨cY,df⟩:=bL (k:=j) (n:=q) hj (by have:=Hl2.o;omega);clear cw gu hk hx hc bI H iW uN hj cg e HD Hin
    go_wp2_with fail
    refine (Hi.o _).mono ?_;rintro r w1 ⟨rfl,rfl⟩;clear Hi;go_wp2;go_roundw
    case rel=>exact ⟨j+1,df.o,trivial,jQ⟩
    case measure=>exact cY.o
   ·rw[JV (by rw[gu];exact e),gu]at cw;rw[dF e]at Hi;have jQ:=hid cw;clear cw gu hk hx hc bI H iW uN hj cg e HD Hin
    go_wp2_with fail
    refine (Hi.o _).mono ?_;rintro r w1 ⟨rfl,rfl⟩;clear Hi
    go_wp2_with fail
    refine (xO.o _ _).mono ?_;rintro r w1 ⟨rfl,rfl⟩;exact ⟨rfl,by rw[jQ.o];rfl,fD.o _⟩
  ·have tj:decide (j<q)=false:=dF hj;have jQ:=hid (show res= .ok () from by
    rw[H.o.2,List.drop_eq_nil_of_le (by have:=Hq.o;omega)];rfl)
   clear H iW uN hj HD;go_wp2
   first|go_end0|refine bodyPost_ret (results_none rfl _ _ _) rfl ?_
   exact ⟨by rw[jQ.o];rfl,fD.o _⟩
def fg (ms:List NdM) (m:NdM):List NdM:=m.nd.kids.map fun k=>ms[k.toNat]!
theorem lF (ms:List NdM) (m:NdM):(fg ms m).length=m.nd.kids.length:=List.length_map ..
theorem N5 {ms:List NdM} {m:NdM} {j k:Nat} {mk:NdM} (hx:m.nd.kids[j]? =some (k:Int)) (hk:ms[k]? =some mk):(fg ms m)[j]? =some mk:=by
 unfold fg;rw[List.getElem?_map,hx];simp[List.getElem!_eq_getElem?_getD,hk]
theorem VT (m:NdM):m.cells.length=6:=rfl
theorem Aw (m:NdM) {ao:Option Addr} {q c:Nat} (h:m.kv= .slice ao q c):∀u∈m.cells,u.oneCell'=true:=by
 intro u hu;unfold NdM.cells at hu;rw[h]at hu;simp only[List.mem_cons,List.not_mem_nil,or_false]at hu;rcases hu with rfl|rfl|rfl|rfl|rfl|rfl<;>rfl
theorem Ji {α:Type} {l:List α} {j:Nat} {x:α} {f:α->List Value} (h:l[j]? =some x):(l.take (j+1)).flatMap f=(l.take j).flatMap f++f x:=by
 rw[List.take_add_one,h];simp
theorem Kf {ns:List Nd} {n:Nd} {a b:Nat} (h:¬n.kind=3):cp ns n a b= .error (n.line,123):=by unfold cp;rw[if_pos h]
theorem Ke {ns:List Nd} {n:Nd} {a b:Nat} (h:n.kind=3) (h2:n.kids.length<a\/b<n.kids.length):cp ns n a b= .error (n.line,124):=by unfold cp;rw[if_neg (fun q=>q h),if_pos h2]
theorem NQ {ns:List Nd} {n:Nd} {a b:Nat} (h:n.kind=3) (h2:¬(n.kids.length<a\/b<n.kids.length)):cp ns n a b= .ok (n.kids.map fun k=>ns[k.toNat]!):=by unfold cp;rw[if_neg (fun q=>q h),if_neg h2]
theorem Fm (w:World) (db b o cap:Nat) (ms:List NdM) (h:DocM w db b o cap ms) (m:NdM) (hm:m∈ms) (least qC:Nat) (lI:qC<=1000) (AQ:least<=1000):
 Calls Tryz.prog 80 #[.pointer (some ⟨db,0,none⟩),m.v,.int .i64 (least:Int),.int .i64 (qC:Int)] w fun r w'=>
  (match cp (nds ms) m.nd least qC with| .ok _=>∃v,r= .returned v/\SlR w' v 6 (fg ms m) NdM.cells/\(∀g,v.ownBlock=some g->w.heap.size<=g)| .error e=>r=Pan e)/\Below w.heap.size w w':=by
 have hok:=h.ok hm;obtain ⟨kp,c2,cI,mF,hks⟩:=aL hok.kids;obtain ⟨q,hq⟩:=ex (m.nd.kids.length);rw[<-hq]at cI mF hks;have HD:=hid h;obtain ⟨n,hn⟩:=ex (ms.length);have nM:=h.doc;rw[<-hn]at nM;have d0:w.cell? ⟨db,0,none⟩=some (.slice (some ⟨b,o,none⟩) n cap):=aa nM 0;have OW:=af nM;have iW:=hid (fun j (hj:j<q)=>show ∃(k:Nat) (mk:NdM),m.nd.kids[j]? =some (k:Int)/\ms[k]? =some mk/\k<n from by
  obtain ⟨x,hx⟩:∃x,m.nd.kids[j]? =some x:=aF (by omega);obtain ⟨k,mk,e,hk,_⟩:=h.kid hm (List.mem_of_getElem? hx);exact ⟨k,mk,by rw[hx,e],hk,by rw[hn];exact (aBo hk).1⟩)
 have uN:=hid hks;have Hq:=hid hq;have fD:=hid (fun o=>(aBi w.heap.size w).alloc (aBh _) o);have xO:=hid (fun w1 l e=>lg w1 l e);rw[bA cI];obtain ⟨kind,cd⟩:=ex (m.nd.kind);rw[<-cd];by_cases h3:kind=3
 ·have t3:(kind==3)=true:=by rw[beq_iff_eq];exact h3
  by_cases OR:q<least\/qC<q
  ·rw[Ke (by rw[<-cd];exact h3) (by rw[<-hq];exact OR)];simp only;by_cases hl:q<least
   ·have t1:decide (q<least)=true:=dT hl;clear h hm hok cI hq hks mF hn nM cd OR hl HD iW uN OW d0 lI AQ h3;go_enter Tryz.func80,Tryz.ntmps80
    go_wp2_with fail
    refine (xO.o _ _ _).mono ?_;rintro r w1 ⟨rfl,rfl⟩;exact ⟨rfl,rfl,fD.o _⟩
   ·have t1:decide (q<least)=false:=dF hl;have t2:decide (qC<q)=true:=dT (by omega);clear h hm hok cI hq hks mF hn nM cd OR hl HD iW uN OW d0 lI AQ h3;go_enter Tryz.func80,Tryz.ntmps80
    go_wp2_with fail
    refine (xO.o _ _ _).mono ?_;rintro r w1 ⟨rfl,rfl⟩;exact ⟨rfl,rfl,fD.o _⟩
  ·rw[NQ (by rw[<-cd];exact h3) (by rw[<-hq];exact OR)];simp only;have t1:decide (q<least)=false:=dF (by omega);have t2:decide (qC<q)=false:=dF (by omega);have Hq1:=hid (show q<=1000 by omega);have Hdlt:=hid OW;have DZ:=hid h.blt;have H0:=hid (fun o=>RO.start (e:= 55) (sz:=6) (fD.o o));have Ec:=hid (show 0<6 by decide);have Lu:=hid (show 80<=1000 by decide);clear h hm hok cI hq hks mF hn nM cd OR OW lI AQ h3
   go_enter Tryz.func80,Tryz.ntmps80;go_wp2
   go_loopw [8,35] (fun vv vi wr=>∃(v2:Value) (j:Nat),v2=vv/\vi= .int .i64 (j:Int)/\Hid (j<=q/\RO w wr 55 6 v2 j (((fg ms m).take j).flatMap NdM.cells))) (fun _ vi _=>q-(intOf vi).toNat)
   case atStart=>exact ⟨_,0,rfl,rfl,hid ⟨Nat.zero_le _,H0.o _⟩⟩
   case round=>
    clear H0 t1 t2 t3;obtain ⟨v2,j,rfl,rfl,H⟩:=hrel;by_cases hj:j<q
    ·have tj:decide (j<q)=true:=dT hj;have bj:(j:Int)<(q:Int):=by omega
     obtain ⟨k,mk,hx,hk,cg⟩:=iW.o j hj;obtain ⟨b2,o2,rfl,bI,hc⟩:=uN.o (by omega);have gv:=H.o.2.below;have x1:=(gv.cell (p:=⟨b2,o2+j,none⟩) bI).trans (hc j _ hx);have d1:=(gv.cell (p:=⟨db,0,none⟩) Hdlt.o).trans d0;have c:=(HD.o.at hk).1;have j7:=(HD.o.at hk).2;obtain ⟨IM,c3,gO,_,_⟩:=aL j7.kids;obtain ⟨q3,CT⟩:=ex (mk.nd.kids.length);rw[<-CT]at gO;have y0:=(gv.cell (p:=⟨b,o+k*6,none⟩) DZ.o).trans c.c0
     have y1:=(gv.cell (p:=⟨b,o+k*6+1,none⟩) DZ.o).trans c.c1;have y2:=(gv.cell (p:=⟨b,o+k*6+2,none⟩) DZ.o).trans c.c2;have y3:=(gv.cell (p:=⟨b,o+k*6+3,none⟩) DZ.o).trans c.c3;have y4:=(gv.cell (p:=⟨b,o+k*6+4,none⟩) DZ.o).trans c.c4;have y5:=(gv.cell (p:=⟨b,o+k*6+5,none⟩) DZ.o).trans c.c5;rw[gO]at y5;have bk:(k:Int)<(n:Int):=by omega
     have bN:=N5 (ms:=ms) hx hk;have hfl:=Ji (f:=NdM.cells) bN;obtain ⟨cY,df⟩:=bL (k:=j) (n:=q) hj (by have:=Hq1.o;omega);have b9:=hid (fun o=>H.o.2.row.alloc o);have nX:=hid (Aw mk gO);have lS:=hid (show (#[.int .i64 mk.nd.kind,.string mk.nd.key,.string mk.nd.text,.bool mk.nd.quoted,.int .i64 mk.nd.line,.slice IM q3 c3]:Array Value).toList=mk.cells by unfold NdM.cells;rw[gO])
     have Tp:=hid (show j<=1000000 by have:=Hq1.o;omega);have aX:=hid (fun o v' w2 a1 a2 a3=>show j+1<=q/\RO w w2 55 6 v' (j+1) (((fg ms m).take (j+1)).flatMap NdM.cells) from ⟨hj,by
      have:=RO.app (w1:=wr.alloc o) (v':=v') (w2:=w2) (m:=j+1) (ys:=((fg ms m).take j).flatMap NdM.cells++mk.cells) H.o.2 ((aBi _ wr).alloc (aBh _) o) a1 a2 a3;rw[hfl];exact this⟩)
     clear bN hfl hx hc bI gv hk cg c j7 gO CT H iW uN HD hj d0
     go_wp2_with (at_builtin;refine yO 55 33 (.agg #[.int .i64 0,.string ⟨#[]⟩,.string ⟨#[]⟩,.bool false,.int .i64 0,.slice none 0 0]) 6 80 Tryz.underlying33 ou rfl Ec.o Lu.o rfl _ _ rfl v2 j (((fg ms m).take j).flatMap NdM.cells) rfl (b9.o _) wr.heap.size #[.int .i64 mk.nd.kind,.string mk.nd.key,.string mk.nd.text,.bool mk.nd.quoted,.int .i64 mk.nd.line,.slice IM q3 c3] mk.cells rfl (ag _) lS.o rfl nX.o Tp.o (j+1) rfl ?_;intro vA c4 w2 aB bC aA;have HE:=hid (aX.o _ _ _ aB bC aA);clear aB bC aA)
     go_roundw
     case rel=>exact ⟨_,_,_,⟨j+1,df.o,HE⟩,rfl,rfl,rfl⟩
     case measure=>exact cY.o
    ·have tj:decide (j<q)=false:=dF hj;have He:=hid (show SlR wr v2 6 (fg ms m) NdM.cells/\(∀g,v2.ownBlock=some g->w.heap.size<=g)/\Below w.heap.size w wr from by
      have ej:j=q:=by have:=H.o.1;omega
      subst ej;have h2:=H.o.2;rw[List.take_of_length_le (by rw[lF];have:=Hq.o;omega)]at h2;exact ⟨SlR.ofRow h2.row (by rw[lF];exact Hq.o) VT (by have:=Hq1.o;omega) (by decide),h2.new,h2.below⟩)
     clear H iW uN hj HD d0;go_wp2;go_ret;exact ⟨⟨_,rfl,He.o.1,He.o.2.1⟩,He.o.2.2⟩
 ·have t3:(kind==3)=false:=by rw[beq_eq_false_iff_ne];exact h3
  have p3:¬kind=3:=h3;rw[Kf (by rw[<-cd];exact h3)];simp only;clear h hm hok cI hq hks mF hn nM cd HD iW uN OW d0 lI AQ h3;go_enter Tryz.func80,Tryz.ntmps80
  go_wp2_with fail
  refine (xO.o _ _ _).mono ?_;rintro r w1 ⟨rfl,rfl⟩;exact ⟨rfl,rfl,fD.o _⟩
