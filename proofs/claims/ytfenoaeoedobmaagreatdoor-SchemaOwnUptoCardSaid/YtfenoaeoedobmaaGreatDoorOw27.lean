/-
Parts of a proof.
-/
import Derived.Test.YtfenoaeoedobmaaGreatDoorOw26
set_option linter.unusedVariables false
set_option linter.unusedSimpArgs false
set_option maxHeartbeats 4000000
set_option maxRecDepth 20000
namespace Go.Proofs.YtfenoaeoedobmaaGreatDoor
open Go Go.RowKit
noncomputable def Kk:Code:=(ncl (ncx Tryz.f21.body))
noncomputable def Kj:Code:=(ncl (ncr (ncx Tryz.f21.body)))
noncomputable def Ki:Code:=(ncl (ncr (ncr (ncx Tryz.f21.body))))
noncomputable def Kh:Code:=(ncl (ncr (ncr (ncr (ncx Tryz.f21.body)))))
noncomputable def Kg:Code:=(ncl (ncr (ncr (ncr (ncr (ncx Tryz.f21.body))))))
def zl:Obj:= .cells #[.int .i64 0,.string ⟨#[]⟩,.slice none 0 0,.slice none 0 0,.string ⟨#[]⟩,.slice none 0 0,.string ⟨#[]⟩,.bool false] 49
def w3R (w:World):World:=((w.alloc zl).alloc (.cells #[.int .i64 0] 3)).alloc (.cells #[.int .i64 0] 25)
theorem sK (w:World):(w3R w).heap.size=w.heap.size+1+1+1:=by simp[w3R]
theorem gw (w:World):Below w.heap.size w (w3R w):=
 (((aAb w.heap.size w).alloc (aAa _) _).alloc (by simp) _).alloc (by simp;omega) _
theorem xq (w:World):(w3R w).heap[w.heap.size]? =some zl/\(w3R w).heap[w.heap.size+1]? =some (.cells #[.int .i64 0] 3 (0,0))/\(w3R w).heap[w.heap.size+1+1]? =some (.cells #[.int .i64 0] 25 (0,0)):=by
 unfold w3R;refine ⟨?_,?_,?_⟩
 ·refine (aj _ (by simp;omega)).trans ((aj _ (by simp)).trans (ah _))
 ·refine (aj _ (by simp)).trans ?_;have h:=ah (w:=w.alloc zl) (.cells #[.int .i64 0] 3)
  simpa using h
 ·have h:=ah (w:=(w.alloc zl).alloc (.cells #[.int .i64 0] 3)) (.cells #[.int .i64 0] 25)
  simpa using h
theorem BM (w:World) (V:Value) (ms:List NdM) (h:Nds w V ms) (hg:Glob w) (ht:dI (nds ms)=false):
 Calls Tryz.prog 21 #[V] w (lM w (fR (nds ms))):=by
 have hd:fR (nds ms)= .error (0,100):=by unfold fR;rw[if_pos ht]
 have he:(eK (nds ms)).2=100:=by unfold eK;rw[if_pos ht]
 rw[hd];have hm:=Ds (w3R w) V ms (h.later (gw w)) (hg.later (gw w));rw[he]at hm;have Hm:=hid hm;obtain ⟨b1,b2,b3⟩:=xq w;have hb3:=gw w;have hs3:=sK w;obtain ⟨ao,cap,rfl,_,_⟩:=h.open;obtain ⟨q,hq⟩:=ex (ms.length);rw[<-hq]at Hm |-;clear h hg ht hd he hm hq;refine calls_of_wp_defers Tryz.func21 rfl ?_;simp only[Tryz.ntmps21,List.size_toArray,aAd,List.length_nil,Nat.reduceAdd,Nat.reduceSub,Array.replicate_succ,Array.replicate_zero,List.push_toArray,List.append_toArray,List.nil_append,List.cons_append]
 go_wp2_with fail
 change Calls _ _ _ (w3R w) _;generalize w3R w=w3 at*;have hr0:zl= .cells #[.int .i64 0,.string ⟨#[]⟩,.slice none 0 0,.slice none 0 0,.string ⟨#[]⟩,.slice none 0 0,.string ⟨#[]⟩,.bool false] 49 (0,0):=rfl;rw[hr0]at b1;clear hr0;obtain ⟨n,hn⟩:=ex (w.heap.size);rw[<-hn]at b1 b2 b3 hs3 |-;refine Hm.o.mono ?_;rintro r w4 ⟨rfl,hb4⟩;have c1:=(hb4.block _ (ag b1)).trans b1
 have c2:=(hb4.block _ (ag b2)).trans b2;have c3:=(hb4.block _ (ag b3)).trans b3;have hbb:Below w.heap.size w w4:=hb3.trans (hb4.mono (by omega));have HE:=hid (kF (l:= .int .i64 0) (e:= .int .i64 100) (v0:= .int .i64 0) (v1:= .string ⟨#[]⟩) (v2:= .slice none 0 0) (v3:= .slice none 0 0) (v4:= .string ⟨#[]⟩) (v5:= .slice none 0 0) (v6:= .string ⟨#[]⟩) (v7:= .bool false) c1 rfl c2 c3)
 have Hbb:=hid hbb;obtain ⟨d0,d1,d2,d3,d4,d5,d6,d7⟩:=cB8 c1;have f1:=fun j=>ai c1 j;have l1:=af c2 0;have l2:=ai c2 0;have l3:=af c3 0;have l4:=ai c3 0;simp at d0 d1 d2 d3 d4 d5 d6 d7 l1 l3;have Hn:=hid hn;clear hn Hm b1 b2 b3 hb3 hs3 hb4 c1 c2 c3 hbb;go_wp2;obtain ⟨z1,z2,z3,z4⟩:=HE.o _ rfl;exact ⟨_,results_read rfl rfl rfl z2 rfl z3 z4,rfl,Hbb.o.trans (z1.below Hbb.o.size fun i hi=>by have:=Hn.o;omega)⟩
theorem A6 {ns:List Nd} (h:dI ns=true):0<ns.length:=by
 cases ns with
 |nil=>revert h;unfold dI;simp
 |cons a l=>simp
theorem zt (w:World) (V:Value) (ms:List NdM) (h:Nds w V ms) (hg:Glob w) (ht:dI (nds ms)=true):
 Calls Tryz.prog 21 #[V] w (lM w (fR (nds ms))):=by
 have he:(eK (nds ms)).2=100->False:=by
  unfold eK;rw[if_neg (by rw[ht];simp)]
  split<;>(intro q;revert q;simp)
 have Hm:=hid (Ds (w3R w) V ms (h.later (gw w)) (hg.later (gw w)));have Hh:=hid h;have Hg:=hid hg;have Ht:=hid ht;obtain ⟨b1,b2,b3⟩:=xq w;have hb3:=gw w;have hs3:=sK w;have hpos:0<ms.length:=by have:=A6 ht;unfold nds at this;simpa using this
 obtain ⟨ao,cap,rfl,_,hat⟩:=h.open;obtain ⟨b,o,rfl,hblt,hat⟩:=hat hpos;obtain ⟨m0,hm0⟩:∃m0,ms[0]? =some m0:=au hpos;obtain ⟨hc,hmo⟩:=hat 0 m0 hm0;obtain ⟨ay,cy,hyv,_,_⟩:=aF hmo.kids;obtain ⟨qy,hqy⟩:=ex (m0.nd.kids.length);rw[<-hqy]at hyv;have Hm0:=hid hm0;have Hyv:=hid hyv;have X:=hid (show ∀w1,Below w.heap.size w w1->w1.cell? ⟨b,o,none⟩=some (.int .i64 m0.nd.kind)/\w1.cell? ⟨b,o+1,none⟩=some (.string m0.nd.key)/\w1.cell? ⟨b,o+2,none⟩=some (.string m0.nd.text)/\w1.cell? ⟨b,o+3,none⟩=some (.bool m0.nd.quoted)/\w1.cell? ⟨b,o+4,none⟩=some (.int .i64 m0.nd.line)/\w1.cell? ⟨b,o+5,none⟩=some (.slice ay qy cy) from fun w1 hb=>by
  have e0:o+0*6=o:=by omega
  rw[e0]at hc;exact ⟨(hb.cell hblt).trans hc.c0,(hb.cell hblt).trans hc.c1,(hb.cell hblt).trans hc.c2,(hb.cell hblt).trans hc.c3,(hb.cell hblt).trans hc.c4,(hb.cell hblt).trans (by rw[<-hyv];exact hc.c5)⟩)
 obtain ⟨q,hq⟩:=ex (ms.length);rw[<-hq]at Hm hpos |-;have Hq:=hid hq;have Hblt:=hid hblt;generalize (eK (nds ms)).2=en at*;have t1:(en==100)=false:=by rw[beq_eq_false_iff_ne];exact he
 have hbq:(0:Int)<(q:Int):=by omega
 have hmf:∀(fn:Fn) (first cap:Array Value) (w:World),(Instr.makeFunc fn first cap).run Tryz.prog w= .ok (.func fn first cap) w:=fun _ _ _ _=>rfl;have hr0:zl= .cells #[.int .i64 0,.string ⟨#[]⟩,.slice none 0 0,.slice none 0 0,.string ⟨#[]⟩,.slice none 0 0,.string ⟨#[]⟩,.bool false] 49 (0,0):=rfl;rw[hr0]at b1;have HQ:=hid (fun (a:Act) (w1:World) (n db kb:Nat) (hf:RdD a n db kb) (h1:RdW w w1 n db kb b o cap ms m0 Res.zero)=>ER hf h1 hm0 ht)
 clear h hg ht hm0 hc hat hmo hyv hqy hq hblt he hr0;generalize fR (nds ms)=dx at*;refine calls_of_wp_defers Tryz.func21 rfl ?_
 show Code.wp _ (Code.seq Kk (Code.seq Kj (Code.seq Ki (Code.seq Kh (Code.seq Kg vQ))))) _ _ _
 simp only[Tryz.ntmps21,List.size_toArray,aAd,List.length_nil,Nat.reduceAdd,Nat.reduceSub,Array.replicate_succ,Array.replicate_zero,List.push_toArray,List.append_toArray,List.nil_append,List.cons_append];dsimp only[Kk,Kj,Ki,Kh,Kg,ncl,ncr,ncx,Tryz.f21]
 go_wp2_with fail
 change Calls _ _ _ (w3R w) _;generalize w3R w=w3 at*;obtain ⟨n,hn⟩:=ex (w.heap.size);rw[<-hn]at b1 b2 b3 hs3 |-;refine Hm.o.mono ?_;rintro r w4 ⟨rfl,hb4⟩;have hbb:Below w.heap.size w w4:=hb3.trans (hb4.mono (by omega));have h4:w.heap.size+3<=w4.heap.size:=by have:=hb4.size;omega
 have hd1:=(aAb w4.heap.size w4).alloc (aAa _) (.cells #[.slice (some ⟨b,o,none⟩) q cap] 79);obtain ⟨x0,x1,x2,x3,x4,x5⟩:=X.o _ (hbb.trans (hd1.mono (by omega)));have B:=hid (And.intro ((hb4.block _ (ag b1)).trans b1) (And.intro ((hb4.block _ (ag b2)).trans b2) ((hb4.block _ (ag b3)).trans b3)));have Hbb:=hid (And.intro hbb h4);have Hn:=hid hn
 clear hn Hm b1 b2 b3 hb3 hs3 hb4 hbb h4 hd1;go_wp2;refine HQ.o _ _ n w4.heap.size (w4.heap.size+1) ⟨rfl,rfl,rfl,rfl,rfl,rfl,rfl⟩ ?_;have hd1:=(aAb w4.heap.size w4).alloc (aAa _) (.cells #[.slice (some ⟨b,o,none⟩) q cap] 79);have hd2:=hd1.alloc hd1.size (.cells #[.int .i64 m0.nd.kind,.string m0.nd.key,.string m0.nd.text,.bool m0.nd.quoted,.int .i64 m0.nd.line,.slice ay qy cy] 55)
 obtain ⟨B1,B2,B3⟩:=B.o;obtain ⟨hbb,h4⟩:=Hbb.o;have e1:((w4.alloc (.cells #[.slice (some ⟨b,o,none⟩) q cap] 79)).alloc (.cells #[.int .i64 m0.nd.kind,.string m0.nd.key,.string m0.nd.text,.bool m0.nd.quoted,.int .i64 m0.nd.line,.slice ay qy cy] 55)).heap[w4.heap.size]? =some (.cells #[.slice (some ⟨b,o,none⟩) q cap] 79 (0,0)):=(aj _ (by simp)).trans (ah _)
 have hn:=Hn.o;have hq:=Hq.o;refine ⟨⟨Hh.o,Hblt.o,hbb.trans (hd2.mono (by omega)),by omega,by rw[<-hq];exact e1,Ht.o,Hg.o⟩,(hd2.block _ (ag B1)).trans B1,(hd2.block _ (ag B2)).trans B2,(hd2.block _ (ag B3)).trans B3,?_,hn,by omega,by omega,List.mem_of_getElem? Hm0.o⟩;rw[oN Hyv.o];have h5:=ah (w:=w4.alloc (.cells #[.slice (some ⟨b,o,none⟩) q cap] 79)) (.cells #[.int .i64 m0.nd.kind,.string m0.nd.key,.string m0.nd.text,.bool m0.nd.quoted,.int .i64 m0.nd.line,.slice ay qy cy] 55)
 simpa using h5
theorem BL (w:World) (V:Value) (ms:List NdM) (h:Nds w V ms) (hg:Glob w):
 Calls Tryz.prog 21 #[V] w (lM w (fR (nds ms))):=by
 cases ht:dI (nds ms) with
 |false=>exact BM w V ms h hg ht
 |true=>exact zt w V ms h hg ht
def NZ {α:Type} (x:R α):Prop:=∀e,x= .error e->e.2≠0
theorem NZ.ok {α:Type} (a:α):NZ (.ok a:R α):=nofun
theorem NZ.err {α:Type} {l c:Int} (h:c≠0):NZ (.error (l,c):R α):=fun e he=>by
 injection he with he
 rw[<-he];exact h
theorem NZ.of {α β:Type} {x:R α} (hx:NZ x) {e:Stop} (h:x= .error e):NZ (.error e:R β):=fun e2 he=>by
 injection he with he
 subst he;exact hx _ h
theorem wx (n:Nd):NZ (dt n):=by
 unfold dt
 split
 ·exact NZ.err (by decide)
 ·exact NZ.ok _
theorem gp (ns:List Nd) (m:Nd) (k:ByteArray):NZ (bH ns m k):=by
 unfold bH
 split
 ·exact NZ.ok _
 ·exact NZ.err (by decide)
theorem lk (ns:List Nd) (keys:List ByteArray):∀l,NZ (bG ns keys l)
 |[]=>NZ.ok _
 |k::r=>by
  unfold bG
  split
  ·exact lk ns keys r
  ·exact NZ.err (by decide)
theorem fB (n:Nd) (so:ByteArray->Bool):NZ (aS n so):=by
 unfold aS
 split
 ·exact NZ.err (by decide)
 ·exact NZ.ok _
theorem rH (ns:List Nd) (n:Nd) (a b:Nat):NZ (cn ns n a b):=by
 unfold cn
 split
 ·exact NZ.err (by decide)
 ·split
  ·exact NZ.err (by decide)
  ·exact NZ.ok _
theorem xN:∀(l:List Nd) (out:List ByteArray),NZ (dS l out)
 |[],out=>NZ.ok _
 |k::r,out=>by
  unfold dS
  repeat' split
  all_goals first|exact NZ.err (by decide)|exact xN r _|exact NZ.of (fB _ _) (by assumption)
theorem wq (ns:List Nd) (m:Nd) (r:Res):NZ (fG ns m r):=by
 unfold fG
 repeat' split
 all_goals first|exact NZ.err (by decide)|exact NZ.ok _|exact NZ.of (rH _ _ _ _) (by assumption)|exact NZ.of (xN _ _) (by assumption)
theorem zG (n:Nd):NZ (cw n):=by
 unfold cw
 repeat' split
 all_goals first|exact NZ.err (by decide)|exact NZ.ok _
theorem Cg (ns:List Nd) (k:Nd):NZ (match bC ns k bd,bC ns k aU with
 |none,none=>(.error (k.line,122):R (ByteArray×ByteArray))
 |some _,some b=> .error ((eN ns k.kids b).line,121)
 |some a,none=>(match aS a isName with| .error e=> .error e| .ok s=> .ok (s,⟨#[]⟩))
 |none,some b=>(match aS b isName with| .error e=> .error e| .ok s=> .ok (⟨#[]⟩,s))):=by
 repeat' split
 all_goals first|exact NZ.err (by decide)|exact NZ.ok _|exact NZ.of (fB _ _) (by assumption)
theorem zH (ns:List Nd) (k:Nd):NZ (dz ns k):=by
 unfold dz
 repeat' split
 all_goals first|exact NZ.err (by decide)|exact NZ.ok _|exact NZ.of (wx _) (by assumption)|exact NZ.of (lk _ _ _) (by assumption)|exact NZ.of (gp _ _ _) (by assumption)|exact NZ.of (zG _) (by assumption)|exact NZ.of (fB _ _) (by assumption)|exact NZ.of (Cg _ _) (by assumption)
theorem oJ (ns:List Nd):∀(l:List Nd) (out:List Tgt),NZ (bg ns l out)
 |[],out=>NZ.ok _
 |k::r,out=>by
  unfold bg
  repeat' split
  all_goals first|exact NZ.err (by decide)|exact oJ ns r _|exact NZ.of (zH _ _) (by assumption)
theorem Ch (ns:List Nd) (m:Nd) (r:Res):NZ (jq ns m r):=by
 unfold jq
 repeat' split
 all_goals first|exact NZ.err (by decide)|exact NZ.ok _|exact NZ.of (gp _ _ _) (by assumption)|exact NZ.of (rH _ _ _ _) (by assumption)|exact NZ.of (oJ _ _ _) (by assumption)
theorem IY (ns:List Nd) (act:Bool) (k:Nd):NZ (if act=true then (match bH ns k cm with| .error e=> .error e| .ok n=>aS n gk) else (.ok ⟨#[]⟩:R ByteArray)):=by
 repeat' split
 all_goals first|exact NZ.ok _|exact fB _ _|exact NZ.of (gp _ _ _) (by assumption)
theorem IX (ns:List Nd) (k:Nd):NZ (match bC ns k bA with|some n=>aS n fm|none=>(.ok ki:R ByteArray)):=by
 repeat' split
 all_goals first|exact NZ.ok _|exact fB _ _
theorem IW (ns:List Nd) (act:Bool) (k:Nd):NZ (if act=true then (.ok ⟨#[]⟩:R ByteArray) else (match bH ns k aU with| .error e=> .error e| .ok n=>aS n isName)):=by
 repeat' split
 all_goals first|exact NZ.ok _|exact fB _ _|exact NZ.of (gp _ _ _) (by assumption)
theorem E4 (ns:List Nd) (act:Bool) (k:Nd):NZ (fk ns act k):=by
 unfold fk
 repeat' split
 all_goals first|exact NZ.err (by decide)|exact NZ.ok _|exact NZ.of (wx _) (by assumption)|exact NZ.of (lk _ _ _) (by assumption)|exact NZ.of (gp _ _ _) (by assumption)|exact NZ.of (fB _ _) (by assumption)|exact NZ.of (IY _ _ _) (by assumption)|exact NZ.of (IX _ _) (by assumption)|exact NZ.of (IW _ _ _) (by assumption)
theorem qK (ns:List Nd) (act:Bool):∀(l:List Nd) (out:List Rul),NZ (cj ns act l out)
 |[],out=>NZ.ok _
 |k::r,out=>by
  unfold cj
  repeat' split
  all_goals first|exact NZ.err (by decide)|exact qK ns act r _|exact NZ.of (E4 _ _ _) (by assumption)
theorem tN (ns:List Nd) (act:Bool) (m:Nd) (r:Res):NZ (ie ns act m r):=by
 unfold ie
 repeat' split
 all_goals first|exact NZ.err (by decide)|exact NZ.ok _|exact NZ.of (gp _ _ _) (by assumption)|exact NZ.of (rH _ _ _ _) (by assumption)|exact NZ.of (qK _ _ _ _) (by assumption)
theorem Ci (ns:List Nd) (m:Nd) (r:Res):NZ (ig ns m r):=by
 unfold ig
 repeat' split
 all_goals first|exact NZ.err (by decide)|exact NZ.ok _|exact NZ.of (gp _ _ _) (by assumption)|exact NZ.of (fB _ _) (by assumption)|exact tN _ _ _ _
theorem zI (ns:List Nd) (m:Nd) (r:Res):NZ (fA ns m r):=by
 unfold fA
 repeat' split
 all_goals first|exact NZ.err (by decide)|exact NZ.ok _|exact NZ.of (gp _ _ _) (by assumption)|exact NZ.of (fB _ _) (by assumption)|exact tN _ _ _ _
theorem E5 (ns:List Nd) (m:Nd) (r:Res) (k:Nat):NZ (qZ ns m r k):=by
 unfold qZ
 repeat' split
 all_goals first|exact NZ.err (by decide)|exact NZ.ok _|exact NZ.of (lk _ _ _) (by assumption)|exact wq _ _ _|exact Ch _ _ _|exact Ci _ _ _|exact zI _ _ _
theorem Cj (ns:List Nd):NZ (fR ns):=by
 unfold fR
 repeat' split
 all_goals first|exact NZ.err (by decide)|exact NZ.ok _|exact NZ.of (wx _) (by assumption)|exact NZ.of (gp _ _ _) (by assumption)|exact NZ.of (fB _ _) (by assumption)|exact NZ.of (lk _ _ _) (by assumption)|exact E5 _ _ _ _
structure RsM where
 r:Res
 ev:Value
 tv:Value
 rv:Value
def RsM.cells (m:RsM):List Value:=(bJ m.r m.ev m.tv m.rv).toList
def RsM.own (m:RsM) (g:Nat):Prop:=m.ev.ownBlock=some g\/m.tv.ownBlock=some g\/m.rv.ownBlock=some g
structure DocV where
 v:Value
 ms:List NdM
def DocV.cells (d:DocV):List Value:=[d.v]
structure DocsR (w:World) (V:Value) (ds:List DocV):Prop where
 sl:SlR w V 1 ds DocV.cells
 each:∀d∈ds,Nds w d.v d.ms
theorem DocsR.later {w w2:World} {V:Value} {ds:List DocV} (h:DocsR w V ds) (hb:Below w.heap.size w w2):DocsR w2 V ds:=⟨h.sl.later hb,fun d hd=>(h.each d hd).later hb⟩
def bQ (ds:List DocV):List (List Nd):=ds.map fun d=>nds d.ms
structure RsO (w wr:World) (v:Value) (n:Nat) (ms:List RsM):Prop where
 row:RO w wr 49 8 v n (ms.flatMap RsM.cells)
 each:∀m∈ms,ResN wr w.heap.size m.r m.ev m.tv m.rv
 apart:∀m∈ms,∀g,m.own g->v.ownBlock≠some g
 far:ms.Pairwise fun m m'=>∀g,m.own g->¬m'.own g
theorem ResN.own_lt {w:World} {lo:Nat} {m:RsM} (h:ResN w lo m.r m.ev m.tv m.rv) {g:Nat} (hg:m.own g):lo<=g/\g<w.heap.size:=by
 rcases hg with hg|hg|hg
 ·exact ⟨h.fe g hg,(h.e.lt g hg).2⟩
 ·exact ⟨h.ft g hg,(h.t.lt g hg).2⟩
 ·exact ⟨h.fu g hg,(h.u.lt g hg).2⟩
theorem ResN.modM {w w2:World} {lo:Nat} {m:RsM} {F:Nat->Prop} (h:ResN w lo m.r m.ev m.tv m.rv) (hm:Mod F w w2) (hF:∀g,m.own g->¬F g):ResN w2 lo m.r m.ev m.tv m.rv:=
 h.mod hm (fun g hg=>hF g (.inl hg)) (fun g hg=>hF g (.inr (.inl hg))) (fun g hg=>hF g (.inr (.inr hg)))
theorem bh {w w2:World} (hb:Below w.heap.size w w2):Mod (fun _=>False) w w2:=Mod.ofBelow hb (fun k hk hge=>by omega)
theorem RsO.first {w w1:World} (hb:Below w.heap.size w w1):RsO w w1 (.slice none 0 0) 0 []:=⟨RO.start hb,nofun,nofun,List.Pairwise.nil⟩
theorem RsO.later {w wr w2:World} {v:Value} {n:Nat} {ms:List RsM} (h:RsO w wr v n ms) (hb:Below wr.heap.size wr w2):RsO w w2 v n ms:=
 ⟨h.row.later hb,fun m hm=>(h.each m hm).modM (bh hb) (fun _ _ q=>q),h.apart,h.far⟩
theorem RsO.app {w wr w1 w2:World} {v v':Value} {n q:Nat} {ms:List RsM} {m:RsM} (h:RsO w wr v n ms) (hb1:Below wr.heap.size wr w1) (hm:ResN w1 wr.heap.size m.r m.ev m.tv m.rv) (own2:w2.ownsRow 0 49 8 v' q (ms.flatMap RsM.cells++m.cells)) (gr2:w1.grownBy w2 v.ownBlock)
 (new2:∀g,v'.ownBlock=some g->v.ownBlock=some g\/w1.heap.size<=g):RsO w w2 v' q (ms++[m]):=by
 have hr2:=RO.app h.row hb1 own2 gr2 new2;have h1:=h.later hb1;have hM:Mod (fun k=>v.ownBlock=some k) w1 w2:=(Mod.refl _ _).grown gr2 (fun k e _=>e);have hlo:=h.row.below.size;have hap:∀y∈ms++[m],(∀g,y.own g->v.ownBlock≠some g)/\ResN w1 w.heap.size y.r y.ev y.tv y.rv:=by
  intro y hy;rcases List.mem_append.1 hy with hy|hy
  ·exact ⟨h.apart y hy,h1.each y hy⟩
  ·obtain rfl:=List.mem_singleton.1 hy;refine ⟨fun g hg e=> ?_,hm.down hlo⟩;have h3:=(hm.own_lt hg).1;have h4:=(h.row.row.lt g e).2;omega
 refine ⟨?_,fun y hy=> ?_,fun y hy g hg e=> ?_,List.pairwise_append.2 ⟨h.far,List.pairwise_singleton _ _,fun y hy z hz g hg hg2=> ?_⟩⟩
 ·rw[List.flatMap_append,List.flatMap_singleton];exact hr2
 ·exact (hap y hy).2.modM hM (fun g hg q=>(hap y hy).1 g hg q)
 ·rcases new2 g e with q|q
  ·exact (hap y hy).1 g hg q
  ·have:=((hap y hy).2.own_lt hg).2;omega
 ·rw[List.mem_singleton.1 hz]at hg2;have h3:=(hm.own_lt hg2).1;have h4:=((h.each y hy).own_lt hg).2;omega
theorem BB (m:RsM):m.cells.length=8:=rfl
theorem Iz {w:World} {lo:Nat} {m:RsM} (h:ResN w lo m.r m.ev m.tv m.rv):∀u∈m.cells,u.oneCell'=true:=by
 obtain ⟨a1,c1,e1,_⟩:=h.toL.e;obtain ⟨a2,c2,e2,_⟩:=h.toL.t;obtain ⟨a3,c3,e3,_⟩:=h.toL.r;intro u hu;unfold RsM.cells bJ at hu;rw[e1,e2,e3]at hu;simp only[List.mem_cons,List.not_mem_nil,or_false]at hu;rcases hu with rfl|rfl|rfl|rfl|rfl|rfl|rfl|rfl<;>rfl
theorem tB:(Tryz.prog.info? 49).map (fun i=>(i.zero,i.size,i.bytes))=some (some (.agg tC.toArray),8,136):=by kernel_rfl
structure RsL (w:World) (V:Value) (ms:List RsM):Prop where
 sl:SlR w V 8 ms RsM.cells
 each:∀m∈ms,ResL w m.r m.ev m.tv m.rv
theorem RsL.later {w w2:World} {V:Value} {ms:List RsM} (h:RsL w V ms) (hb:Below w.heap.size w w2):RsL w2 V ms:=
 ⟨h.sl.later hb,fun m hm=>⟨(h.each m hm).e.later hb,(h.each m hm).t.later hb,(h.each m hm).r.later hb⟩⟩
theorem RsO.toL {w wr:World} {v:Value} {n:Nat} {ms:List RsM} (h:RsO w wr v n ms) (hn:n=ms.length) (hb:n<=1048576):RsL wr v ms:=
 ⟨SlR.ofRow h.row.row hn BB hb (by decide),fun m hm=>(h.each m hm).toL⟩
def tK (pre:List Res) (x:Except (Nat×Stop) (List Res)):Except (Nat×Stop) (List Res):=match x with| .error e=> .error e| .ok l=> .ok (pre++l)
theorem Av {d:List Nd} {r:List (List Nd)} {i:Nat} {e:Stop} (h:fR d= .error e):eh (d::r) i= .error (i,e):=by unfold eh;rw[h]
theorem Dw {d:List Nd} {r:List (List Nd)} {i:Nat} {x:Res} (h:fR d= .ok x):eh (d::r) i=tK [x] (eh r (i+1)):=by
 rw[eh,h];simp only;cases eh r (i+1)<;>rfl
theorem BY (a b:List Res) (x:Except (Nat×Stop) (List Res)):tK a (tK b x)=tK (a++b) x:=by
 cases x with
 |error e=>rfl
 |ok l=>simp[tK]
def AL (w0:World) (x:Except (Nat×Stop) (List Res)) (r:Ending) (w':World):Prop:=
 (match x with
  | .ok L=>∃V n ms,r= .returned (.tuple #[V,.agg #[.int .i64 0,.int .i64 0,.int .i64 0]])/\RsO w0 w' V n ms/\n=ms.length/\n<=1048576/\ms.map (·.r)=L
  | .error e=>r= .returned (.tuple #[.slice none 0 0,.agg #[.int .i64 (e.1:Int),.int .i64 e.2.1,.int .i64 e.2.2]]))/\Below w0.heap.size w0 w'
theorem mX {w:World} {b:Nat} {V v0 v1 v2:Value} {tmps:Array Value} (h2:tmps[2]? =some V) (h3:tmps[3]? =some (.pointer (some ⟨b,0,none⟩))) (hb:w.heap[b]? =some (.cells #[v0,v1,v2] 27 (0,0))):
 (results Tryz.f9 tmps).run Tryz.prog w= .ok (.tuple #[V,.agg #[v0,v1,v2]]) w:=by
 have h1:=run_loadVar_mid (P:= Tryz.prog) w b 0 27 [v0,v1,v2] _ (gA (l:=[v0,v1,v2]) hb) Tryz.underlying27 rfl (by kernel_rfl);rw[Array.getElem?_eq_some_iff]at h2 h3;obtain ⟨l2,e2⟩:=h2;obtain ⟨l3,e3⟩:=h3;simp[results,Tryz.results9,asAddr,Array.getD,l2,e2,l3,e3,h1]
theorem eQ {w:World} {ops:Array Oper} {rest:List Oper} {o:Oper} {a:Act} {Q:Exit->Act->World->Prop} (e sl:TypeId) (z:Value) (size nb:Nat) (hsl: Tryz.prog.underlying sl=some (.slice e))
 (hinf:(Tryz.prog.info? e).map (fun i=>(i.zero,i.size,i.bytes))=some (some z,size,nb)) (hzs:z.cells.size=size) (hsz:0<size) (hnb:nb<=1000) (hgd:o.guard=none) (s x:Operand)
 (ho:o.op= .call {callee:= .builtin .append,args:=#[s,x],argTypes:=#[sl,sl]})
 (v:Value) (n:Nat) (xs:List Value) (hs:a.eval s=v) (hown:w.ownsRow 0 e size v n xs) (g:Nat) (arr:Array Value) (news:List Value) (hx:a.eval x= .slice (some ⟨g,0,none⟩) 1 1)
 (hnew:w.heap[g]? =some (.cells arr e (0,0))) (harr:arr.toList=news) (hl:news.length=size) (h1:∀u∈news,u.oneCell'=true) (hlen:n<=2000000) (q:Nat) (hq:q=n+1)
 (h:∀ao' c' w',w'.ownsRow 0 e size (.slice ao' q c') q (xs++news)->w.grownBy w' v.ownBlock->(∀g,(Value.slice ao' q c').ownBlock=some g->v.ownBlock=some g\/w.heap.size<=g)->
  wpList Tryz.prog ops Q rest (a.put o.dst (.slice ao' q c')) w'):wpList Tryz.prog ops Q (o::rest) a w:=by
 refine dH hgd s x sl ho e z size nb hsl hinf hzs hsz v n xs hs hown (some ⟨g,0,none⟩) 1 1 news hx (by omega) (fun hn=>by cases hn) (fun ad had=> ?_) h1 (by unfold maxLen;omega) ?_ q hq h
 ·obtain rfl:=aAf had;intro j u hj;have e2:Addr.add ⟨g,0,none⟩ j=⟨g,j,none⟩:=by
   simp[Addr.add];exact fun h=>h.symm
  rw[e2,af hnew,<-Array.getElem?_toList,harr];exact hj
 ·have h3:(n+1)*nb<=2000001*1000:=Nat.mul_le_mul (by omega) hnb;omega
def pQ (w1 wr:World) (D:Except (Nat×Stop) (List Res)) (N:List (List Nd)) (v:Value) (j q:Nat):Prop:=
 j<=q/\∃ms,ms.length=j/\RsO w1 wr v j ms/\D=tK (ms.map (·.r)) (eh (N.drop j) j)
theorem pQ.bad {w1 wr:World} {D:Except (Nat×Stop) (List Res)} {N:List (List Nd)} {v:Value} {j q:Nat} {d:List Nd} {e:Stop} (h:pQ w1 wr D N v j q) (hd:N[j]? =some d) (he:fR d= .error e):D= .error (j,e):=by
 obtain ⟨_,ms,_,_,hD⟩:=h;rw[hD,fC hd,Av he];rfl
theorem pQ.done {w1 wr:World} {D:Except (Nat×Stop) (List Res)} {N:List (List Nd)} {v:Value} {j q:Nat} (h:pQ w1 wr D N v j q) (hj:N.length<=j):∃ms,ms.length=j/\RsO w1 wr v j ms/\D= .ok (ms.map (·.r)):=by
 obtain ⟨_,ms,hl,hr,hD⟩:=h;refine ⟨ms,hl,hr,?_⟩;rw[hD,List.drop_eq_nil_of_le hj];simp[eh,tK]
theorem pQ.step {w1 w4:World} {D:Except (Nat×Stop) (List Res)} {N:List (List Nd)} {v':Value} {j q:Nat} {d:List Nd} {ms:List RsM} {m:RsM} (hl:ms.length=j) (hD:D=tK (ms.map (·.r)) (eh (N.drop j) j)) (hj:j<q) (hd:N[j]? =some d) (he:fR d= .ok m.r)
 (hm:RsO w1 w4 v' (j+1) (ms++[m])):pQ w1 w4 D N v' (j+1) q:=by
 refine ⟨hj,ms++[m],by rw[aAc,hl];rfl,hm,?_⟩;rw[hD,fC hd,Dw he,BY,List.map_append];rfl
theorem ir {w4:World} {fb:Nat} {T:TypeId} {x0 x1 x2:Value} (h:w4.heap[fb]? =some (.cells #[x0,x1,x2] T (0,0))) (u0 u1 u2:Value):
 Mod (fun k=>k=fb) w4 (((w4.setCell ⟨fb,0,none⟩ u0).setCell ⟨fb,1,none⟩ u1).setCell ⟨fb,2,none⟩ u2)/\(((w4.setCell ⟨fb,0,none⟩ u0).setCell ⟨fb,1,none⟩ u1).setCell ⟨fb,2,none⟩ u2).heap[fb]? =some (.cells #[u0,u1,u2] T (0,0)):=by
 have m0:Mod (fun k=>k=fb) w4 (w4.setCell ⟨fb,0,none⟩ u0):=(Mod.refl _ _).setCell _ _ (fun _=>rfl);have m1:Mod (fun k=>k=fb) w4 ((w4.setCell ⟨fb,0,none⟩ u0).setCell ⟨fb,1,none⟩ u1):=m0.setCell _ _ (fun _=>rfl);have m2:Mod (fun k=>k=fb) w4 (((w4.setCell ⟨fb,0,none⟩ u0).setCell ⟨fb,1,none⟩ u1).setCell ⟨fb,2,none⟩ u2):=m1.setCell _ _ (fun _=>rfl);exact ⟨m2,aE (aE (aE h 0 _) 1 _) 2 _⟩
theorem uL (w:World) (V:Value) (ds:List DocV) (h:DocsR w V ds) (hg:Glob w):
 Calls Tryz.prog 9 #[V] w (AL w (eh (bQ ds) 0)):=by
 obtain ⟨ao,cap,rfl,hl,hat⟩:=h.sl;obtain ⟨q,hq⟩:=ex (ds.length);rw[<-hq]at hl hat |-;have hNl:(bQ ds).length=q:=by unfold bQ;rw[List.length_map,hq]
 have Hdoc:=hid (fun j (hj:j<q)=>show ∃d b o,ds[j]? =some d/\ao=some ⟨b,o,none⟩/\b<w.heap.size/\w.cell? ⟨b,o+j,none⟩=some d.v/\Nds w d.v d.ms/\(bQ ds)[j]? =some (nds d.ms) from by
  obtain ⟨d,hd⟩:∃d,ds[j]? =some d:=au (by omega);obtain ⟨b,o,e,hb,hc⟩:=hat (by omega);have h1:=hc j d hd 0 d.v rfl;rw[Nat.mul_one,Nat.add_zero]at h1;exact ⟨d,b,o,hd,e,hb,h1,h.each d (List.mem_of_getElem? hd),by unfold bQ;rw[List.getElem?_map,hd];rfl⟩)
 obtain ⟨w1,hw1⟩:=ex (w.alloc (.cells #[.int .i64 0,.int .i64 0,.int .i64 0] 27));have hb1:Below w.heap.size w w1:=by rw[hw1];exact (aAb _ _).alloc (aAa _) _
 have hf1:w1.heap[w.heap.size]? =some (.cells #[.int .i64 0,.int .i64 0,.int .i64 0] 27 (0,0)):=by rw[hw1];exact ah _
 have hd0:pQ w1 w1 (eh (bQ ds) 0) (bQ ds) (.slice none 0 0) 0 q:=⟨Nat.zero_le _,[],rfl,RsO.first (aAb _ _),by
  rw[List.drop_zero];cases eh (bQ ds) 0<;>rfl⟩
 have H0:=hid hd0;have Hw1:=hid hw1;have Hb1:=hid hb1;have Hf1:=hid hf1;have Hl:=hid (And.intro hl hNl);have Hg:=hid hg;obtain ⟨fb,hfb⟩:=ex (w.heap.size);rw[<-hfb]at Hf1;have Hfb:=hid hfb;generalize eh (bQ ds) 0=D at*;clear h hg hat hq hd0 hb1 hf1 hNl hl;go_enter Tryz.func9,Tryz.ntmps9;go_wp2;rw[<-hw1,<-hfb];clear hw1 hfb
 go_loopw [2,11] (fun vv vi wr=>∃(v2:Value) (j:Nat),v2=vv/\vi= .int .i64 (j:Int)/\Hid (Below w1.heap.size w1 wr/\pQ w1 wr D (bQ ds) v2 j q)) (fun _ vi _=>q-(intOf vi).toNat)
 case atStart=>exact ⟨_,0,rfl,rfl,hid ⟨aAb _ _,H0.o⟩⟩
 case round=>
  clear H0;obtain ⟨v2,j,rfl,rfl,H⟩:=hrel;by_cases hj:j<q
  ·have tj:decide (j<q)=true:=dT hj;have bj:(j:Int)<(q:Int):=by omega
   obtain ⟨d,b,o,hd,rfl,hblt,hc,hn,hN⟩:=Hdoc.o j hj;have hbl:=H.o.1;have hbw:Below w.heap.size w wr:=Hb1.o.trans (hbl.mono Hb1.o.size);have x1:=(hbw.cell (p:=⟨b,o+j,none⟩) hblt).trans hc;obtain ⟨da,dq,dc,hdv⟩:∃da dq dc,d.v= .slice da dq dc:=by
    obtain ⟨a2,c2,e2,_⟩:=hn.sl;exact ⟨_,_,_,e2⟩
   have hr:=BL wr d.v d.ms (hn.later hbw) (Hg.o.later hbw);rw[hdv]at hr x1;have HN:=hid hN;have hfb4:∀w4,Below wr.heap.size wr w4->w4.heap[fb]? =some (.cells #[.int .i64 0,.int .i64 0,.int .i64 0] 27 (0,0)):=fun w4 h4=>(h4.block _ (Nat.lt_of_lt_of_le (ag Hf1.o) hbl.size)).trans ((hbl.block _ (ag Hf1.o)).trans Hf1.o);have Hfb4:=hid hfb4;have Hbw:=hid hbw
   cases hdp:fR (nds d.ms) with
   |error e=>
    rw[hdp]at hr;obtain ⟨l,c⟩:=e;have hz:tC.toArray=#[.int .i64 0,.string ⟨#[]⟩,.slice none 0 0,.slice none 0 0,.string ⟨#[]⟩,.slice none 0 0,.string ⟨#[]⟩,.bool false]:=rfl;unfold lM at hr;simp only[hz]at hr;have Hr:=hid hr;have tc:(c==0)=false:=beq_eq_false_iff_ne.2 (Cj _ _ hdp);have HD:=hid (pQ.bad H.o.2 hN hdp);clear hr hz hdp hN hfb4 hbw hbl hn hc hdv hd hj H Hdoc HN
    go_wp2_with fail
    refine Hr.o.mono ?_;rintro r w4 ⟨rfl,hb4⟩;have f4:=Hfb4.o w4 hb4;have Hb4:=hid (Hbw.o.trans (hb4.mono Hbw.o.size));have f5:=fun ob=>(aj (w:=w4) ob (ag f4)).trans f4;have y0:=fun ob=>af (f5 ob) 0;have y1:=fun ob=>af (f5 ob) 1;have y2:=fun ob=>af (f5 ob) 2;have yf:=fun ob j=>ai (f5 ob) j;simp at y0 y1 y2;have HE:=hid (fun ob=>show Below w.heap.size w ((((w4.alloc ob).setCell ⟨fb,0,none⟩ (.int .i64 (j:Int))).setCell ⟨fb,1,none⟩ (.int .i64 l)).setCell ⟨fb,2,none⟩ (.int .i64 c))/\((((w4.alloc ob).setCell ⟨fb,0,none⟩ (.int .i64 (j:Int))).setCell ⟨fb,1,none⟩ (.int .i64 l)).setCell ⟨fb,2,none⟩ (.int .i64 c)).heap[fb]? =some (.cells #[.int .i64 (j:Int),.int .i64 l,.int .i64 c] 27 (0,0)) from by
     have hfb:=Hfb.o;obtain ⟨m1,m2⟩:=ir (f5 ob) (.int .i64 (j:Int)) (.int .i64 l) (.int .i64 c);have hb5:=Hb4.o.alloc Hb4.o.size ob;exact ⟨hb5.trans (m1.below hb5.size fun k hk=>by omega),m2⟩)
    clear hb4 f4 f5 Hfb4 Hr Hbw;go_wp2;refine bodyPost_ret (mX rfl rfl (HE.o _).2) rfl ?_;rw[HD.o];exact ⟨rfl,(HE.o _).1⟩
   |ok x=>
    rw[hdp]at hr;have Hr:=hid hr;have Hdp:=hid hdp;have Hl2:=hid (show j<=2000000 by have:=Hl.o.1;omega);obtain ⟨Hms,Hgo⟩:=aM (k:=j) (n:=q) hj (by have:=Hl.o.1;omega);have HH:=hid H.o.2;have Hj:=hid hj;have Hbl:=hid hbl;clear hr hdp hN hfb4 hbw hbl hn hc hdv hd hj H Hdoc
    go_wp2_with fail
    refine Hr.o.mono ?_;rintro r w4 ⟨⟨ev,tv,rv,rfl,hN4⟩,hb4⟩;obtain ⟨ea,ec,he,_⟩:=hN4.toL.e;obtain ⟨ta,tc,ht,_⟩:=hN4.toL.t;obtain ⟨ra,rc,hru,_⟩:=hN4.toL.r;obtain ⟨_,ms,hml,hro,hDD⟩:=HH.o;have hb4w:∀o1 o2,Below w4.heap.size w4 ((w4.alloc o1).alloc o2):=fun o1 o2=>((aAb _ _).alloc (aAa _) o1).alloc (by simp) o2;have Hown:=hid (fun o1 o2=>(hro.later (hb4.trans ((hb4w o1 o2).mono hb4.size))).row.row)
    have Hend:=hid (fun o1 o2 v' w2 a1 a2 a3=>show Below w1.heap.size w1 w2/\pQ w1 w2 D (bQ ds) v' (j+1) q from by
     have h6:=RsO.app (w1:=(w4.alloc o1).alloc o2) (v':=v') (w2:=w2) (q:=j+1) (ms:=ms) (m:=⟨x,ev,tv,rv⟩) hro (hb4.trans ((hb4w o1 o2).mono hb4.size)) (hN4.modM (m:=⟨x,ev,tv,rv⟩) (bh (hb4w o1 o2)) (fun _ _ q=>q)) a1 a2 a3;exact ⟨h6.row.below,pQ.step hml hDD Hj.o HN.o Hdp.o h6⟩)
    have Hone:=hid (Iz (m:=⟨x,ev,tv,rv⟩) hN4);have Harr:=hid (show (bJ x ev tv rv).toList=(RsM.mk x ev tv rv).cells from rfl);unfold bJ at Harr;rw[he,ht,hru]at Hend Hone Harr;rw[he,ht,hru];unfold bJ;have hz:(Value.agg tC.toArray)= .agg #[.int .i64 0,.string ⟨#[]⟩,.slice none 0 0,.slice none 0 0,.string ⟨#[]⟩,.slice none 0 0,.string ⟨#[]⟩,.bool false]:=rfl;have Hinfo:=hid tB;rw[hz]at Hinfo
    clear hz hN4 he ht hru hml hro hDD hb4w hb4 HH Hdp HN Hbw Hfb4 Hr Hbl Hj
    go_wp2_with (at_builtin;refine eQ 49 24 (.agg #[.int .i64 0,.string ⟨#[]⟩,.slice none 0 0,.slice none 0 0,.string ⟨#[]⟩,.slice none 0 0,.string ⟨#[]⟩,.bool false]) 8 136 Tryz.underlying24 Hinfo.o rfl (by decide) (by decide) rfl _ _ rfl v2 j _ rfl (Hown.o _ _) (w4.heap.size+1) _ _ rfl (kN _ _ _) Harr.o rfl Hone.o Hl2.o (j+1) rfl ?_;intro ao4 c4 w2 own2 gr2 new2;have HE:=hid (Hend.o _ _ _ _ own2 gr2 new2);clear own2 gr2 new2)
    go_roundw
    case rel=>exact ⟨_,j+1,rfl,Hgo.o,HE⟩
    case measure=>exact Hms.o
  ·have tj:decide (j<q)=false:=dF hj;have f4:=(H.o.1.block _ (ag Hf1.o)).trans Hf1.o;have hbw:Below w.heap.size w wr:=Hb1.o.trans (H.o.1.mono Hb1.o.size);obtain ⟨ms,hml,hro,hD⟩:=H.o.2.done (by rw[Hl.o.2];omega);have HD:=hid hD;obtain ⟨y0,y1,y2⟩:=cB3 f4;have yf:=fun j=>ai f4 j;simp at y0 y1 y2;have hjl:=H.o.2.1;have HE:=hid (show Below w.heap.size w (((wr.setCell ⟨fb,0,none⟩ (.int .i64 0)).setCell ⟨fb,1,none⟩ (.int .i64 0)).setCell ⟨fb,2,none⟩ (.int .i64 0))/\(((wr.setCell ⟨fb,0,none⟩ (.int .i64 0)).setCell ⟨fb,1,none⟩ (.int .i64 0)).setCell ⟨fb,2,none⟩ (.int .i64 0)).heap[fb]? =some (.cells #[.int .i64 0,.int .i64 0,.int .i64 0] 27 (0,0))/\RsO w (((wr.setCell ⟨fb,0,none⟩ (.int .i64 0)).setCell ⟨fb,1,none⟩ (.int .i64 0)).setCell ⟨fb,2,none⟩ (.int .i64 0)) v2 j ms from by
    have hfb:=Hfb.o;obtain ⟨hm,hm2⟩:=ir f4 (.int .i64 0) (.int .i64 0) (.int .i64 0);have h1:w1.heap.size=w.heap.size+1:=by rw[Hw1.o];simp
    have hbb:Below w.heap.size w (((wr.setCell ⟨fb,0,none⟩ (.int .i64 0)).setCell ⟨fb,1,none⟩ (.int .i64 0)).setCell ⟨fb,2,none⟩ (.int .i64 0)):=hbw.trans (hm.below hbw.size fun k hk=>by omega);refine ⟨hbb,hm2,⟨⟨hbb,aG hro.row.row hm (fun g hg e=>by have:=hro.row.new g hg;omega),fun g hg=>by have:=hro.row.new g hg;omega⟩,fun m hm'=> ?_,hro.apart,hro.far⟩⟩;exact ((hro.each m hm').modM hm (fun g hg e=>by have:=((hro.each m hm').own_lt hg).1;omega)).down (by omega))
   have Hml:=hid (And.intro hml (show j<=1048576 by have:=Hl.o.1;omega));clear H Hdoc f4 hbw hro hD hml hjl hj;go_wp2;refine bodyPost_ret (mX rfl rfl HE.o.2.1) rfl ?_;rw[HD.o];exact ⟨⟨_,_,ms,rfl,HE.o.2.2,Hml.o.1.symm,Hml.o.2,rfl⟩,HE.o.1⟩
