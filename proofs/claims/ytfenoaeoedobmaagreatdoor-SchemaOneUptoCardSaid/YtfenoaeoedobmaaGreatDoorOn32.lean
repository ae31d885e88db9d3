/-
Parts of a proof.
-/
import Derived.Test.YtfenoaeoedobmaaGreatDoorOn31
set_option linter.unusedVariables false
set_option linter.unusedSimpArgs false
set_option maxHeartbeats 4000000
set_option maxRecDepth 20000
namespace Go.Proofs.YtfenoaeoedobmaaGreatDoor
open Go Go.RowKit
noncomputable def YW:Code:=(ncl (ncx Tryz.f21.body))
noncomputable def YV:Code:=(ncl (ncr (ncx Tryz.f21.body)))
noncomputable def YU:Code:=(ncl (ncr (ncr (ncx Tryz.f21.body))))
noncomputable def YT:Code:=(ncl (ncr (ncr (ncr (ncx Tryz.f21.body)))))
noncomputable def YS:Code:=(ncl (ncr (ncr (ncr (ncr (ncx Tryz.f21.body))))))
def JB:Obj:= .cells #[.int .i64 0,.string ⟨#[]⟩,.slice none 0 0,.slice none 0 0,.string ⟨#[]⟩,.slice none 0 0,.string ⟨#[]⟩,.bool false] 49
def w3R (w:World):World:=((w.alloc JB).alloc (.cells #[.int .i64 0] 3)).alloc (.cells #[.int .i64 0] 25)
theorem BP (w:World):(w3R w).heap.size=w.heap.size+1+1+1:=by simp[w3R]
theorem jG (w:World):Below w.heap.size w (w3R w):=
 (((aBi w.heap.size w).alloc (aBh _) _).alloc (by simp) _).alloc (by simp;omega) _
theorem Gv (w:World):(w3R w).heap[w.heap.size]? =some JB/\(w3R w).heap[w.heap.size+1]? =some (.cells #[.int .i64 0] 3 (0,0))/\(w3R w).heap[w.heap.size+1+1]? =some (.cells #[.int .i64 0] 25 (0,0)):=by
 unfold w3R;refine ⟨?_,?_,?_⟩
 ·refine (ai _ (by simp;omega)).trans ((ai _ (by simp)).trans (ag _))
 ·refine (ai _ (by simp)).trans ?_;have h:=ag (w:=w.alloc JB) (.cells #[.int .i64 0] 3)
  simpa using h
 ·have h:=ag (w:=(w.alloc JB).alloc (.cells #[.int .i64 0] 3)) (.cells #[.int .i64 0] 25)
  simpa using h
theorem MY (w:World) (V:Value) (ms:List NdM) (h:Nds w V ms) (hg:Glob w) (ht:dj (nds ms)=false):
 Calls Tryz.prog 21 #[V] w (rD w (dO (nds ms))):=by
 have hd:dO (nds ms)= .error (0,100):=by unfold dO;rw[if_pos ht]
 have he:(dR (nds ms)).2=100:=by unfold dR;rw[if_pos ht]
 rw[hd];have hm:=PD (w3R w) V ms (h.later (jG w)) (hg.later (jG w));rw[he]at hm;have Hm:=hid hm;obtain ⟨b1,b2,b3⟩:=Gv w;have aV:=jG w;have Qu:=BP w;obtain ⟨ao,cap,rfl,_,_⟩:=h.open;obtain ⟨q,hq⟩:=ex (ms.length);rw[<-hq]at Hm |-;clear h hg ht hd he hm hq;refine calls_of_wp_defers Tryz.func21 rfl ?_;simp only[Tryz.ntmps21,List.size_toArray,aBk,List.length_nil,Nat.reduceAdd,Nat.reduceSub,Array.replicate_succ,Array.replicate_zero,List.push_toArray,List.append_toArray,List.nil_append,List.cons_append]
 go_wp2_with fail
 change Calls _ _ _ (w3R w) _;generalize w3R w=w3 at*;have Ow:JB= .cells #[.int .i64 0,.string ⟨#[]⟩,.slice none 0 0,.slice none 0 0,.string ⟨#[]⟩,.slice none 0 0,.string ⟨#[]⟩,.bool false] 49 (0,0):=rfl;rw[Ow]at b1;clear Ow;obtain ⟨n,hn⟩:=ex (w.heap.size);rw[<-hn]at b1 b2 b3 Qu |-;refine Hm.o.mono ?_;rintro r w4 ⟨rfl,bX⟩;have c1:=(bX.block _ (af b1)).trans b1
 have c2:=(bX.block _ (af b2)).trans b2;have c3:=(bX.block _ (af b3)).trans b3;have kf:Below w.heap.size w w4:=aV.trans (bX.mono (by omega));have HE:=hid (pA (l:= .int .i64 0) (e:= .int .i64 100) (v0:= .int .i64 0) (v1:= .string ⟨#[]⟩) (v2:= .slice none 0 0) (v3:= .slice none 0 0) (v4:= .string ⟨#[]⟩) (v5:= .slice none 0 0) (v6:= .string ⟨#[]⟩) (v7:= .bool false) c1 rfl c2 c3)
 have Hbb:=hid kf;obtain ⟨d0,d1,d2,d3,d4,d5,d6,d7⟩:=cB8 c1;have f1:=fun j=>ah c1 j;have l1:=aa c2 0;have l2:=ah c2 0;have l3:=aa c3 0;have l4:=ah c3 0;simp at d0 d1 d2 d3 d4 d5 d6 d7 l1 l3;have Hn:=hid hn;clear hn Hm b1 b2 b3 aV Qu bX c1 c2 c3 kf;go_wp2;obtain ⟨z1,z2,z3,z4⟩:=HE.o _ rfl;exact ⟨_,l6 rfl rfl rfl z2 rfl z3 z4,rfl,Hbb.o.trans (z1.below Hbb.o.size fun i hi=>by have:=Hn.o;omega)⟩
theorem Ma {ns:List Nd} (h:dj ns=true):0<ns.length:=by
 cases ns with
 |nil=>revert h;unfold dj;simp
 |cons a l=>simp
theorem JG (w:World) (V:Value) (ms:List NdM) (h:Nds w V ms) (hg:Glob w) (ht:dj (nds ms)=true):
 Calls Tryz.prog 21 #[V] w (rD w (dO (nds ms))):=by
 have he:(dR (nds ms)).2=100->False:=by
  unfold dR;rw[if_neg (by rw[ht];simp)]
  split<;>(intro q;revert q;simp)
 have Hm:=hid (PD (w3R w) V ms (h.later (jG w)) (hg.later (jG w)));have Hh:=hid h;have Hg:=hid hg;have Ht:=hid ht;obtain ⟨b1,b2,b3⟩:=Gv w;have aV:=jG w;have Qu:=BP w;have xd:0<ms.length:=by have:=Ma ht;unfold nds at this;simpa using this
 obtain ⟨ao,cap,rfl,_,bN⟩:=h.open;obtain ⟨b,o,rfl,sI,bN⟩:=bN xd;obtain ⟨m0,mP⟩:∃m0,ms[0]? =some m0:=aF xd;obtain ⟨hc,hmo⟩:=bN 0 m0 mP;obtain ⟨ay,cy,cT,_,_⟩:=aL hmo.kids;obtain ⟨qy,fM⟩:=ex (m0.nd.kids.length);rw[<-fM]at cT;have Yn:=hid mP;have BG:=hid cT;have X:=hid (show ∀w1,Below w.heap.size w w1->w1.cell? ⟨b,o,none⟩=some (.int .i64 m0.nd.kind)/\w1.cell? ⟨b,o+1,none⟩=some (.string m0.nd.key)/\w1.cell? ⟨b,o+2,none⟩=some (.string m0.nd.text)/\w1.cell? ⟨b,o+3,none⟩=some (.bool m0.nd.quoted)/\w1.cell? ⟨b,o+4,none⟩=some (.int .i64 m0.nd.line)/\w1.cell? ⟨b,o+5,none⟩=some (.slice ay qy cy) from fun w1 hb=>by
  have e0:o+0*6=o:=by omega
  rw[e0]at hc;exact ⟨(hb.cell sI).trans hc.c0,(hb.cell sI).trans hc.c1,(hb.cell sI).trans hc.c2,(hb.cell sI).trans hc.c3,(hb.cell sI).trans hc.c4,(hb.cell sI).trans (by rw[<-cT];exact hc.c5)⟩)
 obtain ⟨q,hq⟩:=ex (ms.length);rw[<-hq]at Hm xd |-;have Hq:=hid hq;have DZ:=hid sI;generalize (dR (nds ms)).2=en at*;have t1:(en==100)=false:=by rw[beq_eq_false_iff_ne];exact he
 have hbq:(0:Int)<(q:Int):=by omega
 have hmf:∀(fn:Fn) (first cap:Array Value) (w:World),(Instr.makeFunc fn first cap).run Tryz.prog w= .ok (.func fn first cap) w:=fun _ _ _ _=>rfl;have Ow:JB= .cells #[.int .i64 0,.string ⟨#[]⟩,.slice none 0 0,.slice none 0 0,.string ⟨#[]⟩,.slice none 0 0,.string ⟨#[]⟩,.bool false] 49 (0,0):=rfl;rw[Ow]at b1;have HQ:=hid (fun (a:Act) (w1:World) (n db kb:Nat) (hf:RdD a n db kb) (h1:RdW w w1 n db kb b o cap ms m0 Res.zero)=>Rx hf h1 mP ht)
 clear h hg ht mP hc bN hmo cT fM hq sI he Ow;generalize dO (nds ms)=dx at*;refine calls_of_wp_defers Tryz.func21 rfl ?_
 show Code.wp _ (Code.seq YW (Code.seq YV (Code.seq YU (Code.seq YT (Code.seq YS EN))))) _ _ _
 simp only[Tryz.ntmps21,List.size_toArray,aBk,List.length_nil,Nat.reduceAdd,Nat.reduceSub,Array.replicate_succ,Array.replicate_zero,List.push_toArray,List.append_toArray,List.nil_append,List.cons_append];dsimp only[YW,YV,YU,YT,YS,ncl,ncr,ncx,Tryz.f21]
 go_wp2_with fail
 change Calls _ _ _ (w3R w) _;generalize w3R w=w3 at*;obtain ⟨n,hn⟩:=ex (w.heap.size);rw[<-hn]at b1 b2 b3 Qu |-;refine Hm.o.mono ?_;rintro r w4 ⟨rfl,bX⟩;have kf:Below w.heap.size w w4:=aV.trans (bX.mono (by omega));have h4:w.heap.size+3<=w4.heap.size:=by have:=bX.size;omega
 have KP:=(aBi w4.heap.size w4).alloc (aBh _) (.cells #[.slice (some ⟨b,o,none⟩) q cap] 79);obtain ⟨x0,x1,x2,x3,x4,x5⟩:=X.o _ (kf.trans (KP.mono (by omega)));have B:=hid (And.intro ((bX.block _ (af b1)).trans b1) (And.intro ((bX.block _ (af b2)).trans b2) ((bX.block _ (af b3)).trans b3)));have Hbb:=hid (And.intro kf h4);have Hn:=hid hn
 clear hn Hm b1 b2 b3 aV Qu bX kf h4 KP;go_wp2;refine HQ.o _ _ n w4.heap.size (w4.heap.size+1) ⟨rfl,rfl,rfl,rfl,rfl,rfl,rfl⟩ ?_;have KP:=(aBi w4.heap.size w4).alloc (aBh _) (.cells #[.slice (some ⟨b,o,none⟩) q cap] 79);have uh:=KP.alloc KP.size (.cells #[.int .i64 m0.nd.kind,.string m0.nd.key,.string m0.nd.text,.bool m0.nd.quoted,.int .i64 m0.nd.line,.slice ay qy cy] 55)
 obtain ⟨B1,B2,B3⟩:=B.o;obtain ⟨kf,h4⟩:=Hbb.o;have e1:((w4.alloc (.cells #[.slice (some ⟨b,o,none⟩) q cap] 79)).alloc (.cells #[.int .i64 m0.nd.kind,.string m0.nd.key,.string m0.nd.text,.bool m0.nd.quoted,.int .i64 m0.nd.line,.slice ay qy cy] 55)).heap[w4.heap.size]? =some (.cells #[.slice (some ⟨b,o,none⟩) q cap] 79 (0,0)):=(ai _ (by simp)).trans (ag _)
 have hn:=Hn.o;have hq:=Hq.o;refine ⟨⟨Hh.o,DZ.o,kf.trans (uh.mono (by omega)),by omega,by rw[<-hq];exact e1,Ht.o,Hg.o⟩,(uh.block _ (af B1)).trans B1,(uh.block _ (af B2)).trans B2,(uh.block _ (af B3)).trans B3,?_,hn,by omega,by omega,List.mem_of_getElem? Yn.o⟩;rw[wH BG.o];have h5:=ag (w:=w4.alloc (.cells #[.slice (some ⟨b,o,none⟩) q cap] 79)) (.cells #[.int .i64 m0.nd.kind,.string m0.nd.key,.string m0.nd.text,.bool m0.nd.quoted,.int .i64 m0.nd.line,.slice ay qy cy] 55)
 simpa using h5
theorem MX (w:World) (V:Value) (ms:List NdM) (h:Nds w V ms) (hg:Glob w):
 Calls Tryz.prog 21 #[V] w (rD w (dO (nds ms))):=by
 cases ht:dj (nds ms) with
 |false=>exact MY w V ms h hg ht
 |true=>exact JG w V ms h hg ht
def NZ {α:Type} (x:R α):Prop:=∀e,x= .error e->e.2≠0
theorem NZ.ok {α:Type} (a:α):NZ (.ok a:R α):=nofun
theorem NZ.err {α:Type} {l c:Int} (h:c≠0):NZ (.error (l,c):R α):=fun e he=>by
 injection he with he
 rw[<-he];exact h
theorem NZ.of {α β:Type} {x:R α} (hx:NZ x) {e:fx} (h:x= .error e):NZ (.error e:R β):=fun e2 he=>by
 injection he with he
 subst he;exact hx _ h
theorem E8 (n:Nd):NZ (dg n):=by
 unfold dg
 split
 ·exact NZ.err (by decide)
 ·exact NZ.ok _
theorem jw (ns:List Nd) (m:Nd) (k:ByteArray):NZ (bt ns m k):=by
 unfold bt
 split
 ·exact NZ.ok _
 ·exact NZ.err (by decide)
theorem qw (ns:List Nd) (keys:List ByteArray):∀l,NZ (bE ns keys l)
 |[]=>NZ.ok _
 |k::r=>by
  unfold bE
  split
  ·exact qw ns keys r
  ·exact NZ.err (by decide)
theorem iH (n:Nd) (so:ByteArray->Bool):NZ (aO n so):=by
 unfold aO
 split
 ·exact NZ.err (by decide)
 ·exact NZ.ok _
theorem Ap (ns:List Nd) (n:Nd) (a b:Nat):NZ (cp ns n a b):=by
 unfold cp
 split
 ·exact NZ.err (by decide)
 ·split
  ·exact NZ.err (by decide)
  ·exact NZ.ok _
theorem GU:∀(l:List Nd) (out:List ByteArray),NZ (dQ l out)
 |[],out=>NZ.ok _
 |k::r,out=>by
  unfold dQ
  repeat' split
  all_goals first|exact NZ.err (by decide)|exact GU r _|exact NZ.of (iH _ _) (by assumption)
theorem E7 (ns:List Nd) (m:Nd) (r:Res):NZ (dX ns m r):=by
 unfold dX
 repeat' split
 all_goals first|exact NZ.err (by decide)|exact NZ.ok _|exact NZ.of (Ap _ _ _ _) (by assumption)|exact NZ.of (GU _ _) (by assumption)
theorem JW (n:Nd):NZ (bD n):=by
 unfold bD
 repeat' split
 all_goals first|exact NZ.err (by decide)|exact NZ.ok _
theorem Nr (ns:List Nd) (k:Nd):NZ (match aY ns k aT,aY ns k aH with
 |none,none=>(.error (k.line,122):R (ByteArray×ByteArray))
 |some _,some b=> .error ((eD ns k.kids b).line,121)
 |some a,none=>(match aO a aD with| .error e=> .error e| .ok s=> .ok (s,⟨#[]⟩))
 |none,some b=>(match aO b aD with| .error e=> .error e| .ok s=> .ok (⟨#[]⟩,s))):=by
 repeat' split
 all_goals first|exact NZ.err (by decide)|exact NZ.ok _|exact NZ.of (iH _ _) (by assumption)
theorem JX (ns:List Nd) (k:Nd):NZ (cX ns k):=by
 unfold cX
 repeat' split
 all_goals first|exact NZ.err (by decide)|exact NZ.ok _|exact NZ.of (E8 _) (by assumption)|exact NZ.of (qw _ _ _) (by assumption)|exact NZ.of (jw _ _ _) (by assumption)|exact NZ.of (JW _) (by assumption)|exact NZ.of (iH _ _) (by assumption)|exact NZ.of (Nr _ _) (by assumption)
theorem wB (ns:List Nd):∀(l:List Nd) (out:List Tgt),NZ (ba ns l out)
 |[],out=>NZ.ok _
 |k::r,out=>by
  unfold ba
  repeat' split
  all_goals first|exact NZ.err (by decide)|exact wB ns r _|exact NZ.of (JX _ _) (by assumption)
theorem Ns (ns:List Nd) (m:Nd) (r:Res):NZ (iu ns m r):=by
 unfold iu
 repeat' split
 all_goals first|exact NZ.err (by decide)|exact NZ.ok _|exact NZ.of (jw _ _ _) (by assumption)|exact NZ.of (Ap _ _ _ _) (by assumption)|exact NZ.of (wB _ _ _) (by assumption)
theorem VS (ns:List Nd) (act:Bool) (k:Nd):NZ (if act=true then (match bt ns k ca with| .error e=> .error e| .ok n=>aO n il) else (.ok ⟨#[]⟩:R ByteArray)):=by
 repeat' split
 all_goals first|exact NZ.ok _|exact iH _ _|exact NZ.of (jw _ _ _) (by assumption)
theorem VR (ns:List Nd) (k:Nd):NZ (match aY ns k a9 with|some n=>aO n gK|none=>(.ok oW:R ByteArray)):=by
 repeat' split
 all_goals first|exact NZ.ok _|exact iH _ _
theorem VQ (ns:List Nd) (act:Bool) (k:Nd):NZ (if act=true then (.ok ⟨#[]⟩:R ByteArray) else (match bt ns k aH with| .error e=> .error e| .ok n=>aO n aD)):=by
 repeat' split
 all_goals first|exact NZ.ok _|exact iH _ _|exact NZ.of (jw _ _ _) (by assumption)
theorem RK (ns:List Nd) (act:Bool) (k:Nd):NZ (fy ns act k):=by
 unfold fy
 repeat' split
 all_goals first|exact NZ.err (by decide)|exact NZ.ok _|exact NZ.of (E8 _) (by assumption)|exact NZ.of (qw _ _ _) (by assumption)|exact NZ.of (jw _ _ _) (by assumption)|exact NZ.of (iH _ _) (by assumption)|exact NZ.of (VS _ _ _) (by assumption)|exact NZ.of (VR _ _) (by assumption)|exact NZ.of (VQ _ _ _) (by assumption)
theorem yW (ns:List Nd) (act:Bool):∀(l:List Nd) (out:List Rul),NZ (cc ns act l out)
 |[],out=>NZ.ok _
 |k::r,out=>by
  unfold cc
  repeat' split
  all_goals first|exact NZ.err (by decide)|exact yW ns act r _|exact NZ.of (RK _ _ _) (by assumption)
theorem Cx (ns:List Nd) (act:Bool) (m:Nd) (r:Res):NZ (gG ns act m r):=by
 unfold gG
 repeat' split
 all_goals first|exact NZ.err (by decide)|exact NZ.ok _|exact NZ.of (jw _ _ _) (by assumption)|exact NZ.of (Ap _ _ _ _) (by assumption)|exact NZ.of (yW _ _ _ _) (by assumption)
theorem Nt (ns:List Nd) (m:Nd) (r:Res):NZ (gH ns m r):=by
 unfold gH
 repeat' split
 all_goals first|exact NZ.err (by decide)|exact NZ.ok _|exact NZ.of (jw _ _ _) (by assumption)|exact NZ.of (iH _ _) (by assumption)|exact Cx _ _ _ _
theorem JY (ns:List Nd) (m:Nd) (r:Res):NZ (eV ns m r):=by
 unfold eV
 repeat' split
 all_goals first|exact NZ.err (by decide)|exact NZ.ok _|exact NZ.of (jw _ _ _) (by assumption)|exact NZ.of (iH _ _) (by assumption)|exact Cx _ _ _ _
theorem RL (ns:List Nd) (m:Nd) (r:Res) (k:Nat):NZ (nS ns m r k):=by
 unfold nS
 repeat' split
 all_goals first|exact NZ.err (by decide)|exact NZ.ok _|exact NZ.of (qw _ _ _) (by assumption)|exact E7 _ _ _|exact Ns _ _ _|exact Nt _ _ _|exact JY _ _ _
theorem E9 (ns:List Nd):NZ (dO ns):=by
 unfold dO
 repeat' split
 all_goals first|exact NZ.err (by decide)|exact NZ.ok _|exact NZ.of (E8 _) (by assumption)|exact NZ.of (jw _ _ _) (by assumption)|exact NZ.of (iH _ _) (by assumption)|exact NZ.of (qw _ _ _) (by assumption)|exact RL _ _ _ _
structure RsM where
 r:Res
 ev:Value
 tv:Value
 rv:Value
def RsM.cells (m:RsM):List Value:=(bV m.r m.ev m.tv m.rv).toList
def RsM.own (m:RsM) (g:Nat):Prop:=m.ev.ownBlock=some g\/m.tv.ownBlock=some g\/m.rv.ownBlock=some g
structure DocV where
 v:Value
 ms:List NdM
def DocV.cells (d:DocV):List Value:=[d.v]
structure DocsR (w:World) (V:Value) (ds:List DocV):Prop where
 sl:SlR w V 1 ds DocV.cells
 each:∀d∈ds,Nds w d.v d.ms
theorem DocsR.later {w w2:World} {V:Value} {ds:List DocV} (h:DocsR w V ds) (hb:Below w.heap.size w w2):DocsR w2 V ds:=⟨h.sl.later hb,fun d hd=>(h.each d hd).later hb⟩
def fZ (ds:List DocV):List (List Nd):=ds.map fun d=>nds d.ms
structure RsO (w wr:World) (v:Value) (n:Nat) (ms:List RsM):Prop where
 row:RO w wr 49 8 v n (ms.flatMap RsM.cells)
 each:∀m∈ms,ResN wr w.heap.size m.r m.ev m.tv m.rv
 apart:∀m∈ms,∀g,m.own g->v.ownBlock≠some g
theorem ResN.own_lt {w:World} {lo:Nat} {m:RsM} (h:ResN w lo m.r m.ev m.tv m.rv) {g:Nat} (hg:m.own g):lo<=g/\g<w.heap.size:=by
 rcases hg with hg|hg|hg
 ·exact ⟨h.fe g hg,(h.e.lt g hg).2⟩
 ·exact ⟨h.ft g hg,(h.t.lt g hg).2⟩
 ·exact ⟨h.fu g hg,(h.u.lt g hg).2⟩
theorem ResN.modM {w w2:World} {lo:Nat} {m:RsM} {F:Nat->Prop} (h:ResN w lo m.r m.ev m.tv m.rv) (hm:Mod F w w2) (hF:∀g,m.own g->¬F g):ResN w2 lo m.r m.ev m.tv m.rv:=
 h.mod hm (fun g hg=>hF g (.inl hg)) (fun g hg=>hF g (.inr (.inl hg))) (fun g hg=>hF g (.inr (.inr hg)))
theorem fS {w w2:World} (hb:Below w.heap.size w w2):Mod (fun _=>False) w w2:=Mod.ofBelow hb (fun k hk mQ=>by omega)
theorem RsO.first {w w1:World} (hb:Below w.heap.size w w1):RsO w w1 (.slice none 0 0) 0 []:=⟨RO.start hb,nofun,nofun⟩
theorem RsO.later {w wr w2:World} {v:Value} {n:Nat} {ms:List RsM} (h:RsO w wr v n ms) (hb:Below wr.heap.size wr w2):RsO w w2 v n ms:=
 ⟨h.row.later hb,fun m hm=>(h.each m hm).modM (fS hb) (fun _ _ q=>q),h.apart⟩
theorem RsO.app {w wr w1 w2:World} {v v':Value} {n q:Nat} {ms:List RsM} {m:RsM} (h:RsO w wr v n ms) (bG:Below wr.heap.size wr w1) (hm:ResN w1 wr.heap.size m.r m.ev m.tv m.rv) (aB:w2.ownsRow 0 49 8 v' q (ms.flatMap RsM.cells++m.cells)) (bC:w1.grownBy w2 v.ownBlock)
 (aA:∀g,v'.ownBlock=some g->v.ownBlock=some g\/w1.heap.size<=g):RsO w w2 v' q (ms++[m]):=by
 have xT:=RO.app h.row bG aB bC aA;have h1:=h.later bG;have hM:Mod (fun k=>v.ownBlock=some k) w1 w2:=(Mod.refl _ _).grown bC (fun k e _=>e);have zp:=h.row.below.size;have SG:∀y∈ms++[m],(∀g,y.own g->v.ownBlock≠some g)/\ResN w1 w.heap.size y.r y.ev y.tv y.rv:=by
  intro y hy;rcases List.mem_append.1 hy with hy|hy
  ·exact ⟨h.apart y hy,h1.each y hy⟩
  ·obtain rfl:=List.mem_singleton.1 hy;refine ⟨fun g hg e=> ?_,hm.down zp⟩;have h3:=(hm.own_lt hg).1;have h4:=(h.row.row.lt g e).2;omega
 refine ⟨?_,fun y hy=> ?_,fun y hy g hg e=> ?_⟩
 ·rw[List.flatMap_append,List.flatMap_singleton];exact xT
 ·exact (SG y hy).2.modM hM (fun g hg q=>(SG y hy).1 g hg q)
 ·rcases aA g e with q|q
  ·exact (SG y hy).1 g hg q
  ·have:=((SG y hy).2.own_lt hg).2;omega
theorem VB (m:RsM):m.cells.length=8:=rfl
theorem VA {w:World} {lo:Nat} {m:RsM} (h:ResN w lo m.r m.ev m.tv m.rv):∀u∈m.cells,u.oneCell'=true:=by
 obtain ⟨a1,c1,e1,_⟩:=h.toL.e;obtain ⟨a2,c2,e2,_⟩:=h.toL.t;obtain ⟨a3,c3,e3,_⟩:=h.toL.r;intro u hu;unfold RsM.cells bV at hu;rw[e1,e2,e3]at hu;simp only[List.mem_cons,List.not_mem_nil,or_false]at hu;rcases hu with rfl|rfl|rfl|rfl|rfl|rfl|rfl|rfl<;>rfl
theorem MQ:(Tryz.prog.info? 49).map (fun i=>(i.zero,i.size,i.bytes))=some (some (.agg EH.toArray),8,136):=by kernel_rfl
structure RsL (w:World) (V:Value) (ms:List RsM):Prop where
 sl:SlR w V 8 ms RsM.cells
 each:∀m∈ms,ResL w m.r m.ev m.tv m.rv
theorem RsL.later {w w2:World} {V:Value} {ms:List RsM} (h:RsL w V ms) (hb:Below w.heap.size w w2):RsL w2 V ms:=
 ⟨h.sl.later hb,fun m hm=>⟨(h.each m hm).e.later hb,(h.each m hm).t.later hb,(h.each m hm).r.later hb⟩⟩
theorem RsO.toL {w wr:World} {v:Value} {n:Nat} {ms:List RsM} (h:RsO w wr v n ms) (hn:n=ms.length) (hb:n<=1048576):RsL wr v ms:=
 ⟨SlR.ofRow h.row.row hn VB hb (by decide),fun m hm=>(h.each m hm).toL⟩
def Ae (pre:List Res) (x:Except (Nat×fx) (List Res)):Except (Nat×fx) (List Res):=match x with| .error e=> .error e| .ok l=> .ok (pre++l)
theorem sQ {d:List Nd} {r:List (List Nd)} {i:Nat} {e:fx} (h:dO d= .error e):dy (d::r) i= .error (i,e):=by unfold dy;rw[h]
theorem qX {d:List Nd} {r:List (List Nd)} {i:Nat} {x:Res} (h:dO d= .ok x):dy (d::r) i=Ae [x] (dy r (i+1)):=by
 rw[dy,h];simp only;cases dy r (i+1)<;>rfl
theorem Nf (a b:List Res) (x:Except (Nat×fx) (List Res)):Ae a (Ae b x)=Ae (a++b) x:=by
 cases x with
 |error e=>rfl
 |ok l=>simp[Ae]
def Qa (w0:World) (x:Except (Nat×fx) (List Res)) (r:Ending) (w':World):Prop:=
 (match x with
  | .ok L=>∃V n ms,r= .returned (.tuple #[V,.agg #[.int .i64 0,.int .i64 0,.int .i64 0]])/\RsO w0 w' V n ms/\n=ms.length/\n<=1048576/\ms.map (·.r)=L
  | .error e=>r= .returned (.tuple #[.slice none 0 0,.agg #[.int .i64 (e.1:Int),.int .i64 e.2.1,.int .i64 e.2.2]]))/\Below w0.heap.size w0 w'
theorem tK {w:World} {b:Nat} {V v0 v1 v2:Value} {tmps:Array Value} (h2:tmps[2]? =some V) (h3:tmps[3]? =some (.pointer (some ⟨b,0,none⟩))) (hb:w.heap[b]? =some (.cells #[v0,v1,v2] 27 (0,0))):
 (results Tryz.f9 tmps).run Tryz.prog w= .ok (.tuple #[V,.agg #[v0,v1,v2]]) w:=by
 have h1:=run_loadVar_mid (P:= Tryz.prog) w b 0 27 [v0,v1,v2] _ (jK (l:=[v0,v1,v2]) hb) Tryz.underlying27 rfl (by kernel_rfl);rw[Array.getElem?_eq_some_iff]at h2 h3;obtain ⟨l2,e2⟩:=h2;obtain ⟨l3,e3⟩:=h3;simp[results,Tryz.results9,asAddr,Array.getD,l2,e2,l3,e3,h1]
theorem j1 {w:World} {ops:Array Oper} {rest:List Oper} {o:Oper} {a:Act} {Q:Exit->Act->World->Prop} (e sl:TypeId) (z:Value) (size nb:Nat) (jg: Tryz.prog.underlying sl=some (.slice e))
 (oN:(Tryz.prog.info? e).map (fun i=>(i.zero,i.size,i.bytes))=some (some z,size,nb)) (xR:z.cells.size=size) (gQ:0<size) (Sr:nb<=1000) (ln:o.guard=none) (s x:Operand)
 (ho:o.op= .call {callee:= .builtin .append,args:=#[s,x],argTypes:=#[sl,sl]})
 (v:Value) (n:Nat) (xs:List Value) (hs:a.eval s=v) (dh:w.ownsRow 0 e size v n xs) (g:Nat) (arr:Array Value) (news:List Value) (hx:a.eval x= .slice (some ⟨g,0,none⟩) 1 1)
 (ku:w.heap[g]? =some (.cells arr e (0,0))) (eC:arr.toList=news) (hl:news.length=size) (h1:∀u∈news,u.oneCell'=true) (hlen:n<=2000000) (q:Nat) (hq:q=n+1)
 (h:∀fj c' w',w'.ownsRow 0 e size (.slice fj q c') q (xs++news)->w.grownBy w' v.ownBlock->(∀g,(Value.slice fj q c').ownBlock=some g->v.ownBlock=some g\/w.heap.size<=g)->
  wpList Tryz.prog ops Q rest (a.put o.dst (.slice fj q c')) w'):wpList Tryz.prog ops Q (o::rest) a w:=by
 refine iY ln s x sl ho e z size nb jg oN xR gQ v n xs hs dh (some ⟨g,0,none⟩) 1 1 news hx (by omega) (fun hn=>by cases hn) (fun ad had=> ?_) h1 (by unfold maxLen;omega) ?_ q hq h
 ·obtain rfl:=aBm had;intro j u hj;have e2:Addr.add ⟨g,0,none⟩ j=⟨g,j,none⟩:=by
   simp[Addr.add];exact fun h=>h.symm
  rw[e2,aa ku,<-Array.getElem?_toList,eC];exact hj
 ·have h3:(n+1)*nb<=2000001*1000:=Nat.mul_le_mul (by omega) Sr;omega
def xP (w1 wr:World) (D:Except (Nat×fx) (List Res)) (N:List (List Nd)) (v:Value) (j q:Nat):Prop:=
 j<=q/\∃ms,ms.length=j/\RsO w1 wr v j ms/\D=Ae (ms.map (·.r)) (dy (N.drop j) j)
theorem xP.bad {w1 wr:World} {D:Except (Nat×fx) (List Res)} {N:List (List Nd)} {v:Value} {j q:Nat} {d:List Nd} {e:fx} (h:xP w1 wr D N v j q) (hd:N[j]? =some d) (he:dO d= .error e):D= .error (j,e):=by
 obtain ⟨_,ms,_,_,hD⟩:=h;rw[hD,iI hd,sQ he];rfl
theorem xP.done {w1 wr:World} {D:Except (Nat×fx) (List Res)} {N:List (List Nd)} {v:Value} {j q:Nat} (h:xP w1 wr D N v j q) (hj:N.length<=j):∃ms,ms.length=j/\RsO w1 wr v j ms/\D= .ok (ms.map (·.r)):=by
 obtain ⟨_,ms,hl,hr,hD⟩:=h;refine ⟨ms,hl,hr,?_⟩;rw[hD,List.drop_eq_nil_of_le hj];simp[dy,Ae]
theorem xP.step {w1 w4:World} {D:Except (Nat×fx) (List Res)} {N:List (List Nd)} {v':Value} {j q:Nat} {d:List Nd} {ms:List RsM} {m:RsM} (hl:ms.length=j) (hD:D=Ae (ms.map (·.r)) (dy (N.drop j) j)) (hj:j<q) (hd:N[j]? =some d) (he:dO d= .ok m.r)
 (hm:RsO w1 w4 v' (j+1) (ms++[m])):xP w1 w4 D N v' (j+1) q:=by
 refine ⟨hj,ms++[m],by rw[aBj,hl];rfl,hm,?_⟩;rw[hD,iI hd,qX he,Nf,List.map_append];rfl
theorem ld {w4:World} {fb:Nat} {T:TypeId} {x0 x1 x2:Value} (h:w4.heap[fb]? =some (.cells #[x0,x1,x2] T (0,0))) (u0 u1 u2:Value):
 Mod (fun k=>k=fb) w4 (((w4.setCell ⟨fb,0,none⟩ u0).setCell ⟨fb,1,none⟩ u1).setCell ⟨fb,2,none⟩ u2)/\(((w4.setCell ⟨fb,0,none⟩ u0).setCell ⟨fb,1,none⟩ u1).setCell ⟨fb,2,none⟩ u2).heap[fb]? =some (.cells #[u0,u1,u2] T (0,0)):=by
 have m0:Mod (fun k=>k=fb) w4 (w4.setCell ⟨fb,0,none⟩ u0):=(Mod.refl _ _).setCell _ _ (fun _=>rfl);have m1:Mod (fun k=>k=fb) w4 ((w4.setCell ⟨fb,0,none⟩ u0).setCell ⟨fb,1,none⟩ u1):=m0.setCell _ _ (fun _=>rfl);have m2:Mod (fun k=>k=fb) w4 (((w4.setCell ⟨fb,0,none⟩ u0).setCell ⟨fb,1,none⟩ u1).setCell ⟨fb,2,none⟩ u2):=m1.setCell _ _ (fun _=>rfl);exact ⟨m2,aI (aI (aI h 0 _) 1 _) 2 _⟩
theorem xv (w:World) (V:Value) (ds:List DocV) (h:DocsR w V ds) (hg:Glob w):
 Calls Tryz.prog 9 #[V] w (Qa w (dy (fZ ds) 0)):=by
 obtain ⟨ao,cap,rfl,hl,bN⟩:=h.sl;obtain ⟨q,hq⟩:=ex (ds.length);rw[<-hq]at hl bN |-;have hNl:(fZ ds).length=q:=by unfold fZ;rw[List.length_map,hq]
 have rN:=hid (fun j (hj:j<q)=>show ∃d b o,ds[j]? =some d/\ao=some ⟨b,o,none⟩/\b<w.heap.size/\w.cell? ⟨b,o+j,none⟩=some d.v/\Nds w d.v d.ms/\(fZ ds)[j]? =some (nds d.ms) from by
  obtain ⟨d,hd⟩:∃d,ds[j]? =some d:=aF (by omega);obtain ⟨b,o,e,hb,hc⟩:=bN (by omega);have h1:=hc j d hd 0 d.v rfl;rw[Nat.mul_one,Nat.add_zero]at h1;exact ⟨d,b,o,hd,e,hb,h1,h.each d (List.mem_of_getElem? hd),by unfold fZ;rw[List.getElem?_map,hd];rfl⟩)
 obtain ⟨w1,gP⟩:=ex (w.alloc (.cells #[.int .i64 0,.int .i64 0,.int .i64 0] 27));have bG:Below w.heap.size w w1:=by rw[gP];exact (aBi _ _).alloc (aBh _) _
 have gJ:w1.heap[w.heap.size]? =some (.cells #[.int .i64 0,.int .i64 0,.int .i64 0] 27 (0,0)):=by rw[gP];exact ag _
 have Ua:xP w1 w1 (dy (fZ ds) 0) (fZ ds) (.slice none 0 0) 0 q:=⟨Nat.zero_le _,[],rfl,RsO.first (aBi _ _),by
  rw[List.drop_zero];cases dy (fZ ds) 0<;>rfl⟩
 have H0:=hid Ua;have IT:=hid gP;have kQ:=hid bG;have Gp:=hid gJ;have Hl:=hid (And.intro hl hNl);have Hg:=hid hg;obtain ⟨fb,oC⟩:=ex (w.heap.size);rw[<-oC]at Gp;have LN:=hid oC;generalize dy (fZ ds) 0=D at*;clear h hg bN hq Ua bG gJ hNl hl;go_enter Tryz.func9,Tryz.ntmps9;go_wp2;rw[<-gP,<-oC];clear gP oC
 go_loopw [2,11] (fun vv vi wr=>∃(v2:Value) (j:Nat),v2=vv/\vi= .int .i64 (j:Int)/\Hid (Below w1.heap.size w1 wr/\xP w1 wr D (fZ ds) v2 j q)) (fun _ vi _=>q-(intOf vi).toNat)
 case atStart=>exact ⟨_,0,rfl,rfl,hid ⟨aBi _ _,H0.o⟩⟩
 case round=>
  clear H0;obtain ⟨v2,j,rfl,rfl,H⟩:=hrel;by_cases hj:j<q
  ·have tj:decide (j<q)=true:=dT hj;have bj:(j:Int)<(q:Int):=by omega
   obtain ⟨d,b,o,hd,rfl,sI,hc,hn,hN⟩:=rN.o j hj;have gv:=H.o.1;have jL:Below w.heap.size w wr:=kQ.o.trans (gv.mono kQ.o.size);have x1:=(jL.cell (p:=⟨b,o+j,none⟩) sI).trans hc;obtain ⟨da,dq,dc,hdv⟩:∃da dq dc,d.v= .slice da dq dc:=by
    obtain ⟨a2,c2,e2,_⟩:=hn.sl;exact ⟨_,_,_,e2⟩
   have hr:=MX wr d.v d.ms (hn.later jL) (Hg.o.later jL);rw[hdv]at hr x1;have HN:=hid hN;have Wx:∀w4,Below wr.heap.size wr w4->w4.heap[fb]? =some (.cells #[.int .i64 0,.int .i64 0,.int .i64 0] 27 (0,0)):=fun w4 h4=>(h4.block _ (Nat.lt_of_lt_of_le (af Gp.o) gv.size)).trans ((gv.block _ (af Gp.o)).trans Gp.o);have Xz:=hid Wx;have my:=hid jL
   cases ye:dO (nds d.ms) with
   |error e=>
    rw[ye]at hr;obtain ⟨l,c⟩:=e;have hz:EH.toArray=#[.int .i64 0,.string ⟨#[]⟩,.slice none 0 0,.slice none 0 0,.string ⟨#[]⟩,.slice none 0 0,.string ⟨#[]⟩,.bool false]:=rfl;unfold rD at hr;simp only[hz]at hr;have Hr:=hid hr;have tc:(c==0)=false:=beq_eq_false_iff_ne.2 (E9 _ _ ye);have HD:=hid (xP.bad H.o.2 hN ye);clear hr hz ye hN Wx jL gv hn hc hdv hd hj H rN HN
    go_wp2_with fail
    refine Hr.o.mono ?_;rintro r w4 ⟨rfl,bX⟩;have f4:=Xz.o w4 bX;have LO:=hid (my.o.trans (bX.mono my.o.size));have f5:=fun ob=>(ai (w:=w4) ob (af f4)).trans f4;have y0:=fun ob=>aa (f5 ob) 0;have y1:=fun ob=>aa (f5 ob) 1;have y2:=fun ob=>aa (f5 ob) 2;have yf:=fun ob j=>ah (f5 ob) j;simp at y0 y1 y2;have HE:=hid (fun ob=>show Below w.heap.size w ((((w4.alloc ob).setCell ⟨fb,0,none⟩ (.int .i64 (j:Int))).setCell ⟨fb,1,none⟩ (.int .i64 l)).setCell ⟨fb,2,none⟩ (.int .i64 c))/\((((w4.alloc ob).setCell ⟨fb,0,none⟩ (.int .i64 (j:Int))).setCell ⟨fb,1,none⟩ (.int .i64 l)).setCell ⟨fb,2,none⟩ (.int .i64 c)).heap[fb]? =some (.cells #[.int .i64 (j:Int),.int .i64 l,.int .i64 c] 27 (0,0)) from by
     have oC:=LN.o;obtain ⟨m1,m2⟩:=ld (f5 ob) (.int .i64 (j:Int)) (.int .i64 l) (.int .i64 c);have lV:=LO.o.alloc LO.o.size ob;exact ⟨lV.trans (m1.below lV.size fun k hk=>by omega),m2⟩)
    clear bX f4 f5 Xz Hr my;go_wp2;refine bodyPost_ret (tK rfl rfl (HE.o _).2) rfl ?_;rw[HD.o];exact ⟨rfl,(HE.o _).1⟩
   |ok x=>
    rw[ye]at hr;have Hr:=hid hr;have Hdp:=hid ye;have Hl2:=hid (show j<=2000000 by have:=Hl.o.1;omega);obtain ⟨cY,df⟩:=bL (k:=j) (n:=q) hj (by have:=Hl.o.1;omega);have HH:=hid H.o.2;have Hj:=hid hj;have Hbl:=hid gv;clear hr ye hN Wx jL gv hn hc hdv hd hj H rN
    go_wp2_with fail
    refine Hr.o.mono ?_;rintro r w4 ⟨⟨ev,tv,rv,rfl,Yh⟩,bX⟩;obtain ⟨ea,ec,he,_⟩:=Yh.toL.e;obtain ⟨ta,tc,ht,_⟩:=Yh.toL.t;obtain ⟨ra,rc,hru,_⟩:=Yh.toL.r;obtain ⟨_,ms,mj,jz,hDD⟩:=HH.o;have SF:∀o1 o2,Below w4.heap.size w4 ((w4.alloc o1).alloc o2):=fun o1 o2=>((aBi _ _).alloc (aBh _) o1).alloc (by simp) o2;have b9:=hid (fun o1 o2=>(jz.later (bX.trans ((SF o1 o2).mono bX.size))).row.row)
    have aX:=hid (fun o1 o2 v' w2 a1 a2 a3=>show Below w1.heap.size w1 w2/\xP w1 w2 D (fZ ds) v' (j+1) q from by
     have h6:=RsO.app (w1:=(w4.alloc o1).alloc o2) (v':=v') (w2:=w2) (q:=j+1) (ms:=ms) (m:=⟨x,ev,tv,rv⟩) jz (bX.trans ((SF o1 o2).mono bX.size)) (Yh.modM (m:=⟨x,ev,tv,rv⟩) (fS (SF o1 o2)) (fun _ _ q=>q)) a1 a2 a3;exact ⟨h6.row.below,xP.step mj hDD Hj.o HN.o Hdp.o h6⟩)
    have nX:=hid (VA (m:=⟨x,ev,tv,rv⟩) Yh);have lS:=hid (show (bV x ev tv rv).toList=(RsM.mk x ev tv rv).cells from rfl);unfold bV at lS;rw[he,ht,hru]at aX nX lS;rw[he,ht,hru];unfold bV;have hz:(Value.agg EH.toArray)= .agg #[.int .i64 0,.string ⟨#[]⟩,.slice none 0 0,.slice none 0 0,.string ⟨#[]⟩,.slice none 0 0,.string ⟨#[]⟩,.bool false]:=rfl;have Uw:=hid MQ;rw[hz]at Uw
    clear hz Yh he ht hru mj jz hDD SF bX HH Hdp HN my Xz Hr Hbl Hj
    go_wp2_with (at_builtin;refine j1 49 24 (.agg #[.int .i64 0,.string ⟨#[]⟩,.slice none 0 0,.slice none 0 0,.string ⟨#[]⟩,.slice none 0 0,.string ⟨#[]⟩,.bool false]) 8 136 Tryz.underlying24 Uw.o rfl (by decide) (by decide) rfl _ _ rfl v2 j _ rfl (b9.o _ _) (w4.heap.size+1) _ _ rfl (pQ _ _ _) lS.o rfl nX.o Hl2.o (j+1) rfl ?_;intro vA c4 w2 aB bC aA;have HE:=hid (aX.o _ _ _ _ aB bC aA);clear aB bC aA)
    go_roundw
    case rel=>exact ⟨_,j+1,rfl,df.o,HE⟩
    case measure=>exact cY.o
  ·have tj:decide (j<q)=false:=dF hj;have f4:=(H.o.1.block _ (af Gp.o)).trans Gp.o;have jL:Below w.heap.size w wr:=kQ.o.trans (H.o.1.mono kQ.o.size);obtain ⟨ms,mj,jz,hD⟩:=H.o.2.done (by rw[Hl.o.2];omega);have HD:=hid hD;obtain ⟨y0,y1,y2⟩:=cB3 f4;have yf:=fun j=>ah f4 j;simp at y0 y1 y2;have OO:=H.o.2.1;have HE:=hid (show Below w.heap.size w (((wr.setCell ⟨fb,0,none⟩ (.int .i64 0)).setCell ⟨fb,1,none⟩ (.int .i64 0)).setCell ⟨fb,2,none⟩ (.int .i64 0))/\(((wr.setCell ⟨fb,0,none⟩ (.int .i64 0)).setCell ⟨fb,1,none⟩ (.int .i64 0)).setCell ⟨fb,2,none⟩ (.int .i64 0)).heap[fb]? =some (.cells #[.int .i64 0,.int .i64 0,.int .i64 0] 27 (0,0))/\RsO w (((wr.setCell ⟨fb,0,none⟩ (.int .i64 0)).setCell ⟨fb,1,none⟩ (.int .i64 0)).setCell ⟨fb,2,none⟩ (.int .i64 0)) v2 j ms from by
    have oC:=LN.o;obtain ⟨hm,vh⟩:=ld f4 (.int .i64 0) (.int .i64 0) (.int .i64 0);have h1:w1.heap.size=w.heap.size+1:=by rw[IT.o];simp
    have kf:Below w.heap.size w (((wr.setCell ⟨fb,0,none⟩ (.int .i64 0)).setCell ⟨fb,1,none⟩ (.int .i64 0)).setCell ⟨fb,2,none⟩ (.int .i64 0)):=jL.trans (hm.below jL.size fun k hk=>by omega);refine ⟨kf,vh,⟨⟨kf,dD jz.row.row hm (fun g hg e=>by have:=jz.row.new g hg;omega),fun g hg=>by have:=jz.row.new g hg;omega⟩,fun m CZ=> ?_,jz.apart⟩⟩;exact ((jz.each m CZ).modM hm (fun g hg e=>by have:=((jz.each m CZ).own_lt hg).1;omega)).down (by omega))
   have Xt:=hid (And.intro mj (show j<=1048576 by have:=Hl.o.1;omega));clear H rN f4 jL jz hD mj OO hj;go_wp2;refine bodyPost_ret (tK rfl rfl HE.o.2.1) rfl ?_;rw[HD.o];exact ⟨⟨_,_,ms,rfl,HE.o.2.2,Xt.o.1.symm,Xt.o.2,rfl⟩,HE.o.1⟩
