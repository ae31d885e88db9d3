/-
Parts of a proof.
-/
import Derived.Test.YtfenoaeoedobmaaGreatDoorBk29
set_option linter.unusedVariables false
set_option linter.unusedSimpArgs false
set_option maxHeartbeats 4000000
set_option maxRecDepth 20000
namespace Go.Proofs.YtfenoaeoedobmaaGreatDoor
open Go Go.RowKit
def Tok.a (t:Tok):Array Value:=#[.int .i64 t.kind,.int .i64 t.line,.int .i64 t.col,.string ⟨t.text.toArray⟩,.bool t.quoted]
def PanF (e:Flt):Ending:= .panicked [{v:= .iface 174 (.agg #[.int .i64 e.1,.int .i64 e.2]),recovered:=false}]
structure TokOk (t:Tok):Prop where
 kind:I64 t.kind
 line:I64 t.line
 col:0<=t.col/\t.col<=1048576
 text:t.text.length<=1048576
theorem a5y:TokOk tokZ:=⟨by decide,by decide,by decide,by decide⟩
def rdA (lv:Value) (k:Nat) (nv:Value):Array Value:=#[lv,.int .i64 (k:Int),nv]
structure RdS (w0 w:World) (rb:Nat) (lv:Value) (ts:List Tok) (k:Nat) (nv:Value) (ms:List NdM):Prop where
 toks:SlR w0 lv 5 ts Tok.cells
 wf:∀t∈ts,TokOk t
 below:Below w0.heap.size w0 w
 rge:w0.heap.size<=rb
 blk:w.heap[rb]? =some (.cells (rdA lv k nv) 178 (0,0))
 nr:NRow w0 w rb nv ms
 kle:k<=ts.length
theorem RdS.later {w0 w w2:World} {rb:Nat} {lv:Value} {ts:List Tok} {k:Nat} {nv:Value} {ms:List NdM} (h:RdS w0 w rb lv ts k nv ms) (hb:Below w.heap.size w w2):RdS w0 w2 rb lv ts k nv ms:=
 ⟨h.toks,h.wf,h.below.trans (hb.mono h.below.size),h.rge,(hb.block _ (aAb h.blk)).trans h.blk,h.nr.later hb,h.kle⟩
theorem RdS.ok {w0 w:World} {rb:Nat} {lv:Value} {ts:List Tok} {k:Nat} {nv:Value} {ms:List NdM} (h:RdS w0 w rb lv ts k nv ms) (j:Nat):TokOk (nextT ts j):=by
 unfold nextT;cases hj:ts[j]? with
 |none=>exact a5y
 |some t=>exact h.wf t (List.mem_of_getElem? hj)
theorem RdS.move {w0 w:World} {rb:Nat} {lv:Value} {ts:List Tok} {k k2:Nat} {nv:Value} {ms:List NdM} (h:RdS w0 w rb lv ts k nv ms) (hk:k2<=ts.length):RdS w0 (w.setCell ⟨rb,1,none⟩ (.int .i64 (k2:Int))) rb lv ts k2 nv ms:=by
 have hM:Mod (fun b=>b=rb) w (w.setCell ⟨rb,1,none⟩ (.int .i64 (k2:Int))):=(Mod.refl _ _).setCell _ _ (fun _=>rfl);exact ⟨h.toks,h.wf,h.below.trans (hM.below h.below.size (fun b hb=>by rw[hb];exact h.rge)),h.rge,aAk h.blk 1 _,h.nr.mod hM (fun g hg e=>(h.nr.own_lt hg).2.2 e),hk⟩
def RdF (rb:Nat) (nv:Value) (ms:List NdM) (g:Nat):Prop:=g=rb\/nOwn nv ms g
theorem RdS.rd_lt {w0 w:World} {rb:Nat} {lv:Value} {ts:List Tok} {k:Nat} {nv:Value} {ms:List NdM} (h:RdS w0 w rb lv ts k nv ms) {g:Nat} (hg:RdF rb nv ms g):w0.heap.size<=g/\g<w.heap.size:=by
 rcases hg with rfl|hg
 ·exact ⟨h.rge,aAb h.blk⟩
 ·have:=h.nr.own_lt hg;exact ⟨this.1,this.2.1⟩
def aB1 (w0 w:World) (rb:Nat) (lv:Value) (ts:List Tok) (nv:Value) (ms:List NdM) (x:Except Flt (Nat×List Nd×Nat)) (r:Ending) (w':World):Prop:=
 match x with
 | .error e=>r=PanF e/\Below w0.heap.size w0 w'/\w.heap.size<=w'.heap.size
 | .ok (k2,ns2,i)=>r= .returned (.int .i64 (i:Int))/\∃nv2 ms2,RdS w0 w' rb lv ts k2 nv2 ms2/\nds ms2=ns2/\Mod (RdF rb nv ms) w w'/\∀g,nOwn nv2 ms2 g->nOwn nv ms g\/w.heap.size<=g
theorem aJr {w0 w w1 w2:World} {rb:Nat} {nv nv1:Value} {ms ms1:List NdM} (h1:Mod (RdF rb nv ms) w w1) (o1:∀g,nOwn nv1 ms1 g->nOwn nv ms g\/w.heap.size<=g) (h2:Mod (RdF rb nv1 ms1) w1 w2):Mod (RdF rb nv ms) w w2:=
 h1.trans' h2 fun i hi q=>by
  rcases q with q|q
  ·exact .inl q
  ·rcases o1 i q with q|q
   ·exact .inr q
   ·omega
theorem aOj {w w1:World} {nv nv1 nv2:Value} {ms ms1 ms2:List NdM} (hs:w.heap.size<=w1.heap.size) (o1:∀g,nOwn nv1 ms1 g->nOwn nv ms g\/w.heap.size<=g) (o2:∀g,nOwn nv2 ms2 g->nOwn nv1 ms1 g\/w1.heap.size<=g):∀g,nOwn nv2 ms2 g->nOwn nv ms g\/w.heap.size<=g:=fun g hg=>by
 rcases o2 g hg with q|q
 ·exact o1 g q
 ·exact .inr (by omega)
theorem RdS.tok_at {w0 w:World} {rb:Nat} {lv:Value} {ts:List Tok} {k:Nat} {nv:Value} {ms:List NdM} (h:RdS w0 w rb lv ts k nv ms):∃ao cap,lv= .slice ao ts.length cap/\ts.length<=1048576/\(k<ts.length->∃b o,ao=some ⟨b,o,none⟩/\
 w.cell? ⟨b,o+k*5,none⟩=some (.int .i64 (nextT ts k).kind)/\w.cell? ⟨b,o+k*5+1,none⟩=some (.int .i64 (nextT ts k).line)/\w.cell? ⟨b,o+k*5+2,none⟩=some (.int .i64 (nextT ts k).col)/\w.cell? ⟨b,o+k*5+3,none⟩=some (.string ⟨(nextT ts k).text.toArray⟩)/\w.cell? ⟨b,o+k*5+4,none⟩=some (.bool (nextT ts k).quoted)):=by
 obtain ⟨ao,cap,hv,hl,hat⟩:=h.toks.later h.below;refine ⟨ao,cap,hv,hl,fun hk=> ?_⟩;obtain ⟨b,o,ha,_,hc⟩:=hat (by omega);obtain ⟨t,ht⟩:=aAh hk;rw[aR1 ht];exact ⟨b,o,ha,hc k t ht 0 _ rfl,hc k t ht 1 _ rfl,hc k t ht 2 _ rfl,hc k t ht 3 _ rfl,hc k t ht 4 _ rfl⟩
theorem aBd {w w':World} {p:Addr} {v:Value} (h:Below w.heap.size w w') (hp:w.cell? p=some v):w'.cell? p=some v:=(h.cell (World.block_lt_of_cell? _ _ hp)).trans hp
theorem set5 {w:World} {b:Nat} {T:TypeId} {z0 z1 z2 z3 z4:Value} (h:w.heap[b]? =some (.cells #[z0,z1,z2,z3,z4] T (0,0))) (u0 u1 u2 u3 u4:Value):
 Mod (fun k=>k=b) w (((((w.setCell ⟨b,0,none⟩ u0).setCell ⟨b,1,none⟩ u1).setCell ⟨b,2,none⟩ u2).setCell ⟨b,3,none⟩ u3).setCell ⟨b,4,none⟩ u4)/\
 (((((w.setCell ⟨b,0,none⟩ u0).setCell ⟨b,1,none⟩ u1).setCell ⟨b,2,none⟩ u2).setCell ⟨b,3,none⟩ u3).setCell ⟨b,4,none⟩ u4).heap[b]? =some (.cells #[u0,u1,u2,u3,u4] T (0,0)):=by
 have m0:Mod (fun k=>k=b) w (w.setCell ⟨b,0,none⟩ u0):=(Mod.refl _ _).setCell _ _ (fun _=>rfl);have m1:Mod (fun k=>k=b) w ((w.setCell ⟨b,0,none⟩ u0).setCell ⟨b,1,none⟩ u1):=m0.setCell _ _ (fun _=>rfl);have m2:Mod (fun k=>k=b) w (((w.setCell ⟨b,0,none⟩ u0).setCell ⟨b,1,none⟩ u1).setCell ⟨b,2,none⟩ u2):=m1.setCell _ _ (fun _=>rfl);have m3:Mod (fun k=>k=b) w ((((w.setCell ⟨b,0,none⟩ u0).setCell ⟨b,1,none⟩ u1).setCell ⟨b,2,none⟩ u2).setCell ⟨b,3,none⟩ u3):=m2.setCell _ _ (fun _=>rfl)
 have m4:Mod (fun k=>k=b) w (((((w.setCell ⟨b,0,none⟩ u0).setCell ⟨b,1,none⟩ u1).setCell ⟨b,2,none⟩ u2).setCell ⟨b,3,none⟩ u3).setCell ⟨b,4,none⟩ u4):=m3.setCell _ _ (fun _=>rfl);have s0:=aAk h 0 u0;have s1:=aAk s0 1 u1;have s2:=aAk s1 2 u2;have s3:=aAk s2 3 u3;exact ⟨m4,aAk s3 4 u4⟩
theorem aIh {w:World} {b:Nat} {v0 v1 v2 v3 v4:Value} {tmps:Array Value} (h2:tmps[2]? =some (.pointer (some ⟨b,0,none⟩))) (hb:w.heap[b]? =some (.cells #[v0,v1,v2,v3,v4] 121 (0,0))):
 (results Tryz.f108 tmps).run Tryz.prog w= .ok (.agg #[v0,v1,v2,v3,v4]) w:=by
 have h1:=run_loadVar_mid (P:= Tryz.prog) w b 0 121 [v0,v1,v2,v3,v4] _ (aEh (l:=[v0,v1,v2,v3,v4]) hb) Tryz.underlying121 rfl (by kernel_rfl);rw[Array.getElem?_eq_some_iff]at h2;obtain ⟨l2,e2⟩:=h2;simp[results,Tryz.results108,asAddr,Array.getD,l2,e2,h1]
theorem aFg {w0 w:World} {rb:Nat} {lv:Value} {ts:List Tok} {k:Nat} {nv:Value} {ms:List NdM} (h:RdS w0 w rb lv ts k nv ms):
 Calls Tryz.prog 108 #[.pointer (some ⟨rb,0,none⟩)] w fun r w'=>r= .returned (.agg (nextT ts k).a)/\Below w.heap.size w w':=by
 obtain ⟨ao,cap,rfl,hl,hat⟩:=h.tok_at;obtain ⟨n,hn⟩:∃n,n=ts.length:=⟨_,rfl⟩;rw[<-hn]at hl hat;have hblk:=h.blk;rw[<-hn]at hblk;unfold rdA at hblk;have f0:=fun ob=>(aAe (w:=w) ob (aAb hblk)).trans hblk;have y0:=fun ob=>aAa (f0 ob) 0;have y1:=fun ob=>aAa (f0 ob) 1;simp at y0 y1;unfold Tok.a;by_cases hk:k<n
 ·have tk:decide (k<n)=true:=dT hk;have bk:(k:Int)<(n:Int):=by omega
  obtain ⟨b,o,rfl,c0,c1,c2,c3,c4⟩:=hat hk;have e:=fun ob j (v:Value) (hc:w.cell? ⟨b,j,none⟩=some v)=>aBd ((a7d w.heap.size w).alloc (a7c _) ob) hc;have d0:=fun ob=>e ob _ _ c0;have d1:=fun ob=>e ob _ _ c1;have d2:=fun ob=>e ob _ _ c2;have d3:=fun ob=>e ob _ _ c3;have d4:=fun ob=>e ob _ _ c4;generalize nextT ts k=t at*;clear h hl hat hn hblk f0 c0 c1 c2 c3 c4 e hk;go_enter Tryz.func108,Tryz.ntmps108
  go_wp2;go_quiet (fail);go_wp2;obtain ⟨W,hW⟩:∃W,W=(w.alloc (.cells #[.int .i64 0,.int .i64 0,.int .i64 0,.string ⟨#[]⟩,.bool false] 121)).drewN nq:=⟨_,rfl⟩;have hb:Below w.heap.size w W:=by rw[hW];exact bdH ((a7d _ _).alloc (a7c _) _) nq
  have hn:W.heap[w.heap.size]? =some (.cells #[.int .i64 0,.int .i64 0,.int .i64 0,.string ⟨#[]⟩,.bool false] 121 (0,0)):=by rw[hW];exact aAc (w:=w) _
  rw[<-hW];have y0':W.cell? ⟨rb,0,none⟩=some (.slice (some ⟨b,o,none⟩) n cap):=by rw[hW];exact y0 _
  have y1':W.cell? ⟨rb,1,none⟩=some (.int .i64 (k:Int)):=by rw[hW];exact y1 _
  have d0':W.cell? ⟨b,o+k*5,none⟩=some (.int .i64 t.kind):=by rw[hW];exact d0 _
  have d1':W.cell? ⟨b,o+k*5+1,none⟩=some (.int .i64 t.line):=by rw[hW];exact d1 _
  have d2':W.cell? ⟨b,o+k*5+2,none⟩=some (.int .i64 t.col):=by rw[hW];exact d2 _
  have d3':W.cell? ⟨b,o+k*5+3,none⟩=some (.string ⟨t.text.toArray⟩):=by rw[hW];exact d3 _
  have d4':W.cell? ⟨b,o+k*5+4,none⟩=some (.bool t.quoted):=by rw[hW];exact d4 _
  have HE:=hid (set5 (w:=W.drew) (b:=w.heap.size) hn (.int .i64 t.kind) (.int .i64 t.line) (.int .i64 t.col) (.string ⟨t.text.toArray⟩) (.bool t.quoted));have Hb:=hid hb;obtain ⟨q0,q1,q2,q3,q4⟩:=cB5 hn;have qf:=fun j=>aAd hn j;simp at q0 q1 q2 q3 q4;clear y0 y1 d0 d1 d2 d3 d4 hW hb hn
  go_still_tail 10,(by kernel_rfl)
  repeat still_step
  change wpList _ _ _ _ _ W.drew;go_wp2;refine bodyPost_ret (aIh rfl HE.out.2) rfl ⟨rfl,?_⟩;exact Hb.out.drew.trans (HE.out.1.below Hb.out.size (fun k hk=>by omega))
 ·have tk:decide (k<n)=false:=dF hk;rw[aDx (by omega)];unfold tokZ;clear h hl hat hn hblk f0 hk;go_enter Tryz.func108,Tryz.ntmps108;go_wp2;go_quiet (fail);go_wp2;have HE:=hid (fun n=>set5 (w:=(w.alloc (.cells #[.int .i64 0,.int .i64 0,.int .i64 0,.string ⟨#[]⟩,.bool false] 121)).drewN n) (b:=w.heap.size) (aAc (w:=w) (.cells #[.int .i64 0,.int .i64 0,.int .i64 0,.string ⟨#[]⟩,.bool false] 121)) (.int .i64 0) (.int .i64 0) (.int .i64 0) (.string ⟨#[]⟩) (.bool false))
  refine bodyPost_ret (aIh rfl (HE.out nq).2) rfl ⟨rfl,?_⟩;exact ((bdH ((a7d _ _).alloc (a7c _) _) nq).trans ((HE.out nq).1.below (by simp) (fun k hk=>by omega)))
theorem has_c (w:World) (t:Tok):Calls Tryz.prog 107 #[.agg t.a] w fun r w'=>r= .returned (.bool (hasB t))/\Below w.heap.size w w':=by
 unfold Tok.a hasB;have h2:(t.kind==2||t.kind==3||t.kind==4)=true\/(t.kind==2||t.kind==3||t.kind==4)=false:=by cases (t.kind==2||t.kind==3||t.kind==4)<;>simp
 by_cases k2:(t.kind==2)=true
 ·rw[k2];go_enter Tryz.func107,Tryz.ntmps107;go_wp2;go_ret;exact ⟨rfl,(a7d _ _).alloc (a7c _) _⟩
 ·replace k2:(t.kind==2)=false:=by cases h:(t.kind==2)<;>simp_all
  by_cases k3:(t.kind==3)=true
  ·rw[k2,k3];clear h2;go_enter Tryz.func107,Tryz.ntmps107;go_wp2;go_ret;exact ⟨rfl,(a7d _ _).alloc (a7c _) _⟩
  ·replace k3:(t.kind==3)=false:=by cases h:(t.kind==3)<;>simp_all
   cases k4:(t.kind==4)<;>rw[k2,k3]
   all_goals
    clear h2;go_enter Tryz.func107,Tryz.ntmps107;go_wp2;go_ret;exact ⟨rfl,(a7d _ _).alloc (a7c _) _⟩
def begX (k:Nat) (ns:List Nd) (d:Nat) (kind:Int) (key:ByteArray) (t:Tok):Except Flt (Nat×List Nd×Nat):=
 match newP ns d kind key t with| .error e=> .error e| .ok ns2=> .ok (k,ns2,ns.length)
theorem aMq (ms:List NdM) (m:NdM):nds (ms++[m])=nds ms++[m.nd]:=by unfold nds;rw[List.map_append];rfl
theorem aWy {w0 w w1 w5:World} {rb:Nat} {lv:Value} {ts:List Tok} {k n:Nat} {ao ao5:Option Addr} {c c5:Nat} {ms:List NdM} (h:RdS w0 w rb lv ts k (.slice ao ms.length c) ms) {kind:Int} {key:ByteArray} {t:Tok} (hn:n=ms.length) (hk:I64 kind) (hkey:key.size<=1048576) (ht:TokOk t) (hlen:n<4096)
 (hb1:Below w.heap.size w w1) (own2:w5.ownsRow 0 55 6 (.slice ao5 (n+1) c5) (n+1) (ms.flatMap NdM.cells++NdM.cells ⟨⟨kind,key,⟨#[]⟩,false,t.line,[]⟩,.slice none 0 0⟩)) (gr2:w1.grownBy w5 (Value.slice ao n c).ownBlock)
 (new2:∀g,(Value.slice ao5 (n+1) c5).ownBlock=some g->(Value.slice ao n c).ownBlock=some g\/w1.heap.size<=g):
 w5.heap[rb]? =some (.cells #[lv,.int .i64 (k:Int),.slice ao n c] 178 (0,0))/\
 RdS w0 (w5.setCell ⟨rb,2,none⟩ (.slice ao5 (n+1) c5)) rb lv ts k (.slice ao5 (n+1) c5) (ms++[⟨⟨kind,key,⟨#[]⟩,false,t.line,[]⟩,.slice none 0 0⟩])/\
 Mod (RdF rb (.slice ao n c) ms) w (w5.setCell ⟨rb,2,none⟩ (.slice ao5 (n+1) c5))/\
 ∀g,nOwn (.slice ao5 (n+1) c5) (ms++[⟨⟨kind,key,⟨#[]⟩,false,t.line,[]⟩,.slice none 0 0⟩]) g->nOwn (.slice ao n c) ms g\/w.heap.size<=g:=by
 subst hn;have h1:=h.later hb1;obtain ⟨hnr,hno⟩:=h.nr.app (x:=⟨kind,key,⟨#[]⟩,false,t.line,[]⟩) h.below.size hb1 (aAb h.blk) rfl hk ht.line (show (0:Nat)<=1048576 by decide) hkey hlen own2 gr2 new2;have hM:Mod (fun b=>(Value.slice ao ms.length c).ownBlock=some b) w1 w5:=(Mod.refl _ _).grown gr2 (fun b e _=>e);have hblk:w5.heap[rb]? =some (.cells (rdA lv k (.slice ao ms.length c)) 178 (0,0)):=hM.heap h1.blk (fun e=>(h.nr.new rb e).2 rfl)
 have hS:Mod (fun b=>b=rb) w5 (w5.setCell ⟨rb,2,none⟩ (.slice ao5 (ms.length+1) c5)):=(Mod.refl _ _).setCell _ _ (fun _=>rfl);have hW:Mod (RdF rb (.slice ao ms.length c) ms) w (w5.setCell ⟨rb,2,none⟩ (.slice ao5 (ms.length+1) c5)):=
  ((Mod.ofBelow (F:=RdF rb (.slice ao ms.length c) ms) hb1 (fun b hb hge=>by omega)).trans' hM (fun i hi q=> .inr (.inl q))).trans' hS (fun i hi q=> .inl q)
 refine ⟨hblk,⟨h.toks,h.wf,h.below.trans (hW.below h.below.size (fun b hb=>(h.rd_lt hb).1)),h.rge,aAk hblk 2 _,hnr.mod hS (fun g hg e=>(hnr.own_lt hg).2.2 e),h.kle⟩,hW,fun g hg=> ?_⟩;rcases hno g hg with q|q
 ·exact .inl q
 ·exact .inr (a7g hb1.size q)
theorem aJs {w0 w:World} {rb:Nat} {lv:Value} {ts:List Tok} {k:Nat} {nv:Value} {ms:List NdM} (h:RdS w0 w rb lv ts k nv ms) (d:Nat) (hd:d<=17) (kind:Int) (hk:I64 kind) (key:ByteArray) (hkey:key.size<=1048576) (t:Tok) (ht:TokOk t):
 Calls Tryz.prog 148 #[.pointer (some ⟨rb,0,none⟩),.int .i64 kind,.int .i64 ((17-d:Nat):Int),.string key,.agg t.a] w (aB1 w0 w rb lv ts nv ms (begX k (nds ms) d kind key t)):=by
 unfold Tok.a;obtain ⟨ao,c,rfl⟩:=h.nr.form;have hblk:=h.blk;unfold rdA at hblk;have f0:=fun ob=>(aAe (w:=w) ob (aAb hblk)).trans hblk;have y2:=fun ob=>aAa (f0 ob) 2;simp at y2;obtain ⟨n,hn⟩:∃n,n=ms.length:=⟨_,rfl⟩;rw[<-hn]at y2;have hnl:(nds ms).length=n:=by rw[aBa,hn]
 by_cases hb:d=0\/n=4096
 ·have hx:begX k (nds ms) d kind key t= .error (t.line,92):=by unfold begX newP;rw[hnl,if_pos hb]
  rw[hx];have HE:=hid (fun ob=>show Below w0.heap.size w0 (w.alloc ob)/\w.heap.size<=(w.alloc ob).heap.size from ⟨h.below.alloc h.below.size _,by simp⟩);rw[<-hn];clear h hblk f0 hx hnl hn ht hk hkey;by_cases hd0:d=0
  ·subst hd0;go_enter Tryz.func148,Tryz.ntmps148;go_wp2;exact ⟨rfl,rfl,HE.out _⟩
  ·obtain rfl:n=4096:=by rcases hb with q|q;exact absurd q hd0;exact q
   have b1:((17-d:Nat):Int)<=16:=by omega
   clear hb;go_enter Tryz.func148,Tryz.ntmps148;go_wp2;exact ⟨rfl,rfl,HE.out _⟩
 ·have b1:decide ((16:Int)<((17-d:Nat):Int))=false:=dF (by omega);have b2:((n:Int)==4096)=false:=beq_eq_false_iff_ne.2 (by omega);have Hw:=hid (show wrap64 (n:Int)=(n:Int) from aA1 (by omega) (by have:=h.nr.len;omega));have hx:begX k (nds ms) d kind key t= .ok (k,nds ms++[⟨kind,key,⟨#[]⟩,false,t.line,[]⟩],n):=by unfold begX newP;rw[hnl,if_neg hb]
  have hlen:n<4096:=by have:=h.nr.len;omega
  rw[hx,<-hn];have g2:w.cell? ⟨rb,2,none⟩=some (.slice ao n c):=by rw[hn];have:=aAa hblk 2;simpa using this
  have gf:=aAd hblk;have w2f:=fun ob1 ob2=>(aAe (w:=w.alloc ob1) ob2 (aAb (f0 ob1))).trans (f0 ob1);have x2:=fun ob1 ob2=>aAa (w2f ob1 ob2) 2;have xf:=fun ob1 ob2 j=>aAd (w2f ob1 ob2) j;simp at x2;rw[<-hn]at x2;have z1:=fun (ob2:Obj)=>aAa ((aAe (w:=w.alloc (.cells #[.int .i64 t.kind,.int .i64 t.line,.int .i64 t.col,.string ⟨t.text.toArray⟩,.bool t.quoted] 121)) ob2 (by simp:w.heap.size<_)).trans (aAc (w:=w) _)) 1
  simp at z1;have Hown:=hid (fun nd ob1 ob2=>show (((w.alloc ob1).drewN nd).alloc ob2).ownsRow 0 55 6 (.slice ao n c) n (ms.flatMap NdM.cells) from by
   have:=h.nr.row;rw[hn];exact World.ownsRow.alloc (w:=(w.alloc ob1).drewN nd) (this.alloc ob1) ob2)
  have H:=hid h;have Hn:=hid hn;have Hb:=hid (And.intro hk (And.intro hkey (And.intro ht hlen)));have Hjl:=hid (show n<=1000000 by omega);have Hend:=hid (fun ob1 ob2 ao5 c5 (w5:World) (a1:w5.ownsRow 0 55 6 (.slice ao5 (n+1) c5) (n+1) (ms.flatMap NdM.cells++NdM.cells ⟨⟨kind,key,⟨#[]⟩,false,t.line,[]⟩,.slice none 0 0⟩))
   (a2:(((w.alloc ob1).alloc ob2).drew).grownBy w5 (Value.slice ao n c).ownBlock) (a3:∀g,(Value.slice ao5 (n+1) c5).ownBlock=some g->(Value.slice ao n c).ownBlock=some g\/((w.alloc ob1).alloc ob2).drew.heap.size<=g)=>aWy h hn hk hkey ht hlen (((((a7d _ _).alloc (a7c _) ob1).alloc (by simp) ob2)).drew) a1 a2 a3)
  have Hd1:=hid (show 0<6 by decide);have Hd2:=hid (show 80<=1000 by decide);clear h hn hx hnl hlen hb hblk f0 w2f hk hkey ht hd;go_enter Tryz.func148,Tryz.ntmps148;go_wp2
  go_region_law (refine aPz 55 33 (.agg #[.int .i64 0,.string ⟨#[]⟩,.string ⟨#[]⟩,.bool false,.int .i64 0,.slice none 0 0]) 6 80 Tryz.underlying33 aG2 rfl Hd1.out Hd2.out rfl _ _ rfl (.slice ao n c) n (ms.flatMap NdM.cells) rfl (Hown.out _ _ _) (w.heap.size+1) #[.int .i64 kind,.string key,.string ⟨#[]⟩,.bool false,.int .i64 t.line,.slice none 0 0] (NdM.cells ⟨⟨kind,key,⟨#[]⟩,false,t.line,[]⟩,.slice none 0 0⟩) rfl (aHw _ _ _) rfl rfl (aRl _ rfl) Hjl.out (n+1) rfl ?_;intro ao5 c5 w5 own2 gr2 new2;have HE:=hid (Hend.out _ _ _ _ _ own2 gr2 new2);have q1:=aAa (HE.out.1) 2;have q2:=aAd HE.out.1 2;simp at q1;clear own2 gr2 new2)
  all_goals go_wp2
  all_goals refine bodyPost_ret (results_tmp (t:=10) rfl _ _ _) rfl ⟨congrArg (fun z=>Ending.returned (.int .i64 z)) Hw.out,_,_,HE.out.2.1,?_,HE.out.2.2.1,HE.out.2.2.2⟩
  all_goals exact aMq _ _
theorem aB1.base {w0 w w3 w':World} {rb:Nat} {lv:Value} {ts:List Tok} {nv:Value} {ms:List NdM} {x:Except Flt (Nat×List Nd×Nat)} {r:Ending} (hb:Below w.heap.size w w3) (h:aB1 w0 w3 rb lv ts nv ms x r w'):aB1 w0 w rb lv ts nv ms x r w':=by
 cases x with
 |error e=>exact ⟨h.1,h.2.1,a7g hb.size h.2.2⟩
 |ok y=>
  obtain ⟨hr,nv2,ms2,hR,hn,hm,ho⟩:=h;refine ⟨hr,nv2,ms2,hR,hn,(Mod.ofBelow (F:=RdF rb nv ms) hb (fun k hk hge=>by omega)).trans hm,fun g hg=> ?_⟩;rcases ho g hg with q|q
  ·exact .inl q
  ·exact .inr (a7g hb.size q)
def aLj (w0:World) (rb:Nat) (lv:Value) (ts:List Tok) (d:Nat):Prop:=
 ∀(w:World) (k:Nat) (nv:Value) (ms:List NdM) (key:ByteArray),RdS w0 w rb lv ts k nv ms->hasB (nextT ts k)=true->key.size<=1048576->
  Calls Tryz.prog 109 #[.pointer (some ⟨rb,0,none⟩),.int .i64 ((17-d:Nat):Int),.string key] w (aB1 w0 w rb lv ts nv ms (aA0 ts d k (nds ms) key))
theorem aWz {w0 w:World} {rb:Nat} {lv:Value} {ts:List Tok} {k:Nat} {nv:Value} {ms:List NdM} (h:RdS w0 w rb lv ts k nv ms) (d:Nat) (hd:d<=16) (is:Bool) (t:Tok) (ht:TokOk t) (key:ByteArray) (hkey:key.size<=1048576) (IH:aLj w0 rb lv ts d):
 Calls Tryz.prog 181 #[.pointer (some ⟨rb,0,none⟩),.bool is,.agg t.a,.int .i64 ((17-d:Nat):Int),.string key] w (aB1 w0 w rb lv ts nv ms (valP (aA0 ts d) ts d is t k (nds ms) key)):=by
 have hb1:∀ob,Below w.heap.size w (w.alloc ob):=fun ob=>(a7d _ _).alloc (a7c _) ob;cases is with
 |false=>
  have Hx:=hid (show valP (aA0 ts d) ts d false t k (nds ms) key=begX k (nds ms) d 1 key t from rfl);have Hbeg:=hid (fun ob=>(aJs (h.later (hb1 ob)) d (by omega) 1 (by decide) key hkey t ht).mono (fun r w' hh=>aB1.base (hb1 ob) hh));rw[Hx.out];clear Hx h IH hkey ht hd hb1;generalize begX k (nds ms) d 1 key t=X at*;unfold Tok.a at Hbeg |-;go_enter Tryz.func181,Tryz.ntmps181
  go_wp2_with fail
  refine (Hbeg.out _).mono ?_;intro r w' hh;cases X with
  |error e=>
   obtain ⟨rfl,h1,h2⟩:=hh;exact ⟨rfl,rfl,h1,h2⟩
  |ok y=>
   obtain ⟨k2,ns2,i⟩:=y;obtain rfl:=hh.1;have HH:=hid hh;clear hh Hbeg;go_wp2;exact bodyPost_ret (results_tmp (t:=10) rfl _ _ _) rfl HH.out
 |true=>
  have Hnx:=hid (fun ob=>aFg (h.later (hb1 ob)));have H:=hid h;have Hb:=hid hb1;have Ht:=hid (And.intro hkey (And.intro ht hd));have IH:=hid IH;cases hhas:hasB (nextT ts k) with
  |false=>
   have hx:valP (aA0 ts d) ts d true t k (nds ms) key=begX k (nds ms) d 1 key t:=by unfold valP;rw[hhas];rfl
   rw[hx];have Hbeg:=hid (fun w3 (hb:Below w.heap.size w w3)=>(aJs (h.later hb) d (by omega) 1 (by decide) key hkey t ht).mono (fun r w' hh=>aB1.base hb hh));have Hhas:=hid (fun w3=>has_c w3 (nextT ts k));rw[hhas]at Hhas;clear hx h hkey ht hd hb1 hhas H IH Ht;generalize begX k (nds ms) d 1 key t=X at*;generalize nextT ts k=n at*;unfold Tok.a at Hbeg Hnx Hhas |-;go_enter Tryz.func181,Tryz.ntmps181
   go_wp2_with fail
   refine (Hnx.out _).mono ?_;rintro r w2 ⟨rfl,h2⟩;have Hb2:=hid ((Hb.out _).trans (h2.mono (Hb.out _).size));have c0:=fun j v hc=>aBd (p:=⟨w.heap.size,j,none⟩) (v:=v) h2 hc;have y0:=c0 0 _ (aAa (aAc (w:=w) _) 0);have y1:=c0 1 _ (aAa (aAc (w:=w) _) 1);have y2:=c0 2 _ (aAa (aAc (w:=w) _) 2);have y3:=c0 3 _ (aAa (aAc (w:=w) _) 3);have y4:=c0 4 _ (aAa (aAc (w:=w) _) 4)
   simp at y0 y1 y2 y3 y4;clear h2 c0 Hnx
   go_wp2_with fail
   refine (Hhas.out _).mono ?_;rintro r w3 ⟨rfl,h3⟩;have Hb3:=hid (Hb2.out.trans (h3.mono Hb2.out.size))
   replace y0:=aBd h3 y0
   replace y1:=aBd h3 y1
   replace y2:=aBd h3 y2
   replace y3:=aBd h3 y3
   replace y4:=aBd h3 y4
   clear h3 Hhas Hb2
   go_wp2_with fail
   refine (Hbeg.out _ Hb3.out).mono ?_;intro r w' hh;cases X with
   |error e=>
    obtain ⟨rfl,h1,h2⟩:=hh;exact ⟨rfl,rfl,h1,h2⟩
   |ok y=>
    obtain ⟨k2,ns2,i⟩:=y;obtain rfl:=hh.1;have HH:=hid hh;clear hh Hbeg y0 y1 y2 y3 y4;go_wp2;exact bodyPost_ret (results_tmp (t:=10) rfl _ _ _) rfl HH.out
  |true=>
   have hx:valP (aA0 ts d) ts d true t k (nds ms) key=aA0 ts d k (nds ms) key:=by unfold valP;rw[hhas];rfl
   rw[hx];have Hbeg:=hid (fun w3 (hb:Below w.heap.size w w3)=>(IH.out w3 k nv ms key (h.later hb) hhas hkey).mono (fun r w' hh=>aB1.base hb hh));have Hhas:=hid (fun w3=>has_c w3 (nextT ts k));rw[hhas]at Hhas;clear hx h hkey ht hd hb1 hhas H IH Ht;generalize aA0 ts d k (nds ms) key=X at*;generalize nextT ts k=n at*;unfold Tok.a at Hnx Hhas |-;go_enter Tryz.func181,Tryz.ntmps181
   go_wp2_with fail
   refine (Hnx.out _).mono ?_;rintro r w2 ⟨rfl,h2⟩;have Hb2:=hid ((Hb.out _).trans (h2.mono (Hb.out _).size));clear h2 Hnx
   go_wp2_with fail
   refine (Hhas.out _).mono ?_;rintro r w3 ⟨rfl,h3⟩;have Hb3:=hid (Hb2.out.trans (h3.mono Hb2.out.size));clear h3 Hhas Hb2
   go_wp2_with fail
   refine (Hbeg.out _ Hb3.out).mono ?_;intro r w' hh;cases X with
   |error e=>
    obtain ⟨rfl,h1,h2⟩:=hh;exact ⟨rfl,rfl,h1,h2⟩
   |ok y=>
    obtain ⟨k2,ns2,i⟩:=y;obtain rfl:=hh.1;have HH:=hid hh;clear hh Hbeg;go_wp2;exact bodyPost_ret (results_tmp (t:=10) rfl _ _ _) rfl HH.out
theorem aG4 {w:World} {ops:Array Oper} {o:Oper} {a:Act} {K:Act->World->Prop} {Q:Exit->Act->World->Prop} {E:Prop} (e sl:TypeId) (z:Value) (size nb:Nat) (hsl: Tryz.prog.underlying sl=some (.slice e))
 (hinf:(Tryz.prog.info? e).map (fun i=>(i.zero,i.size,i.bytes))=some (some z,size,nb)) (hzs:z.cells.size=size) (hsz:0<size) (hnb:nb<=1000) (hgd:o.guard=none) (s x:Operand)
 (ho:o.op= .call {callee:= .builtin .append,args:=#[s,x],argTypes:=#[sl,sl]})
 (v:Value) (n:Nat) (xs:List Value) (hs:a.eval s=v) (hown:w.ownsRow 0 e size v n xs) (g:Nat) (arr:Array Value) (news:List Value) (hx:a.eval x= .slice (some ⟨g,0,none⟩) 1 1)
 (hnew:w.heap[g]? =some (.cells arr e (0,0))) (harr:arr.toList=news) (hl:news.length=size) (h1:∀u∈news,u.oneCell'=true) (hlen:n<=2000000) (q:Nat) (hq:q=n+1)
 (h:∀ao' c' w',w'.ownsRow 0 e size (.slice ao' q c') q (xs++news)->w.grownBy w' v.ownBlock->(∀g,(Value.slice ao' q c').ownBlock=some g->v.ownBlock=some g\/w.heap.size<=g)->
  K (a.put o.dst (.slice ao' q c')) w'):if Region.wanted o (yielded ops a.tmps)=true then Oper.wp Tryz.prog o a w K Q else E:=by
 obtain ⟨i,hi,hz,hsize,hby⟩:=info_parts hinf;subst hq;refine aEa w hgd s x sl ho e i z size nb hsl hi hz hsize hby hzs hsz v n xs hs hown (some ⟨g,0,none⟩) 1 1 news hx (by omega) (fun hn=>by cases hn) (fun ad had=> ?_) h1 (by unfold maxLen;omega) ?_ ?_
 ·obtain rfl:=a7h had;intro j u hj;have e2:Addr.add ⟨g,0,none⟩ j=⟨g,j,none⟩:=by
   simp[Addr.add];exact fun h=>h.symm
  rw[e2,aAa hnew,<-Array.getElem?_toList,harr];exact hj
 ·have h3:(n+1)*nb<=2000001*1000:=Nat.mul_le_mul (by omega) hnb;omega
 ·intro v' w' h1 h2 h3;have hf:∃ao' c',v'= .slice ao' (n+1) c':=by
   rcases h1.2 with ⟨hv,hn⟩|⟨g,cap,cur,hv,_⟩
   ·rw[hv,hn];exact ⟨none,0,rfl⟩
   ·exact ⟨_,_,hv⟩
  obtain ⟨ao',c',rfl⟩:=hf;exact h ao' c' w' h1 h2 h3
theorem aP9 {ms:List NdM} {i:Nat} {m':NdM}:nds (ms.set i m')=(nds ms).set i m'.nd:=by unfold nds;rw[List.map_set]
theorem aJt {ms:List NdM} {i kid:Nat} {m:NdM} (h:ms[i]? =some m) (kv:Value):nds (ms.set i ⟨{m.nd with kids:=m.nd.kids++[(kid:Int)]},kv⟩)=aBx (nds ms) i kid:=by
 rw[aP9];unfold aBx;have:(nds ms)[i]? =some m.nd:=by unfold nds;rw[List.getElem?_map,h];rfl
 rw[this]
theorem aW0 {w0 w w1 w5:World} {rb:Nat} {lv:Value} {ts:List Tok} {k i kid q g:Nat} {nv:Value} {ao5:Option Addr} {c5:Nat} {ms:List NdM} {m:NdM} (h:RdS w0 w rb lv ts k nv ms) (hi:ms[i]? =some m) (hg:nv.ownBlock=some g) (hq:q=m.nd.kids.length) (hql:q<1048576)
 (hb1:Below w.heap.size w w1) (own2:w5.ownsRow 0 3 1 (.slice ao5 (q+1) c5) (q+1) (m.nd.kids.flatMap aB9++[.int .i64 (kid:Int)])) (gr2:w1.grownBy w5 m.kv.ownBlock)
 (new2:∀g,(Value.slice ao5 (q+1) c5).ownBlock=some g->m.kv.ownBlock=some g\/w1.heap.size<=g):
 Mod (RdF rb nv ms) w w5/\w5.heap[rb]? =w.heap[rb]? /\w5.heap[g]? =w.heap[g]? /\
 RdS w0 (w5.setCell ⟨g,i*6+5,none⟩ (.slice ao5 (q+1) c5)) rb lv ts k nv (ms.set i ⟨{m.nd with kids:=m.nd.kids++[(kid:Int)]},.slice ao5 (q+1) c5⟩)/\
 Mod (RdF rb nv ms) w (w5.setCell ⟨g,i*6+5,none⟩ (.slice ao5 (q+1) c5))/\
 ∀b,nOwn nv (ms.set i ⟨{m.nd with kids:=m.nd.kids++[(kid:Int)]},.slice ao5 (q+1) c5⟩) b->nOwn nv ms b\/w.heap.size<=b:=by
 subst hq;have h1:=h.later hb1;have hmm:=List.mem_of_getElem? hi;have hP:=h1.nr.each m hmm;have hM:Mod (fun b=>m.kv.ownBlock=some b) w1 w5:=(Mod.refl _ _).grown gr2 (fun b e _=>e);have hrb:w5.heap[rb]? =w1.heap[rb]? :=hM.block rb (aAb h1.blk) (fun e=>(h.nr.kid m hmm rb e).2 rfl);have hgb:w5.heap[g]? =w1.heap[g]? :=hM.block g (h1.nr.row.lt g hg).2 (fun e=>(h.nr.kid m hmm g e).1 hg);have hW:Mod (RdF rb nv ms) w w5:=(Mod.ofBelow (F:=RdF rb nv ms) hb1 (fun b hb hge=>by omega)).trans' hM (fun b hb q=> .inr (.inr ⟨m,hmm,q⟩))
 have hS:Mod (fun b=>b=g) w5 (w5.setCell ⟨g,i*6+5,none⟩ (.slice ao5 (m.nd.kids.length+1) c5)):=(Mod.refl _ _).setCell _ _ (fun _=>rfl);have hW2:Mod (RdF rb nv ms) w (w5.setCell ⟨g,i*6+5,none⟩ (.slice ao5 (m.nd.kids.length+1) c5)):=hW.trans' hS (fun b hb q=> .inr (.inl (by rw[q];exact hg)));have hgr:g≠rb:=(h.nr.new g hg).2;have hP5:NdP w5 w0.heap.size ⟨{m.nd with kids:=m.nd.kids++[(kid:Int)]},.slice ao5 (m.nd.kids.length+1) c5⟩:=by
  refine ⟨?_,fun b hb=> ?_,hP.kind,hP.line,hP.text,hP.key,?_⟩
  ·show w5.ownsRow 0 3 1 (.slice ao5 (m.nd.kids.length+1) c5) (m.nd.kids++[(kid:Int)]).length ((m.nd.kids++[(kid:Int)]).flatMap aB9)
   rw[a7e,List.flatMap_append,List.flatMap_singleton];exact own2
  ·rcases new2 b hb with q|q
   ·exact hP.fresh b q
   ·exact a7g h1.below.size q
  ·show (m.nd.kids++[(kid:Int)]).length<=1048576
   rw[a7e];simp;omega
 have hN:=NRowM.kids (m':=⟨{m.nd with kids:=m.nd.kids++[(kid:Int)]},.slice ao5 (m.nd.kids.length+1) c5⟩) h1.nr h1.below.size (aAb h1.blk) hi hg hM rfl hP5 new2;refine ⟨hW,hrb.trans (hb1.block _ (aAb h.blk)),hgb.trans (hb1.block _ (h.nr.row.lt g hg).2),⟨h.toks,h.wf,h.below.trans (hW2.below h.below.size (fun b hb=>(h.rd_lt hb).1)),h.rge,?_,hN,h.kle⟩,hW2,fun b hb=> ?_⟩
 ·rw[hS.block rb (Nat.lt_of_lt_of_le (aAb h1.blk) hM.size) (fun e=>hgr e.symm),hrb];exact h1.blk
 ·rcases hb with hb|⟨x,hx,hb⟩
  ·exact .inl (.inl hb)
  ·rcases List.mem_or_eq_of_mem_set hx with hx|rfl
   ·exact .inl (.inr ⟨x,hx,hb⟩)
   ·rcases new2 b hb with q|q
    ·exact .inl (.inr ⟨m,hmm,q⟩)
    ·exact .inr (a7g hb1.size q)
def PreN (n:Nat) (ns ns2:List Nd):Prop:=ns.length<=ns2.length/\∀j,j<n->ns2[j]? =ns[j]?
theorem PreN.refl (n:Nat) (ns:List Nd):PreN n ns ns:=⟨a7c _,fun _ _=>rfl⟩
theorem PreN.trans {n:Nat} {a b c:List Nd} (h:PreN n a b) (k:PreN n b c):PreN n a c:=⟨a7g h.1 k.1,fun j hj=>(k.2 j hj).trans (h.2 j hj)⟩
theorem PreN.mono {n m:Nat} {a b:List Nd} (h:PreN n a b) (hm:m<=n):PreN m a b:=⟨h.1,fun j hj=>h.2 j (by omega)⟩
theorem aH0 (ns:List Nd) (i kid:Nat):(aBx ns i kid).length=ns.length:=by
 unfold aBx
 split
 ·rw[List.length_set]
 ·rfl
theorem aLk (ns:List Nd) (i kid:Nat):PreN i ns (aBx ns i kid):=by
 refine ⟨by rw[aH0];exact a7c _,fun j hj=> ?_⟩;unfold aBx
 split
 ·rw[List.getElem?_set_ne (by omega)]
 ·rfl
theorem aMr (ns r:List Nd):PreN ns.length ns (ns++r):=⟨by rw[a7e];omega,fun j hj=>List.getElem?_append_left hj⟩
def Keep (blk:Blk):Prop:=∀k ns key k2 ns2 i,blk k ns key= .ok (k2,ns2,i)->PreN ns.length ns ns2/\ns.length<ns2.length/\i=ns.length
theorem aH1 {ns:List Nd} {d:Nat} {kind:Int} {key:ByteArray} {t:Tok} {ns1:List Nd} (h:newP ns d kind key t= .ok ns1):ns1=ns++[⟨kind,key,⟨#[]⟩,false,t.line,[]⟩]/\0<d:=by
 unfold newP at h
 split at h
 ·cases h
 ·injection h with h
  exact ⟨h.symm,by omega⟩
theorem aG5 {blk:Blk} (hb:Keep blk) {ts:List Tok} {d:Nat} {is:Bool} {t:Tok} {k:Nat} {ns:List Nd} {key:ByteArray} {k2:Nat} {ns2:List Nd} {i:Nat} (h:valP blk ts d is t k ns key= .ok (k2,ns2,i)):PreN ns.length ns ns2/\ns.length<ns2.length/\i=ns.length:=by
 unfold valP at h
 split at h
 ·exact hb _ _ _ _ _ _ h
 ·split at h
  ·cases h
  ·rename_i ns3 hn
   injection h with h
   injection h with h1 h2
   injection h2 with h2 h3
   obtain ⟨e,_⟩:=aH1 hn;rw[<-h2,<-h3,e];exact ⟨aMr _ _,by rw[a7e];simp,rfl⟩
theorem aLl {blk:Blk} (hb:Keep blk) {ts:List Tok} {d:Nat} {col:Int} {i:Nat}:∀(f k:Nat) (ns:List Nd) (k2:Nat) (ns2:List Nd),listL blk ts d col i f k ns= .ok (k2,ns2)->i<ns.length->PreN i ns ns2
 |0,k,ns,k2,ns2,h,_=>by
  unfold listL at h;injection h with h
  injection h with h1 h2
  rw[h2];exact PreN.refl _ _
 |f+1,k,ns,k2,ns2,h,hi=>by
  unfold listL at h;simp only at h
  split at h
  ·split at h
   ·cases h
   ·rename_i k3 ns3 kid hv
    have h1:=aG5 hb hv;have h2:=aLl hb f _ _ _ _ h (by rw[aH0];omega);exact ((h1.1.mono (by omega)).trans (aLk ns3 i kid)).trans h2
  ·injection h with h
   injection h with h1 h2
   rw[h2];exact PreN.refl _ _
theorem aLm {blk:Blk} (hb:Keep blk) {ts:List Tok} {d:Nat} {col:Int} {i:Nat}:∀(f:Nat) (seen:List (List UInt8)) (k:Nat) (ns:List Nd) (k2:Nat) (ns2:List Nd),dictL blk ts d col i f seen k ns= .ok (k2,ns2)->i<ns.length->PreN i ns ns2
 |0,seen,k,ns,k2,ns2,h,_=>by
  unfold dictL at h;injection h with h
  injection h with h1 h2
  rw[h2];exact PreN.refl _ _
 |f+1,seen,k,ns,k2,ns2,h,hi=>by
  unfold dictL at h;simp only at h
  split at h
  ·split at h
   ·cases h
   ·split at h
    ·cases h
    ·rename_i k3 ns3 kid hv
     have h1:=aG5 hb hv;have h2:=aLm hb f _ _ _ _ _ h (by rw[aH0];omega);exact ((h1.1.mono (by omega)).trans (aLk ns3 i kid)).trans h2
  ·injection h with h
   injection h with h1 h2
   rw[h2];exact PreN.refl _ _
def finX (L:Except Flt (Nat×List Nd)) (i:Nat):Except Flt (Nat×List Nd×Nat):=match L with| .error e=> .error e| .ok (k2,ns2)=> .ok (k2,ns2,i)
def dictX (ts:List Tok) (D k:Nat) (ns:List Nd) (key:ByteArray) (t:Tok):Except Flt (Nat×List Nd×Nat):=
 match newP ns D 2 key t with
 | .error e=> .error e
 | .ok ns1=>finX (dictL (aA0 ts (D-1)) ts (D-1) t.col ns.length (ts.length-k) [] k ns1) ns.length
def listX (ts:List Tok) (D k:Nat) (ns:List Nd) (key:ByteArray) (t:Tok):Except Flt (Nat×List Nd×Nat):=
 match newP ns D 3 key t with
 | .error e=> .error e
 | .ok ns1=>finX (listL (aA0 ts (D-1)) ts (D-1) t.col ns.length (ts.length-k) k ns1) ns.length
def leafX (ts:List Tok) (D k:Nat) (ns:List Nd) (key:ByteArray) (t:Tok):Except Flt (Nat×List Nd×Nat):=
 match newP ns D 1 key t with
 | .error e=> .error e
 | .ok _=> .ok (k+1,ns++[⟨1,key,⟨t.text.toArray⟩,t.quoted,t.line,[]⟩],ns.length)
theorem aR2 (ts:List Tok) (D k:Nat) (ns:List Nd) (key:ByteArray):aA0 ts D k ns key=if (nextT ts k).kind=3 then dictX ts D k ns key (nextT ts k) else if (nextT ts k).kind=2 then listX ts D k ns key (nextT ts k) else leafX ts D k ns key (nextT ts k):=by
 cases D with
 |zero=>
  have h0:∀kind,newP ns 0 kind key (nextT ts k)= .error ((nextT ts k).line,92):=fun kind=>by unfold newP;rw[if_pos (Or.inl rfl)]
  unfold aA0 dictX listX leafX;rw[h0,h0,h0]
  split
  ·rfl
  ·split<;>rfl
 |succ d=>
  rw[aA0];unfold dictX listX leafX;rw[Nat.add_sub_cancel]
  split
  ·split
   ·rename_i e h;rw[h]
   ·rename_i n h;rw[h];unfold finX;rfl
  ·split
   ·split
    ·rename_i e h;rw[h]
    ·rename_i n h;rw[h];unfold finX;rfl
   ·split
    ·rename_i e h;rw[h]
    ·rename_i n h;rw[h]
theorem aGl (ts:List Tok):∀d,Keep (aA0 ts d)
 |0=>fun k ns key k2 ns2 i h=>by unfold aA0 at h;cases h
 |d+1=>fun k ns key k2 ns2 i h=>by
  have ih:=aGl ts d;rw[aR2]at h;unfold dictX listX leafX at h;rw[Nat.add_sub_cancel]at h
  split at h
  ·split at h
   ·cases h
   ·rename_i ns1 hn
    obtain ⟨e,_⟩:=aH1 hn;unfold finX at h
    split at h
    ·cases h
    ·rename_i k3 ns3 hd
     injection h with h
     injection h with h1 h2
     injection h2 with h2 h3
     subst h2 h3;have hk:=aLm ih _ _ _ _ _ _ hd (by rw[e,a7e];simp);rw[e]at hk;have h4:=(aMr ns _).trans hk;exact ⟨h4,by have:=hk.1;rw[a7e]at this;simp at this;omega,rfl⟩
  ·split at h
   ·split at h
    ·cases h
    ·rename_i ns1 hn
     obtain ⟨e,_⟩:=aH1 hn;unfold finX at h
     split at h
     ·cases h
     ·rename_i k3 ns3 hd
      injection h with h
      injection h with h1 h2
      injection h2 with h2 h3
      subst h2 h3;have hk:=aLl ih _ _ _ _ _ hd (by rw[e,a7e];simp);rw[e]at hk;have h4:=(aMr ns _).trans hk;exact ⟨h4,by have:=hk.1;rw[a7e]at this;simp at this;omega,rfl⟩
   ·split at h
    ·cases h
    ·injection h with h
     injection h with h1 h2
     injection h2 with h2 h3
     rw[<-h2,<-h3];exact ⟨aMr _ _,by rw[a7e];simp,rfl⟩
theorem aW1 {blk:Blk} {ts:List Tok} {d:Nat} {col:Int} {i k:Nat} {ns:List Nd} (f:Nat) (h:¬((nextT ts k).kind=2/\(nextT ts k).col=col)):listL blk ts d col i f k ns= .ok (k,ns):=by
 cases f with
 |zero=>rfl
 |succ f=>
  unfold listL;simp only;rw[if_neg h]
theorem aW2 {blk:Blk} {ts:List Tok} {d:Nat} {col:Int} {i k:Nat} {ns:List Nd} {e:Flt} (h:(nextT ts k).kind=2/\(nextT ts k).col=col) (hv:valP blk ts d (aFf (nextT ts (k+1)) (nextT ts k)) (nextT ts k) (k+1) ns ⟨#[]⟩= .error e):
 listL blk ts d col i (ts.length-k) k ns= .error e:=by
 have hk:=aDk (ts:=ts) (k:=k) (by rw[h.1];decide);rw[show ts.length-k=(ts.length-k-1)+1 by omega];unfold listL;simp only;rw[if_pos h,hv]
theorem aTw {blk:Blk} {ts:List Tok} (hb:Goes ts blk) {d:Nat} {col:Int} {i k k2 kid:Nat} {ns ns2:List Nd} (h:(nextT ts k).kind=2/\(nextT ts k).col=col) (hv:valP blk ts d (aFf (nextT ts (k+1)) (nextT ts k)) (nextT ts k) (k+1) ns ⟨#[]⟩= .ok (k2,ns2,kid)):
 listL blk ts d col i (ts.length-k) k ns=listL blk ts d col i (ts.length-k2) k2 (aBx ns2 i kid)/\k<k2/\k2<=ts.length:=by
 have hk:=aDk (ts:=ts) (k:=k) (by rw[h.1];decide);have hg:=aEm hb hv (by omega);refine ⟨?_,by omega,hg.2⟩;rw[show ts.length-k=(ts.length-k-1)+1 by omega]
 conv=>lhs;unfold listL
 simp only;rw[if_pos h,hv];exact aLh hb _ _ _ _ (by omega) (by omega) hg.2
theorem aW3 {blk:Blk} {ts:List Tok} {d:Nat} {col:Int} {i k:Nat} {seen:List (List UInt8)} {ns:List Nd} (f:Nat) (h:¬((nextT ts k).kind=3/\(nextT ts k).col=col)):dictL blk ts d col i f seen k ns= .ok (k,ns):=by
 cases f with
 |zero=>rfl
 |succ f=>
  unfold dictL;simp only;rw[if_neg h]
theorem aW4 {blk:Blk} {ts:List Tok} {d:Nat} {col:Int} {i k:Nat} {seen:List (List UInt8)} {ns:List Nd} (h:(nextT ts k).kind=3/\(nextT ts k).col=col) (hs:(nextT ts k).text∈seen):
 dictL blk ts d col i (ts.length-k) seen k ns= .error ((nextT ts k).line,91):=by
 have hk:=aDk (ts:=ts) (k:=k) (by rw[h.1];decide);rw[show ts.length-k=(ts.length-k-1)+1 by omega];unfold dictL;simp only;rw[if_pos h,if_pos hs]
theorem aW5 {blk:Blk} {ts:List Tok} {d:Nat} {col:Int} {i k:Nat} {seen:List (List UInt8)} {ns:List Nd} {e:Flt} (h:(nextT ts k).kind=3/\(nextT ts k).col=col) (hs:¬(nextT ts k).text∈seen) (hv:valP blk ts d (aB4 (nextT ts (k+1)) (nextT ts k)) (nextT ts k) (k+1) ns ⟨(nextT ts k).text.toArray⟩= .error e):
 dictL blk ts d col i (ts.length-k) seen k ns= .error e:=by
 have hk:=aDk (ts:=ts) (k:=k) (by rw[h.1];decide);rw[show ts.length-k=(ts.length-k-1)+1 by omega];unfold dictL;simp only;rw[if_pos h,if_neg hs,hv]
theorem aTx {blk:Blk} {ts:List Tok} (hb:Goes ts blk) {d:Nat} {col:Int} {i k k2 kid:Nat} {seen:List (List UInt8)} {ns ns2:List Nd} (h:(nextT ts k).kind=3/\(nextT ts k).col=col) (hs:¬(nextT ts k).text∈seen) (hv:valP blk ts d (aB4 (nextT ts (k+1)) (nextT ts k)) (nextT ts k) (k+1) ns ⟨(nextT ts k).text.toArray⟩= .ok (k2,ns2,kid)):
 dictL blk ts d col i (ts.length-k) seen k ns=dictL blk ts d col i (ts.length-k2) ((nextT ts k).text::seen) k2 (aBx ns2 i kid)/\k<k2/\k2<=ts.length:=by
 have hk:=aDk (ts:=ts) (k:=k) (by rw[h.1];decide);have hg:=aEm hb hv (by omega);refine ⟨?_,by omega,hg.2⟩;rw[show ts.length-k=(ts.length-k-1)+1 by omega]
 conv=>lhs;unfold dictL
 simp only;rw[if_pos h,if_neg hs,hv];exact aLg hb _ _ _ _ _ (by omega) (by omega) hg.2
