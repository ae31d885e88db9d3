/-
Parts of a proof.
-/
import Derived.Test.YtfenoaeoedobmaaGreatDoorOn25
set_option linter.unusedVariables false
set_option linter.unusedSimpArgs false
set_option maxHeartbeats 4000000
set_option maxRecDepth 20000
namespace Go.Proofs.YtfenoaeoedobmaaGreatDoor
open Go Go.RowKit
def cn (t:Tgt):List Value:=[.string t.service,.string t.split,.float .f64 t.weight]
theorem Mh:(Tryz.prog.info? 58).map (fun i=>(i.zero,i.size,i.bytes))=some (some (.agg #[.string ⟨#[]⟩,.string ⟨#[]⟩,.float .f64 0]),3,40):=by kernel_rfl
theorem RF.drewN {w wr:World} {rb T f:Nat} {pre:Value->Array Value} {e sz n:Nat} {v:Value} {xs:List Value} (h:RF w wr rb T f pre e sz v n xs) (k:Nat):RF w (wr.drewN k) rb T f pre e sz v n xs:=
 ⟨⟨h.mod.os,h.mod.tape,h.mod.output,h.mod.size,h.mod.block⟩,h.rlt,h.blk,h.row,h.new,h.set⟩
theorem jR {P:Program} {c:Code} {Q:Exit->Act->World->Prop} {a:Act} {w:World} (h:c.wp P (Exit.then (fun a' w'=>Q .normal a' w') fun _ _ _=>False) a w):c.wp P Q a w:=
 wp_mono h (by intro e a w h;cases e<;>first|exact h|exact h.elim)
def zS (ns:List Nd) (k:Nd):R Nat:=match bt ns k aR with| .error e=> .error e| .ok n=>bD n
section
variable {w0 w1 w2 w:World} {Q:Exit->Act->World->Prop} {a:Act} {ms:List NdM} {db rb lb lo q lc j kb tb b o cap:Nat} {y:NdM}
theorem sp_d (X:Code) {p1 p2:ByteArray} (hD:DocB w0 w db b o cap ms) (hy:y∈ms) (hf:SpT a db rb lb lo q lc j kb tb) (hr:RTg w1 w kb y tb (TgO p1 p2 0)) (KD:tb≠db) (AL:w0.heap.size<=tb)
 (bad:∀e a' w',zS (nds ms) y.nd= .error e->a'.defers=[]->Below w1.heap.size w1 w'->Q (.panic (jl e)) a' w')
 (ok:∀a' w' x,zS (nds ms) y.nd= .ok x->SpT a' db rb lb lo q lc j kb tb->RTg w1 w' kb y tb (TgO p1 p2 x)->DocB w0 w' db b o cap ms->X.wp Tryz.prog Q a' w'):(Code.seq Mo X).wp Tryz.prog Q a w:=by
 have hM:=hD.toM;have gn:=hM.ok hy;obtain ⟨ay,cy,cT,_,_⟩:=aL gn.kids;obtain ⟨qy,fM⟩:=ex (y.nd.kids.length);rw[<-fM]at cT;have hsf:∀(W:World) (a:Addr) (r:Nat),(store a (.float .f64 r)).run Tryz.prog W=stored Tryz.prog W a (.float .f64 r) .plain:=fun W a r=>run_store _ W a _ _ rfl;have Hn:=hid (kS w db b o cap ms hM y hy aR);rw[bA cT]at Hn;have iC:aR=⟨#[119,101,105,103,104,116]⟩:=rfl
 obtain ⟨k0,k1,k2,k3,k4,k5⟩:=bm hr.rm.kid cT;have HR:=hid hr;have HD:=hid hD;have aG:=hid bad;have bh:=hid ok;have eh:=fun k (hk:bH (nds ms) y.nd aR=some k)=>cC hM hy hk;obtain ⟨vv,rfl,eE⟩:=hf.shape;simp only[rW,eE];clear eE;clear hf bad ok hr hM gn cT fM hy hD;cases gj:bH (nds ms) y.nd aR with
 |none=>
  rw[gj]at Hn;simp only at Hn;rw[iC]at Hn;have HB:=hid (fun a' w'=>aG.o (y.nd.line,122) a' w' (by unfold zS;rw[eA gj]));clear aG bh gj eh iC;dsimp only[Mo,ncs,ncl,ncr,ncb,nco,nct,nce,ncx,Tryz.f48]
  go_wp2_with fail
  refine Hn.o.mono ?_;rintro r w3 ⟨rfl,aV⟩;exact HB.o _ _ rfl (HR.o.rm.below.trans (aV.mono HR.o.rm.below.size))
 |some k=>
  rw[gj]at Hn;simp only at Hn;rw[iC]at Hn;obtain ⟨mk,cN,ed,fh,rR,ak,ck,cI⟩:=eh k gj;have hw:zS (nds ms) y.nd=bD mk.nd:=by unfold zS;rw[ez gj,fh]
  have eQ:=hid (fun w3 (aV:Below w.heap.size w w3)=>LZ w3 mk (rR.later aV) (HD.o.g.later aV));have pZ:=hid cN;have qQ:=bA cI;have mJ:=hid qQ;rw[qQ]at eQ;clear eh iC gj cN ed fh rR cI qQ;cases fL:bD mk.nd with
  |error e=>
   rw[fL]at eQ;unfold XV at eQ;simp only at eQ;have HB:=hid (fun a' w'=>aG.o e a' w' (hw.trans fL));clear aG bh hw fL;dsimp only[Mo,ncs,ncl,ncr,ncb,nco,nct,nce,ncx,Tryz.f48]
   go_wp2_with fail
   refine Hn.o.mono ?_;rintro r w3 ⟨⟨BC,bT,rfl⟩,aV⟩;have e2:=pZ.o;rw[e2]at bT;obtain rfl:=aBm bT;rw[mJ.o];have iF:=hid aV;have rJ:=hid (eQ.o w3 aV);clear aV bT e2 Hn eQ
   go_wp2_with fail
   refine rJ.o.mono ?_;rintro r w4 ⟨rfl,bX⟩;have kf:=iF.o.trans (bX.mono iF.o.size);exact HB.o _ _ rfl (HR.o.rm.below.trans (kf.mono HR.o.rm.below.size))
  |ok x=>
   rw[fL]at eQ;unfold XV at eQ;simp only at eQ;have HO:=hid (fun a' w'=>bh.o a' w' x (hw.trans fL));clear aG bh hw fL;dsimp only[Mo,ncs,ncl,ncr,ncb,nco,nct,nce,ncx,Tryz.f48]
   go_wp2_with fail
   refine Hn.o.mono ?_;rintro r w3 ⟨⟨BC,bT,rfl⟩,aV⟩;have e2:=pZ.o;rw[e2]at bT;obtain rfl:=aBm bT;rw[mJ.o];have iF:=hid aV;have rJ:=hid (eQ.o w3 aV);clear aV bT e2 Hn eQ
   go_wp2_with fail
   refine rJ.o.mono ?_;rintro r w4 ⟨rfl,bX⟩;have kf:=iF.o.trans (bX.mono iF.o.size);have rO:=hid (HR.o.later kf);have Gt:=hid (HD.o.later kf);have t1:=aa rO.o.obj 2;have t2:=ah rO.o.obj 2;simp at t1;have HE:=hid (rO.o.set 2 (.float .f64 x));clear bX kf rJ;go_wp2;refine HO.o _ _ ⟨rfl,rfl,rfl,rfl,rfl,rfl,rfl,rfl,rfl⟩ HE.o ?_;exact Gt.o.step (F:=fun k=>k=tb) ((Mod.refl _ _).setCell _ _ (fun _=>rfl)) (fun e=>KD e.symm) (fun k e=>by rw[e];exact AL)
theorem sp_e {kd:Int} {nm ht rt:ByteArray} {ev rv:Value} {dl:Bool} {out:List Tgt} {v:Value} {t:Tgt} (hf:SpT a db rb lb lo q lc j kb tb) (hr:RTg w1 w kb y tb (TgO t.service t.split t.weight)) (nH:out.length<=1000)
 (vg:RF w2 w rb 49 3 (fun v=>#[.int .i64 kd,.string nm,ev,v,.string ht,rv,.string rt,.bool dl]) 58 3 v out.length (out.flatMap cn))
 (ok:∀a' w' v',SpO a' db rb lb lo q lc j->RF w2 w' rb 49 3 (fun v=>#[.int .i64 kd,.string nm,ev,v,.string ht,rv,.string rt,.bool dl]) 58 3 v' (out++[t]).length ((out++[t]).flatMap cn)->Q .normal a' w'):Vh.wp Tryz.prog Q a w:=by
 obtain ⟨vA,c4,Zo⟩:∃ao c,v= .slice ao out.length c:=by
  rcases vg.row.2 with ⟨hv,hn⟩|⟨g,cap,cur,hv,_⟩
  ·exact ⟨none,0,by rw[hv,hn]⟩
  ·exact ⟨_,_,hv⟩
 subst Zo;have xT:=(vg.cells 3).1;simp at xT;obtain ⟨t0,t1,t2⟩:=cB3 hr.obj;simp at t0 t1 t2;have Zx:∀ob,(w.alloc ob).cell? ⟨rb,3,none⟩=some (.slice vA out.length c4):=fun ob=>(World.cell?_of_block (ai ob (af vg.blk))).trans xT;have Ed:=hid vg;have b9:=hid (fun nd o=>(vg.drewN nd).row.alloc o);have Ec:=hid (show 0<3 by decide);have Lu:=hid (show 40<=1000 by decide);have nX:=hid (show ∀u∈cn t,u.oneCell'=true from fun u hu=>by
  unfold cn at hu;simp only[List.mem_cons,List.not_mem_nil,or_false]at hu;rcases hu with rfl|rfl|rfl<;>rfl)
 have Tp:=hid (show out.length<=1000000 by omega);have aX:=hid (fun nd o v' (w5:World) a1 a2 a3=>show RF w2 (w5.setCell ⟨rb,3,none⟩ v') rb 49 3 (fun v=>#[.int .i64 kd,.string nm,ev,v,.string ht,rv,.string rt,.bool dl]) 58 3 v' (out++[t]).length ((out++[t]).flatMap cn) from by
  have:=RF.put (w2:=w5) (v':=v') (m:=out.length+1) (ys:=out.flatMap cn++cn t) ((Ed.o.drewN nd).later ((aBi (w.drewN nd).heap.size (w.drewN nd)).alloc (aBh _) o)) a1 a2 a3;rw[aBj,List.flatMap_append,List.flatMap_singleton];exact this)
 have jF:=hid (fun nd o w5 (a2:((w.drewN nd).alloc o).grownBy w5 (Value.slice vA out.length c4).ownBlock)=>show w5.heap[rb]? =some (.cells #[.int .i64 kd,.string nm,ev,.slice vA out.length c4,.string ht,rv,.string rt,.bool dl] 49 (0,0)) from
  ((Mod.refl (fun k=>(Value.slice vA out.length c4).ownBlock=some k) ((w.drewN nd).alloc o)).grown a2 (fun k e _=>e)).heap ((ai o (af (Ed.o.drewN nd).blk)).trans (Ed.o.drewN nd).blk) (fun e=>by have:=Ed.o.new rb e;have:=Ed.o.rlt;omega))
 have bh:=hid ok;obtain ⟨vv,rfl,eE⟩:=hf.shape;simp only[rW,eE];clear eE;clear hf ok vg nH hr;refine jR ?_;dsimp only[Vh,ncs,ncl,ncr,ncb,nco,nct,nce,ncx,Tryz.f48];go_wp2
 go_region_law (refine zZ 58 46 (.agg #[.string ⟨#[]⟩,.string ⟨#[]⟩,.float .f64 0]) 3 40 Tryz.underlying46 Mh rfl Ec.o Lu.o rfl _ _ rfl (.slice vA out.length c4) out.length (out.flatMap cn) rfl (b9.o _ _) w.heap.size #[.string t.service,.string t.split,.float .f64 t.weight] (cn t) rfl (ag _) rfl rfl nX.o Tp.o (out.length+1) rfl ?_;intro gd c5 w5 aB bC aA;have HE:=hid (aX.o _ _ _ _ aB bC aA);have q1:=aa (jF.o _ _ w5 bC) 3;have q2:=ah (jF.o _ _ w5 bC) 3;simp at q1;clear aB bC aA)
 all_goals go_wp2
 all_goals exact bh.o _ _ _ ⟨rfl,rfl,rfl,rfl,rfl,rfl,rfl⟩ HE.o
theorem Mm {ns:List Nd} {k:Nd} {e:fx} (h:dg k= .error e\/(dg k= .ok ()/\bE ns [aT,aH,aR] k.kids= .error e)):cX ns k= .error e:=by
 rw[lZ];rcases h with h|⟨h,h2⟩
 ·rw[h]
 ·rw[h];simp only;rw[h2]
theorem Ml {ns:List Nd} {k:Nd} {e:fx} (h1:dg k= .ok ()) (h2:bE ns [aT,aH,aR] k.kids= .ok ()) (h3:gT ns k= .error e):cX ns k= .error e:=by
 rw[lZ,h1];simp only;rw[h2];simp only;rw[h3]
theorem Mk {ns:List Nd} {k:Nd} {e:fx} {p:ByteArray×ByteArray} (h1:dg k= .ok ()) (h2:bE ns [aT,aH,aR] k.kids= .ok ()) (h3:gT ns k= .ok p) (h4:zS ns k= .error e):cX ns k= .error e:=by
 obtain ⟨p1,p2⟩:=p;unfold zS at h4;rw[lZ,h1];simp only;rw[h2];simp only;rw[h3];simp only;cases hn:bt ns k aR with
 |error e2=>rw[hn]at h4;injection h4 with h4;rw[h4]
 |ok n=>rw[hn]at h4;simp only at h4 |-;rw[h4]
theorem Mj {ns:List Nd} {k:Nd} {x:Nat} {p:ByteArray×ByteArray} (h1:dg k= .ok ()) (h2:bE ns [aT,aH,aR] k.kids= .ok ()) (h3:gT ns k= .ok p) (h4:zS ns k= .ok x):cX ns k= .ok ⟨p.1,p.2,x⟩:=by
 obtain ⟨p1,p2⟩:=p;unfold zS at h4;rw[lZ,h1];simp only;rw[h2];simp only;rw[h3];simp only;cases hn:bt ns k aR with
 |error e2=>rw[hn]at h4;cases h4
 |ok n=>rw[hn]at h4;simp only at h4 |-;rw[h4]
theorem tC {ns:List Nd} {k:Nd} {r:List Nd} {out:List Tgt} {e:fx} (h:cX ns k= .error e):ba ns (k::r) out= .error e:=by rw[ba,h]
theorem vJ {ns:List Nd} {k:Nd} {r:List Nd} {out:List Tgt} {t:Tgt} (h:cX ns k= .ok t):ba ns (k::r) out=ba ns r (out++[t]):=by rw[ba,h]
theorem Rd {kd:Int} {nm ht rt:ByteArray} {ev rv:Value} {dl:Bool} {ks:List NdM} {L:List Nd} (hD:DocB w0 w2 db b o cap ms) (hne:rb≠db) (hrb:w0.heap.size<=rb) (hlr:lb≠rb) (hL:L=ks.map (·.nd)) (hkq:ks.length=q) (hq8:q<=1000) (hks:∀y∈ks,y∈ms)
 (hlc:∀i y,ks[i]? =some y->∀c u,(NdM.cells y)[c]? =some u->w2.cell? ⟨lb,lo+i*6+c,none⟩=some u)
 (hf:SpO a db rb lb lo q lc 0)
 (vg:RF w2 w2 rb 49 3 (fun v=>#[.int .i64 kd,.string nm,ev,v,.string ht,rv,.string rt,.bool dl]) 58 3 (.slice none 0 0) 0 [])
 (bad:∀e a' w' v3 n3 BI,ba (nds ms) L []= .error e->a'.defers=[]->RF w2 w' rb 49 3 (fun v=>#[.int .i64 kd,.string nm,ev,v,.string ht,rv,.string rt,.bool dl]) 58 3 v3 n3 BI->Q (.panic (jl e)) a' w')
 (ok:∀a' w' v' out,ba (nds ms) L []= .ok out->a'.defers=[]->RF w2 w' rb 49 3 (fun v=>#[.int .i64 kd,.string nm,ev,v,.string ht,rv,.string rt,.bool dl]) 58 3 v' out.length (out.flatMap cn)->Q (.exit 0) a' w'):(ncb Vg).wp Tryz.prog Q a w2:=by
 show (Code.loop (Code.seq Vf (Code.seq Ve (Code.seq (Code.block 1 GC) YO)))).wp Tryz.prog Q a w2
 refine wp_loop (fun a' w'=>∃(j:Nat) (v:Value) (out:List Tgt),j<=q/\out.length=j/\SpO a' db rb lb lo q lc j/\RF w2 w' rb 49 3 (fun v=>#[.int .i64 kd,.string nm,ev,v,.string ht,rv,.string rt,.bool dl]) 58 3 v out.length (out.flatMap cn)/\ba (nds ms) L []=ba (nds ms) (L.drop j) out) (fun a' _=>q-(intOf (a'.tmps.getD 21 undef)).toNat) ⟨0,_,[],Nat.zero_le _,rfl,hf,vg,rfl⟩ ?_
 clear hf vg;rintro a1 w1 ⟨j,v1,out,hj,Ij,gJ,KF,hs⟩;by_cases g7:j<q
 ·obtain ⟨y,hy⟩:∃y,ks[j]? =some y:=aF (by omega);have vd:=hks y (List.mem_of_getElem? hy);have Uf:L[j]? =some y.nd:=by rw[hL,List.getElem?_map,hy];rfl
  rw[iI Uf]at hs;have rP:=KF.mod;have Pc:DocB w0 w1 db b o cap ms:=hD.step rP (fun e=>hne e.symm) (fun k e=>by rw[e];exact hrb);have z:=fun c u (hu:(NdM.cells y)[c]? =some u)=>rP.cell (hlc j y hy c u hu) hlr;have HR:∀(Q':Exit->Act->World->Prop) (a':Act),SpO a' db rb lb lo q lc j->
   (∀e a2 w' v3 n3 BI,ba (nds ms) L []= .error e->a2.defers=[]->RF w2 w' rb 49 3 (fun v=>#[.int .i64 kd,.string nm,ev,v,.string ht,rv,.string rt,.bool dl]) 58 3 v3 n3 BI->Q' (.panic (jl e)) a2 w')->
   (∀a2 w' v2 t,SpO a2 db rb lb lo q lc j->RF w2 w' rb 49 3 (fun v=>#[.int .i64 kd,.string nm,ev,v,.string ht,rv,.string rt,.bool dl]) 58 3 v2 (out++[t]).length ((out++[t]).flatMap cn)->ba (nds ms) L []=ba (nds ms) (L.drop (j+1)) (out++[t])->Q' .normal a2 w')->
   GC.wp Tryz.prog Q' a' w1:=by
   intro Q' a' im Xe uZ
   show (Code.seq sp3 (Code.seq sp4 (Code.seq sp5 (Code.seq sp6 (Code.seq sp7 (Code.seq sp9 (Code.seq Mo Vh))))))).wp Tryz.prog Q' a' w1
   have fq:∀e a2 w',cX (nds ms) y.nd= .error e->a2.defers=[]->Below w1.heap.size w1 w'->Q' (.panic (jl e)) a2 w':=fun e a2 w' he hd hb=>Xe e a2 w' _ _ _ (hs.trans (tC he)) hd (KF.later hb);refine sp_a _ Pc vd im g7 (z 0 _ rfl) (z 1 _ rfl) (z 2 _ rfl) (z 3 _ rfl) (z 4 _ rfl) (z 5 _ rfl) (fun e a2 w' he hd hb=>fq e a2 w' (Mm he) hd hb) (fun a2 w3 m1 m2 f2 r2=> ?_);have hD2:=Pc.later r2.below
   refine sp_b _ hD2 vd f2 r2 (fun a3 w4 f3 r3 hD3=> ?_);refine sp_c _ hD3 vd f3 r3 (fun e a2 w' he hd hb=>fq e a2 w' (Ml m1 m2 he) hd hb) (fun a4 w5 p m3 f4 r4 hD4=> ?_);have hs4:=af hD3.doc;have hs5:=hD3.below.size;refine sp_d _ hD4 vd f4 r4 (by omega) (by omega) (fun e a2 w' he hd hb=>fq e a2 w' (Mk m1 m2 m3 he) hd hb) (fun a5 w6 x m4 f5 r5 hD5=> ?_);refine sp_e (t:=⟨p.1,p.2,x⟩) f5 r5 (by omega) (KF.later r5.rm.below) (fun a6 w7 v7 f6 r6=> ?_)
   exact uZ a6 w7 v7 _ f6 r6 (hs.trans (vJ (Mj m1 m2 m3 m4)))
  obtain ⟨cY,df⟩:=bL (k:=j) (n:=q) g7 (by omega);have mX:=hid HR;have aG:=hid bad;have Hj:=hid (And.intro g7 Ij);have tj:decide (j<q)=true:=dT g7;have wj:wrap64 ((j:Int)+1)=(j:Int)+1:=bK (by omega) (by omega);obtain ⟨vv,rfl,eE⟩:=gJ.shape;simp only[rW,eE];clear eE;clear gJ hs hy vd Uf rP Pc z hj g7 Ij KF bad ok hD hks hlc HR hL hkq;dsimp only[Vf,Ve,ncs,ncl,ncr,ncb,nco,nct,nce,ncx,Tryz.f48]
  go_wp2
  rename_i Q1 K1 AV
  have iV:∀(a2:Act) (w':World) (v2:Value) (t:Tgt),SpO a2 db rb lb lo q lc j->RF w2 w' rb 49 3 (fun v=>#[.int .i64 kd,.string nm,ev,v,.string ht,rv,.string rt,.bool dl]) 58 3 v2 (out++[t]).length ((out++[t]).flatMap cn)->ba (nds ms) L []=ba (nds ms) (L.drop (j+1)) (out++[t])->K1 a2 w':=by
   intro a2 w' v2 t f2 r2 e2;refine AV _ _ ?_;have HE:=hid (And.intro r2 e2);obtain ⟨Yt,rfl,eE⟩:=f2.shape;simp only[rW,eE];clear eE;clear f2 r2 e2 mX aG;dsimp only[YO,ncs,ncl,ncr,ncb,nco,nct,nce,ncx,Tryz.f48];go_wp2;obtain ⟨z1,z2⟩:=HE.o;exact ⟨⟨j+1,v2,out++[t],Hj.o.1,by rw[aBj,Hj.o.2];rfl,⟨rfl,rfl,rfl,rfl,rfl,rfl,congrArg some df.o⟩,z1,z2⟩,cY.o⟩
  exact mX.o _ _ ⟨rfl,rfl,rfl,rfl,rfl,rfl,rfl⟩ (fun e a2 w' v3 n3 BI he hd hm=>aG.o e a2 w' v3 n3 BI he hd hm) (fun a2 w' v2 t f2 r2 e2=>iV a2 w' v2 t f2 r2 e2)
 ·have jA:ba (nds ms) L []= .ok out:=by
   rw[hs,List.drop_eq_nil_of_le (by rw[hL,List.length_map];omega)];rfl
  have ej:j=q:=by omega
  subst ej;have HO:=hid (fun a' hd=>ok a' w1 v1 out jA hd KF);have ti:decide (j<j)=false:=dF (Nat.lt_irrefl j);obtain ⟨vv,rfl,eE⟩:=gJ.shape;simp only[rW,eE];clear eE;clear gJ hs hj g7 KF bad ok hD hks hlc hL hkq jA;dsimp only[Vf,Ve,ncs,ncl,ncr,ncb,nco,nct,nce,ncx,Tryz.f48];go_wp2;exact HO.o _ rfl
end
def jV (ns:List Nd) (m:Nd):R (List Tgt):=
 match bt ns m cD with
 | .error e=> .error e
 | .ok n=>
 match cp ns n 1 8 with
 | .error e=> .error e
 | .ok l=>ba ns l []
theorem Jm (ns:List Nd) (m:Nd) (r:Res):iu ns m r=match jV ns m with| .ok out=> .ok {r with targets:=out}| .error e=> .error e:=by
 unfold iu jV;cases bt ns m cD with
 |error e=>rfl
 |ok n=>
  simp only;cases cp ns n 1 8 with
  |error e=>rfl
  |ok l=>
   simp only;cases ba ns l []<;>rfl
theorem lE {ns:List Nd} {n:Nd} {least qC:Nat} {L:List Nd} (h:cp ns n least qC= .ok L):L=n.kids.map (fun k=>ns[k.toNat]!)/\least<=n.kids.length/\n.kids.length<=qC:=by
 unfold cp at h
 split at h
 ·cases h
 ·split at h
  ·cases h
  ·injection h with h
   exact ⟨h.symm,by omega,by omega⟩
theorem Rc (w0 w:World) (db b o cap:Nat) (ms:List NdM) (h:DocB w0 w db b o cap ms) (m:NdM) (hm:m∈ms) (rb:Nat) (hrb:w0.heap.size<=rb) (hne:rb≠db) (kd:Int) (nm ht rt:ByteArray) (ev rv:Value) (dl:Bool)
 (bg:w.heap[rb]? =some (.cells #[.int .i64 kd,.string nm,ev,.slice none 0 0,.string ht,rv,.string rt,.bool dl] 49 (0,0))):
 Calls Tryz.prog 48 #[.pointer (some ⟨db,0,none⟩),m.v,.pointer (some ⟨rb,0,none⟩)] w (cR w rb 3 (fun v=>#[.int .i64 kd,.string nm,ev,v,.string ht,rv,.string rt,.bool dl]) 58 3 cn (jV (nds ms) m.nd)):=by
 have hM:=h.toM;have hok:=hM.ok hm;obtain ⟨kp,c2,cI,_,_⟩:=aL hok.kids;obtain ⟨q,hq⟩:=ex (m.nd.kids.length);rw[<-hq]at cI;have Hf:=hid (fun w1 (bG:Below w.heap.size w w1)=>kS w1 db b o cap ms (hM.later bG) m hm cD);rw[bA cI]at Hf |-;have fD:=hid (fun o=>(aBi w.heap.size w).alloc (aBh _) o);have Pb:RF w w rb 49 3 (fun v=>#[.int .i64 kd,.string nm,ev,v,.string ht,rv,.string rt,.bool dl]) 58 3 (.slice none 0 0) 0 []:=RF.first bg (fun _ _=>rfl)
 have tu:=hid Pb;have HD:=hid h;have iC:cD=⟨#[116,97,114,103,101,116,115]⟩:=rfl;cases eh:bH (nds ms) m.nd cD with
 |none=>
  have hx:jV (nds ms) m.nd= .error (m.nd.line,122):=by unfold jV;rw[eA eh]
  rw[hx];rw[eh]at Hf;simp only at Hf;rw[iC]at Hf;clear hM hok hm cI hq bg Pb h eh hx iC;go_enter Tryz.func48,Tryz.ntmps48
  go_wp2_with fail
  refine (Hf.o _ (fD.o _)).mono ?_;rintro r w1 ⟨rfl,hb⟩;have cK:=fD.o (.cells #[.int .i64 m.nd.kind,.string m.nd.key,.string m.nd.text,.bool m.nd.quoted,.int .i64 m.nd.line,.slice kp q c2] 55);have HE:=hid (tu.o.later (cK.trans (hb.mono cK.size)));exact ⟨rfl,cR.err rfl HE.o⟩
 |some k=>
  obtain ⟨mk,cN,ed,fh,j7,IM,c3,gO⟩:=cC hM hm eh;have hx:jV (nds ms) m.nd=match cp (nds ms) mk.nd 1 8 with| .error e=> .error e| .ok l=>ba (nds ms) l []:=by
   unfold jV;rw[ez eh,fh]
  rw[hx];rw[eh]at Hf;simp only at Hf;rw[iC]at Hf;have pZ:=hid cN;have mJ:=hid (bA gO);have Hl:=hid (fun w1 (bG:Below w.heap.size w w1)=>show Calls Tryz.prog 80 #[.pointer (some ⟨db,0,none⟩),mk.v,.int .i64 1,.int .i64 8] w1 fun r w'=>
   (match cp (nds ms) mk.nd 1 8 with| .ok _=>∃v,r= .returned v/\SlR w' v 6 (fg ms mk) NdM.cells/\(∀g,v.ownBlock=some g->w1.heap.size<=g)| .error e=>r=Pan e)/\Below w1.heap.size w1 w' from
   Fm w1 db b o cap ms (hM.later bG) mk ed 1 8 (by decide) (by decide))
  rw[bA gO]at Hl;have zL:=hid (wY hM ed);have Hkm:=hid (fun y (hy:y∈fg ms mk)=>sD hM ed hy);clear eh hx j7 gO cN hok cI hq bg Pb hM h hm fh iC;cases qR:cp (nds ms) mk.nd 1 8 with
  |error e=>
   rw[qR]at Hl;simp only at Hl |-;clear qR;go_enter Tryz.func48,Tryz.ntmps48
   go_wp2_with fail
   refine (Hf.o _ (fD.o _)).mono ?_;rintro r w1 ⟨⟨BC,bT,rfl⟩,hb⟩;have e2:=pZ.o;rw[e2]at bT;obtain rfl:=aBm bT;rw[mJ.o];have cK:=fD.o (.cells #[.int .i64 m.nd.kind,.string m.nd.key,.string m.nd.text,.bool m.nd.quoted,.int .i64 m.nd.line,.slice kp q c2] 55);have bG:=cK.trans (hb.mono cK.size);have HB:=hid bG;have IV:=hid (Hl.o w1 bG);clear hb Hf cK bG Hl bT e2
   go_wp2_with fail
   refine IV.o.mono ?_;rintro r w2 ⟨rfl,bI⟩;have HE:=hid (tu.o.later (HB.o.trans (bI.mono HB.o.size)));exact ⟨rfl,cR.err rfl HE.o⟩
  |ok L=>
   rw[qR]at Hl;simp only at Hl |-;obtain ⟨hL,vj,Wp⟩:=lE qR;rw[<-zL.o]at hL;rw[<-lF (ms:=ms)]at vj Wp;have HL:=hid (And.intro hL (And.intro vj Wp));clear qR hL vj Wp;go_enter Tryz.func48,Tryz.ntmps48
   go_wp2_with fail
   refine (Hf.o _ (fD.o _)).mono ?_;rintro r w1 ⟨⟨BC,bT,rfl⟩,hb⟩;have e2:=pZ.o;rw[e2]at bT;obtain rfl:=aBm bT;rw[mJ.o];have cK:=fD.o (.cells #[.int .i64 m.nd.kind,.string m.nd.key,.string m.nd.text,.bool m.nd.quoted,.int .i64 m.nd.line,.slice kp q c2] 55);have bG:=cK.trans (hb.mono cK.size);have HB:=hid bG;have IV:=hid (Hl.o w1 bG);clear hb Hf cK bG Hl bT e2
   go_wp2_with fail
   refine IV.o.mono ?_;rintro r w2 ⟨⟨lv,rfl,jg,ud⟩,bI⟩;have jL:Below w.heap.size w w2:=HB.o.trans (bI.mono HB.o.size);obtain ⟨la,lc,OH,ZL,AR⟩:=jg;obtain ⟨lb,lo,rfl,KJ,hlc⟩:=AR (by have:=HL.o.2.1;omega);have hlr:lb≠rb:=fun e=>by have h1:=ud lb (by rw[OH];rfl);have:=tu.o.rlt;have:=HB.o.size;omega
   obtain ⟨nL,Ik⟩:=ex ((fg ms mk).length);rw[<-Ik]at OH;have hF2:=RF.first (w:=w2) (rb:=rb) (T:= 49) (f:=3) (pre:=fun v=>#[.int .i64 kd,.string nm,ev,v,.string ht,rv,.string rt,.bool dl]) (e:= 58) (sz:=3) ((jL.block _ tu.o.rlt).trans tu.o.blk) (fun _ _=>rfl);have HE:=hid (fun (w':World) (v':Value) (out:List Tgt) (hr:RF w2 w' rb 49 3 (fun v=>#[.int .i64 kd,.string nm,ev,v,.string ht,rv,.string rt,.bool dl]) 58 3 v' out.length (out.flatMap cn))=>hr.base jL tu.o.rlt)
   have HM:=hid (fun (w':World) (v3:Value) (n3:Nat) (BI:List Value) (hm:RF w2 w' rb 49 3 (fun v=>#[.int .i64 kd,.string nm,ev,v,.string ht,rv,.string rt,.bool dl]) 58 3 v3 n3 BI)=>hm.base jL tu.o.rlt);have HK:=hid (fun (Q:Exit->Act->World->Prop) (a:Act) (hf:SpO a db rb lb lo nL lc 0)=>Rd (Q:=Q) (hD:=HD.o.later jL) (hne:=hne) (hrb:=hrb) (hlr:=hlr) (hL:=HL.o.1) (hkq:=Ik.symm) (hq8:=by have:=HL.o.2.2;omega) (hks:=Hkm.o) (hlc:=fun i y hi c u hu=>hlc i y hi c u hu) hf hF2)
   subst OH;clear IV bI HB ud Ik AR ZL jL hlc hF2 tu;go_wp2;refine HK.o _ _ ⟨rfl,rfl,rfl,rfl,rfl,rfl,rfl⟩ (fun e a2 w' v3 n3 BI he hd hm=> ?_) (fun a2 w' v2 out he hd hr=> ?_)
   ·exact ⟨hd,cR.err he (HM.o _ _ _ _ hm)⟩
   ·exact ⟨hd,.tuple #[],results_none rfl _ _ _,cR.ok he (HE.o _ _ _ hr)⟩
noncomputable def Vx:Code:=(ncr (ncr (ncx Tryz.f84.body)))
noncomputable def Vw:Code:=(ncl (nco (ncb (ncr (ncr (ncx Tryz.f84.body))))))
noncomputable def Vv:Code:=(ncl (ncr (nco (ncb (ncr (ncr (ncx Tryz.f84.body)))))))
noncomputable def YP:Code:=(ncr (ncr (ncr (nco (ncb (ncr (ncr (ncx Tryz.f84.body))))))))
noncomputable def GM:Code:=(ncb (ncl (ncr (ncr (nco (ncb (ncr (ncr (ncx Tryz.f84.body)))))))))
noncomputable def ru3:Code:=(ncl (ncb (ncl (ncr (ncr (nco (ncb (ncr (ncr (ncx Tryz.f84.body))))))))))
noncomputable def ru4:Code:=(ncl (ncr (ncb (ncl (ncr (ncr (nco (ncb (ncr (ncr (ncx Tryz.f84.body)))))))))))
noncomputable def ru5:Code:=(ncl (ncr (ncr (ncb (ncl (ncr (ncr (nco (ncb (ncr (ncr (ncx Tryz.f84.body))))))))))))
noncomputable def ru6:Code:=(ncl (ncr (ncr (ncr (ncb (ncl (ncr (ncr (nco (ncb (ncr (ncr (ncx Tryz.f84.body)))))))))))))
noncomputable def ru7:Code:=(ncl (ncr (ncr (ncr (ncr (ncb (ncl (ncr (ncr (nco (ncb (ncr (ncr (ncx Tryz.f84.body))))))))))))))
noncomputable def MJ:Code:=(ncl (ncr (ncr (ncr (ncr (ncr (ncb (ncl (ncr (ncr (nco (ncb (ncr (ncr (ncx Tryz.f84.body)))))))))))))))
noncomputable def MI:Code:=(ncl (ncr (ncr (ncr (ncr (ncr (ncr (ncb (ncl (ncr (ncr (nco (ncb (ncr (ncr (ncx Tryz.f84.body))))))))))))))))
noncomputable def Jv:Code:=(ncl (ncr (ncr (ncr (ncr (ncr (ncr (ncr (ncb (ncl (ncr (ncr (nco (ncb (ncr (ncr (ncx Tryz.f84.body)))))))))))))))))
noncomputable def Vy:Code:=(ncr (ncr (ncr (ncr (ncr (ncr (ncr (ncr (ncb (ncl (ncr (ncr (nco (ncb (ncr (ncr (ncx Tryz.f84.body)))))))))))))))))
def oK (v:Nat->Value):Act:=⟨#[v 0,v 1,v 2,v 3,v 4,v 5,v 6,v 7,v 8,v 9,v 10,v 11,v 12,v 13,v 14,v 15,v 16,v 17,v 18,v 19,v 20,v 21,v 22,v 23,v 24,v 25,v 26,v 27,v 28,v 29,v 30,v 31,v 32,v 33,v 34,v 35,v 36,v 37,v 38,v 39,v 40,v 41,v 42,v 43,v 44,v 45,v 46,v 47,v 48,v 49,v 50,v 51,v 52,v 53,v 54,v 55,v 56,v 57,v 58,v 59,v 60,v 61,v 62,v 63,v 64,v 65,v 66,v 67,v 68,v 69,v 70,v 71,v 72,v 73,v 74],[]⟩
theorem EB (a:Act) (hs:a.tmps.size=75) (hd:a.defers=[]):∃v:Nat->Value,(∀(i:Nat) (x:Value),a.tmps[i]? =some x->v i=x)/\a=oK v:=by
 obtain ⟨t,d⟩:=a;obtain ⟨l⟩:=t;obtain rfl:d=[]:=hd;have hl:l.length=75:=hs;refine ⟨fun i=>l.getD i undef,fun i x hx=> ?_,?_⟩
 ·have KA:l[i]? =some x:=by simpa using hx
  simp[List.getD,KA]
 ·have e:l=(List.range 75).map (fun i=>l.getD i undef):=by
   apply List.ext_getElem
   ·simp[hl]
   ·intro i h1 h2;simp[List.getD,h1]
  generalize (fun i=>l.getD i undef)=v at e |-;subst e;rfl
structure RuO (a:Act) (db:Nat) (rb:Nat) (la:ByteArray) (lb:Nat) (lo:Nat) (q:Nat) (lc:Nat) (j:Nat):Prop where
 size:a.tmps.size=75
 dfr:a.defers=[]
 s0:a.tmps[0]? =some (.pointer (some ⟨db,0,none⟩))
 s2:a.tmps[2]? =some (.pointer (some ⟨rb,0,none⟩))
 s3:a.tmps[3]? =some (.string la)
 s17:a.tmps[17]? =some (.slice (some ⟨lb,lo,none⟩) q lc)
 s18:a.tmps[18]? =some (.int .i64 (q:Int))
 s19:a.tmps[19]? =some (.int .i64 (j:Int))
theorem RuO.shape {a:Act} {db:Nat} {rb:Nat} {la:ByteArray} {lb:Nat} {lo:Nat} {q:Nat} {lc:Nat} {j:Nat} (h:RuO a db rb la lb lo q lc j):∃v:Nat->Value,a=oK v/\v 0= .pointer (some ⟨db,0,none⟩)/\v 2= .pointer (some ⟨rb,0,none⟩)/\v 3= .string la/\v 17= .slice (some ⟨lb,lo,none⟩) q lc/\v 18= .int .i64 (q:Int)/\v 19= .int .i64 (j:Int):=by
 obtain ⟨v,hv,hd⟩:=EB a h.size h.dfr;exact ⟨v,hd,hv 0 _ h.s0,hv 2 _ h.s2,hv 3 _ h.s3,hv 17 _ h.s17,hv 18 _ h.s18,hv 19 _ h.s19⟩
structure RuK (a:Act) (db:Nat) (rb:Nat) (la:ByteArray) (lb:Nat) (lo:Nat) (q:Nat) (lc:Nat) (j:Nat) (kb:Nat):Prop where
 size:a.tmps.size=75
 dfr:a.defers=[]
 s0:a.tmps[0]? =some (.pointer (some ⟨db,0,none⟩))
 s2:a.tmps[2]? =some (.pointer (some ⟨rb,0,none⟩))
 s3:a.tmps[3]? =some (.string la)
 s9:a.tmps[9]? =some (.pointer (some ⟨kb,0,none⟩))
 s17:a.tmps[17]? =some (.slice (some ⟨lb,lo,none⟩) q lc)
 s18:a.tmps[18]? =some (.int .i64 (q:Int))
 s19:a.tmps[19]? =some (.int .i64 (j:Int))
theorem RuK.shape {a:Act} {db:Nat} {rb:Nat} {la:ByteArray} {lb:Nat} {lo:Nat} {q:Nat} {lc:Nat} {j:Nat} {kb:Nat} (h:RuK a db rb la lb lo q lc j kb):∃v:Nat->Value,a=oK v/\v 0= .pointer (some ⟨db,0,none⟩)/\v 2= .pointer (some ⟨rb,0,none⟩)/\v 3= .string la/\v 9= .pointer (some ⟨kb,0,none⟩)/\v 17= .slice (some ⟨lb,lo,none⟩) q lc/\v 18= .int .i64 (q:Int)/\v 19= .int .i64 (j:Int):=by
 obtain ⟨v,hv,hd⟩:=EB a h.size h.dfr;exact ⟨v,hd,hv 0 _ h.s0,hv 2 _ h.s2,hv 3 _ h.s3,hv 9 _ h.s9,hv 17 _ h.s17,hv 18 _ h.s18,hv 19 _ h.s19⟩
structure RuT (a:Act) (db:Nat) (rb:Nat) (la:ByteArray) (lb:Nat) (lo:Nat) (q:Nat) (lc:Nat) (j:Nat) (kb:Nat) (tb:Nat):Prop where
 size:a.tmps.size=75
 dfr:a.defers=[]
 s0:a.tmps[0]? =some (.pointer (some ⟨db,0,none⟩))
 s2:a.tmps[2]? =some (.pointer (some ⟨rb,0,none⟩))
 s3:a.tmps[3]? =some (.string la)
 s9:a.tmps[9]? =some (.pointer (some ⟨kb,0,none⟩))
 s10:a.tmps[10]? =some (.pointer (some ⟨tb,0,none⟩))
 s17:a.tmps[17]? =some (.slice (some ⟨lb,lo,none⟩) q lc)
 s18:a.tmps[18]? =some (.int .i64 (q:Int))
 s19:a.tmps[19]? =some (.int .i64 (j:Int))
theorem RuT.shape {a:Act} {db:Nat} {rb:Nat} {la:ByteArray} {lb:Nat} {lo:Nat} {q:Nat} {lc:Nat} {j:Nat} {kb:Nat} {tb:Nat} (h:RuT a db rb la lb lo q lc j kb tb):∃v:Nat->Value,a=oK v/\v 0= .pointer (some ⟨db,0,none⟩)/\v 2= .pointer (some ⟨rb,0,none⟩)/\v 3= .string la/\v 9= .pointer (some ⟨kb,0,none⟩)/\v 10= .pointer (some ⟨tb,0,none⟩)/\v 17= .slice (some ⟨lb,lo,none⟩) q lc/\v 18= .int .i64 (q:Int)/\v 19= .int .i64 (j:Int):=by
 obtain ⟨v,hv,hd⟩:=EB a h.size h.dfr;exact ⟨v,hd,hv 0 _ h.s0,hv 2 _ h.s2,hv 3 _ h.s3,hv 9 _ h.s9,hv 10 _ h.s10,hv 17 _ h.s17,hv 18 _ h.s18,hv 19 _ h.s19⟩
theorem RuT.toO {a:Act} {db rb:Nat} {la:ByteArray} {lb lo q lc j kb tb:Nat} (h:RuT a db rb la lb lo q lc j kb tb):RuO a db rb la lb lo q lc j:=⟨h.size,h.dfr,h.s0,h.s2,h.s3,h.s17,h.s18,h.s19⟩
theorem patE:pX 121 :=jO Tryz.func121 (by kernel_rfl) (by kernel_rfl)
theorem Zb:pX 122 :=jO Tryz.func122 (by kernel_rfl) (by kernel_rfl)
theorem ZD:pX 83 :=jO Tryz.func83 (by kernel_rfl) (by kernel_rfl)
theorem actE:pX 120 :=jO Tryz.func120 (by kernel_rfl) (by kernel_rfl)
theorem act_c (w:World) (s:ByteArray):Calls Tryz.prog 120 #[.string s] w fun r w'=>r= .returned (.bool (il s))/\Below w.heap.size w w':=by
 by_cases e1:s=kAllow
 ·have u1:=kG e1;have hv:il s=true:=by unfold il;exact dT (.inl e1)
  rw[hv];clear e1 hv;go_enter Tryz.func120,Tryz.ntmps120;go_wp2;go_ret;exact ⟨rfl,aBi _ _⟩
 ·have u1:=kX e1;by_cases e2:s=kDeny
  ·have u2:=kG e2;have hv:il s=true:=by unfold il;exact dT (.inr e2)
   rw[hv];clear e1 e2 hv;go_enter Tryz.func120,Tryz.ntmps120;go_wp2;go_ret;exact ⟨rfl,aBi _ _⟩
  ·have u2:=kX e2;have hv:il s=false:=by unfold il;exact dF (by rintro (q|q);exact e1 q;exact e2 q)
   rw[hv];clear e1 e2 hv;go_enter Tryz.func120,Tryz.ntmps120;go_wp2;go_ret;exact ⟨rfl,aBi _ _⟩
theorem LY (w:World) (m:NdM) (hm:m.Ok w):
 Calls Tryz.prog 41 #[m.v,.func (.func 120) #[] #[]] w fun r w'=>(match aO m.nd il with| .ok s=>r= .returned (.string s)| .error e=>r=Pan e)/\Below w.heap.size w w':=
 vD w m hm _ actE il fun w1 _=>act_c w1 m.nd.text
theorem I1 (w:World) (m:NdM) (hm:m.Ok w):
 Calls Tryz.prog 41 #[m.v,.func (.func 83) #[] #[]] w fun r w'=>(match aO m.nd kJ with| .ok s=>r= .returned (.string s)| .error e=>r=Pan e)/\Below w.heap.size w w':=
 vD w m hm _ ZD kJ fun w1 _=>RE w1 m.nd.text
theorem LX (w:World) (m:NdM) (hm:m.Ok w):
 Calls Tryz.prog 41 #[m.v,.func (.func 121) #[] #[]] w fun r w'=>(match aO m.nd ja with| .ok s=>r= .returned (.string s)| .error e=>r=Pan e)/\Below w.heap.size w w':=
 vD w m hm _ patE ja fun w1 _=>(JP w1 m.nd.text (by have:=hm.text;omega)).mono (by rintro r w2 ⟨hr,rfl⟩;exact ⟨hr,aBi _ _⟩)
theorem I0 (w:World) (m:NdM) (hm:m.Ok w):
 Calls Tryz.prog 41 #[m.v,.func (.func 122) #[] #[]] w fun r w'=>(match aO m.nd gK with| .ok s=>r= .returned (.string s)| .error e=>r=Pan e)/\Below w.heap.size w w':=
 vD w m hm _ Zb gK fun w1 _=>(JN w1 m.nd.text hm.text).mono (by rintro r w2 ⟨hr,rfl⟩;exact ⟨hr,aBi _ _⟩)
def nwP (ns:List Nd) (k:Nd) (key:ByteArray) (so:ByteArray->Bool):R ByteArray:=match bt ns k key with| .error e=> .error e| .ok n=>aO n so
def jr (act:Bool):ByteArray:=if act=true then ca else aH
def Bs (ns:List Nd) (act:Bool) (k:Nd):R ByteArray:=if act=true then nwP ns k ca il else .ok ⟨#[]⟩
def yb (ns:List Nd) (k:Nd):R ByteArray:=match aY ns k a9 with|some n=>aO n gK|none=> .ok oW
def Jo (ns:List Nd) (act:Bool) (k:Nd):R ByteArray:=if act=true then .ok ⟨#[]⟩ else nwP ns k aH aD
theorem lz (ns:List Nd) (act:Bool) (k:Nd):fy ns act k=(match dg k with
 | .error e=> .error e
 | .ok ()=>
 match bE ns [bS,a9,jr act] k.kids with
 | .error e=> .error e
 | .ok ()=>
 match Bs ns act k with
 | .error e=> .error e
 | .ok a=>
 match nwP ns k bS ja with
 | .error e=> .error e
 | .ok p=>
 match yb ns k with
 | .error e=> .error e
 | .ok m=>
 match Jo ns act k with
 | .error e=> .error e
 | .ok s=> .ok ⟨p,m,s,decide (a=kAllow)⟩):=by
 unfold fy nwP;cases bt ns k bS with
 |error e=>rfl
 |ok n=>rfl
