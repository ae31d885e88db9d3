/-
Parts of a proof.
-/
import Derived.Test.YtfenoaeoedobmaaGreatDoorOw20
set_option linter.unusedVariables false
set_option linter.unusedSimpArgs false
set_option maxHeartbeats 4000000
set_option maxRecDepth 20000
namespace Go.Proofs.YtfenoaeoedobmaaGreatDoor
open Go Go.RowKit
def bN (t:Tgt):List Value:=[.string t.service,.string t.split,.float .f64 t.weight]
theorem sR:(Tryz.prog.info? 58).map (fun i=>(i.zero,i.size,i.bytes))=some (some (.agg #[.string ⟨#[]⟩,.string ⟨#[]⟩,.float .f64 0]),3,40):=by kernel_rfl
theorem RF.drewN {w wr:World} {rb T f:Nat} {pre:Value->Array Value} {e sz n:Nat} {v:Value} {xs:List Value} (h:RF w wr rb T f pre e sz v n xs) (k:Nat):RF w (wr.drewN k) rb T f pre e sz v n xs:=
 ⟨⟨h.mod.os,h.mod.tape,h.mod.output,h.mod.size,h.mod.block⟩,h.rlt,h.blk,h.row,h.new,h.set⟩
theorem gE {P:Program} {c:Code} {Q:Exit->Act->World->Prop} {a:Act} {w:World} (h:c.wp P (Exit.then (fun a' w'=>Q .normal a' w') fun _ _ _=>False) a w):c.wp P Q a w:=
 wp_mono h (by intro e a w h;cases e<;>first|exact h|exact h.elim)
def rf (ns:List Nd) (k:Nd):R Nat:=match bH ns k bD with| .error e=> .error e| .ok n=>cw n
section
variable {w0 w1 w2 w:World} {Q:Exit->Act->World->Prop} {a:Act} {ms:List NdM} {db rb lb lo q lc j kb tb b o cap:Nat} {y:NdM}
theorem sp_d (X:Code) {p1 p2:ByteArray} (hD:DocB w0 w db b o cap ms) (hy:y∈ms) (hf:SpT a db rb lb lo q lc j kb tb) (hr:RTg w1 w kb y tb (TgO p1 p2 0)) (htb:tb≠db) (htb0:w0.heap.size<=tb)
 (bad:∀e a' w',rf (nds ms) y.nd= .error e->a'.defers=[]->Below w1.heap.size w1 w'->Q (.panic (gh e)) a' w')
 (ok:∀a' w' x,rf (nds ms) y.nd= .ok x->SpT a' db rb lb lo q lc j kb tb->RTg w1 w' kb y tb (TgO p1 p2 x)->DocB w0 w' db b o cap ms->X.wp Tryz.prog Q a' w'):(Code.seq Be X).wp Tryz.prog Q a w:=by
 have hM:=hD.toM;have hyo:=hM.ok hy;obtain ⟨ay,cy,hyv,_,_⟩:=aF hyo.kids;obtain ⟨qy,hqy⟩:=ex (y.nd.kids.length);rw[<-hqy]at hyv;have hsf:∀(W:World) (a:Addr) (r:Nat),(store a (.float .f64 r)).run Tryz.prog W=stored Tryz.prog W a (.float .f64 r) .plain:=fun W a r=>run_store _ W a _ _ rfl;have Hn:=hid (il w db b o cap ms hM y hy bD);rw[aZ hyv]at Hn;have hkx:bD=⟨#[119,101,105,103,104,116]⟩:=rfl
 obtain ⟨k0,k1,k2,k3,k4,k5⟩:=aV hr.rm.kid hyv;have HR:=hid hr;have HD:=hid hD;have Hbad:=hid bad;have Hok:=hid ok;have hfn:=fun k (hk:bz (nds ms) y.nd bD=some k)=>bS hM hy hk;obtain ⟨vv,rfl,eE⟩:=hf.shape;simp only[lU,eE];clear eE;clear hf bad ok hr hM hyo hyv hqy hy hD;cases hxa:bz (nds ms) y.nd bD with
 |none=>
  rw[hxa]at Hn;simp only at Hn;rw[hkx]at Hn;have HB:=hid (fun a' w'=>Hbad.o (y.nd.line,122) a' w' (by unfold rf;rw[cY hxa]));clear Hbad Hok hxa hfn hkx;dsimp only[Be,ncs,ncl,ncr,ncb,nco,nct,nce,ncx,Tryz.f48]
  go_wp2_with fail
  refine Hn.o.mono ?_;rintro r w3 ⟨rfl,hb3⟩;exact HB.o _ _ rfl (HR.o.rm.below.trans (hb3.mono HR.o.rm.below.size))
 |some k=>
  rw[hxa]at Hn;simp only at Hn;rw[hkx]at Hn;obtain ⟨mk,hmk,hmem,hnd,hko,ak,ck,hkv⟩:=hfn k hxa;have hw:rf (nds ms) y.nd=cw mk.nd:=by unfold rf;rw[cX hxa,hnd]
  have Hwt:=hid (fun w3 (hb3:Below w.heap.size w w3)=>AU w3 mk (hko.later hb3) (HD.o.g.later hb3));have Hmk:=hid hmk;have hmv:=aZ hkv;have Hmv:=hid hmv;rw[hmv]at Hwt;clear hfn hkx hxa hmk hmem hnd hko hkv hmv;cases hwp:cw mk.nd with
  |error e=>
   rw[hwp]at Hwt;unfold JP at Hwt;simp only at Hwt;have HB:=hid (fun a' w'=>Hbad.o e a' w' (hw.trans hwp));clear Hbad Hok hw hwp;dsimp only[Be,ncs,ncl,ncr,ncb,nco,nct,nce,ncx,Tryz.f48]
   go_wp2_with fail
   refine Hn.o.mono ?_;rintro r w3 ⟨⟨mk2,hmk2,rfl⟩,hb3⟩;have e2:=Hmk.o;rw[e2]at hmk2;obtain rfl:=aAf hmk2;rw[Hmv.o];have Hb3:=hid hb3;have Hw3:=hid (Hwt.o w3 hb3);clear hb3 hmk2 e2 Hn Hwt
   go_wp2_with fail
   refine Hw3.o.mono ?_;rintro r w4 ⟨rfl,hb4⟩;have hbb:=Hb3.o.trans (hb4.mono Hb3.o.size);exact HB.o _ _ rfl (HR.o.rm.below.trans (hbb.mono HR.o.rm.below.size))
  |ok x=>
   rw[hwp]at Hwt;unfold JP at Hwt;simp only at Hwt;have HO:=hid (fun a' w'=>Hok.o a' w' x (hw.trans hwp));clear Hbad Hok hw hwp;dsimp only[Be,ncs,ncl,ncr,ncb,nco,nct,nce,ncx,Tryz.f48]
   go_wp2_with fail
   refine Hn.o.mono ?_;rintro r w3 ⟨⟨mk2,hmk2,rfl⟩,hb3⟩;have e2:=Hmk.o;rw[e2]at hmk2;obtain rfl:=aAf hmk2;rw[Hmv.o];have Hb3:=hid hb3;have Hw3:=hid (Hwt.o w3 hb3);clear hb3 hmk2 e2 Hn Hwt
   go_wp2_with fail
   refine Hw3.o.mono ?_;rintro r w4 ⟨rfl,hb4⟩;have hbb:=Hb3.o.trans (hb4.mono Hb3.o.size);have HT1:=hid (HR.o.later hbb);have HD1:=hid (HD.o.later hbb);have t1:=af HT1.o.obj 2;have t2:=ai HT1.o.obj 2;simp at t1;have HE:=hid (HT1.o.set 2 (.float .f64 x));clear hb4 hbb Hw3;go_wp2;refine HO.o _ _ ⟨rfl,rfl,rfl,rfl,rfl,rfl,rfl,rfl,rfl⟩ HE.o ?_;exact HD1.o.step (F:=fun k=>k=tb) ((Mod.refl _ _).setCell _ _ (fun _=>rfl)) (fun e=>htb e.symm) (fun k e=>by rw[e];exact htb0)
theorem sp_e {kd:Int} {nm ht rt:ByteArray} {ev rv:Value} {dl:Bool} {out:List Tgt} {v:Value} {t:Tgt} (hf:SpT a db rb lb lo q lc j kb tb) (hr:RTg w1 w kb y tb (TgO t.service t.split t.weight)) (hout:out.length<=1000)
 (hrf:RF w2 w rb 49 3 (fun v=>#[.int .i64 kd,.string nm,ev,v,.string ht,rv,.string rt,.bool dl]) 58 3 v out.length (out.flatMap bN))
 (ok:∀a' w' v',SpO a' db rb lb lo q lc j->RF w2 w' rb 49 3 (fun v=>#[.int .i64 kd,.string nm,ev,v,.string ht,rv,.string rt,.bool dl]) 58 3 v' (out++[t]).length ((out++[t]).flatMap bN)->Q .normal a' w'):Ih.wp Tryz.prog Q a w:=by
 obtain ⟨ao4,c4,hv4⟩:∃ao c,v= .slice ao out.length c:=by
  rcases hrf.row.2 with ⟨hv,hn⟩|⟨g,cap,cur,hv,_⟩
  ·exact ⟨none,0,by rw[hv,hn]⟩
  ·exact ⟨_,_,hv⟩
 subst hv4;have hr2:=(hrf.cells 3).1;simp at hr2;obtain ⟨t0,t1,t2⟩:=cB3 hr.obj;simp at t0 t1 t2;have hr2':∀ob,(w.alloc ob).cell? ⟨rb,3,none⟩=some (.slice ao4 out.length c4):=fun ob=>(World.cell?_of_block (aj ob (ag hrf.blk))).trans hr2;have HRF:=hid hrf;have Hown:=hid (fun nd o=>(hrf.drewN nd).row.alloc o);have Hd1:=hid (show 0<3 by decide);have Hd2:=hid (show 40<=1000 by decide);have Hone:=hid (show ∀u∈bN t,u.oneCell'=true from fun u hu=>by
  unfold bN at hu;simp only[List.mem_cons,List.not_mem_nil,or_false]at hu;rcases hu with rfl|rfl|rfl<;>rfl)
 have Hjl:=hid (show out.length<=1000000 by omega);have Hend:=hid (fun nd o v' (w5:World) a1 a2 a3=>show RF w2 (w5.setCell ⟨rb,3,none⟩ v') rb 49 3 (fun v=>#[.int .i64 kd,.string nm,ev,v,.string ht,rv,.string rt,.bool dl]) 58 3 v' (out++[t]).length ((out++[t]).flatMap bN) from by
  have:=RF.put (w2:=w5) (v':=v') (m:=out.length+1) (ys:=out.flatMap bN++bN t) ((HRF.o.drewN nd).later ((aAb (w.drewN nd).heap.size (w.drewN nd)).alloc (aAa _) o)) a1 a2 a3;rw[aAc,List.flatMap_append,List.flatMap_singleton];exact this)
 have Hblk:=hid (fun nd o w5 (a2:((w.drewN nd).alloc o).grownBy w5 (Value.slice ao4 out.length c4).ownBlock)=>show w5.heap[rb]? =some (.cells #[.int .i64 kd,.string nm,ev,.slice ao4 out.length c4,.string ht,rv,.string rt,.bool dl] 49 (0,0)) from
  ((Mod.refl (fun k=>(Value.slice ao4 out.length c4).ownBlock=some k) ((w.drewN nd).alloc o)).grown a2 (fun k e _=>e)).heap ((aj o (ag (HRF.o.drewN nd).blk)).trans (HRF.o.drewN nd).blk) (fun e=>by have:=HRF.o.new rb e;have:=HRF.o.rlt;omega))
 have Hok:=hid ok;obtain ⟨vv,rfl,eE⟩:=hf.shape;simp only[lU,eE];clear eE;clear hf ok hrf hout hr;refine gE ?_;dsimp only[Ih,ncs,ncl,ncr,ncb,nco,nct,nce,ncx,Tryz.f48];go_wp2
 go_region_law (refine rj 58 46 (.agg #[.string ⟨#[]⟩,.string ⟨#[]⟩,.float .f64 0]) 3 40 Tryz.underlying46 sR rfl Hd1.o Hd2.o rfl _ _ rfl (.slice ao4 out.length c4) out.length (out.flatMap bN) rfl (Hown.o _ _) w.heap.size #[.string t.service,.string t.split,.float .f64 t.weight] (bN t) rfl (ah _) rfl rfl Hone.o Hjl.o (out.length+1) rfl ?_;intro ao5 c5 w5 own2 gr2 new2;have HE:=hid (Hend.o _ _ _ _ own2 gr2 new2);have q1:=af (Hblk.o _ _ w5 gr2) 3;have q2:=ai (Hblk.o _ _ w5 gr2) 3;simp at q1;clear own2 gr2 new2)
 all_goals go_wp2
 all_goals exact Hok.o _ _ _ ⟨rfl,rfl,rfl,rfl,rfl,rfl,rfl⟩ HE.o
theorem Bc {ns:List Nd} {k:Nd} {e:Stop} (h:dt k= .error e\/(dt k= .ok ()/\bG ns [bd,aU,bD] k.kids= .error e)):dz ns k= .error e:=by
 rw[iV];rcases h with h|⟨h,h2⟩
 ·rw[h]
 ·rw[h];simp only;rw[h2]
theorem Bb {ns:List Nd} {k:Nd} {e:Stop} (h1:dt k= .ok ()) (h2:bG ns [bd,aU,bD] k.kids= .ok ()) (h3:e7 ns k= .error e):dz ns k= .error e:=by
 rw[iV,h1];simp only;rw[h2];simp only;rw[h3]
theorem Ba {ns:List Nd} {k:Nd} {e:Stop} {p:ByteArray×ByteArray} (h1:dt k= .ok ()) (h2:bG ns [bd,aU,bD] k.kids= .ok ()) (h3:e7 ns k= .ok p) (h4:rf ns k= .error e):dz ns k= .error e:=by
 obtain ⟨p1,p2⟩:=p;unfold rf at h4;rw[iV,h1];simp only;rw[h2];simp only;rw[h3];simp only;cases hn:bH ns k bD with
 |error e2=>rw[hn]at h4;injection h4 with h4;rw[h4]
 |ok n=>rw[hn]at h4;simp only at h4 |-;rw[h4]
theorem A9 {ns:List Nd} {k:Nd} {x:Nat} {p:ByteArray×ByteArray} (h1:dt k= .ok ()) (h2:bG ns [bd,aU,bD] k.kids= .ok ()) (h3:e7 ns k= .ok p) (h4:rf ns k= .ok x):dz ns k= .ok ⟨p.1,p.2,x⟩:=by
 obtain ⟨p1,p2⟩:=p;unfold rf at h4;rw[iV,h1];simp only;rw[h2];simp only;rw[h3];simp only;cases hn:bH ns k bD with
 |error e2=>rw[hn]at h4;cases h4
 |ok n=>rw[hn]at h4;simp only at h4 |-;rw[h4]
theorem mP {ns:List Nd} {k:Nd} {r:List Nd} {out:List Tgt} {e:Stop} (h:dz ns k= .error e):bg ns (k::r) out= .error e:=by rw[bg,h]
theorem om {ns:List Nd} {k:Nd} {r:List Nd} {out:List Tgt} {t:Tgt} (h:dz ns k= .ok t):bg ns (k::r) out=bg ns r (out++[t]):=by rw[bg,h]
theorem Et {kd:Int} {nm ht rt:ByteArray} {ev rv:Value} {dl:Bool} {ks:List NdM} {L:List Nd} (hD:DocB w0 w2 db b o cap ms) (hne:rb≠db) (hrb:w0.heap.size<=rb) (hlr:lb≠rb) (hL:L=ks.map (·.nd)) (hkq:ks.length=q) (hq8:q<=1000) (hks:∀y∈ks,y∈ms)
 (hlc:∀i y,ks[i]? =some y->∀c u,(NdM.cells y)[c]? =some u->w2.cell? ⟨lb,lo+i*6+c,none⟩=some u)
 (hf:SpO a db rb lb lo q lc 0)
 (hrf:RF w2 w2 rb 49 3 (fun v=>#[.int .i64 kd,.string nm,ev,v,.string ht,rv,.string rt,.bool dl]) 58 3 (.slice none 0 0) 0 [])
 (bad:∀e a' w' v3 n3 xs3,bg (nds ms) L []= .error e->a'.defers=[]->RF w2 w' rb 49 3 (fun v=>#[.int .i64 kd,.string nm,ev,v,.string ht,rv,.string rt,.bool dl]) 58 3 v3 n3 xs3->Q (.panic (gh e)) a' w')
 (ok:∀a' w' v' out,bg (nds ms) L []= .ok out->a'.defers=[]->RF w2 w' rb 49 3 (fun v=>#[.int .i64 kd,.string nm,ev,v,.string ht,rv,.string rt,.bool dl]) 58 3 v' out.length (out.flatMap bN)->Q (.exit 0) a' w'):(ncb Ig).wp Tryz.prog Q a w2:=by
 show (Code.loop (Code.seq Ie (Code.seq Ic (Code.seq (Code.block 1 xC) Kc)))).wp Tryz.prog Q a w2
 refine wp_loop (fun a' w'=>∃(j:Nat) (v:Value) (out:List Tgt),j<=q/\out.length=j/\SpO a' db rb lb lo q lc j/\RF w2 w' rb 49 3 (fun v=>#[.int .i64 kd,.string nm,ev,v,.string ht,rv,.string rt,.bool dl]) 58 3 v out.length (out.flatMap bN)/\bg (nds ms) L []=bg (nds ms) (L.drop j) out) (fun a' _=>q-(intOf (a'.tmps.getD 21 undef)).toNat) ⟨0,_,[],Nat.zero_le _,rfl,hf,hrf,rfl⟩ ?_
 clear hf hrf;rintro a1 w1 ⟨j,v1,out,hj,hol,hf1,hr1,hs⟩;by_cases hjq:j<q
 ·obtain ⟨y,hy⟩:∃y,ks[j]? =some y:=au (by omega);have hym:=hks y (List.mem_of_getElem? hy);have hLj:L[j]? =some y.nd:=by rw[hL,List.getElem?_map,hy];rfl
  rw[fC hLj]at hs;have hms:=hr1.mod;have hD1:DocB w0 w1 db b o cap ms:=hD.step hms (fun e=>hne e.symm) (fun k e=>by rw[e];exact hrb);have z:=fun c u (hu:(NdM.cells y)[c]? =some u)=>hms.cell (hlc j y hy c u hu) hlr;have HR:∀(Q':Exit->Act->World->Prop) (a':Act),SpO a' db rb lb lo q lc j->
   (∀e a2 w' v3 n3 xs3,bg (nds ms) L []= .error e->a2.defers=[]->RF w2 w' rb 49 3 (fun v=>#[.int .i64 kd,.string nm,ev,v,.string ht,rv,.string rt,.bool dl]) 58 3 v3 n3 xs3->Q' (.panic (gh e)) a2 w')->
   (∀a2 w' v2 t,SpO a2 db rb lb lo q lc j->RF w2 w' rb 49 3 (fun v=>#[.int .i64 kd,.string nm,ev,v,.string ht,rv,.string rt,.bool dl]) 58 3 v2 (out++[t]).length ((out++[t]).flatMap bN)->bg (nds ms) L []=bg (nds ms) (L.drop (j+1)) (out++[t])->Q' .normal a2 w')->
   xC.wp Tryz.prog Q' a' w1:=by
   intro Q' a' hf' bad' ok'
   show (Code.seq sp3 (Code.seq sp4 (Code.seq sp5 (Code.seq sp6 (Code.seq sp7 (Code.seq sp9 (Code.seq Be Ih))))))).wp Tryz.prog Q' a' w1
   have hbad:∀e a2 w',dz (nds ms) y.nd= .error e->a2.defers=[]->Below w1.heap.size w1 w'->Q' (.panic (gh e)) a2 w':=fun e a2 w' he hd hb=>bad' e a2 w' _ _ _ (hs.trans (mP he)) hd (hr1.later hb);refine sp_a _ hD1 hym hf' hjq (z 0 _ rfl) (z 1 _ rfl) (z 2 _ rfl) (z 3 _ rfl) (z 4 _ rfl) (z 5 _ rfl) (fun e a2 w' he hd hb=>hbad e a2 w' (Bc he) hd hb) (fun a2 w3 m1 m2 f2 r2=> ?_);have hD2:=hD1.later r2.below
   refine sp_b _ hD2 hym f2 r2 (fun a3 w4 f3 r3 hD3=> ?_);refine sp_c _ hD3 hym f3 r3 (fun e a2 w' he hd hb=>hbad e a2 w' (Bb m1 m2 he) hd hb) (fun a4 w5 p m3 f4 r4 hD4=> ?_);have hs4:=ag hD3.doc;have hs5:=hD3.below.size;refine sp_d _ hD4 hym f4 r4 (by omega) (by omega) (fun e a2 w' he hd hb=>hbad e a2 w' (Ba m1 m2 m3 he) hd hb) (fun a5 w6 x m4 f5 r5 hD5=> ?_);refine sp_e (t:=⟨p.1,p.2,x⟩) f5 r5 (by omega) (hr1.later r5.rm.below) (fun a6 w7 v7 f6 r6=> ?_)
   exact ok' a6 w7 v7 _ f6 r6 (hs.trans (om (A9 m1 m2 m3 m4)))
  obtain ⟨Hms,Hgo⟩:=aM (k:=j) (n:=q) hjq (by omega);have HR2:=hid HR;have Hbad:=hid bad;have Hj:=hid (And.intro hjq hol);have tj:decide (j<q)=true:=dT hjq;have wj:wrap64 ((j:Int)+1)=(j:Int)+1:=aW (by omega) (by omega);obtain ⟨vv,rfl,eE⟩:=hf1.shape;simp only[lU,eE];clear eE;clear hf1 hs hy hym hLj hms hD1 z hj hjq hol hr1 bad ok hD hks hlc HR hL hkq;dsimp only[Ie,Ic,ncs,ncl,ncr,ncb,nco,nct,nce,ncx,Tryz.f48]
  go_wp2
  rename_i Q1 K1 hK1
  have Hnext:∀(a2:Act) (w':World) (v2:Value) (t:Tgt),SpO a2 db rb lb lo q lc j->RF w2 w' rb 49 3 (fun v=>#[.int .i64 kd,.string nm,ev,v,.string ht,rv,.string rt,.bool dl]) 58 3 v2 (out++[t]).length ((out++[t]).flatMap bN)->bg (nds ms) L []=bg (nds ms) (L.drop (j+1)) (out++[t])->K1 a2 w':=by
   intro a2 w' v2 t f2 r2 e2;refine hK1 _ _ ?_;have HE:=hid (And.intro r2 e2);obtain ⟨vv2,rfl,eE⟩:=f2.shape;simp only[lU,eE];clear eE;clear f2 r2 e2 HR2 Hbad;dsimp only[Kc,ncs,ncl,ncr,ncb,nco,nct,nce,ncx,Tryz.f48];go_wp2;obtain ⟨z1,z2⟩:=HE.o;exact ⟨⟨j+1,v2,out++[t],Hj.o.1,by rw[aAc,Hj.o.2];rfl,⟨rfl,rfl,rfl,rfl,rfl,rfl,congrArg some Hgo.o⟩,z1,z2⟩,Hms.o⟩
  exact HR2.o _ _ ⟨rfl,rfl,rfl,rfl,rfl,rfl,rfl⟩ (fun e a2 w' v3 n3 xs3 he hd hm=>Hbad.o e a2 w' v3 n3 xs3 he hd hm) (fun a2 w' v2 t f2 r2 e2=>Hnext a2 w' v2 t f2 r2 e2)
 ·have hfin:bg (nds ms) L []= .ok out:=by
   rw[hs,List.drop_eq_nil_of_le (by rw[hL,List.length_map];omega)];rfl
  have ej:j=q:=by omega
  subst ej;have HO:=hid (fun a' hd=>ok a' w1 v1 out hfin hd hr1);have ti:decide (j<j)=false:=dF (Nat.lt_irrefl j);obtain ⟨vv,rfl,eE⟩:=hf1.shape;simp only[lU,eE];clear eE;clear hf1 hs hj hjq hr1 bad ok hD hks hlc hL hkq hfin;dsimp only[Ie,Ic,ncs,ncl,ncr,ncb,nco,nct,nce,ncx,Tryz.f48];go_wp2;exact HO.o _ rfl
end
def gJ (ns:List Nd) (m:Nd):R (List Tgt):=
 match bH ns m cq with
 | .error e=> .error e
 | .ok n=>
 match cn ns n 1 8 with
 | .error e=> .error e
 | .ok l=>bg ns l []
theorem y9 (ns:List Nd) (m:Nd) (r:Res):jq ns m r=match gJ ns m with| .ok out=> .ok {r with targets:=out}| .error e=> .error e:=by
 unfold jq gJ;cases bH ns m cq with
 |error e=>rfl
 |ok n=>
  simp only;cases cn ns n 1 8 with
  |error e=>rfl
  |ok l=>
   simp only;cases bg ns l []<;>rfl
theorem iJ {ns:List Nd} {n:Nd} {least most:Nat} {L:List Nd} (h:cn ns n least most= .ok L):L=n.kids.map (fun k=>ns[k.toNat]!)/\least<=n.kids.length/\n.kids.length<=most:=by
 unfold cn at h
 split at h
 ·cases h
 ·split at h
  ·cases h
  ·injection h with h
   exact ⟨h.symm,by omega,by omega⟩
theorem Er (w0 w:World) (db b o cap:Nat) (ms:List NdM) (h:DocB w0 w db b o cap ms) (m:NdM) (hm:m∈ms) (rb:Nat) (hrb:w0.heap.size<=rb) (hne:rb≠db) (kd:Int) (nm ht rt:ByteArray) (ev rv:Value) (dl:Bool)
 (hblk:w.heap[rb]? =some (.cells #[.int .i64 kd,.string nm,ev,.slice none 0 0,.string ht,rv,.string rt,.bool dl] 49 (0,0))):
 Calls Tryz.prog 48 #[.pointer (some ⟨db,0,none⟩),m.v,.pointer (some ⟨rb,0,none⟩)] w (cf w rb 3 (fun v=>#[.int .i64 kd,.string nm,ev,v,.string ht,rv,.string rt,.bool dl]) 58 3 bN (gJ (nds ms) m.nd)):=by
 have hM:=h.toM;have hok:=hM.ok hm;obtain ⟨ao2,c2,hkv,_,_⟩:=aF hok.kids;obtain ⟨q,hq⟩:=ex (m.nd.kids.length);rw[<-hq]at hkv;have Hf:=hid (fun w1 (hb1:Below w.heap.size w w1)=>il w1 db b o cap ms (hM.later hb1) m hm cq);rw[aZ hkv]at Hf |-;have Hbn:=hid (fun o=>(aAb w.heap.size w).alloc (aAa _) o);have hF0:RF w w rb 49 3 (fun v=>#[.int .i64 kd,.string nm,ev,v,.string ht,rv,.string rt,.bool dl]) 58 3 (.slice none 0 0) 0 []:=RF.first hblk (fun _ _=>rfl)
 have HF0:=hid hF0;have HD:=hid h;have hkx:cq=⟨#[116,97,114,103,101,116,115]⟩:=rfl;cases hfn:bz (nds ms) m.nd cq with
 |none=>
  have hx:gJ (nds ms) m.nd= .error (m.nd.line,122):=by unfold gJ;rw[cY hfn]
  rw[hx];rw[hfn]at Hf;simp only at Hf;rw[hkx]at Hf;clear hM hok hm hkv hq hblk hF0 h hfn hx hkx;go_enter Tryz.func48,Tryz.ntmps48
  go_wp2_with fail
  refine (Hf.o _ (Hbn.o _)).mono ?_;rintro r w1 ⟨rfl,hb⟩;have hb0:=Hbn.o (.cells #[.int .i64 m.nd.kind,.string m.nd.key,.string m.nd.text,.bool m.nd.quoted,.int .i64 m.nd.line,.slice ao2 q c2] 55);have HE:=hid (HF0.o.later (hb0.trans (hb.mono hb0.size)));exact ⟨rfl,cf.err rfl HE.o⟩
 |some k=>
  obtain ⟨mk,hmk,hmem,hnd,hokk,ao3,c3,hkv3⟩:=bS hM hm hfn;have hx:gJ (nds ms) m.nd=match cn (nds ms) mk.nd 1 8 with| .error e=> .error e| .ok l=>bg (nds ms) l []:=by
   unfold gJ;rw[cX hfn,hnd]
  rw[hx];rw[hfn]at Hf;simp only at Hf;rw[hkx]at Hf;have Hmk:=hid hmk;have Hmv:=hid (aZ hkv3);have Hl:=hid (fun w1 (hb1:Below w.heap.size w w1)=>show Calls Tryz.prog 80 #[.pointer (some ⟨db,0,none⟩),mk.v,.int .i64 1,.int .i64 8] w1 fun r w'=>
   (match cn (nds ms) mk.nd 1 8 with| .ok _=>∃v,r= .returned v/\SlR w' v 6 (dK ms mk) NdM.cells/\(∀g,v.ownBlock=some g->w1.heap.size<=g)| .error e=>r=Pan e)/\Below w1.heap.size w1 w' from
   wI w1 db b o cap ms (hM.later hb1) mk hmem 1 8 (by decide) (by decide))
  rw[aZ hkv3]at Hl;have Hkn:=hid (oZ hM hmem);have Hkm:=hid (fun y (hy:y∈dK ms mk)=>mq hM hmem hy);clear hfn hx hokk hkv3 hmk hok hkv hq hblk hF0 hM h hm hnd hkx;cases hlp:cn (nds ms) mk.nd 1 8 with
  |error e=>
   rw[hlp]at Hl;simp only at Hl |-;clear hlp;go_enter Tryz.func48,Tryz.ntmps48
   go_wp2_with fail
   refine (Hf.o _ (Hbn.o _)).mono ?_;rintro r w1 ⟨⟨mk2,hmk2,rfl⟩,hb⟩;have e2:=Hmk.o;rw[e2]at hmk2;obtain rfl:=aAf hmk2;rw[Hmv.o];have hb0:=Hbn.o (.cells #[.int .i64 m.nd.kind,.string m.nd.key,.string m.nd.text,.bool m.nd.quoted,.int .i64 m.nd.line,.slice ao2 q c2] 55);have hb1:=hb0.trans (hb.mono hb0.size);have HB:=hid hb1;have Hl1:=hid (Hl.o w1 hb1);clear hb Hf hb0 hb1 Hl hmk2 e2
   go_wp2_with fail
   refine Hl1.o.mono ?_;rintro r w2 ⟨rfl,hb2⟩;have HE:=hid (HF0.o.later (HB.o.trans (hb2.mono HB.o.size)));exact ⟨rfl,cf.err rfl HE.o⟩
  |ok L=>
   rw[hlp]at Hl;simp only at Hl |-;obtain ⟨hL,hl1,hl8⟩:=iJ hlp;rw[<-Hkn.o]at hL;rw[<-iK (ms:=ms)]at hl1 hl8;have HL:=hid (And.intro hL (And.intro hl1 hl8));clear hlp hL hl1 hl8;go_enter Tryz.func48,Tryz.ntmps48
   go_wp2_with fail
   refine (Hf.o _ (Hbn.o _)).mono ?_;rintro r w1 ⟨⟨mk2,hmk2,rfl⟩,hb⟩;have e2:=Hmk.o;rw[e2]at hmk2;obtain rfl:=aAf hmk2;rw[Hmv.o];have hb0:=Hbn.o (.cells #[.int .i64 m.nd.kind,.string m.nd.key,.string m.nd.text,.bool m.nd.quoted,.int .i64 m.nd.line,.slice ao2 q c2] 55);have hb1:=hb0.trans (hb.mono hb0.size);have HB:=hid hb1;have Hl1:=hid (Hl.o w1 hb1);clear hb Hf hb0 hb1 Hl hmk2 e2
   go_wp2_with fail
   refine Hl1.o.mono ?_;rintro r w2 ⟨⟨lv,rfl,hsl,hlnew⟩,hb2⟩;have hbw:Below w.heap.size w w2:=HB.o.trans (hb2.mono HB.o.size);obtain ⟨la,lc,hlv,hll,hlat⟩:=hsl;obtain ⟨lb,lo,rfl,hlb,hlc⟩:=hlat (by have:=HL.o.2.1;omega);have hlr:lb≠rb:=fun e=>by have h1:=hlnew lb (by rw[hlv];rfl);have:=HF0.o.rlt;have:=HB.o.size;omega
   obtain ⟨nL,hnL⟩:=ex ((dK ms mk).length);rw[<-hnL]at hlv;have hF2:=RF.first (w:=w2) (rb:=rb) (T:= 49) (f:=3) (pre:=fun v=>#[.int .i64 kd,.string nm,ev,v,.string ht,rv,.string rt,.bool dl]) (e:= 58) (sz:=3) ((hbw.block _ HF0.o.rlt).trans HF0.o.blk) (fun _ _=>rfl);have HE:=hid (fun (w':World) (v':Value) (out:List Tgt) (hr:RF w2 w' rb 49 3 (fun v=>#[.int .i64 kd,.string nm,ev,v,.string ht,rv,.string rt,.bool dl]) 58 3 v' out.length (out.flatMap bN))=>hr.base hbw HF0.o.rlt)
   have HM:=hid (fun (w':World) (v3:Value) (n3:Nat) (xs3:List Value) (hm:RF w2 w' rb 49 3 (fun v=>#[.int .i64 kd,.string nm,ev,v,.string ht,rv,.string rt,.bool dl]) 58 3 v3 n3 xs3)=>hm.base hbw HF0.o.rlt);have HK:=hid (fun (Q:Exit->Act->World->Prop) (a:Act) (hf:SpO a db rb lb lo nL lc 0)=>Et (Q:=Q) (hD:=HD.o.later hbw) (hne:=hne) (hrb:=hrb) (hlr:=hlr) (hL:=HL.o.1) (hkq:=hnL.symm) (hq8:=by have:=HL.o.2.2;omega) (hks:=Hkm.o) (hlc:=fun i y hi c u hu=>hlc i y hi c u hu) hf hF2)
   subst hlv;clear Hl1 hb2 HB hlnew hnL hlat hll hbw hlc hF2 HF0;go_wp2;refine HK.o _ _ ⟨rfl,rfl,rfl,rfl,rfl,rfl,rfl⟩ (fun e a2 w' v3 n3 xs3 he hd hm=> ?_) (fun a2 w' v2 out he hd hr=> ?_)
   ·exact ⟨hd,cf.err he (HM.o _ _ _ _ hm)⟩
   ·exact ⟨hd,.tuple #[],results_none rfl _ _ _,cf.ok he (HE.o _ _ _ hr)⟩
noncomputable def Iw:Code:=(ncr (ncr (ncx Tryz.f84.body)))
noncomputable def Iv:Code:=(ncl (nco (ncb (ncr (ncr (ncx Tryz.f84.body))))))
noncomputable def Iu:Code:=(ncl (ncr (nco (ncb (ncr (ncr (ncx Tryz.f84.body)))))))
noncomputable def Kd:Code:=(ncr (ncr (ncr (nco (ncb (ncr (ncr (ncx Tryz.f84.body))))))))
noncomputable def xJ:Code:=(ncb (ncl (ncr (ncr (nco (ncb (ncr (ncr (ncx Tryz.f84.body)))))))))
noncomputable def ru3:Code:=(ncl (ncb (ncl (ncr (ncr (nco (ncb (ncr (ncr (ncx Tryz.f84.body))))))))))
noncomputable def ru4:Code:=(ncl (ncr (ncb (ncl (ncr (ncr (nco (ncb (ncr (ncr (ncx Tryz.f84.body)))))))))))
noncomputable def ru5:Code:=(ncl (ncr (ncr (ncb (ncl (ncr (ncr (nco (ncb (ncr (ncr (ncx Tryz.f84.body))))))))))))
noncomputable def ru6:Code:=(ncl (ncr (ncr (ncr (ncb (ncl (ncr (ncr (nco (ncb (ncr (ncr (ncx Tryz.f84.body)))))))))))))
noncomputable def ru7:Code:=(ncl (ncr (ncr (ncr (ncr (ncb (ncl (ncr (ncr (nco (ncb (ncr (ncr (ncx Tryz.f84.body))))))))))))))
noncomputable def Bz:Code:=(ncl (ncr (ncr (ncr (ncr (ncr (ncb (ncl (ncr (ncr (nco (ncb (ncr (ncr (ncx Tryz.f84.body)))))))))))))))
noncomputable def By:Code:=(ncl (ncr (ncr (ncr (ncr (ncr (ncr (ncb (ncl (ncr (ncr (nco (ncb (ncr (ncr (ncx Tryz.f84.body))))))))))))))))
noncomputable def ze:Code:=(ncl (ncr (ncr (ncr (ncr (ncr (ncr (ncr (ncb (ncl (ncr (ncr (nco (ncb (ncr (ncr (ncx Tryz.f84.body)))))))))))))))))
noncomputable def Ix:Code:=(ncr (ncr (ncr (ncr (ncr (ncr (ncr (ncr (ncb (ncl (ncr (ncr (nco (ncb (ncr (ncr (ncx Tryz.f84.body)))))))))))))))))
def j7 (v:Nat->Value):Act:=⟨#[v 0,v 1,v 2,v 3,v 4,v 5,v 6,v 7,v 8,v 9,v 10,v 11,v 12,v 13,v 14,v 15,v 16,v 17,v 18,v 19,v 20,v 21,v 22,v 23,v 24,v 25,v 26,v 27,v 28,v 29,v 30,v 31,v 32,v 33,v 34,v 35,v 36,v 37,v 38,v 39,v 40,v 41,v 42,v 43,v 44,v 45,v 46,v 47,v 48,v 49,v 50,v 51,v 52,v 53,v 54,v 55,v 56,v 57,v 58,v 59,v 60,v 61,v 62,v 63,v 64,v 65,v 66,v 67,v 68,v 69,v 70,v 71,v 72,v 73,v 74],[]⟩
theorem vK (a:Act) (hs:a.tmps.size=75) (hd:a.defers=[]):∃v:Nat->Value,(∀(i:Nat) (x:Value),a.tmps[i]? =some x->v i=x)/\a=j7 v:=by
 obtain ⟨t,d⟩:=a;obtain ⟨l⟩:=t;obtain rfl:d=[]:=hd;have hl:l.length=75:=hs;refine ⟨fun i=>l.getD i undef,fun i x hx=> ?_,?_⟩
 ·have hx':l[i]? =some x:=by simpa using hx
  simp[List.getD,hx']
 ·have e:l=(List.range 75).map (fun i=>l.getD i undef):=by
   apply List.ext_getElem
   ·simp[hl]
   ·intro i h1 h2;simp[List.getD,h1]
  generalize (fun i=>l.getD i undef)=v at e |-;subst e;rfl
structure RuO (a:Act) (db:Nat) (rb:Nat) (la:ByteArray) (lb:Nat) (lo:Nat) (q:Nat) (lc:Nat) (j:Nat):Prop where
 size:a.tmps.size=75
 dfr:a.defers=[]
 s0:a.tmps[0]? =some (.pointer (some ⟨db,0,none⟩))
 s2:a.tmps[2]? =some (.pointer (some ⟨rb,0,none⟩))
 s3:a.tmps[3]? =some (.string la)
 s17:a.tmps[17]? =some (.slice (some ⟨lb,lo,none⟩) q lc)
 s18:a.tmps[18]? =some (.int .i64 (q:Int))
 s19:a.tmps[19]? =some (.int .i64 (j:Int))
theorem RuO.shape {a:Act} {db:Nat} {rb:Nat} {la:ByteArray} {lb:Nat} {lo:Nat} {q:Nat} {lc:Nat} {j:Nat} (h:RuO a db rb la lb lo q lc j):∃v:Nat->Value,a=j7 v/\v 0= .pointer (some ⟨db,0,none⟩)/\v 2= .pointer (some ⟨rb,0,none⟩)/\v 3= .string la/\v 17= .slice (some ⟨lb,lo,none⟩) q lc/\v 18= .int .i64 (q:Int)/\v 19= .int .i64 (j:Int):=by
 obtain ⟨v,hv,hd⟩:=vK a h.size h.dfr;exact ⟨v,hd,hv 0 _ h.s0,hv 2 _ h.s2,hv 3 _ h.s3,hv 17 _ h.s17,hv 18 _ h.s18,hv 19 _ h.s19⟩
structure RuK (a:Act) (db:Nat) (rb:Nat) (la:ByteArray) (lb:Nat) (lo:Nat) (q:Nat) (lc:Nat) (j:Nat) (kb:Nat):Prop where
 size:a.tmps.size=75
 dfr:a.defers=[]
 s0:a.tmps[0]? =some (.pointer (some ⟨db,0,none⟩))
 s2:a.tmps[2]? =some (.pointer (some ⟨rb,0,none⟩))
 s3:a.tmps[3]? =some (.string la)
 s9:a.tmps[9]? =some (.pointer (some ⟨kb,0,none⟩))
 s17:a.tmps[17]? =some (.slice (some ⟨lb,lo,none⟩) q lc)
 s18:a.tmps[18]? =some (.int .i64 (q:Int))
 s19:a.tmps[19]? =some (.int .i64 (j:Int))
theorem RuK.shape {a:Act} {db:Nat} {rb:Nat} {la:ByteArray} {lb:Nat} {lo:Nat} {q:Nat} {lc:Nat} {j:Nat} {kb:Nat} (h:RuK a db rb la lb lo q lc j kb):∃v:Nat->Value,a=j7 v/\v 0= .pointer (some ⟨db,0,none⟩)/\v 2= .pointer (some ⟨rb,0,none⟩)/\v 3= .string la/\v 9= .pointer (some ⟨kb,0,none⟩)/\v 17= .slice (some ⟨lb,lo,none⟩) q lc/\v 18= .int .i64 (q:Int)/\v 19= .int .i64 (j:Int):=by
 obtain ⟨v,hv,hd⟩:=vK a h.size h.dfr;exact ⟨v,hd,hv 0 _ h.s0,hv 2 _ h.s2,hv 3 _ h.s3,hv 9 _ h.s9,hv 17 _ h.s17,hv 18 _ h.s18,hv 19 _ h.s19⟩
structure RuT (a:Act) (db:Nat) (rb:Nat) (la:ByteArray) (lb:Nat) (lo:Nat) (q:Nat) (lc:Nat) (j:Nat) (kb:Nat) (tb:Nat):Prop where
 size:a.tmps.size=75
 dfr:a.defers=[]
 s0:a.tmps[0]? =some (.pointer (some ⟨db,0,none⟩))
 s2:a.tmps[2]? =some (.pointer (some ⟨rb,0,none⟩))
 s3:a.tmps[3]? =some (.string la)
 s9:a.tmps[9]? =some (.pointer (some ⟨kb,0,none⟩))
 s10:a.tmps[10]? =some (.pointer (some ⟨tb,0,none⟩))
 s17:a.tmps[17]? =some (.slice (some ⟨lb,lo,none⟩) q lc)
 s18:a.tmps[18]? =some (.int .i64 (q:Int))
 s19:a.tmps[19]? =some (.int .i64 (j:Int))
theorem RuT.shape {a:Act} {db:Nat} {rb:Nat} {la:ByteArray} {lb:Nat} {lo:Nat} {q:Nat} {lc:Nat} {j:Nat} {kb:Nat} {tb:Nat} (h:RuT a db rb la lb lo q lc j kb tb):∃v:Nat->Value,a=j7 v/\v 0= .pointer (some ⟨db,0,none⟩)/\v 2= .pointer (some ⟨rb,0,none⟩)/\v 3= .string la/\v 9= .pointer (some ⟨kb,0,none⟩)/\v 10= .pointer (some ⟨tb,0,none⟩)/\v 17= .slice (some ⟨lb,lo,none⟩) q lc/\v 18= .int .i64 (q:Int)/\v 19= .int .i64 (j:Int):=by
 obtain ⟨v,hv,hd⟩:=vK a h.size h.dfr;exact ⟨v,hd,hv 0 _ h.s0,hv 2 _ h.s2,hv 3 _ h.s3,hv 9 _ h.s9,hv 10 _ h.s10,hv 17 _ h.s17,hv 18 _ h.s18,hv 19 _ h.s19⟩
theorem RuT.toO {a:Act} {db rb:Nat} {la:ByteArray} {lb lo q lc j kb tb:Nat} (h:RuT a db rb la lb lo q lc j kb tb):RuO a db rb la lb lo q lc j:=⟨h.size,h.dfr,h.s0,h.s2,h.s3,h.s17,h.s18,h.s19⟩
theorem patE:kP 121 :=gC Tryz.func121 (by kernel_rfl) (by kernel_rfl)
theorem KR:kP 122 :=gC Tryz.func122 (by kernel_rfl) (by kernel_rfl)
theorem K3:kP 83 :=gC Tryz.func83 (by kernel_rfl) (by kernel_rfl)
theorem actE:kP 120 :=gC Tryz.func120 (by kernel_rfl) (by kernel_rfl)
theorem Lh (w:World) (s:ByteArray):Calls Tryz.prog 120 #[.string s] w fun r w'=>r= .returned (.bool (gk s))/\Below w.heap.size w w':=by
 by_cases e1:s=kAllow
 ·have u1:=g7 e1;have hv:gk s=true:=by unfold gk;exact dT (.inl e1)
  rw[hv];clear e1 hv;go_enter Tryz.func120,Tryz.ntmps120;go_wp2;go_ret;exact ⟨rfl,aAb _ _⟩
 ·have u1:=iq e1;by_cases e2:s=kDeny
  ·have u2:=g7 e2;have hv:gk s=true:=by unfold gk;exact dT (.inr e2)
   rw[hv];clear e1 e2 hv;go_enter Tryz.func120,Tryz.ntmps120;go_wp2;go_ret;exact ⟨rfl,aAb _ _⟩
  ·have u2:=iq e2;have hv:gk s=false:=by unfold gk;exact dF (by rintro (q|q);exact e1 q;exact e2 q)
   rw[hv];clear e1 e2 hv;go_enter Tryz.func120,Tryz.ntmps120;go_wp2;go_ret;exact ⟨rfl,aAb _ _⟩
theorem AT (w:World) (m:NdM) (hm:m.Ok w):
 Calls Tryz.prog 41 #[m.v,.func (.func 120) #[] #[]] w fun r w'=>(match aS m.nd gk with| .ok s=>r= .returned (.string s)| .error e=>r=Pan e)/\Below w.heap.size w w':=
 od w m hm _ actE gk fun w1 _=>Lh w1 m.nd.text
theorem yG (w:World) (m:NdM) (hm:m.Ok w):
 Calls Tryz.prog 41 #[m.v,.func (.func 83) #[] #[]] w fun r w'=>(match aS m.nd iL with| .ok s=>r= .returned (.string s)| .error e=>r=Pan e)/\Below w.heap.size w w':=
 od w m hm _ K3 iL fun w1 _=>EV w1 m.nd.text
theorem AS (w:World) (m:NdM) (hm:m.Ok w):
 Calls Tryz.prog 41 #[m.v,.func (.func 121) #[] #[]] w fun r w'=>(match aS m.nd gP with| .ok s=>r= .returned (.string s)| .error e=>r=Pan e)/\Below w.heap.size w w':=
 od w m hm _ patE gP fun w1 _=>(zA w1 m.nd.text (by have:=hm.text;omega)).mono (by rintro r w2 ⟨hr,rfl⟩;exact ⟨hr,aAb _ _⟩)
theorem yD (w:World) (m:NdM) (hm:m.Ok w):
 Calls Tryz.prog 41 #[m.v,.func (.func 122) #[] #[]] w fun r w'=>(match aS m.nd fm with| .ok s=>r= .returned (.string s)| .error e=>r=Pan e)/\Below w.heap.size w w':=
 od w m hm _ KR fm fun w1 _=>(zy w1 m.nd.text hm.text).mono (by rintro r w2 ⟨hr,rfl⟩;exact ⟨hr,aAb _ _⟩)
def nwP (ns:List Nd) (k:Nd) (key:ByteArray) (so:ByteArray->Bool):R ByteArray:=match bH ns k key with| .error e=> .error e| .ok n=>aS n so
def gj (act:Bool):ByteArray:=if act=true then cm else aU
def sw (ns:List Nd) (act:Bool) (k:Nd):R ByteArray:=if act=true then nwP ns k cm gk else .ok ⟨#[]⟩
def p8 (ns:List Nd) (k:Nd):R ByteArray:=match bC ns k bA with|some n=>aS n fm|none=> .ok ki
def za (ns:List Nd) (act:Bool) (k:Nd):R ByteArray:=if act=true then .ok ⟨#[]⟩ else nwP ns k aU isName
theorem iD (ns:List Nd) (act:Bool) (k:Nd):fk ns act k=(match dt k with
 | .error e=> .error e
 | .ok ()=>
 match bG ns [bV,bA,gj act] k.kids with
 | .error e=> .error e
 | .ok ()=>
 match sw ns act k with
 | .error e=> .error e
 | .ok a=>
 match nwP ns k bV gP with
 | .error e=> .error e
 | .ok p=>
 match p8 ns k with
 | .error e=> .error e
 | .ok m=>
 match za ns act k with
 | .error e=> .error e
 | .ok s=> .ok ⟨p,m,s,decide (a=kAllow)⟩):=by
 unfold fk nwP;cases bH ns k bV with
 |error e=>rfl
 |ok n=>rfl
