/-
Parts of a proof.
-/
import Derived.Test.YtfenoaeoedobmaaGreatDoorOw22
set_option linter.unusedVariables false
set_option linter.unusedSimpArgs false
set_option maxHeartbeats 4000000
set_option maxRecDepth 20000
namespace Go.Proofs.YtfenoaeoedobmaaGreatDoor
open Go Go.RowKit
def bE (t:Rul):List Value:=[.string t.path,.string t.method,.string t.split,.bool t.allow]
theorem tu:(Tryz.prog.info? 60).map (fun i=>(i.zero,i.size,i.bytes))=some (some (.agg #[.string ⟨#[]⟩,.string ⟨#[]⟩,.string ⟨#[]⟩,.bool false]),4,56):=by kernel_rfl
section
variable {w0 w1 w2 w:World} {Q:Exit->Act->World->Prop} {a:Act} {ms:List NdM} {db rb lb lo q lc j kb tb b o cap:Nat} {la:ByteArray} {act:Bool} {y:NdM}
theorem ru_g {kd:Int} {nm ht rt:ByteArray} {ev tv:Value} {dl:Bool} {out:List Rul} {v:Value} {t:Rul} (hf:RuT a db rb la lb lo q lc j kb tb) (hr:RTg w1 w kb y tb (RlO t.path t.method t.split t.allow)) (hout:out.length<=1000)
 (hrf:RF w2 w rb 49 5 (fun v=>#[.int .i64 kd,.string nm,ev,tv,.string ht,v,.string rt,.bool dl]) 60 4 v out.length (out.flatMap bE))
 (ok:∀a' w' v',RuO a' db rb la lb lo q lc j->RF w2 w' rb 49 5 (fun v=>#[.int .i64 kd,.string nm,ev,tv,.string ht,v,.string rt,.bool dl]) 60 4 v' (out++[t]).length ((out++[t]).flatMap bE)->Q .normal a' w'):Ix.wp Tryz.prog Q a w:=by
 obtain ⟨ao4,c4,hv4⟩:∃ao c,v= .slice ao out.length c:=by
  rcases hrf.row.2 with ⟨hv,hn⟩|⟨g,cap,cur,hv,_⟩
  ·exact ⟨none,0,by rw[hv,hn]⟩
  ·exact ⟨_,_,hv⟩
 subst hv4;have hr2:=(hrf.cells 5).1;simp at hr2;have t0:=af hr.obj 0;have t1:=af hr.obj 1;have t2:=af hr.obj 2;have t3:=af hr.obj 3;simp at t0 t1 t2 t3;have hr2':∀ob,(w.alloc ob).cell? ⟨rb,5,none⟩=some (.slice ao4 out.length c4):=fun ob=>(World.cell?_of_block (aj ob (ag hrf.blk))).trans hr2;have HRF:=hid hrf;have Hown:=hid (fun nd o=>(hrf.drewN nd).row.alloc o)
 have Hd1:=hid (show 0<4 by decide);have Hd2:=hid (show 56<=1000 by decide);have Hone:=hid (show ∀u∈bE t,u.oneCell'=true from fun u hu=>by
  unfold bE at hu;simp only[List.mem_cons,List.not_mem_nil,or_false]at hu;rcases hu with rfl|rfl|rfl|rfl<;>rfl)
 have Hjl:=hid (show out.length<=1000000 by omega);have Hend:=hid (fun nd o v' (w5:World) a1 a2 a3=>show RF w2 (w5.setCell ⟨rb,5,none⟩ v') rb 49 5 (fun v=>#[.int .i64 kd,.string nm,ev,tv,.string ht,v,.string rt,.bool dl]) 60 4 v' (out++[t]).length ((out++[t]).flatMap bE) from by
  have:=RF.put (w2:=w5) (v':=v') (m:=out.length+1) (ys:=out.flatMap bE++bE t) ((HRF.o.drewN nd).later ((aAb (w.drewN nd).heap.size (w.drewN nd)).alloc (aAa _) o)) a1 a2 a3;rw[aAc,List.flatMap_append,List.flatMap_singleton];exact this)
 have Hblk:=hid (fun nd o w5 (a2:((w.drewN nd).alloc o).grownBy w5 (Value.slice ao4 out.length c4).ownBlock)=>show w5.heap[rb]? =some (.cells #[.int .i64 kd,.string nm,ev,tv,.string ht,.slice ao4 out.length c4,.string rt,.bool dl] 49 (0,0)) from
  ((Mod.refl (fun k=>(Value.slice ao4 out.length c4).ownBlock=some k) ((w.drewN nd).alloc o)).grown a2 (fun k e _=>e)).heap ((aj o (ag (HRF.o.drewN nd).blk)).trans (HRF.o.drewN nd).blk) (fun e=>by have:=HRF.o.new rb e;have:=HRF.o.rlt;omega))
 have Hok:=hid ok;obtain ⟨vv,rfl,eE⟩:=hf.shape;simp only[j7,eE];clear eE;clear hf ok hrf hout hr;refine gE ?_;dsimp only[Ix,ncs,ncl,ncr,ncb,nco,nct,nce,ncx,Tryz.f84];go_wp2
 go_region_law (refine rj 60 47 (.agg #[.string ⟨#[]⟩,.string ⟨#[]⟩,.string ⟨#[]⟩,.bool false]) 4 56 Tryz.underlying47 tu rfl Hd1.o Hd2.o rfl _ _ rfl (.slice ao4 out.length c4) out.length (out.flatMap bE) rfl (Hown.o _ _) w.heap.size #[.string t.path,.string t.method,.string t.split,.bool t.allow] (bE t) rfl (ah _) rfl rfl Hone.o Hjl.o (out.length+1) rfl ?_;intro ao5 c5 w5 own2 gr2 new2;have HE:=hid (Hend.o _ _ _ _ own2 gr2 new2);have q1:=af (Hblk.o _ _ w5 gr2) 5;have q2:=ai (Hblk.o _ _ w5 gr2) 5;simp at q1;clear own2 gr2 new2)
 all_goals go_wp2
 all_goals exact Hok.o _ _ _ ⟨rfl,rfl,rfl,rfl,rfl,rfl,rfl,rfl⟩ HE.o
theorem Is {ns:List Nd} {k:Nd} {e:Stop} (h:dt k= .error e\/(dt k= .ok ()/\bG ns [bV,bA,gj act] k.kids= .error e)):fk ns act k= .error e:=by
 rw[iD];rcases h with h|⟨h,h2⟩
 ·rw[h]
 ·rw[h];simp only;rw[h2]
theorem Ir {ns:List Nd} {k:Nd} {e:Stop} (h1:dt k= .ok ()) (h2:bG ns [bV,bA,gj act] k.kids= .ok ()) (h3:sw ns act k= .error e):fk ns act k= .error e:=by
 rw[iD,h1];simp only;rw[h2];simp only;rw[h3]
theorem Iq {ns:List Nd} {k:Nd} {e:Stop} {av:ByteArray} (h1:dt k= .ok ()) (h2:bG ns [bV,bA,gj act] k.kids= .ok ()) (h3:sw ns act k= .ok av) (h4:nwP ns k bV gP= .error e):fk ns act k= .error e:=by
 rw[iD,h1];simp only;rw[h2];simp only;rw[h3];simp only;rw[h4]
theorem Ip {ns:List Nd} {k:Nd} {e:Stop} {av p:ByteArray} (h1:dt k= .ok ()) (h2:bG ns [bV,bA,gj act] k.kids= .ok ()) (h3:sw ns act k= .ok av) (h4:nwP ns k bV gP= .ok p) (h5:p8 ns k= .error e):fk ns act k= .error e:=by
 rw[iD,h1];simp only;rw[h2];simp only;rw[h3];simp only;rw[h4];simp only;rw[h5]
theorem Io {ns:List Nd} {k:Nd} {e:Stop} {av p m:ByteArray} (h1:dt k= .ok ()) (h2:bG ns [bV,bA,gj act] k.kids= .ok ()) (h3:sw ns act k= .ok av) (h4:nwP ns k bV gP= .ok p) (h5:p8 ns k= .ok m) (h6:za ns act k= .error e):fk ns act k= .error e:=by
 rw[iD,h1];simp only;rw[h2];simp only;rw[h3];simp only;rw[h4];simp only;rw[h5];simp only;rw[h6]
theorem Im {ns:List Nd} {k:Nd} {av p m s:ByteArray} (h1:dt k= .ok ()) (h2:bG ns [bV,bA,gj act] k.kids= .ok ()) (h3:sw ns act k= .ok av) (h4:nwP ns k bV gP= .ok p) (h5:p8 ns k= .ok m) (h6:za ns act k= .ok s):fk ns act k= .ok ⟨p,m,s,decide (av=kAllow)⟩:=by
 rw[iD,h1];simp only;rw[h2];simp only;rw[h3];simp only;rw[h4];simp only;rw[h5];simp only;rw[h6]
theorem qB {ns:List Nd} {k:Nd} {r:List Nd} {out:List Rul} {e:Stop} (h:fk ns act k= .error e):cj ns act (k::r) out= .error e:=by rw[cj,h]
theorem tr {ns:List Nd} {k:Nd} {r:List Nd} {out:List Rul} {t:Rul} (h:fk ns act k= .ok t):cj ns act (k::r) out=cj ns act r (out++[t]):=by rw[cj,h]
theorem EI {kd:Int} {nm ht rt:ByteArray} {ev tv:Value} {dl:Bool} {ks:List NdM} {L:List Nd} (hla:la=gj act) (hD:DocB w0 w2 db b o cap ms) (hne:rb≠db) (hrb:w0.heap.size<=rb) (hlr:lb≠rb) (hL:L=ks.map (·.nd)) (hkq:ks.length=q) (hq8:q<=1000) (hks:∀y∈ks,y∈ms)
 (hlc:∀i y,ks[i]? =some y->∀c u,(NdM.cells y)[c]? =some u->w2.cell? ⟨lb,lo+i*6+c,none⟩=some u)
 (hf:RuO a db rb la lb lo q lc 0)
 (hrf:RF w2 w2 rb 49 5 (fun v=>#[.int .i64 kd,.string nm,ev,tv,.string ht,v,.string rt,.bool dl]) 60 4 (.slice none 0 0) 0 [])
 (bad:∀e a' w' v3 n3 xs3,cj (nds ms) act L []= .error e->a'.defers=[]->RF w2 w' rb 49 5 (fun v=>#[.int .i64 kd,.string nm,ev,tv,.string ht,v,.string rt,.bool dl]) 60 4 v3 n3 xs3->Q (.panic (gh e)) a' w')
 (ok:∀a' w' v' out,cj (nds ms) act L []= .ok out->a'.defers=[]->RF w2 w' rb 49 5 (fun v=>#[.int .i64 kd,.string nm,ev,tv,.string ht,v,.string rt,.bool dl]) 60 4 v' out.length (out.flatMap bE)->Q (.exit 0) a' w'):(ncb Iw).wp Tryz.prog Q a w2:=by
 show (Code.loop (Code.seq Iv (Code.seq Iu (Code.seq (Code.block 1 xJ) Kd)))).wp Tryz.prog Q a w2
 refine wp_loop (fun a' w'=>∃(j:Nat) (v:Value) (out:List Rul),j<=q/\out.length=j/\RuO a' db rb la lb lo q lc j/\RF w2 w' rb 49 5 (fun v=>#[.int .i64 kd,.string nm,ev,tv,.string ht,v,.string rt,.bool dl]) 60 4 v out.length (out.flatMap bE)/\cj (nds ms) act L []=cj (nds ms) act (L.drop j) out) (fun a' _=>q-(intOf (a'.tmps.getD 19 undef)).toNat) ⟨0,_,[],Nat.zero_le _,rfl,hf,hrf,rfl⟩ ?_
 clear hf hrf;rintro a1 w1 ⟨j,v1,out,hj,hol,hf1,hr1,hs⟩;by_cases hjq:j<q
 ·obtain ⟨y,hy⟩:∃y,ks[j]? =some y:=au (by omega);have hym:=hks y (List.mem_of_getElem? hy);have hLj:L[j]? =some y.nd:=by rw[hL,List.getElem?_map,hy];rfl
  rw[fC hLj]at hs;have hms:=hr1.mod;have hD1:DocB w0 w1 db b o cap ms:=hD.step hms (fun e=>hne e.symm) (fun k e=>by rw[e];exact hrb);have z:=fun c u (hu:(NdM.cells y)[c]? =some u)=>hms.cell (hlc j y hy c u hu) hlr;have HR:∀(Q':Exit->Act->World->Prop) (a':Act),RuO a' db rb la lb lo q lc j->
   (∀e a2 w' v3 n3 xs3,cj (nds ms) act L []= .error e->a2.defers=[]->RF w2 w' rb 49 5 (fun v=>#[.int .i64 kd,.string nm,ev,tv,.string ht,v,.string rt,.bool dl]) 60 4 v3 n3 xs3->Q' (.panic (gh e)) a2 w')->
   (∀a2 w' v2 t,RuO a2 db rb la lb lo q lc j->RF w2 w' rb 49 5 (fun v=>#[.int .i64 kd,.string nm,ev,tv,.string ht,v,.string rt,.bool dl]) 60 4 v2 (out++[t]).length ((out++[t]).flatMap bE)->cj (nds ms) act L []=cj (nds ms) act (L.drop (j+1)) (out++[t])->Q' .normal a2 w')->
   xJ.wp Tryz.prog Q' a' w1:=by
   intro Q' a' hf' bad' ok'
   show (Code.seq ru3 (Code.seq ru4 (Code.seq ru5 (Code.seq ru6 (Code.seq ru7 (Code.seq Bz (Code.seq By (Code.seq ze Ix)))))))).wp Tryz.prog Q' a' w1
   have hbad:∀e a2 w',fk (nds ms) act y.nd= .error e->a2.defers=[]->Below w1.heap.size w1 w'->Q' (.panic (gh e)) a2 w':=fun e a2 w' he hd hb=>bad' e a2 w' _ _ _ (hs.trans (qB he)) hd (hr1.later hb);refine ru_a _ hD1 hym hf' hjq (z 0 _ rfl) (z 1 _ rfl) (z 2 _ rfl) (z 3 _ rfl) (z 4 _ rfl) (z 5 _ rfl) (fun e a2 w' he hd hb=>hbad e a2 w' (Is (by rw[hla]at he;exact he)) hd hb) (fun a2 w3 m1 m2 f2 r2=> ?_)
   rw[hla]at m2;have hD2:=hD1.later r2.below;refine ru_b _ hD2 f2 r2 (fun a3 w4 f3 r3 hD3=> ?_);have hs4:=ag hD2.doc;have hs5:=hD2.below.size;refine ru_c _ hla rfl hD3 hym f3 r3 (by omega) (by omega) (fun e a2 w' he hd hb=>hbad e a2 w' (Ir m1 m2 he) hd hb) (fun a4 w5 av m3 f4 r4 hD4=> ?_);refine ru_d _ hD4 hym f4 r4 (by omega) (by omega) (fun e a2 w' he hd hb=>hbad e a2 w' (Iq m1 m2 m3 he) hd hb) (fun a5 w6 p m4 f5 r5 hD5=> ?_)
   refine ru_e _ hD5 hym f5 r5 (by omega) (by omega) (fun e a2 w' he hd hb=>hbad e a2 w' (Ip m1 m2 m3 m4 he) hd hb) (fun a6 w7 m m5 f6 r6 hD6=> ?_);refine ru_f _ hla rfl hD6 hym f6 r6 (by omega) (by omega) (fun e a2 w' he hd hb=>hbad e a2 w' (Io m1 m2 m3 m4 m5 he) hd hb) (fun a7 w8 s m6 f7 r7 hD7=> ?_);refine ru_g (t:=⟨p,m,s,decide (av=kAllow)⟩) f7 r7 (by omega) (hr1.later r7.rm.below) (fun a8 w9 v9 f8 r8=> ?_)
   exact ok' a8 w9 v9 _ f8 r8 (hs.trans (tr (Im m1 m2 m3 m4 m5 m6)))
  obtain ⟨Hms,Hgo⟩:=aM (k:=j) (n:=q) hjq (by omega);have HR2:=hid HR;have Hbad:=hid bad;have Hj:=hid (And.intro hjq hol);have tj:decide (j<q)=true:=dT hjq;have wj:wrap64 ((j:Int)+1)=(j:Int)+1:=aW (by omega) (by omega);obtain ⟨vv,rfl,eE⟩:=hf1.shape;simp only[j7,eE];clear eE;clear hf1 hs hy hym hLj hms hD1 z hj hjq hol hr1 bad ok hD hks hlc HR hL hkq hla;dsimp only[Iv,Iu,ncs,ncl,ncr,ncb,nco,nct,nce,ncx,Tryz.f84]
  go_wp2
  rename_i Q1 K1 hK1
  have Hnext:∀(a2:Act) (w':World) (v2:Value) (t:Rul),RuO a2 db rb la lb lo q lc j->RF w2 w' rb 49 5 (fun v=>#[.int .i64 kd,.string nm,ev,tv,.string ht,v,.string rt,.bool dl]) 60 4 v2 (out++[t]).length ((out++[t]).flatMap bE)->cj (nds ms) act L []=cj (nds ms) act (L.drop (j+1)) (out++[t])->K1 a2 w':=by
   intro a2 w' v2 t f2 r2 e2;refine hK1 _ _ ?_;have HE:=hid (And.intro r2 e2);obtain ⟨vv2,rfl,eE⟩:=f2.shape;simp only[j7,eE];clear eE;clear f2 r2 e2 HR2 Hbad;dsimp only[Kd,ncs,ncl,ncr,ncb,nco,nct,nce,ncx,Tryz.f84];go_wp2;obtain ⟨z1,z2⟩:=HE.o;exact ⟨⟨j+1,v2,out++[t],Hj.o.1,by rw[aAc,Hj.o.2];rfl,⟨rfl,rfl,rfl,rfl,rfl,rfl,rfl,congrArg some Hgo.o⟩,z1,z2⟩,Hms.o⟩
  exact HR2.o _ _ ⟨rfl,rfl,rfl,rfl,rfl,rfl,rfl,rfl⟩ (fun e a2 w' v3 n3 xs3 he hd hm=>Hbad.o e a2 w' v3 n3 xs3 he hd hm) (fun a2 w' v2 t f2 r2 e2=>Hnext a2 w' v2 t f2 r2 e2)
 ·have hfin:cj (nds ms) act L []= .ok out:=by
   rw[hs,List.drop_eq_nil_of_le (by rw[hL,List.length_map];omega)];rfl
  have ej:j=q:=by omega
  subst ej;have HO:=hid (fun a' hd=>ok a' w1 v1 out hfin hd hr1);have ti:decide (j<j)=false:=dF (Nat.lt_irrefl j);obtain ⟨vv,rfl,eE⟩:=hf1.shape;simp only[j7,eE];clear eE;clear hf1 hs hj hjq hr1 bad ok hD hks hlc hL hkq hfin hla;dsimp only[Iv,Iu,ncs,ncl,ncr,ncb,nco,nct,nce,ncx,Tryz.f84];go_wp2;exact HO.o _ rfl
end
def e8 (ns:List Nd) (act:Bool) (m:Nd):R (List Rul):=
 match bH ns m bX with
 | .error e=> .error e
 | .ok n=>
 match cn ns n 1 16 with
 | .error e=> .error e
 | .ok l=>cj ns act l []
theorem qC (ns:List Nd) (act:Bool) (m:Nd) (r:Res):ie ns act m r=match e8 ns act m with| .ok out=> .ok {r with rules:=out}| .error e=> .error e:=by
 unfold ie e8;cases bH ns m bX with
 |error e=>rfl
 |ok n=>
  simp only;cases cn ns n 1 16 with
  |error e=>rfl
  |ok l=>
   simp only;cases cj ns act l []<;>rfl
theorem xH (act:Bool) (w0 w:World) (db b o cap:Nat) (ms:List NdM) (h:DocB w0 w db b o cap ms) (m:NdM) (hm:m∈ms) (rb:Nat) (hrb:w0.heap.size<=rb) (hne:rb≠db) (kd:Int) (nm ht rt:ByteArray) (ev tv:Value) (dl:Bool)
 (hblk:w.heap[rb]? =some (.cells #[.int .i64 kd,.string nm,ev,tv,.string ht,.slice none 0 0,.string rt,.bool dl] 49 (0,0))):
 Calls Tryz.prog 84 #[.pointer (some ⟨db,0,none⟩),m.v,.pointer (some ⟨rb,0,none⟩),.string (gj act)] w (cf w rb 5 (fun v=>#[.int .i64 kd,.string nm,ev,tv,.string ht,v,.string rt,.bool dl]) 60 4 bE (e8 (nds ms) act m.nd)):=by
 obtain ⟨la,hla⟩:=ex (gj act);rw[<-hla];have hM:=h.toM;have hok:=hM.ok hm;obtain ⟨ao2,c2,hkv,_,_⟩:=aF hok.kids;obtain ⟨q,hq⟩:=ex (m.nd.kids.length);rw[<-hq]at hkv;have Hf:=hid (fun w1 (hb1:Below w.heap.size w w1)=>il w1 db b o cap ms (hM.later hb1) m hm bX);rw[aZ hkv]at Hf |-;have Hbn:=hid (fun o=>(aAb w.heap.size w).alloc (aAa _) o);have hF0:RF w w rb 49 5 (fun v=>#[.int .i64 kd,.string nm,ev,tv,.string ht,v,.string rt,.bool dl]) 60 4 (.slice none 0 0) 0 []:=RF.first hblk (fun _ _=>rfl)
 have HF0:=hid hF0;have HD:=hid h;have hkx:bX=⟨#[114,117,108,101,115]⟩:=rfl;cases hfn:bz (nds ms) m.nd bX with
 |none=>
  have hx:e8 (nds ms) act m.nd= .error (m.nd.line,122):=by unfold e8;rw[cY hfn]
  rw[hx];rw[hfn]at Hf;simp only at Hf;rw[hkx]at Hf;clear hM hok hm hkv hq hblk hF0 h hfn hx hkx hla;go_enter Tryz.func84,Tryz.ntmps84
  go_wp2_with fail
  refine (Hf.o _ (Hbn.o _)).mono ?_;rintro r w1 ⟨rfl,hb⟩;have hb0:=Hbn.o (.cells #[.int .i64 m.nd.kind,.string m.nd.key,.string m.nd.text,.bool m.nd.quoted,.int .i64 m.nd.line,.slice ao2 q c2] 55);have HE:=hid (HF0.o.later (hb0.trans (hb.mono hb0.size)));exact ⟨rfl,cf.err rfl HE.o⟩
 |some k=>
  obtain ⟨mk,hmk,hmem,hnd,hokk,ao3,c3,hkv3⟩:=bS hM hm hfn;have hx:e8 (nds ms) act m.nd=match cn (nds ms) mk.nd 1 16 with| .error e=> .error e| .ok l=>cj (nds ms) act l []:=by
   unfold e8;rw[cX hfn,hnd]
  rw[hx];rw[hfn]at Hf;simp only at Hf;rw[hkx]at Hf;have Hmk:=hid hmk;have Hmv:=hid (aZ hkv3);have Hl:=hid (fun w1 (hb1:Below w.heap.size w w1)=>show Calls Tryz.prog 80 #[.pointer (some ⟨db,0,none⟩),mk.v,.int .i64 1,.int .i64 16] w1 fun r w'=>
   (match cn (nds ms) mk.nd 1 16 with| .ok _=>∃v,r= .returned v/\SlR w' v 6 (dK ms mk) NdM.cells/\(∀g,v.ownBlock=some g->w1.heap.size<=g)| .error e=>r=Pan e)/\Below w1.heap.size w1 w' from
   wI w1 db b o cap ms (hM.later hb1) mk hmem 1 16 (by decide) (by decide))
  rw[aZ hkv3]at Hl;have Hkn:=hid (oZ hM hmem);have Hkm:=hid (fun y (hy:y∈dK ms mk)=>mq hM hmem hy);have Hla:=hid hla;clear hfn hx hokk hkv3 hmk hok hkv hq hblk hF0 hM h hm hnd hkx hla;cases hlp:cn (nds ms) mk.nd 1 16 with
  |error e=>
   rw[hlp]at Hl;simp only at Hl |-;clear hlp;go_enter Tryz.func84,Tryz.ntmps84
   go_wp2_with fail
   refine (Hf.o _ (Hbn.o _)).mono ?_;rintro r w1 ⟨⟨mk2,hmk2,rfl⟩,hb⟩;have e2:=Hmk.o;rw[e2]at hmk2;obtain rfl:=aAf hmk2;rw[Hmv.o];have hb0:=Hbn.o (.cells #[.int .i64 m.nd.kind,.string m.nd.key,.string m.nd.text,.bool m.nd.quoted,.int .i64 m.nd.line,.slice ao2 q c2] 55);have hb1:=hb0.trans (hb.mono hb0.size);have HB:=hid hb1;have Hl1:=hid (Hl.o w1 hb1);clear hb Hf hb0 hb1 Hl hmk2 e2
   go_wp2_with fail
   refine Hl1.o.mono ?_;rintro r w2 ⟨rfl,hb2⟩;have HE:=hid (HF0.o.later (HB.o.trans (hb2.mono HB.o.size)));exact ⟨rfl,cf.err rfl HE.o⟩
  |ok L=>
   rw[hlp]at Hl;simp only at Hl |-;obtain ⟨hL,hl1,hl8⟩:=iJ hlp;rw[<-Hkn.o]at hL;rw[<-iK (ms:=ms)]at hl1 hl8;have HL:=hid (And.intro hL (And.intro hl1 hl8));clear hlp hL hl1 hl8;go_enter Tryz.func84,Tryz.ntmps84
   go_wp2_with fail
   refine (Hf.o _ (Hbn.o _)).mono ?_;rintro r w1 ⟨⟨mk2,hmk2,rfl⟩,hb⟩;have e2:=Hmk.o;rw[e2]at hmk2;obtain rfl:=aAf hmk2;rw[Hmv.o];have hb0:=Hbn.o (.cells #[.int .i64 m.nd.kind,.string m.nd.key,.string m.nd.text,.bool m.nd.quoted,.int .i64 m.nd.line,.slice ao2 q c2] 55);have hb1:=hb0.trans (hb.mono hb0.size);have HB:=hid hb1;have Hl1:=hid (Hl.o w1 hb1);clear hb Hf hb0 hb1 Hl hmk2 e2
   go_wp2_with fail
   refine Hl1.o.mono ?_;rintro r w2 ⟨⟨lv,rfl,hsl,hlnew⟩,hb2⟩;have hbw:Below w.heap.size w w2:=HB.o.trans (hb2.mono HB.o.size);obtain ⟨la',lc,hlv,hll,hlat⟩:=hsl;obtain ⟨lb,lo,rfl,hlb,hlc⟩:=hlat (by have:=HL.o.2.1;omega);have hlr:lb≠rb:=fun e=>by have h1:=hlnew lb (by rw[hlv];rfl);have:=HF0.o.rlt;have:=HB.o.size;omega
   obtain ⟨nL,hnL⟩:=ex ((dK ms mk).length);rw[<-hnL]at hlv;have hF2:=RF.first (w:=w2) (rb:=rb) (T:= 49) (f:=5) (pre:=fun v=>#[.int .i64 kd,.string nm,ev,tv,.string ht,v,.string rt,.bool dl]) (e:= 60) (sz:=4) ((hbw.block _ HF0.o.rlt).trans HF0.o.blk) (fun _ _=>rfl);have HE:=hid (fun (w':World) (v':Value) (out:List Rul) (hr:RF w2 w' rb 49 5 (fun v=>#[.int .i64 kd,.string nm,ev,tv,.string ht,v,.string rt,.bool dl]) 60 4 v' out.length (out.flatMap bE))=>hr.base hbw HF0.o.rlt)
   have HM:=hid (fun (w':World) (v3:Value) (n3:Nat) (xs3:List Value) (hm:RF w2 w' rb 49 5 (fun v=>#[.int .i64 kd,.string nm,ev,tv,.string ht,v,.string rt,.bool dl]) 60 4 v3 n3 xs3)=>hm.base hbw HF0.o.rlt);have HK:=hid (fun (Q:Exit->Act->World->Prop) (a:Act) (hf:RuO a db rb la lb lo nL lc 0)=>EI (Q:=Q) (act:=act) (hla:=Hla.o) (hD:=HD.o.later hbw) (hne:=hne) (hrb:=hrb) (hlr:=hlr) (hL:=HL.o.1) (hkq:=hnL.symm) (hq8:=by have:=HL.o.2.2;omega) (hks:=Hkm.o) (hlc:=fun i y hi c u hu=>hlc i y hi c u hu) hf hF2)
   subst hlv;clear Hl1 hb2 HB hlnew hnL hlat hll hbw hlc hF2 HF0;go_wp2;refine HK.o _ _ ⟨rfl,rfl,rfl,rfl,rfl,rfl,rfl,rfl⟩ (fun e a2 w' v3 n3 xs3 he hd hm=> ?_) (fun a2 w' v2 out he hd hr=> ?_)
   ·exact ⟨hd,cf.err he (HM.o _ _ _ _ hm)⟩
   ·exact ⟨hd,.tuple #[],results_none rfl _ _ _,cf.ok he (HE.o _ _ _ hr)⟩
