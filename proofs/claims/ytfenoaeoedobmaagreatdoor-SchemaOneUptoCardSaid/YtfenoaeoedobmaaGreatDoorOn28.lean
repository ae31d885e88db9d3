/-
Parts of a proof.
-/
import Derived.Test.YtfenoaeoedobmaaGreatDoorOn27
set_option linter.unusedVariables false
set_option linter.unusedSimpArgs false
set_option maxHeartbeats 4000000
set_option maxRecDepth 20000
namespace Go.Proofs.YtfenoaeoedobmaaGreatDoor
open Go Go.RowKit
def bU (t:Rul):List Value:=[.string t.path,.string t.method,.string t.split,.bool t.allow]
theorem MH:(Tryz.prog.info? 60).map (fun i=>(i.zero,i.size,i.bytes))=some (some (.agg #[.string ⟨#[]⟩,.string ⟨#[]⟩,.string ⟨#[]⟩,.bool false]),4,56):=by kernel_rfl
section
variable {w0 w1 w2 w:World} {Q:Exit->Act->World->Prop} {a:Act} {ms:List NdM} {db rb lb lo q lc j kb tb b o cap:Nat} {la:ByteArray} {act:Bool} {y:NdM}
theorem ru_g {kd:Int} {nm ht rt:ByteArray} {ev tv:Value} {dl:Bool} {out:List Rul} {v:Value} {t:Rul} (hf:RuT a db rb la lb lo q lc j kb tb) (hr:RTg w1 w kb y tb (RlO t.path t.method t.split t.allow)) (nH:out.length<=1000)
 (vg:RF w2 w rb 49 5 (fun v=>#[.int .i64 kd,.string nm,ev,tv,.string ht,v,.string rt,.bool dl]) 60 4 v out.length (out.flatMap bU))
 (ok:∀a' w' v',RuO a' db rb la lb lo q lc j->RF w2 w' rb 49 5 (fun v=>#[.int .i64 kd,.string nm,ev,tv,.string ht,v,.string rt,.bool dl]) 60 4 v' (out++[t]).length ((out++[t]).flatMap bU)->Q .normal a' w'):Vy.wp Tryz.prog Q a w:=by
 obtain ⟨vA,c4,Zo⟩:∃ao c,v= .slice ao out.length c:=by
  rcases vg.row.2 with ⟨hv,hn⟩|⟨g,cap,cur,hv,_⟩
  ·exact ⟨none,0,by rw[hv,hn]⟩
  ·exact ⟨_,_,hv⟩
 subst Zo;have xT:=(vg.cells 5).1;simp at xT;have t0:=aa hr.obj 0;have t1:=aa hr.obj 1;have t2:=aa hr.obj 2;have t3:=aa hr.obj 3;simp at t0 t1 t2 t3;have Zx:∀ob,(w.alloc ob).cell? ⟨rb,5,none⟩=some (.slice vA out.length c4):=fun ob=>(World.cell?_of_block (ai ob (af vg.blk))).trans xT;have Ed:=hid vg;have b9:=hid (fun nd o=>(vg.drewN nd).row.alloc o)
 have Ec:=hid (show 0<4 by decide);have Lu:=hid (show 56<=1000 by decide);have nX:=hid (show ∀u∈bU t,u.oneCell'=true from fun u hu=>by
  unfold bU at hu;simp only[List.mem_cons,List.not_mem_nil,or_false]at hu;rcases hu with rfl|rfl|rfl|rfl<;>rfl)
 have Tp:=hid (show out.length<=1000000 by omega);have aX:=hid (fun nd o v' (w5:World) a1 a2 a3=>show RF w2 (w5.setCell ⟨rb,5,none⟩ v') rb 49 5 (fun v=>#[.int .i64 kd,.string nm,ev,tv,.string ht,v,.string rt,.bool dl]) 60 4 v' (out++[t]).length ((out++[t]).flatMap bU) from by
  have:=RF.put (w2:=w5) (v':=v') (m:=out.length+1) (ys:=out.flatMap bU++bU t) ((Ed.o.drewN nd).later ((aBi (w.drewN nd).heap.size (w.drewN nd)).alloc (aBh _) o)) a1 a2 a3;rw[aBj,List.flatMap_append,List.flatMap_singleton];exact this)
 have jF:=hid (fun nd o w5 (a2:((w.drewN nd).alloc o).grownBy w5 (Value.slice vA out.length c4).ownBlock)=>show w5.heap[rb]? =some (.cells #[.int .i64 kd,.string nm,ev,tv,.string ht,.slice vA out.length c4,.string rt,.bool dl] 49 (0,0)) from
  ((Mod.refl (fun k=>(Value.slice vA out.length c4).ownBlock=some k) ((w.drewN nd).alloc o)).grown a2 (fun k e _=>e)).heap ((ai o (af (Ed.o.drewN nd).blk)).trans (Ed.o.drewN nd).blk) (fun e=>by have:=Ed.o.new rb e;have:=Ed.o.rlt;omega))
 have bh:=hid ok;obtain ⟨vv,rfl,eE⟩:=hf.shape;simp only[oK,eE];clear eE;clear hf ok vg nH hr;refine jR ?_;dsimp only[Vy,ncs,ncl,ncr,ncb,nco,nct,nce,ncx,Tryz.f84];go_wp2
 go_region_law (refine zZ 60 47 (.agg #[.string ⟨#[]⟩,.string ⟨#[]⟩,.string ⟨#[]⟩,.bool false]) 4 56 Tryz.underlying47 MH rfl Ec.o Lu.o rfl _ _ rfl (.slice vA out.length c4) out.length (out.flatMap bU) rfl (b9.o _ _) w.heap.size #[.string t.path,.string t.method,.string t.split,.bool t.allow] (bU t) rfl (ag _) rfl rfl nX.o Tp.o (out.length+1) rfl ?_;intro gd c5 w5 aB bC aA;have HE:=hid (aX.o _ _ _ _ aB bC aA);have q1:=aa (jF.o _ _ w5 bC) 5;have q2:=ah (jF.o _ _ w5 bC) 5;simp at q1;clear aB bC aA)
 all_goals go_wp2
 all_goals exact bh.o _ _ _ ⟨rfl,rfl,rfl,rfl,rfl,rfl,rfl,rfl⟩ HE.o
theorem Vs {ns:List Nd} {k:Nd} {e:fx} (h:dg k= .error e\/(dg k= .ok ()/\bE ns [bS,a9,jr act] k.kids= .error e)):fy ns act k= .error e:=by
 rw[lz];rcases h with h|⟨h,h2⟩
 ·rw[h]
 ·rw[h];simp only;rw[h2]
theorem Vr {ns:List Nd} {k:Nd} {e:fx} (h1:dg k= .ok ()) (h2:bE ns [bS,a9,jr act] k.kids= .ok ()) (h3:Bs ns act k= .error e):fy ns act k= .error e:=by
 rw[lz,h1];simp only;rw[h2];simp only;rw[h3]
theorem Vq {ns:List Nd} {k:Nd} {e:fx} {av:ByteArray} (h1:dg k= .ok ()) (h2:bE ns [bS,a9,jr act] k.kids= .ok ()) (h3:Bs ns act k= .ok av) (h4:nwP ns k bS ja= .error e):fy ns act k= .error e:=by
 rw[lz,h1];simp only;rw[h2];simp only;rw[h3];simp only;rw[h4]
theorem Vp {ns:List Nd} {k:Nd} {e:fx} {av p:ByteArray} (h1:dg k= .ok ()) (h2:bE ns [bS,a9,jr act] k.kids= .ok ()) (h3:Bs ns act k= .ok av) (h4:nwP ns k bS ja= .ok p) (h5:yb ns k= .error e):fy ns act k= .error e:=by
 rw[lz,h1];simp only;rw[h2];simp only;rw[h3];simp only;rw[h4];simp only;rw[h5]
theorem Vo {ns:List Nd} {k:Nd} {e:fx} {av p m:ByteArray} (h1:dg k= .ok ()) (h2:bE ns [bS,a9,jr act] k.kids= .ok ()) (h3:Bs ns act k= .ok av) (h4:nwP ns k bS ja= .ok p) (h5:yb ns k= .ok m) (h6:Jo ns act k= .error e):fy ns act k= .error e:=by
 rw[lz,h1];simp only;rw[h2];simp only;rw[h3];simp only;rw[h4];simp only;rw[h5];simp only;rw[h6]
theorem Vn {ns:List Nd} {k:Nd} {av p m s:ByteArray} (h1:dg k= .ok ()) (h2:bE ns [bS,a9,jr act] k.kids= .ok ()) (h3:Bs ns act k= .ok av) (h4:nwP ns k bS ja= .ok p) (h5:yb ns k= .ok m) (h6:Jo ns act k= .ok s):fy ns act k= .ok ⟨p,m,s,decide (av=kAllow)⟩:=by
 rw[lz,h1];simp only;rw[h2];simp only;rw[h3];simp only;rw[h4];simp only;rw[h5];simp only;rw[h6]
theorem yJ {ns:List Nd} {k:Nd} {r:List Nd} {out:List Rul} {e:fx} (h:fy ns act k= .error e):cc ns act (k::r) out= .error e:=by rw[cc,h]
theorem Cf {ns:List Nd} {k:Nd} {r:List Nd} {out:List Rul} {t:Rul} (h:fy ns act k= .ok t):cc ns act (k::r) out=cc ns act r (out++[t]):=by rw[cc,h]
theorem Rs {kd:Int} {nm ht rt:ByteArray} {ev tv:Value} {dl:Bool} {ks:List NdM} {L:List Nd} (hla:la=jr act) (hD:DocB w0 w2 db b o cap ms) (hne:rb≠db) (hrb:w0.heap.size<=rb) (hlr:lb≠rb) (hL:L=ks.map (·.nd)) (hkq:ks.length=q) (hq8:q<=1000) (hks:∀y∈ks,y∈ms)
 (hlc:∀i y,ks[i]? =some y->∀c u,(NdM.cells y)[c]? =some u->w2.cell? ⟨lb,lo+i*6+c,none⟩=some u)
 (hf:RuO a db rb la lb lo q lc 0)
 (vg:RF w2 w2 rb 49 5 (fun v=>#[.int .i64 kd,.string nm,ev,tv,.string ht,v,.string rt,.bool dl]) 60 4 (.slice none 0 0) 0 [])
 (bad:∀e a' w' v3 n3 BI,cc (nds ms) act L []= .error e->a'.defers=[]->RF w2 w' rb 49 5 (fun v=>#[.int .i64 kd,.string nm,ev,tv,.string ht,v,.string rt,.bool dl]) 60 4 v3 n3 BI->Q (.panic (jl e)) a' w')
 (ok:∀a' w' v' out,cc (nds ms) act L []= .ok out->a'.defers=[]->RF w2 w' rb 49 5 (fun v=>#[.int .i64 kd,.string nm,ev,tv,.string ht,v,.string rt,.bool dl]) 60 4 v' out.length (out.flatMap bU)->Q (.exit 0) a' w'):(ncb Vx).wp Tryz.prog Q a w2:=by
 show (Code.loop (Code.seq Vw (Code.seq Vv (Code.seq (Code.block 1 GM) YP)))).wp Tryz.prog Q a w2
 refine wp_loop (fun a' w'=>∃(j:Nat) (v:Value) (out:List Rul),j<=q/\out.length=j/\RuO a' db rb la lb lo q lc j/\RF w2 w' rb 49 5 (fun v=>#[.int .i64 kd,.string nm,ev,tv,.string ht,v,.string rt,.bool dl]) 60 4 v out.length (out.flatMap bU)/\cc (nds ms) act L []=cc (nds ms) act (L.drop j) out) (fun a' _=>q-(intOf (a'.tmps.getD 19 undef)).toNat) ⟨0,_,[],Nat.zero_le _,rfl,hf,vg,rfl⟩ ?_
 clear hf vg;rintro a1 w1 ⟨j,v1,out,hj,Ij,gJ,KF,hs⟩;by_cases g7:j<q
 ·obtain ⟨y,hy⟩:∃y,ks[j]? =some y:=aF (by omega);have vd:=hks y (List.mem_of_getElem? hy);have Uf:L[j]? =some y.nd:=by rw[hL,List.getElem?_map,hy];rfl
  rw[iI Uf]at hs;have rP:=KF.mod;have Pc:DocB w0 w1 db b o cap ms:=hD.step rP (fun e=>hne e.symm) (fun k e=>by rw[e];exact hrb);have z:=fun c u (hu:(NdM.cells y)[c]? =some u)=>rP.cell (hlc j y hy c u hu) hlr;have HR:∀(Q':Exit->Act->World->Prop) (a':Act),RuO a' db rb la lb lo q lc j->
   (∀e a2 w' v3 n3 BI,cc (nds ms) act L []= .error e->a2.defers=[]->RF w2 w' rb 49 5 (fun v=>#[.int .i64 kd,.string nm,ev,tv,.string ht,v,.string rt,.bool dl]) 60 4 v3 n3 BI->Q' (.panic (jl e)) a2 w')->
   (∀a2 w' v2 t,RuO a2 db rb la lb lo q lc j->RF w2 w' rb 49 5 (fun v=>#[.int .i64 kd,.string nm,ev,tv,.string ht,v,.string rt,.bool dl]) 60 4 v2 (out++[t]).length ((out++[t]).flatMap bU)->cc (nds ms) act L []=cc (nds ms) act (L.drop (j+1)) (out++[t])->Q' .normal a2 w')->
   GM.wp Tryz.prog Q' a' w1:=by
   intro Q' a' im Xe uZ
   show (Code.seq ru3 (Code.seq ru4 (Code.seq ru5 (Code.seq ru6 (Code.seq ru7 (Code.seq MJ (Code.seq MI (Code.seq Jv Vy)))))))).wp Tryz.prog Q' a' w1
   have fq:∀e a2 w',fy (nds ms) act y.nd= .error e->a2.defers=[]->Below w1.heap.size w1 w'->Q' (.panic (jl e)) a2 w':=fun e a2 w' he hd hb=>Xe e a2 w' _ _ _ (hs.trans (yJ he)) hd (KF.later hb);refine ru_a _ Pc vd im g7 (z 0 _ rfl) (z 1 _ rfl) (z 2 _ rfl) (z 3 _ rfl) (z 4 _ rfl) (z 5 _ rfl) (fun e a2 w' he hd hb=>fq e a2 w' (Vs (by rw[hla]at he;exact he)) hd hb) (fun a2 w3 m1 m2 f2 r2=> ?_)
   rw[hla]at m2;have hD2:=Pc.later r2.below;refine ru_b _ hD2 f2 r2 (fun a3 w4 f3 r3 hD3=> ?_);have hs4:=af hD2.doc;have hs5:=hD2.below.size;refine ru_c _ hla rfl hD3 vd f3 r3 (by omega) (by omega) (fun e a2 w' he hd hb=>fq e a2 w' (Vr m1 m2 he) hd hb) (fun a4 w5 av m3 f4 r4 hD4=> ?_);refine ru_d _ hD4 vd f4 r4 (by omega) (by omega) (fun e a2 w' he hd hb=>fq e a2 w' (Vq m1 m2 m3 he) hd hb) (fun a5 w6 p m4 f5 r5 hD5=> ?_)
   refine ru_e _ hD5 vd f5 r5 (by omega) (by omega) (fun e a2 w' he hd hb=>fq e a2 w' (Vp m1 m2 m3 m4 he) hd hb) (fun a6 w7 m m5 f6 r6 hD6=> ?_);refine ru_f _ hla rfl hD6 vd f6 r6 (by omega) (by omega) (fun e a2 w' he hd hb=>fq e a2 w' (Vo m1 m2 m3 m4 m5 he) hd hb) (fun a7 w8 s m6 f7 r7 hD7=> ?_);refine ru_g (t:=⟨p,m,s,decide (av=kAllow)⟩) f7 r7 (by omega) (KF.later r7.rm.below) (fun a8 w9 v9 f8 r8=> ?_)
   exact uZ a8 w9 v9 _ f8 r8 (hs.trans (Cf (Vn m1 m2 m3 m4 m5 m6)))
  obtain ⟨cY,df⟩:=bL (k:=j) (n:=q) g7 (by omega);have mX:=hid HR;have aG:=hid bad;have Hj:=hid (And.intro g7 Ij);have tj:decide (j<q)=true:=dT g7;have wj:wrap64 ((j:Int)+1)=(j:Int)+1:=bK (by omega) (by omega);obtain ⟨vv,rfl,eE⟩:=gJ.shape;simp only[oK,eE];clear eE;clear gJ hs hy vd Uf rP Pc z hj g7 Ij KF bad ok hD hks hlc HR hL hkq hla;dsimp only[Vw,Vv,ncs,ncl,ncr,ncb,nco,nct,nce,ncx,Tryz.f84]
  go_wp2
  rename_i Q1 K1 AV
  have iV:∀(a2:Act) (w':World) (v2:Value) (t:Rul),RuO a2 db rb la lb lo q lc j->RF w2 w' rb 49 5 (fun v=>#[.int .i64 kd,.string nm,ev,tv,.string ht,v,.string rt,.bool dl]) 60 4 v2 (out++[t]).length ((out++[t]).flatMap bU)->cc (nds ms) act L []=cc (nds ms) act (L.drop (j+1)) (out++[t])->K1 a2 w':=by
   intro a2 w' v2 t f2 r2 e2;refine AV _ _ ?_;have HE:=hid (And.intro r2 e2);obtain ⟨Yt,rfl,eE⟩:=f2.shape;simp only[oK,eE];clear eE;clear f2 r2 e2 mX aG;dsimp only[YP,ncs,ncl,ncr,ncb,nco,nct,nce,ncx,Tryz.f84];go_wp2;obtain ⟨z1,z2⟩:=HE.o;exact ⟨⟨j+1,v2,out++[t],Hj.o.1,by rw[aBj,Hj.o.2];rfl,⟨rfl,rfl,rfl,rfl,rfl,rfl,rfl,congrArg some df.o⟩,z1,z2⟩,cY.o⟩
  exact mX.o _ _ ⟨rfl,rfl,rfl,rfl,rfl,rfl,rfl,rfl⟩ (fun e a2 w' v3 n3 BI he hd hm=>aG.o e a2 w' v3 n3 BI he hd hm) (fun a2 w' v2 t f2 r2 e2=>iV a2 w' v2 t f2 r2 e2)
 ·have jA:cc (nds ms) act L []= .ok out:=by
   rw[hs,List.drop_eq_nil_of_le (by rw[hL,List.length_map];omega)];rfl
  have ej:j=q:=by omega
  subst ej;have HO:=hid (fun a' hd=>ok a' w1 v1 out jA hd KF);have ti:decide (j<j)=false:=dF (Nat.lt_irrefl j);obtain ⟨vv,rfl,eE⟩:=gJ.shape;simp only[oK,eE];clear eE;clear gJ hs hj g7 KF bad ok hD hks hlc hL hkq jA hla;dsimp only[Vw,Vv,ncs,ncl,ncr,ncb,nco,nct,nce,ncx,Tryz.f84];go_wp2;exact HO.o _ rfl
end
def gV (ns:List Nd) (act:Bool) (m:Nd):R (List Rul):=
 match bt ns m bZ with
 | .error e=> .error e
 | .ok n=>
 match cp ns n 1 16 with
 | .error e=> .error e
 | .ok l=>cc ns act l []
theorem yK (ns:List Nd) (act:Bool) (m:Nd) (r:Res):gG ns act m r=match gV ns act m with| .ok out=> .ok {r with rules:=out}| .error e=> .error e:=by
 unfold gG gV;cases bt ns m bZ with
 |error e=>rfl
 |ok n=>
  simp only;cases cp ns n 1 16 with
  |error e=>rfl
  |ok l=>
   simp only;cases cc ns act l []<;>rfl
theorem GK (act:Bool) (w0 w:World) (db b o cap:Nat) (ms:List NdM) (h:DocB w0 w db b o cap ms) (m:NdM) (hm:m∈ms) (rb:Nat) (hrb:w0.heap.size<=rb) (hne:rb≠db) (kd:Int) (nm ht rt:ByteArray) (ev tv:Value) (dl:Bool)
 (bg:w.heap[rb]? =some (.cells #[.int .i64 kd,.string nm,ev,tv,.string ht,.slice none 0 0,.string rt,.bool dl] 49 (0,0))):
 Calls Tryz.prog 84 #[.pointer (some ⟨db,0,none⟩),m.v,.pointer (some ⟨rb,0,none⟩),.string (jr act)] w (cR w rb 5 (fun v=>#[.int .i64 kd,.string nm,ev,tv,.string ht,v,.string rt,.bool dl]) 60 4 bU (gV (nds ms) act m.nd)):=by
 obtain ⟨la,hla⟩:=ex (jr act);rw[<-hla];have hM:=h.toM;have hok:=hM.ok hm;obtain ⟨kp,c2,cI,_,_⟩:=aL hok.kids;obtain ⟨q,hq⟩:=ex (m.nd.kids.length);rw[<-hq]at cI;have Hf:=hid (fun w1 (bG:Below w.heap.size w w1)=>kS w1 db b o cap ms (hM.later bG) m hm bZ);rw[bA cI]at Hf |-;have fD:=hid (fun o=>(aBi w.heap.size w).alloc (aBh _) o);have Pb:RF w w rb 49 5 (fun v=>#[.int .i64 kd,.string nm,ev,tv,.string ht,v,.string rt,.bool dl]) 60 4 (.slice none 0 0) 0 []:=RF.first bg (fun _ _=>rfl)
 have tu:=hid Pb;have HD:=hid h;have iC:bZ=⟨#[114,117,108,101,115]⟩:=rfl;cases eh:bH (nds ms) m.nd bZ with
 |none=>
  have hx:gV (nds ms) act m.nd= .error (m.nd.line,122):=by unfold gV;rw[eA eh]
  rw[hx];rw[eh]at Hf;simp only at Hf;rw[iC]at Hf;clear hM hok hm cI hq bg Pb h eh hx iC hla;go_enter Tryz.func84,Tryz.ntmps84
  go_wp2_with fail
  refine (Hf.o _ (fD.o _)).mono ?_;rintro r w1 ⟨rfl,hb⟩;have cK:=fD.o (.cells #[.int .i64 m.nd.kind,.string m.nd.key,.string m.nd.text,.bool m.nd.quoted,.int .i64 m.nd.line,.slice kp q c2] 55);have HE:=hid (tu.o.later (cK.trans (hb.mono cK.size)));exact ⟨rfl,cR.err rfl HE.o⟩
 |some k=>
  obtain ⟨mk,cN,ed,fh,j7,IM,c3,gO⟩:=cC hM hm eh;have hx:gV (nds ms) act m.nd=match cp (nds ms) mk.nd 1 16 with| .error e=> .error e| .ok l=>cc (nds ms) act l []:=by
   unfold gV;rw[ez eh,fh]
  rw[hx];rw[eh]at Hf;simp only at Hf;rw[iC]at Hf;have pZ:=hid cN;have mJ:=hid (bA gO);have Hl:=hid (fun w1 (bG:Below w.heap.size w w1)=>show Calls Tryz.prog 80 #[.pointer (some ⟨db,0,none⟩),mk.v,.int .i64 1,.int .i64 16] w1 fun r w'=>
   (match cp (nds ms) mk.nd 1 16 with| .ok _=>∃v,r= .returned v/\SlR w' v 6 (fg ms mk) NdM.cells/\(∀g,v.ownBlock=some g->w1.heap.size<=g)| .error e=>r=Pan e)/\Below w1.heap.size w1 w' from
   Fm w1 db b o cap ms (hM.later bG) mk ed 1 16 (by decide) (by decide))
  rw[bA gO]at Hl;have zL:=hid (wY hM ed);have Hkm:=hid (fun y (hy:y∈fg ms mk)=>sD hM ed hy);have Hla:=hid hla;clear eh hx j7 gO cN hok cI hq bg Pb hM h hm fh iC hla;cases qR:cp (nds ms) mk.nd 1 16 with
  |error e=>
   rw[qR]at Hl;simp only at Hl |-;clear qR;go_enter Tryz.func84,Tryz.ntmps84
   go_wp2_with fail
   refine (Hf.o _ (fD.o _)).mono ?_;rintro r w1 ⟨⟨BC,bT,rfl⟩,hb⟩;have e2:=pZ.o;rw[e2]at bT;obtain rfl:=aBm bT;rw[mJ.o];have cK:=fD.o (.cells #[.int .i64 m.nd.kind,.string m.nd.key,.string m.nd.text,.bool m.nd.quoted,.int .i64 m.nd.line,.slice kp q c2] 55);have bG:=cK.trans (hb.mono cK.size);have HB:=hid bG;have IV:=hid (Hl.o w1 bG);clear hb Hf cK bG Hl bT e2
   go_wp2_with fail
   refine IV.o.mono ?_;rintro r w2 ⟨rfl,bI⟩;have HE:=hid (tu.o.later (HB.o.trans (bI.mono HB.o.size)));exact ⟨rfl,cR.err rfl HE.o⟩
  |ok L=>
   rw[qR]at Hl;simp only at Hl |-;obtain ⟨hL,vj,Wp⟩:=lE qR;rw[<-zL.o]at hL;rw[<-lF (ms:=ms)]at vj Wp;have HL:=hid (And.intro hL (And.intro vj Wp));clear qR hL vj Wp;go_enter Tryz.func84,Tryz.ntmps84
   go_wp2_with fail
   refine (Hf.o _ (fD.o _)).mono ?_;rintro r w1 ⟨⟨BC,bT,rfl⟩,hb⟩;have e2:=pZ.o;rw[e2]at bT;obtain rfl:=aBm bT;rw[mJ.o];have cK:=fD.o (.cells #[.int .i64 m.nd.kind,.string m.nd.key,.string m.nd.text,.bool m.nd.quoted,.int .i64 m.nd.line,.slice kp q c2] 55);have bG:=cK.trans (hb.mono cK.size);have HB:=hid bG;have IV:=hid (Hl.o w1 bG);clear hb Hf cK bG Hl bT e2
   go_wp2_with fail
   refine IV.o.mono ?_;rintro r w2 ⟨⟨lv,rfl,jg,ud⟩,bI⟩;have jL:Below w.heap.size w w2:=HB.o.trans (bI.mono HB.o.size);obtain ⟨la',lc,OH,ZL,AR⟩:=jg;obtain ⟨lb,lo,rfl,KJ,hlc⟩:=AR (by have:=HL.o.2.1;omega);have hlr:lb≠rb:=fun e=>by have h1:=ud lb (by rw[OH];rfl);have:=tu.o.rlt;have:=HB.o.size;omega
   obtain ⟨nL,Ik⟩:=ex ((fg ms mk).length);rw[<-Ik]at OH;have hF2:=RF.first (w:=w2) (rb:=rb) (T:= 49) (f:=5) (pre:=fun v=>#[.int .i64 kd,.string nm,ev,tv,.string ht,v,.string rt,.bool dl]) (e:= 60) (sz:=4) ((jL.block _ tu.o.rlt).trans tu.o.blk) (fun _ _=>rfl);have HE:=hid (fun (w':World) (v':Value) (out:List Rul) (hr:RF w2 w' rb 49 5 (fun v=>#[.int .i64 kd,.string nm,ev,tv,.string ht,v,.string rt,.bool dl]) 60 4 v' out.length (out.flatMap bU))=>hr.base jL tu.o.rlt)
   have HM:=hid (fun (w':World) (v3:Value) (n3:Nat) (BI:List Value) (hm:RF w2 w' rb 49 5 (fun v=>#[.int .i64 kd,.string nm,ev,tv,.string ht,v,.string rt,.bool dl]) 60 4 v3 n3 BI)=>hm.base jL tu.o.rlt);have HK:=hid (fun (Q:Exit->Act->World->Prop) (a:Act) (hf:RuO a db rb la lb lo nL lc 0)=>Rs (Q:=Q) (act:=act) (hla:=Hla.o) (hD:=HD.o.later jL) (hne:=hne) (hrb:=hrb) (hlr:=hlr) (hL:=HL.o.1) (hkq:=Ik.symm) (hq8:=by have:=HL.o.2.2;omega) (hks:=Hkm.o) (hlc:=fun i y hi c u hu=>hlc i y hi c u hu) hf hF2)
   subst OH;clear IV bI HB ud Ik AR ZL jL hlc hF2 tu;go_wp2;refine HK.o _ _ ⟨rfl,rfl,rfl,rfl,rfl,rfl,rfl,rfl⟩ (fun e a2 w' v3 n3 BI he hd hm=> ?_) (fun a2 w' v2 out he hd hr=> ?_)
   ·exact ⟨hd,cR.err he (HM.o _ _ _ _ hm)⟩
   ·exact ⟨hd,.tuple #[],results_none rfl _ _ _,cR.ok he (HE.o _ _ _ hr)⟩
