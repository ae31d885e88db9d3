/-
Parts of a proof.
-/
import Derived.Test.YtfenoaeoedobmaaGreatDoorOw16
set_option linter.unusedVariables false
set_option linter.unusedSimpArgs false
set_option maxHeartbeats 4000000
set_option maxRecDepth 20000
namespace Go.Proofs.YtfenoaeoedobmaaGreatDoor
open Go Go.RowKit
def dK (ms:List NdM) (m:NdM):List NdM:=m.nd.kids.map fun k=>ms[k.toNat]!
theorem iK (ms:List NdM) (m:NdM):(dK ms m).length=m.nd.kids.length:=List.length_map ..
theorem CP {ms:List NdM} {m:NdM} {j k:Nat} {mk:NdM} (hx:m.nd.kids[j]? =some (k:Int)) (hk:ms[k]? =some mk):(dK ms m)[j]? =some mk:=by
 unfold dK;rw[List.getElem?_map,hx];simp[List.getElem!_eq_getElem?_getD,hk]
theorem I0 (m:NdM):m.cells.length=6:=rfl
theorem oM (m:NdM) {ao:Option Addr} {q c:Nat} (h:m.kv= .slice ao q c):∀u∈m.cells,u.oneCell'=true:=by
 intro u hu;unfold NdM.cells at hu;rw[h]at hu;simp only[List.mem_cons,List.not_mem_nil,or_false]at hu;rcases hu with rfl|rfl|rfl|rfl|rfl|rfl<;>rfl
theorem yX {α:Type} {l:List α} {j:Nat} {x:α} {f:α->List Value} (h:l[j]? =some x):(l.take (j+1)).flatMap f=(l.take j).flatMap f++f x:=by
 rw[List.take_add_one,h];simp
theorem zY {ns:List Nd} {n:Nd} {a b:Nat} (h:¬n.kind=3):cn ns n a b= .error (n.line,123):=by unfold cn;rw[if_pos h]
theorem zX {ns:List Nd} {n:Nd} {a b:Nat} (h:n.kind=3) (h2:n.kids.length<a\/b<n.kids.length):cn ns n a b= .error (n.line,124):=by unfold cn;rw[if_neg (fun q=>q h),if_pos h2]
theorem CD {ns:List Nd} {n:Nd} {a b:Nat} (h:n.kind=3) (h2:¬(n.kids.length<a\/b<n.kids.length)):cn ns n a b= .ok (n.kids.map fun k=>ns[k.toNat]!):=by unfold cn;rw[if_neg (fun q=>q h),if_neg h2]
theorem wI (w:World) (db b o cap:Nat) (ms:List NdM) (h:DocM w db b o cap ms) (m:NdM) (hm:m∈ms) (least most:Nat) (hmost:most<=1000) (hleast:least<=1000):
 Calls Tryz.prog 80 #[.pointer (some ⟨db,0,none⟩),m.v,.int .i64 (least:Int),.int .i64 (most:Int)] w fun r w'=>
  (match cn (nds ms) m.nd least most with| .ok _=>∃v,r= .returned v/\SlR w' v 6 (dK ms m) NdM.cells/\(∀g,v.ownBlock=some g->w.heap.size<=g)| .error e=>r=Pan e)/\Below w.heap.size w w':=by
 have hok:=h.ok hm;obtain ⟨ao2,c2,hkv,hl2,hks⟩:=aF hok.kids;obtain ⟨q,hq⟩:=ex (m.nd.kids.length);rw[<-hq]at hkv hl2 hks;have HD:=hid h;obtain ⟨n,hn⟩:=ex (ms.length);have hdoc:=h.doc;rw[<-hn]at hdoc;have d0:w.cell? ⟨db,0,none⟩=some (.slice (some ⟨b,o,none⟩) n cap):=af hdoc 0;have hdlt:=ag hdoc;have Hkid:=hid (fun j (hj:j<q)=>show ∃(k:Nat) (mk:NdM),m.nd.kids[j]? =some (k:Int)/\ms[k]? =some mk/\k<n from by
  obtain ⟨x,hx⟩:∃x,m.nd.kids[j]? =some x:=au (by omega);obtain ⟨k,mk,e,hk,_⟩:=h.kid hm (List.mem_of_getElem? hx);exact ⟨k,mk,by rw[hx,e],hk,by rw[hn];exact (aAh hk).1⟩)
 have Hks:=hid hks;have Hq:=hid hq;have Hbn:=hid (fun o=>(aAb w.heap.size w).alloc (aAa _) o);have Hfail:=hid (fun w1 l e=>iu w1 l e);rw[aZ hkv];obtain ⟨kind,hkind⟩:=ex (m.nd.kind);rw[<-hkind];by_cases h3:kind=3
 ·have t3:(kind==3)=true:=by rw[beq_iff_eq];exact h3
  by_cases hfew:q<least\/most<q
  ·rw[zX (by rw[<-hkind];exact h3) (by rw[<-hq];exact hfew)];simp only;by_cases hl:q<least
   ·have t1:decide (q<least)=true:=dT hl;clear h hm hok hkv hq hks hl2 hn hdoc hkind hfew hl HD Hkid Hks hdlt d0 hmost hleast h3;go_enter Tryz.func80,Tryz.ntmps80
    go_wp2_with fail
    refine (Hfail.o _ _ _).mono ?_;rintro r w1 ⟨rfl,rfl⟩;exact ⟨rfl,rfl,Hbn.o _⟩
   ·have t1:decide (q<least)=false:=dF hl;have t2:decide (most<q)=true:=dT (by omega);clear h hm hok hkv hq hks hl2 hn hdoc hkind hfew hl HD Hkid Hks hdlt d0 hmost hleast h3;go_enter Tryz.func80,Tryz.ntmps80
    go_wp2_with fail
    refine (Hfail.o _ _ _).mono ?_;rintro r w1 ⟨rfl,rfl⟩;exact ⟨rfl,rfl,Hbn.o _⟩
  ·rw[CD (by rw[<-hkind];exact h3) (by rw[<-hq];exact hfew)];simp only;have t1:decide (q<least)=false:=dF (by omega);have t2:decide (most<q)=false:=dF (by omega);have Hq1:=hid (show q<=1000 by omega);have Hdlt:=hid hdlt;have Hblt:=hid h.blt;have H0:=hid (fun o=>RO.start (e:= 55) (sz:=6) (Hbn.o o));have Hd1:=hid (show 0<6 by decide);have Hd2:=hid (show 80<=1000 by decide);clear h hm hok hkv hq hks hl2 hn hdoc hkind hfew hdlt hmost hleast h3
   go_enter Tryz.func80,Tryz.ntmps80;go_wp2
   go_loopw [8,35] (fun vv vi wr=>∃(v2:Value) (j:Nat),v2=vv/\vi= .int .i64 (j:Int)/\Hid (j<=q/\RO w wr 55 6 v2 j (((dK ms m).take j).flatMap NdM.cells))) (fun _ vi _=>q-(intOf vi).toNat)
   case atStart=>exact ⟨_,0,rfl,rfl,hid ⟨Nat.zero_le _,H0.o _⟩⟩
   case round=>
    clear H0 t1 t2 t3;obtain ⟨v2,j,rfl,rfl,H⟩:=hrel;by_cases hj:j<q
    ·have tj:decide (j<q)=true:=dT hj;have bj:(j:Int)<(q:Int):=by omega
     obtain ⟨k,mk,hx,hk,hkn⟩:=Hkid.o j hj;obtain ⟨b2,o2,rfl,hb2,hc⟩:=Hks.o (by omega);have hbl:=H.o.2.below;have x1:=(hbl.cell (p:=⟨b2,o2+j,none⟩) hb2).trans (hc j _ hx);have d1:=(hbl.cell (p:=⟨db,0,none⟩) Hdlt.o).trans d0;have c:=(HD.o.at hk).1;have hokk:=(HD.o.at hk).2;obtain ⟨ao3,c3,hkv3,_,_⟩:=aF hokk.kids;obtain ⟨q3,hq3⟩:=ex (mk.nd.kids.length);rw[<-hq3]at hkv3;have y0:=(hbl.cell (p:=⟨b,o+k*6,none⟩) Hblt.o).trans c.c0
     have y1:=(hbl.cell (p:=⟨b,o+k*6+1,none⟩) Hblt.o).trans c.c1;have y2:=(hbl.cell (p:=⟨b,o+k*6+2,none⟩) Hblt.o).trans c.c2;have y3:=(hbl.cell (p:=⟨b,o+k*6+3,none⟩) Hblt.o).trans c.c3;have y4:=(hbl.cell (p:=⟨b,o+k*6+4,none⟩) Hblt.o).trans c.c4;have y5:=(hbl.cell (p:=⟨b,o+k*6+5,none⟩) Hblt.o).trans c.c5;rw[hkv3]at y5;have bk:(k:Int)<(n:Int):=by omega
     have hat:=CP (ms:=ms) hx hk;have hfl:=yX (f:=NdM.cells) hat;obtain ⟨Hms,Hgo⟩:=aM (k:=j) (n:=q) hj (by have:=Hq1.o;omega);have Hown:=hid (fun o=>H.o.2.row.alloc o);have Hone:=hid (oM mk hkv3);have Harr:=hid (show (#[.int .i64 mk.nd.kind,.string mk.nd.key,.string mk.nd.text,.bool mk.nd.quoted,.int .i64 mk.nd.line,.slice ao3 q3 c3]:Array Value).toList=mk.cells by unfold NdM.cells;rw[hkv3])
     have Hjl:=hid (show j<=1000000 by have:=Hq1.o;omega);have Hend:=hid (fun o v' w2 a1 a2 a3=>show j+1<=q/\RO w w2 55 6 v' (j+1) (((dK ms m).take (j+1)).flatMap NdM.cells) from ⟨hj,by
      have:=RO.app (w1:=wr.alloc o) (v':=v') (w2:=w2) (m:=j+1) (ys:=((dK ms m).take j).flatMap NdM.cells++mk.cells) H.o.2 ((aAb _ wr).alloc (aAa _) o) a1 a2 a3;rw[hfl];exact this⟩)
     clear hat hfl hx hc hb2 hbl hk hkn c hokk hkv3 hq3 H Hkid Hks HD hj d0
     go_wp2_with (at_builtin;refine qF 55 33 (.agg #[.int .i64 0,.string ⟨#[]⟩,.string ⟨#[]⟩,.bool false,.int .i64 0,.slice none 0 0]) 6 80 Tryz.underlying33 iI rfl Hd1.o Hd2.o rfl _ _ rfl v2 j (((dK ms m).take j).flatMap NdM.cells) rfl (Hown.o _) wr.heap.size #[.int .i64 mk.nd.kind,.string mk.nd.key,.string mk.nd.text,.bool mk.nd.quoted,.int .i64 mk.nd.line,.slice ao3 q3 c3] mk.cells rfl (ah _) Harr.o rfl Hone.o Hjl.o (j+1) rfl ?_;intro ao4 c4 w2 own2 gr2 new2;have HE:=hid (Hend.o _ _ _ own2 gr2 new2);clear own2 gr2 new2)
     go_roundw
     case rel=>exact ⟨_,_,_,⟨j+1,Hgo.o,HE⟩,rfl,rfl,rfl⟩
     case measure=>exact Hms.o
    ·have tj:decide (j<q)=false:=dF hj;have He:=hid (show SlR wr v2 6 (dK ms m) NdM.cells/\(∀g,v2.ownBlock=some g->w.heap.size<=g)/\Below w.heap.size w wr from by
      have ej:j=q:=by have:=H.o.1;omega
      subst ej;have h2:=H.o.2;rw[List.take_of_length_le (by rw[iK];have:=Hq.o;omega)]at h2;exact ⟨SlR.ofRow h2.row (by rw[iK];exact Hq.o) I0 (by have:=Hq1.o;omega) (by decide),h2.new,h2.below⟩)
     clear H Hkid Hks hj HD d0;go_wp2;go_ret;exact ⟨⟨_,rfl,He.o.1,He.o.2.1⟩,He.o.2.2⟩
 ·have t3:(kind==3)=false:=by rw[beq_eq_false_iff_ne];exact h3
  have p3:¬kind=3:=h3;rw[zY (by rw[<-hkind];exact h3)];simp only;clear h hm hok hkv hq hks hl2 hn hdoc hkind HD Hkid Hks hdlt d0 hmost hleast h3;go_enter Tryz.func80,Tryz.ntmps80
  go_wp2_with fail
  refine (Hfail.o _ _ _).mono ?_;rintro r w1 ⟨rfl,rfl⟩;exact ⟨rfl,rfl,Hbn.o _⟩
theorem CX:∀i:Fin 101,ey (floatOfInt .f64 (i.val:Int))=floatOfInt .f64 (i.val:Int)/\floatOfInt .f64 (i.val:Int)<INF:=by decide+kernel
theorem Ah {i:Int} (h1:¬i<0) (h2:¬100<i):ey (floatOfInt .f64 i)=floatOfInt .f64 i/\floatOfInt .f64 i<INF:=by
 obtain ⟨n,rfl⟩:∃n:Nat,i=(n:Int):=⟨i.toNat,by omega⟩;exact CX ⟨n,by omega⟩
theorem Fe {x:Nat} (h:x<18446744073709551616):j9 x<18446744073709551616:=by
 have e:(18446744073709551616:Nat)=2 ^ 64:=by decide
 rw[e]at h |-;exact Nat.xor_lt_two_pow h (by decide)
theorem vP (s:ByteArray):(ke s).real<18446744073709551616:=by
 unfold ke
 split
 ·exact (by decide:(0:Nat)<18446744073709551616)
 ·split
  ·rename_i m k b _
   have h1:=vH m k
   show (if b=true then j9 (scW m k) else scW m k)<_
   split
   ·exact Fe h1
   ·exact h1
  ·exact (by decide:(0:Nat)<18446744073709551616)
theorem oB (s:ByteArray) (q:Bool):(aX s q).real<18446744073709551616:=by
 unfold aX
 repeat' split
 all_goals first|exact (by decide:(0:Nat)<18446744073709551616)|exact (by decide:zS<18446744073709551616)|exact (by decide:Ai<18446744073709551616)|exact (by decide:qL<18446744073709551616)|exact vP s
def JP {α:Type} (f:α->Value) (x:R α) (r:Ending):Prop:=match x with| .ok a=>r= .returned (f a)| .error e=>r=Pan e
theorem rh {n:Nd} (h:¬n.kind=1):cw n= .error (n.line,123):=by unfold cw;rw[if_pos h]
theorem sv {x:Nat} (h:x<INF):∀w,(binOp .add 56 (.float .f64 x) (.float .f64 0)).run Tryz.prog w= .ok (.float .f64 x) w:=by
 intro w;have:=add0 h;have h2:FloatKind.f64.format.add x 0=some x:=this;simp[binOp,Op.floatArith,h2]
theorem AU (w:World) (m:NdM) (hm:m.Ok w) (hg:Glob w):
 Calls Tryz.prog 81 #[m.v] w fun r w'=>JP (fun x=> .float .f64 x) (cw m.nd) r/\Below w.heap.size w w':=by
 obtain ⟨ao,c,hkv,_⟩:=gQ hm.kids;have hts:=hm.text;rw[aZ hkv];obtain ⟨⟨kind,key,text,quoted,line,kids⟩,kv⟩:=m;simp only at hkv hts |-;subst hkv;generalize kids.length=n at*;have hsf:∀(W:World) (a:Addr) (r:Nat),(store a (.float .f64 r)).run Tryz.prog W=stored Tryz.prog W a (.float .f64 r) .plain:=fun W a r=>run_store _ W a _ _ rfl;have Hb0:=hid (fun o=>(aAb w.heap.size w).alloc (aAa _) o)
 have Hf:=hid (fun w1=>iu w1 line 123);by_cases hk:kind=1
 ·have hw:cw ⟨kind,key,text,quoted,line,kids⟩=if (aX text quoted).kind=3 then
   (if (aX text quoted).int<0\/100<(aX text quoted).int then .error (line,123) else .ok (floatOfInt .f64 (aX text quoted).int))
   else if (aX text quoted).kind=4 then
   (if ji (aX text quoted).real=true then .ok (ey (aX text quoted).real) else .error (line,123))
   else .error (line,123):=by
   unfold cw;rw[if_neg (fun q=>q hk)]
  rw[hw];have hrl:=oB text quoted;have Hr:=hid (fun w1 (hb1:Below w.heap.size w w1)=>l5 w1 text (by omega) quoted (hg.later hb1).rng);unfold lO at Hr;generalize aX text quoted=rv at*;obtain ⟨vk,vb,vi,vr,vt⟩:=rv;unfold Val.v bI at Hr;simp only at hrl Hr |-;have hb0:=Hb0.o (.cells #[.int .i64 1,.string key,.string text,.bool quoted,.int .i64 line,.slice ao n c] 55)
  subst hk;clear hw hm hts hg;have hadd0:=sv (x:=0) (by unfold INF;decide);by_cases k3:vk=3
  ·rw[if_pos k3];have t3:(vk==3)=true:=by rw[beq_iff_eq];exact k3
   by_cases hi:vi<0\/100<vi
   ·rw[if_pos hi];by_cases h0:vi<0
    ·have t1:decide (vi<0)=true:=dT h0;clear hi h0 k3 hrl hadd0;go_enter Tryz.func81,Tryz.ntmps81
     go_wp2_with fail
     refine (Hr.o _ hb0).mono ?_;rintro r w1 ⟨rfl,hb⟩;have hlt:w.heap.size<w1.heap.size:=by have:=hb.size;simp at this;omega
     have D4:∀ob,(w1.alloc ob).cell? ⟨w.heap.size,4,none⟩=some (.int .i64 line):=fun ob=>(World.cell?_of_block (aj ob hlt)).trans ((hb.cell (p:=⟨w.heap.size,4,none⟩) (by simp)).trans (af (ah _) 4));have Hb:=hid (hb0.trans (hb.mono hb0.size));clear hb Hr hb0
     go_wp2_with fail
     refine (Hf.o _).mono ?_;rintro r w2 ⟨rfl,rfl⟩;exact ⟨rfl,rfl,(Hb.o).alloc (Below.size Hb.o) _⟩
    ·have t1:decide (vi<0)=false:=dF h0;have t2:decide (100<vi)=true:=dT (by omega);clear hi h0 k3 hrl hadd0;go_enter Tryz.func81,Tryz.ntmps81
     go_wp2_with fail
     refine (Hr.o _ hb0).mono ?_;rintro r w1 ⟨rfl,hb⟩;have hlt:w.heap.size<w1.heap.size:=by have:=hb.size;simp at this;omega
     have D4:∀ob,(w1.alloc ob).cell? ⟨w.heap.size,4,none⟩=some (.int .i64 line):=fun ob=>(World.cell?_of_block (aj ob hlt)).trans ((hb.cell (p:=⟨w.heap.size,4,none⟩) (by simp)).trans (af (ah _) 4));have Hb:=hid (hb0.trans (hb.mono hb0.size));clear hb Hr hb0
     go_wp2_with fail
     refine (Hf.o _).mono ?_;rintro r w2 ⟨rfl,rfl⟩;exact ⟨rfl,rfl,(Hb.o).alloc (Below.size Hb.o) _⟩
   ·rw[if_neg hi];have t1:decide (vi<0)=false:=dF (by omega);have t2:decide (100<vi)=false:=dF (by omega);obtain ⟨z1,z2⟩:=Ah (i:=vi) (by omega) (by omega);have hadd:=sv z2;cases ho:(FloatKind.f64.format.order (floatOfInt .f64 vi) 0==some .eq) with
    |true=>
     have He:=hid (show floatOfInt .f64 vi=0 by rw[<-z1];unfold ey;rw[if_pos ho]);clear hi k3 z1 z2 hrl hadd;go_enter Tryz.func81,Tryz.ntmps81
     go_wp2_with fail
     refine (Hr.o _ hb0).mono ?_;rintro r w1 ⟨rfl,hb⟩;have Hb:=hid (hb0.trans (hb.mono hb0.size));clear hb Hr hb0 Hf;go_wp2;go_ret;exact ⟨by rw[He.o];rfl,(Hb.o).alloc (Below.size Hb.o) _⟩
    |false=>
     clear hi k3 z1 z2 hrl hadd0;go_enter Tryz.func81,Tryz.ntmps81
     go_wp2_with fail
     refine (Hr.o _ hb0).mono ?_;rintro r w1 ⟨rfl,hb⟩;have Hb:=hid (hb0.trans (hb.mono hb0.size));clear hb Hr hb0 Hf;go_wp2;go_ret;exact ⟨rfl,(Hb.o).alloc (Below.size Hb.o) _⟩
  ·rw[if_neg k3];have t3:(vk==3)=false:=by rw[beq_eq_false_iff_ne];exact k3
   by_cases k4:vk=4
   ·rw[if_pos k4];have t4:(vk==4)=true:=by rw[beq_iff_eq];exact k4
    cases hc:ji vr with
    |true=>
     rw[if_pos rfl];have hfin:=pC hrl hc;have hadd:=sv hfin;have hc2:=hc;unfold ji at hc2;rw[Bool.and_eq_true]at hc2;obtain ⟨c1,c2⟩:=hc2;unfold nK at c2;cases ho:(FloatKind.f64.format.order vr 0==some .eq) with
     |true=>
      have e:ey vr=0:=by unfold ey;rw[if_pos ho]
      rw[e];have c3:(FloatKind.f64.format.order vr 0==some .gt||true)=true:=by simp
      rw[ho]at c1;clear k3 k4 hrl hc hfin hadd e c3 c1;go_enter Tryz.func81,Tryz.ntmps81
      go_wp2_with fail
      refine (Hr.o _ hb0).mono ?_;rintro r w1 ⟨rfl,hb⟩;have Hb:=hid (hb0.trans (hb.mono hb0.size));clear hb Hr hb0 Hf;go_wp2;go_ret;exact ⟨rfl,(Hb.o).alloc (Below.size Hb.o) _⟩
     |false=>
      have e:ey vr=vr:=by unfold ey;rw[if_neg (by rw[ho];decide)]
      rw[e]at hadd |-;rw[ho,Bool.or_false]at c1;clear k3 k4 hrl hc hfin e hadd0;go_enter Tryz.func81,Tryz.ntmps81
      go_wp2_with fail
      refine (Hr.o _ hb0).mono ?_;rintro r w1 ⟨rfl,hb⟩;have Hb:=hid (hb0.trans (hb.mono hb0.size));clear hb Hr hb0 Hf;go_wp2;go_ret;exact ⟨rfl,(Hb.o).alloc (Below.size Hb.o) _⟩
    |false=>
     rw[if_neg (by decide)];unfold ji nK at hc;clear k3 k4 hrl hadd0;cases c1:(FloatKind.f64.format.order vr 0==some .gt||FloatKind.f64.format.order vr 0==some .eq) with
     |true=>
      rw[c1,Bool.true_and]at hc;go_enter Tryz.func81,Tryz.ntmps81
      go_wp2_with fail
      refine (Hr.o _ hb0).mono ?_;rintro r w1 ⟨rfl,hb⟩;have hlt:w.heap.size<w1.heap.size:=by have:=hb.size;simp at this;omega
      have D4:∀ob,(w1.alloc ob).cell? ⟨w.heap.size,4,none⟩=some (.int .i64 line):=fun ob=>(World.cell?_of_block (aj ob hlt)).trans ((hb.cell (p:=⟨w.heap.size,4,none⟩) (by simp)).trans (af (ah _) 4));have Hb:=hid (hb0.trans (hb.mono hb0.size));clear hb Hr hb0
      go_wp2_with fail
      refine (Hf.o _).mono ?_;rintro r w2 ⟨rfl,rfl⟩;exact ⟨rfl,rfl,(Hb.o).alloc (Below.size Hb.o) _⟩
     |false=>
      clear hc;go_enter Tryz.func81,Tryz.ntmps81
      go_wp2_with fail
      refine (Hr.o _ hb0).mono ?_;rintro r w1 ⟨rfl,hb⟩;have hlt:w.heap.size<w1.heap.size:=by have:=hb.size;simp at this;omega
      have D4:∀ob,(w1.alloc ob).cell? ⟨w.heap.size,4,none⟩=some (.int .i64 line):=fun ob=>(World.cell?_of_block (aj ob hlt)).trans ((hb.cell (p:=⟨w.heap.size,4,none⟩) (by simp)).trans (af (ah _) 4));have Hb:=hid (hb0.trans (hb.mono hb0.size));clear hb Hr hb0
      go_wp2_with fail
      refine (Hf.o _).mono ?_;rintro r w2 ⟨rfl,rfl⟩;exact ⟨rfl,rfl,(Hb.o).alloc (Below.size Hb.o) _⟩
   ·rw[if_neg k4];have t4:(vk==4)=false:=by rw[beq_eq_false_iff_ne];exact k4
    clear k3 k4 hrl hadd0;go_enter Tryz.func81,Tryz.ntmps81
    go_wp2_with fail
    refine (Hr.o _ hb0).mono ?_;rintro r w1 ⟨rfl,hb⟩;have hlt:w.heap.size<w1.heap.size:=by have:=hb.size;simp at this;omega
    have D4:∀ob,(w1.alloc ob).cell? ⟨w.heap.size,4,none⟩=some (.int .i64 line):=fun ob=>(World.cell?_of_block (aj ob hlt)).trans ((hb.cell (p:=⟨w.heap.size,4,none⟩) (by simp)).trans (af (ah _) 4));have Hb:=hid (hb0.trans (hb.mono hb0.size));clear hb Hr hb0
    go_wp2_with fail
    refine (Hf.o _).mono ?_;rintro r w2 ⟨rfl,rfl⟩;exact ⟨rfl,rfl,(Hb.o).alloc (Below.size Hb.o) _⟩
 ·rw[rh hk];have t1:(kind==1)=false:=by rw[beq_eq_false_iff_ne];exact hk
  have p1:¬kind=1:=hk;clear hk hg hm hts;go_enter Tryz.func81,Tryz.ntmps81
  go_wp2_with fail
  refine (Hf.o _).mono ?_;rintro r w1 ⟨rfl,rfl⟩;exact ⟨rfl,rfl,Hb0.o _⟩
