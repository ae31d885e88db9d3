/-
Parts of a proof.
-/
import Derived.Test.YtfenoaeoedobmaaGreatDoorBk22
set_option linter.unusedVariables false
set_option linter.unusedSimpArgs false
set_option maxHeartbeats 4000000
set_option maxRecDepth 20000
namespace Go.Proofs.YtfenoaeoedobmaaGreatDoor
open Go Go.RowKit
abbrev RlO (p m s:ByteArray) (x:Bool):Obj:= .cells #[.string p,.string m,.string s,.bool x] 60
section
variable {w0 w1 w2 w:World} {Q:Exit->Act->World->Prop} {a:Act} {ms:List NdM} {db rb lb lo q lc j kb tb b o cap:Nat} {la:ByteArray} {act:Bool} {y:NdM}
theorem ru_a (X:Code) (hD:DocB w0 w db b o cap ms) (hy:y∈ms) (hf:RuO a db rb la lb lo q lc j) (hj:j<q)
 (z0:w.cell? ⟨lb,lo+j*6,none⟩=some (.int .i64 y.nd.kind)) (z1:w.cell? ⟨lb,lo+j*6+1,none⟩=some (.string y.nd.key)) (z2:w.cell? ⟨lb,lo+j*6+2,none⟩=some (.string y.nd.text)) (z3:w.cell? ⟨lb,lo+j*6+3,none⟩=some (.bool y.nd.quoted)) (z4:w.cell? ⟨lb,lo+j*6+4,none⟩=some (.int .i64 y.nd.line)) (z5:w.cell? ⟨lb,lo+j*6+5,none⟩=some y.kv)
 (bad:∀e a' w',(mapP y.nd= .error e\/(mapP y.nd= .ok ()/\onlyP (nds ms) [kPath,aA7,la] y.nd.kids= .error e))->a'.defers=[]->Below w.heap.size w w'->Q (.panic (PanC e)) a' w')
 (ok:∀a' w',mapP y.nd= .ok ()->onlyP (nds ms) [kPath,aA7,la] y.nd.kids= .ok ()->RuK a' db rb la lb lo q lc j w.heap.size->RMk w w' w.heap.size y->X.wp Tryz.prog Q a' w'):
 (Code.seq ru3 (Code.seq ru4 (Code.seq ru5 X))).wp Tryz.prog Q a w:=by
 have hM:=hD.toM;have hyo:=hM.ok hy;obtain ⟨ay,cy,hyv,_,_⟩:=aAj hyo.kids;obtain ⟨qy,hqy⟩:∃qy,qy=y.nd.kids.length:=⟨_,rfl⟩;rw[<-hqy]at hyv;rw[hyv]at z5;have bj:(j:Int)<(q:Int):=by omega
 have hr:RMk w (w.alloc (NdO y)) w.heap.size y:=RMk.new;have Hm:=hid (fun w3 (hb3:Below w.heap.size w w3)=>aVv w3 y (hyo.later hb3));have Ho:=hid (fun w3 (hb3:Below w.heap.size w w3) (arr:Array Value) (harr:arr.toList=[kPath,aA7,la].map Value.string)=>aN5 (w3.alloc (.cells arr 9)) db b o cap ms (hM.later (hb3.alloc hb3.size _)) y hy (.slice (some ⟨w3.heap.size,0,none⟩) 3 3) [kPath,aA7,la] (aVj w3 _ arr harr 3 rfl (by decide) _))
 have hE:=aN3 hyv;rw[aAx hyv]at Hm Ho;rw[hE]at hr;have HR:=hid hr;have Hbad:=hid bad;have Hok:=hid ok;have Hyv:=hid hyv;obtain ⟨vv,rfl,eE⟩:=hf.shape;simp only[ru_L,eE];clear eE;clear hf bad ok hM hyo hyv hqy hr hE hD hj;cases hmp:mapP y.nd with
 |error e=>
  rw[hmp]at Hm;simp only at Hm;have HB:=hid (fun a' w'=>Hbad.out e a' w' (.inl hmp));clear Hbad Hok hmp Ho;dsimp only[ru3,ru4,ru5,ncs,ncl,ncr,ncb,nco,nct,nce,ncx,Tryz.f84]
  go_wp2_with fail
  refine (Hm.out _ HR.out.below).mono ?_;rintro r w3 ⟨rfl,hb3⟩;exact HB.out _ _ rfl (HR.out.below.trans (hb3.mono HR.out.below.size))
 |ok u=>
  rw[hmp]at Hm;simp only at Hm;cases hop:onlyP (nds ms) [kPath,aA7,la] y.nd.kids with
  |error e=>
   have HB:=hid (fun a' w'=>Hbad.out e a' w' (.inr ⟨hmp,hop⟩));rw[hop]at Ho;unfold Ends at Ho;simp only at Ho;clear Hbad Hok hmp hop;dsimp only[ru3,ru4,ru5,ncs,ncl,ncr,ncb,nco,nct,nce,ncx,Tryz.f84]
   go_wp2_with fail
   refine (Hm.out _ HR.out.below).mono ?_;rintro r w3 ⟨rfl,hb3⟩;have HR3:=hid (HR.out.later hb3);obtain ⟨k0,k1,k2,k3,k4,k5⟩:=aAq HR3.out.kid Hyv.out;have Ho3:=hid (Ho.out w3 HR3.out.below #[.string ⟨#[112,97,116,104]⟩,.string ⟨#[109,101,116,104,111,100]⟩,.string la] rfl);clear hb3 Hm Ho HR
   go_wp2_with fail
   refine Ho3.out.mono ?_;rintro r w4 ⟨rfl,hb4⟩;have hr4:=HR3.out.later ((a7d _ _).alloc (a7c _) (.cells #[.string ⟨#[112,97,116,104]⟩,.string ⟨#[109,101,116,104,111,100]⟩,.string la] 9));exact HB.out _ _ rfl (hr4.below.trans (hb4.mono hr4.below.size))
  |ok u2=>
   have HO:=hid (fun a' w'=>Hok.out a' w' hmp hop);rw[hop]at Ho;unfold Ends at Ho;simp only at Ho;clear Hbad Hok hmp hop;dsimp only[ru3,ru4,ru5,ncs,ncl,ncr,ncb,nco,nct,nce,ncx,Tryz.f84]
   go_wp2_with fail
   refine (Hm.out _ HR.out.below).mono ?_;rintro r w3 ⟨rfl,hb3⟩;have HR3:=hid (HR.out.later hb3);obtain ⟨k0,k1,k2,k3,k4,k5⟩:=aAq HR3.out.kid Hyv.out;have Ho3:=hid (Ho.out w3 HR3.out.below #[.string ⟨#[112,97,116,104]⟩,.string ⟨#[109,101,116,104,111,100]⟩,.string la] rfl);clear hb3 Hm Ho HR
   go_wp2_with fail
   refine Ho3.out.mono ?_;rintro r w4 ⟨rfl,hb4⟩;have hr4:=HR3.out.later ((a7d _ _).alloc (a7c _) (.cells #[.string ⟨#[112,97,116,104]⟩,.string ⟨#[109,101,116,104,111,100]⟩,.string la] 9));have HR4:=hid (hr4.later hb4);clear hb4 Ho3 HR3 k0 k1 k2 k3 k4 k5 hr4;go_wp2;exact HO.out _ _ ⟨rfl,rfl,rfl,rfl,rfl,rfl,rfl,rfl,rfl⟩ HR4.out
theorem ru_b (X:Code) (hD:DocB w0 w db b o cap ms) (hf:RuK a db rb la lb lo q lc j kb) (hr:RMk w1 w kb y)
 (ok:∀a' w',RuT a' db rb la lb lo q lc j kb w.heap.size->RTg w1 w' kb y w.heap.size (RlO ⟨#[]⟩ kStar ⟨#[]⟩ false)->DocB w0 w' db b o cap ms->X.wp Tryz.prog Q a' w'):(Code.seq ru6 X).wp Tryz.prog Q a w:=by
 have HT:=hid (RTg.new hr (RlO ⟨#[]⟩ kStar ⟨#[]⟩ false));have HD:=hid (hD.later ((a7d w.heap.size w).alloc (a7c _) (RlO ⟨#[]⟩ kStar ⟨#[]⟩ false)));have Hok:=hid ok;obtain ⟨vv,rfl,eE⟩:=hf.shape;simp only[ru_L,eE];clear eE;clear hf ok hr hD;dsimp only[ru6,ncs,ncl,ncr,ncb,nco,nct,nce,ncx,Tryz.f84];go_wp2;exact Hok.out _ _ ⟨rfl,rfl,rfl,rfl,rfl,rfl,rfl,rfl,rfl,rfl⟩ HT.out HD.out
theorem ru_c (X:Code) {p1 p2 p3:ByteArray} {pa:Bool} (hla:la=lastK act) (hpa:pa=false) (hD:DocB w0 w db b o cap ms) (hy:y∈ms) (hf:RuT a db rb la lb lo q lc j kb tb) (hr:RTg w1 w kb y tb (RlO p1 p2 p3 pa)) (htb:tb≠db) (htb0:w0.heap.size<=tb)
 (bad:∀e a' w',actP (nds ms) act y.nd= .error e->a'.defers=[]->Below w1.heap.size w1 w'->Q (.panic (PanC e)) a' w')
 (ok:∀a' w' av,actP (nds ms) act y.nd= .ok av->RuT a' db rb la lb lo q lc j kb tb->RTg w1 w' kb y tb (RlO p1 p2 p3 (decide (av=kAllow)))->DocB w0 w' db b o cap ms->X.wp Tryz.prog Q a' w'):(Code.seq ru7 X).wp Tryz.prog Q a w:=by
 have hM:=hD.toM;have hyo:=hM.ok hy;obtain ⟨ay,cy,hyv,_,_⟩:=aAj hyo.kids;obtain ⟨qy,hqy⟩:∃qy,qy=y.nd.kids.length:=⟨_,rfl⟩;rw[<-hqy]at hyv;obtain ⟨k0,k1,k2,k3,k4,k5⟩:=aAq hr.rm.kid hyv;unfold actP at bad ok;cases act with
 |false=>
  have uA:=aGc (s:=la) (arr:=#[97,99,116,105,111,110]) (by rw[hla];unfold lastK;decide);have Hok:=hid ok;have HR:=hid hr;have HD:=hid hD;have Hpa:=hid hpa;obtain ⟨vv,rfl,eE⟩:=hf.shape;simp only[ru_L,eE];clear eE;clear hf bad ok hr hM hyo hyv hqy hy hD hla hpa;dsimp only[ru7,ncs,ncl,ncr,ncb,nco,nct,nce,ncx,Tryz.f84];go_wp2;refine Hok.out _ _ ⟨#[]⟩ rfl ⟨rfl,rfl,rfl,rfl,rfl,rfl,rfl,rfl,rfl,rfl⟩ (by rw[show decide ((⟨#[]⟩:ByteArray)=kAllow)=pa from by rw[Hpa.out];decide];exact HR.out) HD.out
 |true=>
  have hla2:la=aBn:=by rw[hla];rfl
  subst hla2;have uA:=aFr (s:=aBn) (arr:=#[97,99,116,105,111,110]) rfl;rw[if_pos rfl]at bad ok;have ekx:aBn=⟨#[97,99,116,105,111,110]⟩:=rfl;clear hla hpa;have Hn:=hid (aGb w db b o cap ms hM y hy aBn);rw[aAx hyv]at Hn;have hkx:aBn=⟨#[97,99,116,105,111,110]⟩:=rfl;have HR:=hid hr;have HD:=hid hD;have Hbad:=hid bad;have Hok:=hid ok;have hfn:=fun k (hk:aA2 (nds ms) y.nd aBn=some k)=>aBc hM hy hk
  obtain ⟨vv,rfl,eE⟩:=hf.shape;simp only[ru_L,eE];clear eE;clear hf bad ok hr hM hyo hyv hqy hy hD;cases hxa:aA2 (nds ms) y.nd aBn with
  |none=>
   rw[hxa]at Hn;simp only at Hn;rw[hkx]at Hn;have HB:=hid (fun a' w'=>Hbad.out (y.nd.line,122) a' w' (by unfold nwP;rw[aB8 hxa]));clear Hbad Hok hxa hfn hkx;dsimp only[ru7,ncs,ncl,ncr,ncb,nco,nct,nce,ncx,Tryz.f84]
   go_wp2_with fail
   refine Hn.out.mono ?_;rintro r w3 ⟨rfl,hb3⟩;exact HB.out _ _ rfl (HR.out.rm.below.trans (hb3.mono HR.out.rm.below.size))
  |some k=>
   rw[hxa]at Hn;simp only at Hn;rw[hkx]at Hn;obtain ⟨mk,hmk,hmem,hnd,hko,ak,ck,hkv⟩:=hfn k hxa;have hw:nwP (nds ms) y.nd aBn isAct=wordP mk.nd isAct:=by unfold nwP;rw[aB7 hxa,hnd]
   have Hwt:=hid (fun w3 (hb3:Below w.heap.size w w3)=>a0o w3 mk (hko.later hb3));have Hmk:=hid hmk;have hmv:=aAx hkv;have Hmv:=hid hmv;rw[hmv]at Hwt;clear hfn hkx hxa hmk hmem hnd hko hkv hmv;cases hwp:wordP mk.nd isAct with
   |error e=>
    rw[hwp]at Hwt;simp only at Hwt;have HB:=hid (fun a' w'=>Hbad.out e a' w' (hw.trans hwp));clear Hbad Hok hw hwp;dsimp only[ru7,ncs,ncl,ncr,ncb,nco,nct,nce,ncx,Tryz.f84]
    go_wp2_with fail
    refine Hn.out.mono ?_;rintro r w3 ⟨⟨mk2,hmk2,rfl⟩,hb3⟩;have e2:=Hmk.out;rw[e2]at hmk2;obtain rfl:=a7h hmk2;rw[Hmv.out];have Hb3:=hid hb3;have Hw3:=hid (Hwt.out w3 hb3);clear hb3 hmk2 e2 Hn Hwt
    go_wp2_with fail
    refine Hw3.out.mono ?_;rintro r w4 ⟨rfl,hb4⟩;have hbb:=Hb3.out.trans (hb4.mono Hb3.out.size);exact HB.out _ _ rfl (HR.out.rm.below.trans (hbb.mono HR.out.rm.below.size))
   |ok x=>
    rw[hwp]at Hwt;simp only at Hwt;have HO:=hid (fun a' w'=>Hok.out a' w' x (hw.trans hwp));clear Hbad Hok hw hwp;obtain ⟨bv,hbv⟩:∃bv,bv=decide (x=kAllow):=⟨_,rfl⟩;have ub:(x.toList==(#[97,108,108,111,119]:Array UInt8).toList)=bv:=by
     rw[hbv];by_cases e:x=kAllow
     ·rw[dT e];exact aFr e
     ·rw[dF e];exact aGc e
    have Hbv:=hid hbv;clear hbv;dsimp only[ru7,ncs,ncl,ncr,ncb,nco,nct,nce,ncx,Tryz.f84]
    go_wp2_with fail
    refine Hn.out.mono ?_;rintro r w3 ⟨⟨mk2,hmk2,rfl⟩,hb3⟩;have e2:=Hmk.out;rw[e2]at hmk2;obtain rfl:=a7h hmk2;rw[Hmv.out];have Hb3:=hid hb3;have Hw3:=hid (Hwt.out w3 hb3);clear hb3 hmk2 e2 Hn Hwt
    go_wp2_with fail
    refine Hw3.out.mono ?_;rintro r w4 ⟨rfl,hb4⟩;have hbb:=Hb3.out.trans (hb4.mono Hb3.out.size);have HT1:=hid (HR.out.later hbb);have HD1:=hid (HD.out.later hbb);have t1:=aAa HT1.out.obj 3;have t2:=aAd HT1.out.obj 3;simp at t1;have HE:=hid (HT1.out.set 3 (.bool bv));clear hb4 hbb Hw3;go_wp2;refine HO.out _ _ ⟨rfl,rfl,rfl,rfl,rfl,rfl,rfl,rfl,rfl,rfl⟩ (by rw[<-Hbv.out];exact HE.out) ?_;exact HD1.out.step (F:=fun k=>k=tb) ((Mod.refl _ _).setCell _ _ (fun _=>rfl)) (fun e=>htb e.symm) (fun k e=>by rw[e];exact htb0)
theorem ru_d (X:Code) {p1 p2 p3:ByteArray} {pa:Bool} (hD:DocB w0 w db b o cap ms) (hy:y∈ms) (hf:RuT a db rb la lb lo q lc j kb tb) (hr:RTg w1 w kb y tb (RlO p1 p2 p3 pa)) (htb:tb≠db) (htb0:w0.heap.size<=tb)
 (bad:∀e a' w',nwP (nds ms) y.nd kPath patB= .error e->a'.defers=[]->Below w1.heap.size w1 w'->Q (.panic (PanC e)) a' w')
 (ok:∀a' w' av,nwP (nds ms) y.nd kPath patB= .ok av->RuT a' db rb la lb lo q lc j kb tb->RTg w1 w' kb y tb (RlO av p2 p3 pa)->DocB w0 w' db b o cap ms->X.wp Tryz.prog Q a' w'):(Code.seq ru10 X).wp Tryz.prog Q a w:=by
 have hM:=hD.toM;have hyo:=hM.ok hy;obtain ⟨ay,cy,hyv,_,_⟩:=aAj hyo.kids;obtain ⟨qy,hqy⟩:∃qy,qy=y.nd.kids.length:=⟨_,rfl⟩;rw[<-hqy]at hyv;obtain ⟨k0,k1,k2,k3,k4,k5⟩:=aAq hr.rm.kid hyv;have Hn:=hid (aGb w db b o cap ms hM y hy kPath);rw[aAx hyv]at Hn;have hkx:kPath=⟨#[112,97,116,104]⟩:=rfl;have HR:=hid hr;have HD:=hid hD;have Hbad:=hid bad;have Hok:=hid ok;have hfn:=fun k (hk:aA2 (nds ms) y.nd kPath=some k)=>aBc hM hy hk
 obtain ⟨vv,rfl,eE⟩:=hf.shape;simp only[ru_L,eE];clear eE;clear hf bad ok hr hM hyo hyv hqy hy hD;cases hxa:aA2 (nds ms) y.nd kPath with
 |none=>
  rw[hxa]at Hn;simp only at Hn;rw[hkx]at Hn;have HB:=hid (fun a' w'=>Hbad.out (y.nd.line,122) a' w' (by unfold nwP;rw[aB8 hxa]));clear Hbad Hok hxa hfn hkx;dsimp only[ru10,ncs,ncl,ncr,ncb,nco,nct,nce,ncx,Tryz.f84]
  go_wp2_with fail
  refine Hn.out.mono ?_;rintro r w3 ⟨rfl,hb3⟩;exact HB.out _ _ rfl (HR.out.rm.below.trans (hb3.mono HR.out.rm.below.size))
 |some k=>
  rw[hxa]at Hn;simp only at Hn;rw[hkx]at Hn;obtain ⟨mk,hmk,hmem,hnd,hko,ak,ck,hkv⟩:=hfn k hxa;have hw:nwP (nds ms) y.nd kPath patB=wordP mk.nd patB:=by unfold nwP;rw[aB7 hxa,hnd]
  have Hwt:=hid (fun w3 (hb3:Below w.heap.size w w3)=>a0p w3 mk (hko.later hb3));have Hmk:=hid hmk;have hmv:=aAx hkv;have Hmv:=hid hmv;rw[hmv]at Hwt;clear hfn hkx hxa hmk hmem hnd hko hkv hmv;cases hwp:wordP mk.nd patB with
  |error e=>
   rw[hwp]at Hwt;simp only at Hwt;have HB:=hid (fun a' w'=>Hbad.out e a' w' (hw.trans hwp));clear Hbad Hok hw hwp;dsimp only[ru10,ncs,ncl,ncr,ncb,nco,nct,nce,ncx,Tryz.f84]
   go_wp2_with fail
   refine Hn.out.mono ?_;rintro r w3 ⟨⟨mk2,hmk2,rfl⟩,hb3⟩;have e2:=Hmk.out;rw[e2]at hmk2;obtain rfl:=a7h hmk2;rw[Hmv.out];have Hb3:=hid hb3;have Hw3:=hid (Hwt.out w3 hb3);clear hb3 hmk2 e2 Hn Hwt
   go_wp2_with fail
   refine Hw3.out.mono ?_;rintro r w4 ⟨rfl,hb4⟩;have hbb:=Hb3.out.trans (hb4.mono Hb3.out.size);exact HB.out _ _ rfl (HR.out.rm.below.trans (hbb.mono HR.out.rm.below.size))
  |ok x=>
   rw[hwp]at Hwt;simp only at Hwt;have HO:=hid (fun a' w'=>Hok.out a' w' x (hw.trans hwp));clear Hbad Hok hw hwp;dsimp only[ru10,ncs,ncl,ncr,ncb,nco,nct,nce,ncx,Tryz.f84]
   go_wp2_with fail
   refine Hn.out.mono ?_;rintro r w3 ⟨⟨mk2,hmk2,rfl⟩,hb3⟩;have e2:=Hmk.out;rw[e2]at hmk2;obtain rfl:=a7h hmk2;rw[Hmv.out];have Hb3:=hid hb3;have Hw3:=hid (Hwt.out w3 hb3);clear hb3 hmk2 e2 Hn Hwt
   go_wp2_with fail
   refine Hw3.out.mono ?_;rintro r w4 ⟨rfl,hb4⟩;have hbb:=Hb3.out.trans (hb4.mono Hb3.out.size);have HT1:=hid (HR.out.later hbb);have HD1:=hid (HD.out.later hbb);have t1:=aAa HT1.out.obj 0;have t2:=aAd HT1.out.obj 0;simp at t1;have HE:=hid (HT1.out.set 0 (.string x));clear hb4 hbb Hw3;go_wp2;refine HO.out _ _ ⟨rfl,rfl,rfl,rfl,rfl,rfl,rfl,rfl,rfl,rfl⟩ HE.out ?_;exact HD1.out.step (F:=fun k=>k=tb) ((Mod.refl _ _).setCell _ _ (fun _=>rfl)) (fun e=>htb e.symm) (fun k e=>by rw[e];exact htb0)
theorem ru_f (X:Code) {p1 p2 p3:ByteArray} {pa:Bool} (hla:la=lastK act) (hp3:p3=⟨#[]⟩) (hD:DocB w0 w db b o cap ms) (hy:y∈ms) (hf:RuT a db rb la lb lo q lc j kb tb) (hr:RTg w1 w kb y tb (RlO p1 p2 p3 pa)) (htb:tb≠db) (htb0:w0.heap.size<=tb)
 (bad:∀e a' w',splP (nds ms) act y.nd= .error e->a'.defers=[]->Below w1.heap.size w1 w'->Q (.panic (PanC e)) a' w')
 (ok:∀a' w' av,splP (nds ms) act y.nd= .ok av->RuT a' db rb la lb lo q lc j kb tb->RTg w1 w' kb y tb (RlO p1 p2 av pa)->DocB w0 w' db b o cap ms->X.wp Tryz.prog Q a' w'):(Code.seq ru14 X).wp Tryz.prog Q a w:=by
 have hM:=hD.toM;have hyo:=hM.ok hy;obtain ⟨ay,cy,hyv,_,_⟩:=aAj hyo.kids;obtain ⟨qy,hqy⟩:∃qy,qy=y.nd.kids.length:=⟨_,rfl⟩;rw[<-hqy]at hyv;obtain ⟨k0,k1,k2,k3,k4,k5⟩:=aAq hr.rm.kid hyv;unfold splP at bad ok;cases act with
 |true=>
  have uA:=aGc (s:=la) (arr:=#[115,112,108,105,116]) (by rw[hla];unfold lastK;decide);have Hok:=hid ok;have HR:=hid hr;have HD:=hid hD;obtain ⟨vv,rfl,eE⟩:=hf.shape;simp only[ru_L,eE];clear eE;clear hf bad ok hr hM hyo hyv hqy hy hD hla;dsimp only[ru14,ncs,ncl,ncr,ncb,nco,nct,nce,ncx,Tryz.f84];go_wp2;refine Hok.out _ _ ⟨#[]⟩ rfl ⟨rfl,rfl,rfl,rfl,rfl,rfl,rfl,rfl,rfl,rfl⟩ (by rw[<-hp3];exact HR.out) HD.out
 |false=>
  have hla2:la=aAu:=by rw[hla];rfl
  subst hla2;have uA:=aFr (s:=aAu) (arr:=#[115,112,108,105,116]) rfl;rw[if_neg (by decide)]at bad ok;clear hla hp3;have Hn:=hid (aGb w db b o cap ms hM y hy aAu);rw[aAx hyv]at Hn;have hkx:aAu=⟨#[115,112,108,105,116]⟩:=rfl;have HR:=hid hr;have HD:=hid hD;have Hbad:=hid bad;have Hok:=hid ok;have hfn:=fun k (hk:aA2 (nds ms) y.nd aAu=some k)=>aBc hM hy hk;obtain ⟨vv,rfl,eE⟩:=hf.shape
  simp only[ru_L,eE];clear eE;clear hf bad ok hr hM hyo hyv hqy hy hD;cases hxa:aA2 (nds ms) y.nd aAu with
  |none=>
   rw[hxa]at Hn;simp only at Hn;rw[hkx]at Hn;have HB:=hid (fun a' w'=>Hbad.out (y.nd.line,122) a' w' (by unfold nwP;rw[aB8 hxa]));clear Hbad Hok hxa hfn hkx;dsimp only[ru14,ncs,ncl,ncr,ncb,nco,nct,nce,ncx,Tryz.f84]
   go_wp2_with fail
   refine Hn.out.mono ?_;rintro r w3 ⟨rfl,hb3⟩;exact HB.out _ _ rfl (HR.out.rm.below.trans (hb3.mono HR.out.rm.below.size))
  |some k=>
   rw[hxa]at Hn;simp only at Hn;rw[hkx]at Hn;obtain ⟨mk,hmk,hmem,hnd,hko,ak,ck,hkv⟩:=hfn k hxa;have hw:nwP (nds ms) y.nd aAu aAs=wordP mk.nd aAs:=by unfold nwP;rw[aB7 hxa,hnd]
   have Hwt:=hid (fun w3 (hb3:Below w.heap.size w w3)=>aFq w3 mk (hko.later hb3));have Hmk:=hid hmk;have hmv:=aAx hkv;have Hmv:=hid hmv;rw[hmv]at Hwt;clear hfn hkx hxa hmk hmem hnd hko hkv hmv;cases hwp:wordP mk.nd aAs with
   |error e=>
    rw[hwp]at Hwt;simp only at Hwt;have HB:=hid (fun a' w'=>Hbad.out e a' w' (hw.trans hwp));clear Hbad Hok hw hwp;dsimp only[ru14,ncs,ncl,ncr,ncb,nco,nct,nce,ncx,Tryz.f84]
    go_wp2_with fail
    refine Hn.out.mono ?_;rintro r w3 ⟨⟨mk2,hmk2,rfl⟩,hb3⟩;have e2:=Hmk.out;rw[e2]at hmk2;obtain rfl:=a7h hmk2;rw[Hmv.out];have Hb3:=hid hb3;have Hw3:=hid (Hwt.out w3 hb3);clear hb3 hmk2 e2 Hn Hwt
    go_wp2_with fail
    refine Hw3.out.mono ?_;rintro r w4 ⟨rfl,hb4⟩;have hbb:=Hb3.out.trans (hb4.mono Hb3.out.size);exact HB.out _ _ rfl (HR.out.rm.below.trans (hbb.mono HR.out.rm.below.size))
   |ok x=>
    rw[hwp]at Hwt;simp only at Hwt;have HO:=hid (fun a' w'=>Hok.out a' w' x (hw.trans hwp));clear Hbad Hok hw hwp;dsimp only[ru14,ncs,ncl,ncr,ncb,nco,nct,nce,ncx,Tryz.f84]
    go_wp2_with fail
    refine Hn.out.mono ?_;rintro r w3 ⟨⟨mk2,hmk2,rfl⟩,hb3⟩;have e2:=Hmk.out;rw[e2]at hmk2;obtain rfl:=a7h hmk2;rw[Hmv.out];have Hb3:=hid hb3;have Hw3:=hid (Hwt.out w3 hb3);clear hb3 hmk2 e2 Hn Hwt
    go_wp2_with fail
    refine Hw3.out.mono ?_;rintro r w4 ⟨rfl,hb4⟩;have hbb:=Hb3.out.trans (hb4.mono Hb3.out.size);have HT1:=hid (HR.out.later hbb);have HD1:=hid (HD.out.later hbb);have t1:=aAa HT1.out.obj 2;have t2:=aAd HT1.out.obj 2;simp at t1;have HE:=hid (HT1.out.set 2 (.string x));clear hb4 hbb Hw3;go_wp2;refine HO.out _ _ ⟨rfl,rfl,rfl,rfl,rfl,rfl,rfl,rfl,rfl,rfl⟩ HE.out ?_;exact HD1.out.step (F:=fun k=>k=tb) ((Mod.refl _ _).setCell _ _ (fun _=>rfl)) (fun e=>htb e.symm) (fun k e=>by rw[e];exact htb0)
theorem ru_e (X:Code) {p1 p3:ByteArray} {pa:Bool} (hD:DocB w0 w db b o cap ms) (hy:y∈ms) (hf:RuT a db rb la lb lo q lc j kb tb) (hr:RTg w1 w kb y tb (RlO p1 kStar p3 pa)) (htb:tb≠db) (htb0:w0.heap.size<=tb)
 (bad:∀e a' w',mthP (nds ms) y.nd= .error e->a'.defers=[]->Below w1.heap.size w1 w'->Q (.panic (PanC e)) a' w')
 (ok:∀a' w' av,mthP (nds ms) y.nd= .ok av->RuT a' db rb la lb lo q lc j kb tb->RTg w1 w' kb y tb (RlO p1 av p3 pa)->DocB w0 w' db b o cap ms->X.wp Tryz.prog Q a' w'):(Code.seq ru11 X).wp Tryz.prog Q a w:=by
 have hM:=hD.toM;have hyo:=hM.ok hy;obtain ⟨ay,cy,hyv,_,_⟩:=aAj hyo.kids;obtain ⟨qy,hqy⟩:∃qy,qy=y.nd.kids.length:=⟨_,rfl⟩;rw[<-hqy]at hyv;obtain ⟨k0,k1,k2,k3,k4,k5⟩:=aAq hr.rm.kid hyv;have Hn:=hid (aHv w db b o cap ms hM y hy aA7);rw[aAx hyv]at Hn;have hkx:aA7=⟨#[109,101,116,104,111,100]⟩:=rfl;have HR:=hid hr;have HD:=hid hD;have Hbad:=hid bad;have Hok:=hid ok;have hfn:=fun k (hk:aA2 (nds ms) y.nd aA7=some k)=>aBc hM hy hk
 obtain ⟨vv,rfl,eE⟩:=hf.shape;simp only[ru_L,eE];clear eE;cases hxa:aA2 (nds ms) y.nd aA7 with
 |none=>
  rw[hxa]at Hn;have hv:mthP (nds ms) y.nd= .ok kStar:=by unfold mthP aA9;rw[hxa];rfl
  have HO:=hid (fun a' w'=>Hok.out a' w' _ hv);rw[hkx]at Hn;unfold aDh at Hn;simp only[Option.map_none]at Hn;clear hf bad ok hr hM hyo hyv hqy hy hD Hbad Hok hxa hfn hkx hv;dsimp only[ru11,ncs,ncl,ncr,ncb,nco,nct,nce,ncx,Tryz.f84]
  go_wp2_with fail
  refine Hn.out.mono ?_;rintro r w3 ⟨rfl,hb3⟩;have HT1:=hid (HR.out.later hb3);have HD1:=hid (HD.out.later hb3);clear hb3 Hn;go_wp2;exact HO.out _ _ ⟨rfl,rfl,rfl,rfl,rfl,rfl,rfl,rfl,rfl,rfl⟩ HT1.out HD1.out
 |some k=>
  rw[hxa]at Hn;rw[hkx]at Hn;unfold aDh at Hn;simp only[Option.map_some]at Hn;obtain ⟨mk,hmk,hmem,hnd,hko,ak,ck,hkv⟩:=hfn k hxa;have hv:mthP (nds ms) y.nd=wordP mk.nd methB:=by unfold mthP aA9;rw[hxa];simp only[Option.map_some];rw[hnd]
  have Hwt:=hid (fun w3 (hb3:Below w.heap.size w w3)=>aWf w3 mk (hko.later hb3));rw[aAx hkv]at Hwt;have Hnc:=hid (aHy hM hmk hkv);clear hf bad ok hr hM hyo hyv hqy hy hD hxa hfn hkx hmk hmem hnd hko hkv;cases hwp:wordP mk.nd methB with
  |error e=>
   rw[hwp]at Hwt;simp only at Hwt;have HB:=hid (fun a' w'=>Hbad.out e a' w' (hv.trans hwp));clear Hbad Hok hv hwp;dsimp only[ru11,ncs,ncl,ncr,ncb,nco,nct,nce,ncx,Tryz.f84]
   go_wp2_with fail
   refine Hn.out.mono ?_;rintro r w3 ⟨rfl,hb3⟩;obtain ⟨n0,n1,n2,n3,n4,n5⟩:=Hnc.out _ hb3;have Hw3:=hid (Hwt.out _ hb3);have Hb3:=hid hb3;clear Hn Hwt Hnc hb3
   go_wp2_with fail
   refine Hw3.out.mono ?_;rintro r w4 ⟨rfl,hb4⟩;have hbb:=Hb3.out.trans (hb4.mono Hb3.out.size);exact HB.out _ _ rfl (HR.out.rm.below.trans (hbb.mono HR.out.rm.below.size))
  |ok x=>
   rw[hwp]at Hwt;simp only at Hwt;have HO:=hid (fun a' w'=>Hok.out a' w' _ (hv.trans hwp));clear Hbad Hok hv hwp;dsimp only[ru11,ncs,ncl,ncr,ncb,nco,nct,nce,ncx,Tryz.f84]
   go_wp2_with fail
   refine Hn.out.mono ?_;rintro r w3 ⟨rfl,hb3⟩;obtain ⟨n0,n1,n2,n3,n4,n5⟩:=Hnc.out _ hb3;have Hw3:=hid (Hwt.out _ hb3);have Hb3:=hid hb3;clear Hn Hwt Hnc hb3
   go_wp2_with fail
   refine Hw3.out.mono ?_;rintro r w4 ⟨rfl,hb4⟩;have hbb:=Hb3.out.trans (hb4.mono Hb3.out.size);have HT1:=hid (HR.out.later hbb);have HD1:=hid (HD.out.later hbb);have t1:=aAa HT1.out.obj 1;have t2:=aAd HT1.out.obj 1;simp at t1;have HE:=hid (HT1.out.set 1 (.string x));clear hb4 hbb Hw3 n0 n1 n2 n3 n4 n5;go_wp2;refine HO.out _ _ ⟨rfl,rfl,rfl,rfl,rfl,rfl,rfl,rfl,rfl,rfl⟩ HE.out ?_;exact HD1.out.step (F:=fun k=>k=tb) ((Mod.refl _ _).setCell _ _ (fun _=>rfl)) (fun e=>htb e.symm) (fun k e=>by rw[e];exact htb0)
end
