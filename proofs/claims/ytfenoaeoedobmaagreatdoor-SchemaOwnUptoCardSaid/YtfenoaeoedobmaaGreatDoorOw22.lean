/-
Parts of a proof.
-/
import Derived.Test.YtfenoaeoedobmaaGreatDoorOw21
set_option linter.unusedVariables false
set_option linter.unusedSimpArgs false
set_option maxHeartbeats 4000000
set_option maxRecDepth 20000
namespace Go.Proofs.YtfenoaeoedobmaaGreatDoor
open Go Go.RowKit
abbrev RlO (p m s:ByteArray) (x:Bool):Obj:= .cells #[.string p,.string m,.string s,.bool x] 60
section
variable {w0 w1 w2 w:World} {Q:Exit->Act->World->Prop} {a:Act} {ms:List NdM} {db rb lb lo q lc j kb tb b o cap:Nat} {la:ByteArray} {act:Bool} {y:NdM}
theorem ru_a (X:Code) (hD:DocB w0 w db b o cap ms) (hy:y∈ms) (hf:RuO a db rb la lb lo q lc j) (hj:j<q)
 (z0:w.cell? ⟨lb,lo+j*6,none⟩=some (.int .i64 y.nd.kind)) (z1:w.cell? ⟨lb,lo+j*6+1,none⟩=some (.string y.nd.key)) (z2:w.cell? ⟨lb,lo+j*6+2,none⟩=some (.string y.nd.text)) (z3:w.cell? ⟨lb,lo+j*6+3,none⟩=some (.bool y.nd.quoted)) (z4:w.cell? ⟨lb,lo+j*6+4,none⟩=some (.int .i64 y.nd.line)) (z5:w.cell? ⟨lb,lo+j*6+5,none⟩=some y.kv)
 (bad:∀e a' w',(dt y.nd= .error e\/(dt y.nd= .ok ()/\bG (nds ms) [bV,bA,la] y.nd.kids= .error e))->a'.defers=[]->Below w.heap.size w w'->Q (.panic (gh e)) a' w')
 (ok:∀a' w',dt y.nd= .ok ()->bG (nds ms) [bV,bA,la] y.nd.kids= .ok ()->RuK a' db rb la lb lo q lc j w.heap.size->RMk w w' w.heap.size y->X.wp Tryz.prog Q a' w'):
 (Code.seq ru3 (Code.seq ru4 (Code.seq ru5 X))).wp Tryz.prog Q a w:=by
 have hM:=hD.toM;have hyo:=hM.ok hy;obtain ⟨ay,cy,hyv,_,_⟩:=aF hyo.kids;obtain ⟨qy,hqy⟩:=ex (y.nd.kids.length);rw[<-hqy]at hyv;rw[hyv]at z5;have bj:(j:Int)<(q:Int):=by omega
 have hr:RMk w (w.alloc (NdO y)) w.heap.size y:=RMk.new;have Hm:=hid (fun w3 (hb3:Below w.heap.size w w3)=>xo w3 y (hyo.later hb3));have Ho:=hid (fun w3 (hb3:Below w.heap.size w w3) (arr:Array Value) (harr:arr.toList=[bV,bA,la].map Value.string)=>oI (w3.alloc (.cells arr 9)) db b o cap ms (hM.later (hb3.alloc hb3.size _)) y hy (.slice (some ⟨w3.heap.size,0,none⟩) 3 3) [bV,bA,la] (pieces w3 _ arr harr 3 rfl (by decide) _))
 have hE:=oN hyv;rw[aZ hyv]at Hm Ho;rw[hE]at hr;have HR:=hid hr;have Hbad:=hid bad;have Hok:=hid ok;have Hyv:=hid hyv;obtain ⟨vv,rfl,eE⟩:=hf.shape;simp only[j7,eE];clear eE;clear hf bad ok hM hyo hyv hqy hr hE hD hj;cases hmp:dt y.nd with
 |error e=>
  rw[hmp]at Hm;simp only at Hm;have HB:=hid (fun a' w'=>Hbad.o e a' w' (.inl hmp));clear Hbad Hok hmp Ho;dsimp only[ru3,ru4,ru5,ncs,ncl,ncr,ncb,nco,nct,nce,ncx,Tryz.f84]
  go_wp2_with fail
  refine (Hm.o _ HR.o.below).mono ?_;rintro r w3 ⟨rfl,hb3⟩;exact HB.o _ _ rfl (HR.o.below.trans (hb3.mono HR.o.below.size))
 |ok u=>
  rw[hmp]at Hm;simp only at Hm;cases hop:bG (nds ms) [bV,bA,la] y.nd.kids with
  |error e=>
   have HB:=hid (fun a' w'=>Hbad.o e a' w' (.inr ⟨hmp,hop⟩));rw[hop]at Ho;unfold Ends at Ho;simp only at Ho;clear Hbad Hok hmp hop;dsimp only[ru3,ru4,ru5,ncs,ncl,ncr,ncb,nco,nct,nce,ncx,Tryz.f84]
   go_wp2_with fail
   refine (Hm.o _ HR.o.below).mono ?_;rintro r w3 ⟨rfl,hb3⟩;have HR3:=hid (HR.o.later hb3);obtain ⟨k0,k1,k2,k3,k4,k5⟩:=aV HR3.o.kid Hyv.o;have Ho3:=hid (Ho.o w3 HR3.o.below #[.string ⟨#[112,97,116,104]⟩,.string ⟨#[109,101,116,104,111,100]⟩,.string la] rfl);clear hb3 Hm Ho HR
   go_wp2_with fail
   refine Ho3.o.mono ?_;rintro r w4 ⟨rfl,hb4⟩;have hr4:=HR3.o.later ((aAb _ _).alloc (aAa _) (.cells #[.string ⟨#[112,97,116,104]⟩,.string ⟨#[109,101,116,104,111,100]⟩,.string la] 9));exact HB.o _ _ rfl (hr4.below.trans (hb4.mono hr4.below.size))
  |ok u2=>
   have HO:=hid (fun a' w'=>Hok.o a' w' hmp hop);rw[hop]at Ho;unfold Ends at Ho;simp only at Ho;clear Hbad Hok hmp hop;dsimp only[ru3,ru4,ru5,ncs,ncl,ncr,ncb,nco,nct,nce,ncx,Tryz.f84]
   go_wp2_with fail
   refine (Hm.o _ HR.o.below).mono ?_;rintro r w3 ⟨rfl,hb3⟩;have HR3:=hid (HR.o.later hb3);obtain ⟨k0,k1,k2,k3,k4,k5⟩:=aV HR3.o.kid Hyv.o;have Ho3:=hid (Ho.o w3 HR3.o.below #[.string ⟨#[112,97,116,104]⟩,.string ⟨#[109,101,116,104,111,100]⟩,.string la] rfl);clear hb3 Hm Ho HR
   go_wp2_with fail
   refine Ho3.o.mono ?_;rintro r w4 ⟨rfl,hb4⟩;have hr4:=HR3.o.later ((aAb _ _).alloc (aAa _) (.cells #[.string ⟨#[112,97,116,104]⟩,.string ⟨#[109,101,116,104,111,100]⟩,.string la] 9));have HR4:=hid (hr4.later hb4);clear hb4 Ho3 HR3 k0 k1 k2 k3 k4 k5 hr4;go_wp2;exact HO.o _ _ ⟨rfl,rfl,rfl,rfl,rfl,rfl,rfl,rfl,rfl⟩ HR4.o
theorem ru_b (X:Code) (hD:DocB w0 w db b o cap ms) (hf:RuK a db rb la lb lo q lc j kb) (hr:RMk w1 w kb y)
 (ok:∀a' w',RuT a' db rb la lb lo q lc j kb w.heap.size->RTg w1 w' kb y w.heap.size (RlO ⟨#[]⟩ ki ⟨#[]⟩ false)->DocB w0 w' db b o cap ms->X.wp Tryz.prog Q a' w'):(Code.seq ru6 X).wp Tryz.prog Q a w:=by
 have HT:=hid (RTg.new hr (RlO ⟨#[]⟩ ki ⟨#[]⟩ false));have HD:=hid (hD.later ((aAb w.heap.size w).alloc (aAa _) (RlO ⟨#[]⟩ ki ⟨#[]⟩ false)));have Hok:=hid ok;obtain ⟨vv,rfl,eE⟩:=hf.shape;simp only[j7,eE];clear eE;clear hf ok hr hD;dsimp only[ru6,ncs,ncl,ncr,ncb,nco,nct,nce,ncx,Tryz.f84];go_wp2;exact Hok.o _ _ ⟨rfl,rfl,rfl,rfl,rfl,rfl,rfl,rfl,rfl,rfl⟩ HT.o HD.o
theorem ru_c (X:Code) {p1 p2 p3:ByteArray} {pa:Bool} (hla:la=gj act) (hpa:pa=false) (hD:DocB w0 w db b o cap ms) (hy:y∈ms) (hf:RuT a db rb la lb lo q lc j kb tb) (hr:RTg w1 w kb y tb (RlO p1 p2 p3 pa)) (htb:tb≠db) (htb0:w0.heap.size<=tb)
 (bad:∀e a' w',sw (nds ms) act y.nd= .error e->a'.defers=[]->Below w1.heap.size w1 w'->Q (.panic (gh e)) a' w')
 (ok:∀a' w' av,sw (nds ms) act y.nd= .ok av->RuT a' db rb la lb lo q lc j kb tb->RTg w1 w' kb y tb (RlO p1 p2 p3 (decide (av=kAllow)))->DocB w0 w' db b o cap ms->X.wp Tryz.prog Q a' w'):(Code.seq ru7 X).wp Tryz.prog Q a w:=by
 have hM:=hD.toM;have hyo:=hM.ok hy;obtain ⟨ay,cy,hyv,_,_⟩:=aF hyo.kids;obtain ⟨qy,hqy⟩:=ex (y.nd.kids.length);rw[<-hqy]at hyv;obtain ⟨k0,k1,k2,k3,k4,k5⟩:=aV hr.rm.kid hyv;unfold sw at bad ok;cases act with
 |false=>
  have uA:=iq (s:=la) (arr:=#[97,99,116,105,111,110]) (by rw[hla];unfold gj;decide);have Hok:=hid ok;have HR:=hid hr;have HD:=hid hD;have Hpa:=hid hpa;obtain ⟨vv,rfl,eE⟩:=hf.shape;simp only[j7,eE];clear eE;clear hf bad ok hr hM hyo hyv hqy hy hD hla hpa;dsimp only[ru7,ncs,ncl,ncr,ncb,nco,nct,nce,ncx,Tryz.f84];go_wp2;refine Hok.o _ _ ⟨#[]⟩ rfl ⟨rfl,rfl,rfl,rfl,rfl,rfl,rfl,rfl,rfl,rfl⟩ (by rw[show decide ((⟨#[]⟩:ByteArray)=kAllow)=pa from by rw[Hpa.o];decide];exact HR.o) HD.o
 |true=>
  have hla2:la=cm:=by rw[hla];rfl
  subst hla2;have uA:=g7 (s:=cm) (arr:=#[97,99,116,105,111,110]) rfl;rw[if_pos rfl]at bad ok;have ekx:cm=⟨#[97,99,116,105,111,110]⟩:=rfl;clear hla hpa;have Hn:=hid (il w db b o cap ms hM y hy cm);rw[aZ hyv]at Hn;have hkx:cm=⟨#[97,99,116,105,111,110]⟩:=rfl;have HR:=hid hr;have HD:=hid hD;have Hbad:=hid bad;have Hok:=hid ok;have hfn:=fun k (hk:bz (nds ms) y.nd cm=some k)=>bS hM hy hk
  obtain ⟨vv,rfl,eE⟩:=hf.shape;simp only[j7,eE];clear eE;clear hf bad ok hr hM hyo hyv hqy hy hD;cases hxa:bz (nds ms) y.nd cm with
  |none=>
   rw[hxa]at Hn;simp only at Hn;rw[hkx]at Hn;have HB:=hid (fun a' w'=>Hbad.o (y.nd.line,122) a' w' (by unfold nwP;rw[cY hxa]));clear Hbad Hok hxa hfn hkx;dsimp only[ru7,ncs,ncl,ncr,ncb,nco,nct,nce,ncx,Tryz.f84]
   go_wp2_with fail
   refine Hn.o.mono ?_;rintro r w3 ⟨rfl,hb3⟩;exact HB.o _ _ rfl (HR.o.rm.below.trans (hb3.mono HR.o.rm.below.size))
  |some k=>
   rw[hxa]at Hn;simp only at Hn;rw[hkx]at Hn;obtain ⟨mk,hmk,hmem,hnd,hko,ak,ck,hkv⟩:=hfn k hxa;have hw:nwP (nds ms) y.nd cm gk=aS mk.nd gk:=by unfold nwP;rw[cX hxa,hnd]
   have Hwt:=hid (fun w3 (hb3:Below w.heap.size w w3)=>AT w3 mk (hko.later hb3));have Hmk:=hid hmk;have hmv:=aZ hkv;have Hmv:=hid hmv;rw[hmv]at Hwt;clear hfn hkx hxa hmk hmem hnd hko hkv hmv;cases hwp:aS mk.nd gk with
   |error e=>
    rw[hwp]at Hwt;simp only at Hwt;have HB:=hid (fun a' w'=>Hbad.o e a' w' (hw.trans hwp));clear Hbad Hok hw hwp;dsimp only[ru7,ncs,ncl,ncr,ncb,nco,nct,nce,ncx,Tryz.f84]
    go_wp2_with fail
    refine Hn.o.mono ?_;rintro r w3 ⟨⟨mk2,hmk2,rfl⟩,hb3⟩;have e2:=Hmk.o;rw[e2]at hmk2;obtain rfl:=aAf hmk2;rw[Hmv.o];have Hb3:=hid hb3;have Hw3:=hid (Hwt.o w3 hb3);clear hb3 hmk2 e2 Hn Hwt
    go_wp2_with fail
    refine Hw3.o.mono ?_;rintro r w4 ⟨rfl,hb4⟩;have hbb:=Hb3.o.trans (hb4.mono Hb3.o.size);exact HB.o _ _ rfl (HR.o.rm.below.trans (hbb.mono HR.o.rm.below.size))
   |ok x=>
    rw[hwp]at Hwt;simp only at Hwt;have HO:=hid (fun a' w'=>Hok.o a' w' x (hw.trans hwp));clear Hbad Hok hw hwp;obtain ⟨bv,hbv⟩:=ex (decide (x=kAllow));have ub:(x.toList==(#[97,108,108,111,119]:Array UInt8).toList)=bv:=by
     rw[hbv];by_cases e:x=kAllow
     ·rw[dT e];exact g7 e
     ·rw[dF e];exact iq e
    have Hbv:=hid hbv;clear hbv;dsimp only[ru7,ncs,ncl,ncr,ncb,nco,nct,nce,ncx,Tryz.f84]
    go_wp2_with fail
    refine Hn.o.mono ?_;rintro r w3 ⟨⟨mk2,hmk2,rfl⟩,hb3⟩;have e2:=Hmk.o;rw[e2]at hmk2;obtain rfl:=aAf hmk2;rw[Hmv.o];have Hb3:=hid hb3;have Hw3:=hid (Hwt.o w3 hb3);clear hb3 hmk2 e2 Hn Hwt
    go_wp2_with fail
    refine Hw3.o.mono ?_;rintro r w4 ⟨rfl,hb4⟩;have hbb:=Hb3.o.trans (hb4.mono Hb3.o.size);have HT1:=hid (HR.o.later hbb);have HD1:=hid (HD.o.later hbb);have t1:=af HT1.o.obj 3;have t2:=ai HT1.o.obj 3;simp at t1;have HE:=hid (HT1.o.set 3 (.bool bv));clear hb4 hbb Hw3;go_wp2;refine HO.o _ _ ⟨rfl,rfl,rfl,rfl,rfl,rfl,rfl,rfl,rfl,rfl⟩ (by rw[<-Hbv.o];exact HE.o) ?_;exact HD1.o.step (F:=fun k=>k=tb) ((Mod.refl _ _).setCell _ _ (fun _=>rfl)) (fun e=>htb e.symm) (fun k e=>by rw[e];exact htb0)
theorem ru_d (X:Code) {p1 p2 p3:ByteArray} {pa:Bool} (hD:DocB w0 w db b o cap ms) (hy:y∈ms) (hf:RuT a db rb la lb lo q lc j kb tb) (hr:RTg w1 w kb y tb (RlO p1 p2 p3 pa)) (htb:tb≠db) (htb0:w0.heap.size<=tb)
 (bad:∀e a' w',nwP (nds ms) y.nd bV gP= .error e->a'.defers=[]->Below w1.heap.size w1 w'->Q (.panic (gh e)) a' w')
 (ok:∀a' w' av,nwP (nds ms) y.nd bV gP= .ok av->RuT a' db rb la lb lo q lc j kb tb->RTg w1 w' kb y tb (RlO av p2 p3 pa)->DocB w0 w' db b o cap ms->X.wp Tryz.prog Q a' w'):(Code.seq Bz X).wp Tryz.prog Q a w:=by
 have hM:=hD.toM;have hyo:=hM.ok hy;obtain ⟨ay,cy,hyv,_,_⟩:=aF hyo.kids;obtain ⟨qy,hqy⟩:=ex (y.nd.kids.length);rw[<-hqy]at hyv;obtain ⟨k0,k1,k2,k3,k4,k5⟩:=aV hr.rm.kid hyv;have Hn:=hid (il w db b o cap ms hM y hy bV);rw[aZ hyv]at Hn;have hkx:bV=⟨#[112,97,116,104]⟩:=rfl;have HR:=hid hr;have HD:=hid hD;have Hbad:=hid bad;have Hok:=hid ok;have hfn:=fun k (hk:bz (nds ms) y.nd bV=some k)=>bS hM hy hk
 obtain ⟨vv,rfl,eE⟩:=hf.shape;simp only[j7,eE];clear eE;clear hf bad ok hr hM hyo hyv hqy hy hD;cases hxa:bz (nds ms) y.nd bV with
 |none=>
  rw[hxa]at Hn;simp only at Hn;rw[hkx]at Hn;have HB:=hid (fun a' w'=>Hbad.o (y.nd.line,122) a' w' (by unfold nwP;rw[cY hxa]));clear Hbad Hok hxa hfn hkx;dsimp only[Bz,ncs,ncl,ncr,ncb,nco,nct,nce,ncx,Tryz.f84]
  go_wp2_with fail
  refine Hn.o.mono ?_;rintro r w3 ⟨rfl,hb3⟩;exact HB.o _ _ rfl (HR.o.rm.below.trans (hb3.mono HR.o.rm.below.size))
 |some k=>
  rw[hxa]at Hn;simp only at Hn;rw[hkx]at Hn;obtain ⟨mk,hmk,hmem,hnd,hko,ak,ck,hkv⟩:=hfn k hxa;have hw:nwP (nds ms) y.nd bV gP=aS mk.nd gP:=by unfold nwP;rw[cX hxa,hnd]
  have Hwt:=hid (fun w3 (hb3:Below w.heap.size w w3)=>AS w3 mk (hko.later hb3));have Hmk:=hid hmk;have hmv:=aZ hkv;have Hmv:=hid hmv;rw[hmv]at Hwt;clear hfn hkx hxa hmk hmem hnd hko hkv hmv;cases hwp:aS mk.nd gP with
  |error e=>
   rw[hwp]at Hwt;simp only at Hwt;have HB:=hid (fun a' w'=>Hbad.o e a' w' (hw.trans hwp));clear Hbad Hok hw hwp;dsimp only[Bz,ncs,ncl,ncr,ncb,nco,nct,nce,ncx,Tryz.f84]
   go_wp2_with fail
   refine Hn.o.mono ?_;rintro r w3 ⟨⟨mk2,hmk2,rfl⟩,hb3⟩;have e2:=Hmk.o;rw[e2]at hmk2;obtain rfl:=aAf hmk2;rw[Hmv.o];have Hb3:=hid hb3;have Hw3:=hid (Hwt.o w3 hb3);clear hb3 hmk2 e2 Hn Hwt
   go_wp2_with fail
   refine Hw3.o.mono ?_;rintro r w4 ⟨rfl,hb4⟩;have hbb:=Hb3.o.trans (hb4.mono Hb3.o.size);exact HB.o _ _ rfl (HR.o.rm.below.trans (hbb.mono HR.o.rm.below.size))
  |ok x=>
   rw[hwp]at Hwt;simp only at Hwt;have HO:=hid (fun a' w'=>Hok.o a' w' x (hw.trans hwp));clear Hbad Hok hw hwp;dsimp only[Bz,ncs,ncl,ncr,ncb,nco,nct,nce,ncx,Tryz.f84]
   go_wp2_with fail
   refine Hn.o.mono ?_;rintro r w3 ⟨⟨mk2,hmk2,rfl⟩,hb3⟩;have e2:=Hmk.o;rw[e2]at hmk2;obtain rfl:=aAf hmk2;rw[Hmv.o];have Hb3:=hid hb3;have Hw3:=hid (Hwt.o w3 hb3);clear hb3 hmk2 e2 Hn Hwt
   go_wp2_with fail
   refine Hw3.o.mono ?_;rintro r w4 ⟨rfl,hb4⟩;have hbb:=Hb3.o.trans (hb4.mono Hb3.o.size);have HT1:=hid (HR.o.later hbb);have HD1:=hid (HD.o.later hbb);have t1:=af HT1.o.obj 0;have t2:=ai HT1.o.obj 0;simp at t1;have HE:=hid (HT1.o.set 0 (.string x));clear hb4 hbb Hw3;go_wp2;refine HO.o _ _ ⟨rfl,rfl,rfl,rfl,rfl,rfl,rfl,rfl,rfl,rfl⟩ HE.o ?_;exact HD1.o.step (F:=fun k=>k=tb) ((Mod.refl _ _).setCell _ _ (fun _=>rfl)) (fun e=>htb e.symm) (fun k e=>by rw[e];exact htb0)
theorem ru_f (X:Code) {p1 p2 p3:ByteArray} {pa:Bool} (hla:la=gj act) (hp3:p3=⟨#[]⟩) (hD:DocB w0 w db b o cap ms) (hy:y∈ms) (hf:RuT a db rb la lb lo q lc j kb tb) (hr:RTg w1 w kb y tb (RlO p1 p2 p3 pa)) (htb:tb≠db) (htb0:w0.heap.size<=tb)
 (bad:∀e a' w',za (nds ms) act y.nd= .error e->a'.defers=[]->Below w1.heap.size w1 w'->Q (.panic (gh e)) a' w')
 (ok:∀a' w' av,za (nds ms) act y.nd= .ok av->RuT a' db rb la lb lo q lc j kb tb->RTg w1 w' kb y tb (RlO p1 p2 av pa)->DocB w0 w' db b o cap ms->X.wp Tryz.prog Q a' w'):(Code.seq ze X).wp Tryz.prog Q a w:=by
 have hM:=hD.toM;have hyo:=hM.ok hy;obtain ⟨ay,cy,hyv,_,_⟩:=aF hyo.kids;obtain ⟨qy,hqy⟩:=ex (y.nd.kids.length);rw[<-hqy]at hyv;obtain ⟨k0,k1,k2,k3,k4,k5⟩:=aV hr.rm.kid hyv;unfold za at bad ok;cases act with
 |true=>
  have uA:=iq (s:=la) (arr:=#[115,112,108,105,116]) (by rw[hla];unfold gj;decide);have Hok:=hid ok;have HR:=hid hr;have HD:=hid hD;obtain ⟨vv,rfl,eE⟩:=hf.shape;simp only[j7,eE];clear eE;clear hf bad ok hr hM hyo hyv hqy hy hD hla;dsimp only[ze,ncs,ncl,ncr,ncb,nco,nct,nce,ncx,Tryz.f84];go_wp2;refine Hok.o _ _ ⟨#[]⟩ rfl ⟨rfl,rfl,rfl,rfl,rfl,rfl,rfl,rfl,rfl,rfl⟩ (by rw[<-hp3];exact HR.o) HD.o
 |false=>
  have hla2:la=aU:=by rw[hla];rfl
  subst hla2;have uA:=g7 (s:=aU) (arr:=#[115,112,108,105,116]) rfl;rw[if_neg (by decide)]at bad ok;clear hla hp3;have Hn:=hid (il w db b o cap ms hM y hy aU);rw[aZ hyv]at Hn;have hkx:aU=⟨#[115,112,108,105,116]⟩:=rfl;have HR:=hid hr;have HD:=hid hD;have Hbad:=hid bad;have Hok:=hid ok;have hfn:=fun k (hk:bz (nds ms) y.nd aU=some k)=>bS hM hy hk;obtain ⟨vv,rfl,eE⟩:=hf.shape
  simp only[j7,eE];clear eE;clear hf bad ok hr hM hyo hyv hqy hy hD;cases hxa:bz (nds ms) y.nd aU with
  |none=>
   rw[hxa]at Hn;simp only at Hn;rw[hkx]at Hn;have HB:=hid (fun a' w'=>Hbad.o (y.nd.line,122) a' w' (by unfold nwP;rw[cY hxa]));clear Hbad Hok hxa hfn hkx;dsimp only[ze,ncs,ncl,ncr,ncb,nco,nct,nce,ncx,Tryz.f84]
   go_wp2_with fail
   refine Hn.o.mono ?_;rintro r w3 ⟨rfl,hb3⟩;exact HB.o _ _ rfl (HR.o.rm.below.trans (hb3.mono HR.o.rm.below.size))
  |some k=>
   rw[hxa]at Hn;simp only at Hn;rw[hkx]at Hn;obtain ⟨mk,hmk,hmem,hnd,hko,ak,ck,hkv⟩:=hfn k hxa;have hw:nwP (nds ms) y.nd aU isName=aS mk.nd isName:=by unfold nwP;rw[cX hxa,hnd]
   have Hwt:=hid (fun w3 (hb3:Below w.heap.size w w3)=>iv w3 mk (hko.later hb3));have Hmk:=hid hmk;have hmv:=aZ hkv;have Hmv:=hid hmv;rw[hmv]at Hwt;clear hfn hkx hxa hmk hmem hnd hko hkv hmv;cases hwp:aS mk.nd isName with
   |error e=>
    rw[hwp]at Hwt;simp only at Hwt;have HB:=hid (fun a' w'=>Hbad.o e a' w' (hw.trans hwp));clear Hbad Hok hw hwp;dsimp only[ze,ncs,ncl,ncr,ncb,nco,nct,nce,ncx,Tryz.f84]
    go_wp2_with fail
    refine Hn.o.mono ?_;rintro r w3 ⟨⟨mk2,hmk2,rfl⟩,hb3⟩;have e2:=Hmk.o;rw[e2]at hmk2;obtain rfl:=aAf hmk2;rw[Hmv.o];have Hb3:=hid hb3;have Hw3:=hid (Hwt.o w3 hb3);clear hb3 hmk2 e2 Hn Hwt
    go_wp2_with fail
    refine Hw3.o.mono ?_;rintro r w4 ⟨rfl,hb4⟩;have hbb:=Hb3.o.trans (hb4.mono Hb3.o.size);exact HB.o _ _ rfl (HR.o.rm.below.trans (hbb.mono HR.o.rm.below.size))
   |ok x=>
    rw[hwp]at Hwt;simp only at Hwt;have HO:=hid (fun a' w'=>Hok.o a' w' x (hw.trans hwp));clear Hbad Hok hw hwp;dsimp only[ze,ncs,ncl,ncr,ncb,nco,nct,nce,ncx,Tryz.f84]
    go_wp2_with fail
    refine Hn.o.mono ?_;rintro r w3 ⟨⟨mk2,hmk2,rfl⟩,hb3⟩;have e2:=Hmk.o;rw[e2]at hmk2;obtain rfl:=aAf hmk2;rw[Hmv.o];have Hb3:=hid hb3;have Hw3:=hid (Hwt.o w3 hb3);clear hb3 hmk2 e2 Hn Hwt
    go_wp2_with fail
    refine Hw3.o.mono ?_;rintro r w4 ⟨rfl,hb4⟩;have hbb:=Hb3.o.trans (hb4.mono Hb3.o.size);have HT1:=hid (HR.o.later hbb);have HD1:=hid (HD.o.later hbb);have t1:=af HT1.o.obj 2;have t2:=ai HT1.o.obj 2;simp at t1;have HE:=hid (HT1.o.set 2 (.string x));clear hb4 hbb Hw3;go_wp2;refine HO.o _ _ ⟨rfl,rfl,rfl,rfl,rfl,rfl,rfl,rfl,rfl,rfl⟩ HE.o ?_;exact HD1.o.step (F:=fun k=>k=tb) ((Mod.refl _ _).setCell _ _ (fun _=>rfl)) (fun e=>htb e.symm) (fun k e=>by rw[e];exact htb0)
theorem ru_e (X:Code) {p1 p3:ByteArray} {pa:Bool} (hD:DocB w0 w db b o cap ms) (hy:y∈ms) (hf:RuT a db rb la lb lo q lc j kb tb) (hr:RTg w1 w kb y tb (RlO p1 ki p3 pa)) (htb:tb≠db) (htb0:w0.heap.size<=tb)
 (bad:∀e a' w',p8 (nds ms) y.nd= .error e->a'.defers=[]->Below w1.heap.size w1 w'->Q (.panic (gh e)) a' w')
 (ok:∀a' w' av,p8 (nds ms) y.nd= .ok av->RuT a' db rb la lb lo q lc j kb tb->RTg w1 w' kb y tb (RlO p1 av p3 pa)->DocB w0 w' db b o cap ms->X.wp Tryz.prog Q a' w'):(Code.seq By X).wp Tryz.prog Q a w:=by
 have hM:=hD.toM;have hyo:=hM.ok hy;obtain ⟨ay,cy,hyv,_,_⟩:=aF hyo.kids;obtain ⟨qy,hqy⟩:=ex (y.nd.kids.length);rw[<-hqy]at hyv;obtain ⟨k0,k1,k2,k3,k4,k5⟩:=aV hr.rm.kid hyv;have Hn:=hid (j2 w db b o cap ms hM y hy bA);rw[aZ hyv]at Hn;have hkx:bA=⟨#[109,101,116,104,111,100]⟩:=rfl;have HR:=hid hr;have HD:=hid hD;have Hbad:=hid bad;have Hok:=hid ok;have hfn:=fun k (hk:bz (nds ms) y.nd bA=some k)=>bS hM hy hk
 obtain ⟨vv,rfl,eE⟩:=hf.shape;simp only[j7,eE];clear eE;cases hxa:bz (nds ms) y.nd bA with
 |none=>
  rw[hxa]at Hn;have hv:p8 (nds ms) y.nd= .ok ki:=by unfold p8 bC;rw[hxa];rfl
  have HO:=hid (fun a' w'=>Hok.o a' w' _ hv);rw[hkx]at Hn;unfold eg at Hn;simp only[Option.map_none]at Hn;clear hf bad ok hr hM hyo hyv hqy hy hD Hbad Hok hxa hfn hkx hv;dsimp only[By,ncs,ncl,ncr,ncb,nco,nct,nce,ncx,Tryz.f84]
  go_wp2_with fail
  refine Hn.o.mono ?_;rintro r w3 ⟨rfl,hb3⟩;have HT1:=hid (HR.o.later hb3);have HD1:=hid (HD.o.later hb3);clear hb3 Hn;go_wp2;exact HO.o _ _ ⟨rfl,rfl,rfl,rfl,rfl,rfl,rfl,rfl,rfl,rfl⟩ HT1.o HD1.o
 |some k=>
  rw[hxa]at Hn;rw[hkx]at Hn;unfold eg at Hn;simp only[Option.map_some]at Hn;obtain ⟨mk,hmk,hmem,hnd,hko,ak,ck,hkv⟩:=hfn k hxa;have hv:p8 (nds ms) y.nd=aS mk.nd fm:=by unfold p8 bC;rw[hxa];simp only[Option.map_some];rw[hnd]
  have Hwt:=hid (fun w3 (hb3:Below w.heap.size w w3)=>yD w3 mk (hko.later hb3));rw[aZ hkv]at Hwt;have Hnc:=hid (kG hM hmk hkv);clear hf bad ok hr hM hyo hyv hqy hy hD hxa hfn hkx hmk hmem hnd hko hkv;cases hwp:aS mk.nd fm with
  |error e=>
   rw[hwp]at Hwt;simp only at Hwt;have HB:=hid (fun a' w'=>Hbad.o e a' w' (hv.trans hwp));clear Hbad Hok hv hwp;dsimp only[By,ncs,ncl,ncr,ncb,nco,nct,nce,ncx,Tryz.f84]
   go_wp2_with fail
   refine Hn.o.mono ?_;rintro r w3 ⟨rfl,hb3⟩;obtain ⟨n0,n1,n2,n3,n4,n5⟩:=Hnc.o _ hb3;have Hw3:=hid (Hwt.o _ hb3);have Hb3:=hid hb3;clear Hn Hwt Hnc hb3
   go_wp2_with fail
   refine Hw3.o.mono ?_;rintro r w4 ⟨rfl,hb4⟩;have hbb:=Hb3.o.trans (hb4.mono Hb3.o.size);exact HB.o _ _ rfl (HR.o.rm.below.trans (hbb.mono HR.o.rm.below.size))
  |ok x=>
   rw[hwp]at Hwt;simp only at Hwt;have HO:=hid (fun a' w'=>Hok.o a' w' _ (hv.trans hwp));clear Hbad Hok hv hwp;dsimp only[By,ncs,ncl,ncr,ncb,nco,nct,nce,ncx,Tryz.f84]
   go_wp2_with fail
   refine Hn.o.mono ?_;rintro r w3 ⟨rfl,hb3⟩;obtain ⟨n0,n1,n2,n3,n4,n5⟩:=Hnc.o _ hb3;have Hw3:=hid (Hwt.o _ hb3);have Hb3:=hid hb3;clear Hn Hwt Hnc hb3
   go_wp2_with fail
   refine Hw3.o.mono ?_;rintro r w4 ⟨rfl,hb4⟩;have hbb:=Hb3.o.trans (hb4.mono Hb3.o.size);have HT1:=hid (HR.o.later hbb);have HD1:=hid (HD.o.later hbb);have t1:=af HT1.o.obj 1;have t2:=ai HT1.o.obj 1;simp at t1;have HE:=hid (HT1.o.set 1 (.string x));clear hb4 hbb Hw3 n0 n1 n2 n3 n4 n5;go_wp2;refine HO.o _ _ ⟨rfl,rfl,rfl,rfl,rfl,rfl,rfl,rfl,rfl,rfl⟩ HE.o ?_;exact HD1.o.step (F:=fun k=>k=tb) ((Mod.refl _ _).setCell _ _ (fun _=>rfl)) (fun e=>htb e.symm) (fun k e=>by rw[e];exact htb0)
end
