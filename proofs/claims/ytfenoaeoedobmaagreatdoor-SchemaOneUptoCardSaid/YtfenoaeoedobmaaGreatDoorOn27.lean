/-
Parts of a proof.
-/
import Derived.Test.YtfenoaeoedobmaaGreatDoorOn26
set_option linter.unusedVariables false
set_option linter.unusedSimpArgs false
set_option maxHeartbeats 4000000
set_option maxRecDepth 20000
namespace Go.Proofs.YtfenoaeoedobmaaGreatDoor
open Go Go.RowKit
abbrev RlO (p m s:ByteArray) (x:Bool):Obj:= .cells #[.string p,.string m,.string s,.bool x] 60
section
variable {w0 w1 w2 w:World} {Q:Exit->Act->World->Prop} {a:Act} {ms:List NdM} {db rb lb lo q lc j kb tb b o cap:Nat} {la:ByteArray} {act:Bool} {y:NdM}
theorem ru_a (X:Code) (hD:DocB w0 w db b o cap ms) (hy:y∈ms) (hf:RuO a db rb la lb lo q lc j) (hj:j<q)
 (z0:w.cell? ⟨lb,lo+j*6,none⟩=some (.int .i64 y.nd.kind)) (z1:w.cell? ⟨lb,lo+j*6+1,none⟩=some (.string y.nd.key)) (z2:w.cell? ⟨lb,lo+j*6+2,none⟩=some (.string y.nd.text)) (z3:w.cell? ⟨lb,lo+j*6+3,none⟩=some (.bool y.nd.quoted)) (z4:w.cell? ⟨lb,lo+j*6+4,none⟩=some (.int .i64 y.nd.line)) (z5:w.cell? ⟨lb,lo+j*6+5,none⟩=some y.kv)
 (bad:∀e a' w',(dg y.nd= .error e\/(dg y.nd= .ok ()/\bE (nds ms) [bS,a9,la] y.nd.kids= .error e))->a'.defers=[]->Below w.heap.size w w'->Q (.panic (jl e)) a' w')
 (ok:∀a' w',dg y.nd= .ok ()->bE (nds ms) [bS,a9,la] y.nd.kids= .ok ()->RuK a' db rb la lb lo q lc j w.heap.size->RMk w w' w.heap.size y->X.wp Tryz.prog Q a' w'):
 (Code.seq ru3 (Code.seq ru4 (Code.seq ru5 X))).wp Tryz.prog Q a w:=by
 have hM:=hD.toM;have gn:=hM.ok hy;obtain ⟨ay,cy,cT,_,_⟩:=aL gn.kids;obtain ⟨qy,fM⟩:=ex (y.nd.kids.length);rw[<-fM]at cT;rw[cT]at z5;have bj:(j:Int)<(q:Int):=by omega
 have hr:RMk w (w.alloc (NdO y)) w.heap.size y:=RMk.new;have Hm:=hid (fun w3 (aV:Below w.heap.size w w3)=>Gh w3 y (gn.later aV));have Ho:=hid (fun w3 (aV:Below w.heap.size w w3) (arr:Array Value) (eC:arr.toList=[bS,a9,la].map Value.string)=>wA (w3.alloc (.cells arr 9)) db b o cap ms (hM.later (aV.alloc aV.size _)) y hy (.slice (some ⟨w3.heap.size,0,none⟩) 3 3) [bS,a9,la] (E2 w3 _ arr eC 3 rfl (by decide) _))
 have hE:=wH cT;rw[bA cT]at Hm Ho;rw[hE]at hr;have HR:=hid hr;have aG:=hid bad;have bh:=hid ok;have BG:=hid cT;obtain ⟨vv,rfl,eE⟩:=hf.shape;simp only[oK,eE];clear eE;clear hf bad ok hM gn cT fM hr hE hD hj;cases rQ:dg y.nd with
 |error e=>
  rw[rQ]at Hm;simp only at Hm;have HB:=hid (fun a' w'=>aG.o e a' w' (.inl rQ));clear aG bh rQ Ho;dsimp only[ru3,ru4,ru5,ncs,ncl,ncr,ncb,nco,nct,nce,ncx,Tryz.f84]
  go_wp2_with fail
  refine (Hm.o _ HR.o.below).mono ?_;rintro r w3 ⟨rfl,aV⟩;exact HB.o _ _ rfl (HR.o.below.trans (aV.mono HR.o.below.size))
 |ok u=>
  rw[rQ]at Hm;simp only at Hm;cases kY:bE (nds ms) [bS,a9,la] y.nd.kids with
  |error e=>
   have HB:=hid (fun a' w'=>aG.o e a' w' (.inr ⟨rQ,kY⟩));rw[kY]at Ho;unfold D5 at Ho;simp only at Ho;clear aG bh rQ kY;dsimp only[ru3,ru4,ru5,ncs,ncl,ncr,ncb,nco,nct,nce,ncx,Tryz.f84]
   go_wp2_with fail
   refine (Hm.o _ HR.o.below).mono ?_;rintro r w3 ⟨rfl,aV⟩;have uP:=hid (HR.o.later aV);obtain ⟨k0,k1,k2,k3,k4,k5⟩:=bm uP.o.kid BG.o;have DX:=hid (Ho.o w3 uP.o.below #[.string ⟨#[112,97,116,104]⟩,.string ⟨#[109,101,116,104,111,100]⟩,.string la] rfl);clear aV Hm Ho HR
   go_wp2_with fail
   refine DX.o.mono ?_;rintro r w4 ⟨rfl,bX⟩;have TX:=uP.o.later ((aBi _ _).alloc (aBh _) (.cells #[.string ⟨#[112,97,116,104]⟩,.string ⟨#[109,101,116,104,111,100]⟩,.string la] 9));exact HB.o _ _ rfl (TX.below.trans (bX.mono TX.below.size))
  |ok u2=>
   have HO:=hid (fun a' w'=>bh.o a' w' rQ kY);rw[kY]at Ho;unfold D5 at Ho;simp only at Ho;clear aG bh rQ kY;dsimp only[ru3,ru4,ru5,ncs,ncl,ncr,ncb,nco,nct,nce,ncx,Tryz.f84]
   go_wp2_with fail
   refine (Hm.o _ HR.o.below).mono ?_;rintro r w3 ⟨rfl,aV⟩;have uP:=hid (HR.o.later aV);obtain ⟨k0,k1,k2,k3,k4,k5⟩:=bm uP.o.kid BG.o;have DX:=hid (Ho.o w3 uP.o.below #[.string ⟨#[112,97,116,104]⟩,.string ⟨#[109,101,116,104,111,100]⟩,.string la] rfl);clear aV Hm Ho HR
   go_wp2_with fail
   refine DX.o.mono ?_;rintro r w4 ⟨rfl,bX⟩;have TX:=uP.o.later ((aBi _ _).alloc (aBh _) (.cells #[.string ⟨#[112,97,116,104]⟩,.string ⟨#[109,101,116,104,111,100]⟩,.string la] 9));have UA:=hid (TX.later bX);clear bX DX uP k0 k1 k2 k3 k4 k5 TX;go_wp2;exact HO.o _ _ ⟨rfl,rfl,rfl,rfl,rfl,rfl,rfl,rfl,rfl⟩ UA.o
theorem ru_b (X:Code) (hD:DocB w0 w db b o cap ms) (hf:RuK a db rb la lb lo q lc j kb) (hr:RMk w1 w kb y)
 (ok:∀a' w',RuT a' db rb la lb lo q lc j kb w.heap.size->RTg w1 w' kb y w.heap.size (RlO ⟨#[]⟩ oW ⟨#[]⟩ false)->DocB w0 w' db b o cap ms->X.wp Tryz.prog Q a' w'):(Code.seq ru6 X).wp Tryz.prog Q a w:=by
 have HT:=hid (RTg.new hr (RlO ⟨#[]⟩ oW ⟨#[]⟩ false));have HD:=hid (hD.later ((aBi w.heap.size w).alloc (aBh _) (RlO ⟨#[]⟩ oW ⟨#[]⟩ false)));have bh:=hid ok;obtain ⟨vv,rfl,eE⟩:=hf.shape;simp only[oK,eE];clear eE;clear hf ok hr hD;dsimp only[ru6,ncs,ncl,ncr,ncb,nco,nct,nce,ncx,Tryz.f84];go_wp2;exact bh.o _ _ ⟨rfl,rfl,rfl,rfl,rfl,rfl,rfl,rfl,rfl,rfl⟩ HT.o HD.o
theorem ru_c (X:Code) {p1 p2 p3:ByteArray} {pa:Bool} (hla:la=jr act) (hpa:pa=false) (hD:DocB w0 w db b o cap ms) (hy:y∈ms) (hf:RuT a db rb la lb lo q lc j kb tb) (hr:RTg w1 w kb y tb (RlO p1 p2 p3 pa)) (KD:tb≠db) (AL:w0.heap.size<=tb)
 (bad:∀e a' w',Bs (nds ms) act y.nd= .error e->a'.defers=[]->Below w1.heap.size w1 w'->Q (.panic (jl e)) a' w')
 (ok:∀a' w' av,Bs (nds ms) act y.nd= .ok av->RuT a' db rb la lb lo q lc j kb tb->RTg w1 w' kb y tb (RlO p1 p2 p3 (decide (av=kAllow)))->DocB w0 w' db b o cap ms->X.wp Tryz.prog Q a' w'):(Code.seq ru7 X).wp Tryz.prog Q a w:=by
 have hM:=hD.toM;have gn:=hM.ok hy;obtain ⟨ay,cy,cT,_,_⟩:=aL gn.kids;obtain ⟨qy,fM⟩:=ex (y.nd.kids.length);rw[<-fM]at cT;obtain ⟨k0,k1,k2,k3,k4,k5⟩:=bm hr.rm.kid cT;unfold Bs at bad ok;cases act with
 |false=>
  have uA:=kX (s:=la) (arr:=#[97,99,116,105,111,110]) (by rw[hla];unfold jr;decide);have bh:=hid ok;have HR:=hid hr;have HD:=hid hD;have Hpa:=hid hpa;obtain ⟨vv,rfl,eE⟩:=hf.shape;simp only[oK,eE];clear eE;clear hf bad ok hr hM gn cT fM hy hD hla hpa;dsimp only[ru7,ncs,ncl,ncr,ncb,nco,nct,nce,ncx,Tryz.f84];go_wp2;refine bh.o _ _ ⟨#[]⟩ rfl ⟨rfl,rfl,rfl,rfl,rfl,rfl,rfl,rfl,rfl,rfl⟩ (by rw[show decide ((⟨#[]⟩:ByteArray)=kAllow)=pa from by rw[Hpa.o];decide];exact HR.o) HD.o
 |true=>
  have Wo:la=ca:=by rw[hla];rfl
  subst Wo;have uA:=kG (s:=ca) (arr:=#[97,99,116,105,111,110]) rfl;rw[if_pos rfl]at bad ok;have ekx:ca=⟨#[97,99,116,105,111,110]⟩:=rfl;clear hla hpa;have Hn:=hid (kS w db b o cap ms hM y hy ca);rw[bA cT]at Hn;have iC:ca=⟨#[97,99,116,105,111,110]⟩:=rfl;have HR:=hid hr;have HD:=hid hD;have aG:=hid bad;have bh:=hid ok;have eh:=fun k (hk:bH (nds ms) y.nd ca=some k)=>cC hM hy hk
  obtain ⟨vv,rfl,eE⟩:=hf.shape;simp only[oK,eE];clear eE;clear hf bad ok hr hM gn cT fM hy hD;cases gj:bH (nds ms) y.nd ca with
  |none=>
   rw[gj]at Hn;simp only at Hn;rw[iC]at Hn;have HB:=hid (fun a' w'=>aG.o (y.nd.line,122) a' w' (by unfold nwP;rw[eA gj]));clear aG bh gj eh iC;dsimp only[ru7,ncs,ncl,ncr,ncb,nco,nct,nce,ncx,Tryz.f84]
   go_wp2_with fail
   refine Hn.o.mono ?_;rintro r w3 ⟨rfl,aV⟩;exact HB.o _ _ rfl (HR.o.rm.below.trans (aV.mono HR.o.rm.below.size))
  |some k=>
   rw[gj]at Hn;simp only at Hn;rw[iC]at Hn;obtain ⟨mk,cN,ed,fh,rR,ak,ck,cI⟩:=eh k gj;have hw:nwP (nds ms) y.nd ca il=aO mk.nd il:=by unfold nwP;rw[ez gj,fh]
   have eQ:=hid (fun w3 (aV:Below w.heap.size w w3)=>LY w3 mk (rR.later aV));have pZ:=hid cN;have qQ:=bA cI;have mJ:=hid qQ;rw[qQ]at eQ;clear eh iC gj cN ed fh rR cI qQ;cases fL:aO mk.nd il with
   |error e=>
    rw[fL]at eQ;simp only at eQ;have HB:=hid (fun a' w'=>aG.o e a' w' (hw.trans fL));clear aG bh hw fL;dsimp only[ru7,ncs,ncl,ncr,ncb,nco,nct,nce,ncx,Tryz.f84]
    go_wp2_with fail
    refine Hn.o.mono ?_;rintro r w3 ⟨⟨BC,bT,rfl⟩,aV⟩;have e2:=pZ.o;rw[e2]at bT;obtain rfl:=aBm bT;rw[mJ.o];have iF:=hid aV;have rJ:=hid (eQ.o w3 aV);clear aV bT e2 Hn eQ
    go_wp2_with fail
    refine rJ.o.mono ?_;rintro r w4 ⟨rfl,bX⟩;have kf:=iF.o.trans (bX.mono iF.o.size);exact HB.o _ _ rfl (HR.o.rm.below.trans (kf.mono HR.o.rm.below.size))
   |ok x=>
    rw[fL]at eQ;simp only at eQ;have HO:=hid (fun a' w'=>bh.o a' w' x (hw.trans fL));clear aG bh hw fL;obtain ⟨bv,SE⟩:=ex (decide (x=kAllow));have ub:(x.toList==(#[97,108,108,111,119]:Array UInt8).toList)=bv:=by
     rw[SE];by_cases e:x=kAllow
     ·rw[dT e];exact kG e
     ·rw[dF e];exact kX e
    have Hbv:=hid SE;clear SE;dsimp only[ru7,ncs,ncl,ncr,ncb,nco,nct,nce,ncx,Tryz.f84]
    go_wp2_with fail
    refine Hn.o.mono ?_;rintro r w3 ⟨⟨BC,bT,rfl⟩,aV⟩;have e2:=pZ.o;rw[e2]at bT;obtain rfl:=aBm bT;rw[mJ.o];have iF:=hid aV;have rJ:=hid (eQ.o w3 aV);clear aV bT e2 Hn eQ
    go_wp2_with fail
    refine rJ.o.mono ?_;rintro r w4 ⟨rfl,bX⟩;have kf:=iF.o.trans (bX.mono iF.o.size);have rO:=hid (HR.o.later kf);have Gt:=hid (HD.o.later kf);have t1:=aa rO.o.obj 3;have t2:=ah rO.o.obj 3;simp at t1;have HE:=hid (rO.o.set 3 (.bool bv));clear bX kf rJ;go_wp2;refine HO.o _ _ ⟨rfl,rfl,rfl,rfl,rfl,rfl,rfl,rfl,rfl,rfl⟩ (by rw[<-Hbv.o];exact HE.o) ?_;exact Gt.o.step (F:=fun k=>k=tb) ((Mod.refl _ _).setCell _ _ (fun _=>rfl)) (fun e=>KD e.symm) (fun k e=>by rw[e];exact AL)
theorem ru_d (X:Code) {p1 p2 p3:ByteArray} {pa:Bool} (hD:DocB w0 w db b o cap ms) (hy:y∈ms) (hf:RuT a db rb la lb lo q lc j kb tb) (hr:RTg w1 w kb y tb (RlO p1 p2 p3 pa)) (KD:tb≠db) (AL:w0.heap.size<=tb)
 (bad:∀e a' w',nwP (nds ms) y.nd bS ja= .error e->a'.defers=[]->Below w1.heap.size w1 w'->Q (.panic (jl e)) a' w')
 (ok:∀a' w' av,nwP (nds ms) y.nd bS ja= .ok av->RuT a' db rb la lb lo q lc j kb tb->RTg w1 w' kb y tb (RlO av p2 p3 pa)->DocB w0 w' db b o cap ms->X.wp Tryz.prog Q a' w'):(Code.seq MJ X).wp Tryz.prog Q a w:=by
 have hM:=hD.toM;have gn:=hM.ok hy;obtain ⟨ay,cy,cT,_,_⟩:=aL gn.kids;obtain ⟨qy,fM⟩:=ex (y.nd.kids.length);rw[<-fM]at cT;obtain ⟨k0,k1,k2,k3,k4,k5⟩:=bm hr.rm.kid cT;have Hn:=hid (kS w db b o cap ms hM y hy bS);rw[bA cT]at Hn;have iC:bS=⟨#[112,97,116,104]⟩:=rfl;have HR:=hid hr;have HD:=hid hD;have aG:=hid bad;have bh:=hid ok;have eh:=fun k (hk:bH (nds ms) y.nd bS=some k)=>cC hM hy hk
 obtain ⟨vv,rfl,eE⟩:=hf.shape;simp only[oK,eE];clear eE;clear hf bad ok hr hM gn cT fM hy hD;cases gj:bH (nds ms) y.nd bS with
 |none=>
  rw[gj]at Hn;simp only at Hn;rw[iC]at Hn;have HB:=hid (fun a' w'=>aG.o (y.nd.line,122) a' w' (by unfold nwP;rw[eA gj]));clear aG bh gj eh iC;dsimp only[MJ,ncs,ncl,ncr,ncb,nco,nct,nce,ncx,Tryz.f84]
  go_wp2_with fail
  refine Hn.o.mono ?_;rintro r w3 ⟨rfl,aV⟩;exact HB.o _ _ rfl (HR.o.rm.below.trans (aV.mono HR.o.rm.below.size))
 |some k=>
  rw[gj]at Hn;simp only at Hn;rw[iC]at Hn;obtain ⟨mk,cN,ed,fh,rR,ak,ck,cI⟩:=eh k gj;have hw:nwP (nds ms) y.nd bS ja=aO mk.nd ja:=by unfold nwP;rw[ez gj,fh]
  have eQ:=hid (fun w3 (aV:Below w.heap.size w w3)=>LX w3 mk (rR.later aV));have pZ:=hid cN;have qQ:=bA cI;have mJ:=hid qQ;rw[qQ]at eQ;clear eh iC gj cN ed fh rR cI qQ;cases fL:aO mk.nd ja with
  |error e=>
   rw[fL]at eQ;simp only at eQ;have HB:=hid (fun a' w'=>aG.o e a' w' (hw.trans fL));clear aG bh hw fL;dsimp only[MJ,ncs,ncl,ncr,ncb,nco,nct,nce,ncx,Tryz.f84]
   go_wp2_with fail
   refine Hn.o.mono ?_;rintro r w3 ⟨⟨BC,bT,rfl⟩,aV⟩;have e2:=pZ.o;rw[e2]at bT;obtain rfl:=aBm bT;rw[mJ.o];have iF:=hid aV;have rJ:=hid (eQ.o w3 aV);clear aV bT e2 Hn eQ
   go_wp2_with fail
   refine rJ.o.mono ?_;rintro r w4 ⟨rfl,bX⟩;have kf:=iF.o.trans (bX.mono iF.o.size);exact HB.o _ _ rfl (HR.o.rm.below.trans (kf.mono HR.o.rm.below.size))
  |ok x=>
   rw[fL]at eQ;simp only at eQ;have HO:=hid (fun a' w'=>bh.o a' w' x (hw.trans fL));clear aG bh hw fL;dsimp only[MJ,ncs,ncl,ncr,ncb,nco,nct,nce,ncx,Tryz.f84]
   go_wp2_with fail
   refine Hn.o.mono ?_;rintro r w3 ⟨⟨BC,bT,rfl⟩,aV⟩;have e2:=pZ.o;rw[e2]at bT;obtain rfl:=aBm bT;rw[mJ.o];have iF:=hid aV;have rJ:=hid (eQ.o w3 aV);clear aV bT e2 Hn eQ
   go_wp2_with fail
   refine rJ.o.mono ?_;rintro r w4 ⟨rfl,bX⟩;have kf:=iF.o.trans (bX.mono iF.o.size);have rO:=hid (HR.o.later kf);have Gt:=hid (HD.o.later kf);have t1:=aa rO.o.obj 0;have t2:=ah rO.o.obj 0;simp at t1;have HE:=hid (rO.o.set 0 (.string x));clear bX kf rJ;go_wp2;refine HO.o _ _ ⟨rfl,rfl,rfl,rfl,rfl,rfl,rfl,rfl,rfl,rfl⟩ HE.o ?_;exact Gt.o.step (F:=fun k=>k=tb) ((Mod.refl _ _).setCell _ _ (fun _=>rfl)) (fun e=>KD e.symm) (fun k e=>by rw[e];exact AL)
theorem ru_f (X:Code) {p1 p2 p3:ByteArray} {pa:Bool} (hla:la=jr act) (Qw:p3=⟨#[]⟩) (hD:DocB w0 w db b o cap ms) (hy:y∈ms) (hf:RuT a db rb la lb lo q lc j kb tb) (hr:RTg w1 w kb y tb (RlO p1 p2 p3 pa)) (KD:tb≠db) (AL:w0.heap.size<=tb)
 (bad:∀e a' w',Jo (nds ms) act y.nd= .error e->a'.defers=[]->Below w1.heap.size w1 w'->Q (.panic (jl e)) a' w')
 (ok:∀a' w' av,Jo (nds ms) act y.nd= .ok av->RuT a' db rb la lb lo q lc j kb tb->RTg w1 w' kb y tb (RlO p1 p2 av pa)->DocB w0 w' db b o cap ms->X.wp Tryz.prog Q a' w'):(Code.seq Jv X).wp Tryz.prog Q a w:=by
 have hM:=hD.toM;have gn:=hM.ok hy;obtain ⟨ay,cy,cT,_,_⟩:=aL gn.kids;obtain ⟨qy,fM⟩:=ex (y.nd.kids.length);rw[<-fM]at cT;obtain ⟨k0,k1,k2,k3,k4,k5⟩:=bm hr.rm.kid cT;unfold Jo at bad ok;cases act with
 |true=>
  have uA:=kX (s:=la) (arr:=#[115,112,108,105,116]) (by rw[hla];unfold jr;decide);have bh:=hid ok;have HR:=hid hr;have HD:=hid hD;obtain ⟨vv,rfl,eE⟩:=hf.shape;simp only[oK,eE];clear eE;clear hf bad ok hr hM gn cT fM hy hD hla;dsimp only[Jv,ncs,ncl,ncr,ncb,nco,nct,nce,ncx,Tryz.f84];go_wp2;refine bh.o _ _ ⟨#[]⟩ rfl ⟨rfl,rfl,rfl,rfl,rfl,rfl,rfl,rfl,rfl,rfl⟩ (by rw[<-Qw];exact HR.o) HD.o
 |false=>
  have Wo:la=aH:=by rw[hla];rfl
  subst Wo;have uA:=kG (s:=aH) (arr:=#[115,112,108,105,116]) rfl;rw[if_neg (by decide)]at bad ok;clear hla Qw;have Hn:=hid (kS w db b o cap ms hM y hy aH);rw[bA cT]at Hn;have iC:aH=⟨#[115,112,108,105,116]⟩:=rfl;have HR:=hid hr;have HD:=hid hD;have aG:=hid bad;have bh:=hid ok;have eh:=fun k (hk:bH (nds ms) y.nd aH=some k)=>cC hM hy hk;obtain ⟨vv,rfl,eE⟩:=hf.shape
  simp only[oK,eE];clear eE;clear hf bad ok hr hM gn cT fM hy hD;cases gj:bH (nds ms) y.nd aH with
  |none=>
   rw[gj]at Hn;simp only at Hn;rw[iC]at Hn;have HB:=hid (fun a' w'=>aG.o (y.nd.line,122) a' w' (by unfold nwP;rw[eA gj]));clear aG bh gj eh iC;dsimp only[Jv,ncs,ncl,ncr,ncb,nco,nct,nce,ncx,Tryz.f84]
   go_wp2_with fail
   refine Hn.o.mono ?_;rintro r w3 ⟨rfl,aV⟩;exact HB.o _ _ rfl (HR.o.rm.below.trans (aV.mono HR.o.rm.below.size))
  |some k=>
   rw[gj]at Hn;simp only at Hn;rw[iC]at Hn;obtain ⟨mk,cN,ed,fh,rR,ak,ck,cI⟩:=eh k gj;have hw:nwP (nds ms) y.nd aH aD=aO mk.nd aD:=by unfold nwP;rw[ez gj,fh]
   have eQ:=hid (fun w3 (aV:Below w.heap.size w w3)=>lr w3 mk (rR.later aV));have pZ:=hid cN;have qQ:=bA cI;have mJ:=hid qQ;rw[qQ]at eQ;clear eh iC gj cN ed fh rR cI qQ;cases fL:aO mk.nd aD with
   |error e=>
    rw[fL]at eQ;simp only at eQ;have HB:=hid (fun a' w'=>aG.o e a' w' (hw.trans fL));clear aG bh hw fL;dsimp only[Jv,ncs,ncl,ncr,ncb,nco,nct,nce,ncx,Tryz.f84]
    go_wp2_with fail
    refine Hn.o.mono ?_;rintro r w3 ⟨⟨BC,bT,rfl⟩,aV⟩;have e2:=pZ.o;rw[e2]at bT;obtain rfl:=aBm bT;rw[mJ.o];have iF:=hid aV;have rJ:=hid (eQ.o w3 aV);clear aV bT e2 Hn eQ
    go_wp2_with fail
    refine rJ.o.mono ?_;rintro r w4 ⟨rfl,bX⟩;have kf:=iF.o.trans (bX.mono iF.o.size);exact HB.o _ _ rfl (HR.o.rm.below.trans (kf.mono HR.o.rm.below.size))
   |ok x=>
    rw[fL]at eQ;simp only at eQ;have HO:=hid (fun a' w'=>bh.o a' w' x (hw.trans fL));clear aG bh hw fL;dsimp only[Jv,ncs,ncl,ncr,ncb,nco,nct,nce,ncx,Tryz.f84]
    go_wp2_with fail
    refine Hn.o.mono ?_;rintro r w3 ⟨⟨BC,bT,rfl⟩,aV⟩;have e2:=pZ.o;rw[e2]at bT;obtain rfl:=aBm bT;rw[mJ.o];have iF:=hid aV;have rJ:=hid (eQ.o w3 aV);clear aV bT e2 Hn eQ
    go_wp2_with fail
    refine rJ.o.mono ?_;rintro r w4 ⟨rfl,bX⟩;have kf:=iF.o.trans (bX.mono iF.o.size);have rO:=hid (HR.o.later kf);have Gt:=hid (HD.o.later kf);have t1:=aa rO.o.obj 2;have t2:=ah rO.o.obj 2;simp at t1;have HE:=hid (rO.o.set 2 (.string x));clear bX kf rJ;go_wp2;refine HO.o _ _ ⟨rfl,rfl,rfl,rfl,rfl,rfl,rfl,rfl,rfl,rfl⟩ HE.o ?_;exact Gt.o.step (F:=fun k=>k=tb) ((Mod.refl _ _).setCell _ _ (fun _=>rfl)) (fun e=>KD e.symm) (fun k e=>by rw[e];exact AL)
theorem ru_e (X:Code) {p1 p3:ByteArray} {pa:Bool} (hD:DocB w0 w db b o cap ms) (hy:y∈ms) (hf:RuT a db rb la lb lo q lc j kb tb) (hr:RTg w1 w kb y tb (RlO p1 oW p3 pa)) (KD:tb≠db) (AL:w0.heap.size<=tb)
 (bad:∀e a' w',yb (nds ms) y.nd= .error e->a'.defers=[]->Below w1.heap.size w1 w'->Q (.panic (jl e)) a' w')
 (ok:∀a' w' av,yb (nds ms) y.nd= .ok av->RuT a' db rb la lb lo q lc j kb tb->RTg w1 w' kb y tb (RlO p1 av p3 pa)->DocB w0 w' db b o cap ms->X.wp Tryz.prog Q a' w'):(Code.seq MI X).wp Tryz.prog Q a w:=by
 have hM:=hD.toM;have gn:=hM.ok hy;obtain ⟨ay,cy,cT,_,_⟩:=aL gn.kids;obtain ⟨qy,fM⟩:=ex (y.nd.kids.length);rw[<-fM]at cT;obtain ⟨k0,k1,k2,k3,k4,k5⟩:=bm hr.rm.kid cT;have Hn:=hid (oD w db b o cap ms hM y hy a9);rw[bA cT]at Hn;have iC:a9=⟨#[109,101,116,104,111,100]⟩:=rfl;have HR:=hid hr;have HD:=hid hD;have aG:=hid bad;have bh:=hid ok;have eh:=fun k (hk:bH (nds ms) y.nd a9=some k)=>cC hM hy hk
 obtain ⟨vv,rfl,eE⟩:=hf.shape;simp only[oK,eE];clear eE;cases gj:bH (nds ms) y.nd a9 with
 |none=>
  rw[gj]at Hn;have hv:yb (nds ms) y.nd= .ok oW:=by unfold yb aY;rw[gj];rfl
  have HO:=hid (fun a' w'=>bh.o a' w' _ hv);rw[iC]at Hn;unfold fO at Hn;simp only[Option.map_none]at Hn;clear hf bad ok hr hM gn cT fM hy hD aG bh gj eh iC hv;dsimp only[MI,ncs,ncl,ncr,ncb,nco,nct,nce,ncx,Tryz.f84]
  go_wp2_with fail
  refine Hn.o.mono ?_;rintro r w3 ⟨rfl,aV⟩;have rO:=hid (HR.o.later aV);have Gt:=hid (HD.o.later aV);clear aV Hn;go_wp2;exact HO.o _ _ ⟨rfl,rfl,rfl,rfl,rfl,rfl,rfl,rfl,rfl,rfl⟩ rO.o Gt.o
 |some k=>
  rw[gj]at Hn;rw[iC]at Hn;unfold fO at Hn;simp only[Option.map_some]at Hn;obtain ⟨mk,cN,ed,fh,rR,ak,ck,cI⟩:=eh k gj;have hv:yb (nds ms) y.nd=aO mk.nd gK:=by unfold yb aY;rw[gj];simp only[Option.map_some];rw[fh]
  have eQ:=hid (fun w3 (aV:Below w.heap.size w w3)=>I0 w3 mk (rR.later aV));rw[bA cI]at eQ;have Hnc:=hid (pB hM cN cI);clear hf bad ok hr hM gn cT fM hy hD gj eh iC cN ed fh rR cI;cases fL:aO mk.nd gK with
  |error e=>
   rw[fL]at eQ;simp only at eQ;have HB:=hid (fun a' w'=>aG.o e a' w' (hv.trans fL));clear aG bh hv fL;dsimp only[MI,ncs,ncl,ncr,ncb,nco,nct,nce,ncx,Tryz.f84]
   go_wp2_with fail
   refine Hn.o.mono ?_;rintro r w3 ⟨rfl,aV⟩;obtain ⟨n0,n1,n2,n3,n4,n5⟩:=Hnc.o _ aV;have rJ:=hid (eQ.o _ aV);have iF:=hid aV;clear Hn eQ Hnc aV
   go_wp2_with fail
   refine rJ.o.mono ?_;rintro r w4 ⟨rfl,bX⟩;have kf:=iF.o.trans (bX.mono iF.o.size);exact HB.o _ _ rfl (HR.o.rm.below.trans (kf.mono HR.o.rm.below.size))
  |ok x=>
   rw[fL]at eQ;simp only at eQ;have HO:=hid (fun a' w'=>bh.o a' w' _ (hv.trans fL));clear aG bh hv fL;dsimp only[MI,ncs,ncl,ncr,ncb,nco,nct,nce,ncx,Tryz.f84]
   go_wp2_with fail
   refine Hn.o.mono ?_;rintro r w3 ⟨rfl,aV⟩;obtain ⟨n0,n1,n2,n3,n4,n5⟩:=Hnc.o _ aV;have rJ:=hid (eQ.o _ aV);have iF:=hid aV;clear Hn eQ Hnc aV
   go_wp2_with fail
   refine rJ.o.mono ?_;rintro r w4 ⟨rfl,bX⟩;have kf:=iF.o.trans (bX.mono iF.o.size);have rO:=hid (HR.o.later kf);have Gt:=hid (HD.o.later kf);have t1:=aa rO.o.obj 1;have t2:=ah rO.o.obj 1;simp at t1;have HE:=hid (rO.o.set 1 (.string x));clear bX kf rJ n0 n1 n2 n3 n4 n5;go_wp2;refine HO.o _ _ ⟨rfl,rfl,rfl,rfl,rfl,rfl,rfl,rfl,rfl,rfl⟩ HE.o ?_;exact Gt.o.step (F:=fun k=>k=tb) ((Mod.refl _ _).setCell _ _ (fun _=>rfl)) (fun e=>KD e.symm) (fun k e=>by rw[e];exact AL)
end
