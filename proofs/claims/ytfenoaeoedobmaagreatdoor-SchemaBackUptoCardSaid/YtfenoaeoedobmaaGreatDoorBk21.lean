/-
Parts of a proof.
-/
import Derived.Test.YtfenoaeoedobmaaGreatDoorBk20
set_option linter.unusedVariables false
set_option linter.unusedSimpArgs false
set_option maxHeartbeats 4000000
set_option maxRecDepth 20000
namespace Go.Proofs.YtfenoaeoedobmaaGreatDoor
open Go Go.RowKit
section
variable {w0 w1 w:World} {Q:Exit->Act->World->Prop} {a:Act} {ms:List NdM} {db rb lb lo q lc j kb tb b o cap:Nat} {y:NdM}
theorem sp_a (X:Code) (hD:DocB w0 w db b o cap ms) (hy:y∈ms) (hf:SpO a db rb lb lo q lc j) (hj:j<q)
 (z0:w.cell? ⟨lb,lo+j*6,none⟩=some (.int .i64 y.nd.kind)) (z1:w.cell? ⟨lb,lo+j*6+1,none⟩=some (.string y.nd.key)) (z2:w.cell? ⟨lb,lo+j*6+2,none⟩=some (.string y.nd.text)) (z3:w.cell? ⟨lb,lo+j*6+3,none⟩=some (.bool y.nd.quoted)) (z4:w.cell? ⟨lb,lo+j*6+4,none⟩=some (.int .i64 y.nd.line)) (z5:w.cell? ⟨lb,lo+j*6+5,none⟩=some y.kv)
 (bad:∀e a' w',(mapP y.nd= .error e\/(mapP y.nd= .ok ()/\onlyP (nds ms) [aAv,aAu,aA8] y.nd.kids= .error e))->a'.defers=[]->Below w.heap.size w w'->Q (.panic (PanC e)) a' w')
 (ok:∀a' w',mapP y.nd= .ok ()->onlyP (nds ms) [aAv,aAu,aA8] y.nd.kids= .ok ()->SpK a' db rb lb lo q lc j w.heap.size->RMk w w' w.heap.size y->X.wp Tryz.prog Q a' w'):
 (Code.seq sp3 (Code.seq sp4 (Code.seq sp5 X))).wp Tryz.prog Q a w:=by
 have hM:=hD.toM;have hyo:=hM.ok hy;obtain ⟨ay,cy,hyv,_,_⟩:=aAj hyo.kids;obtain ⟨qy,hqy⟩:∃qy,qy=y.nd.kids.length:=⟨_,rfl⟩;rw[<-hqy]at hyv;rw[hyv]at z5;have bj:(j:Int)<(q:Int):=by omega
 have hr:RMk w (w.alloc (NdO y)) w.heap.size y:=RMk.new;have Hm:=hid (fun w3 (hb3:Below w.heap.size w w3)=>aVv w3 y (hyo.later hb3));have Ho:=hid (fun w3 (hb3:Below w.heap.size w w3) (arr:Array Value) (harr:arr.toList=[aAv,aAu,aA8].map Value.string)=>aN5 (w3.alloc (.cells arr 9)) db b o cap ms (hM.later (hb3.alloc hb3.size _)) y hy (.slice (some ⟨w3.heap.size,0,none⟩) 3 3) [aAv,aAu,aA8] (aVj w3 _ arr harr 3 rfl (by decide) _))
 have hE:=aN3 hyv;rw[aAx hyv]at Hm Ho;rw[hE]at hr;have HR:=hid hr;have Hbad:=hid bad;have Hok:=hid ok;have Hyv:=hid hyv;obtain ⟨vv,rfl,eE⟩:=hf.shape;simp only[sp_L,eE];clear eE;clear hf bad ok hM hyo hyv hqy hr hE hD hj;cases hmp:mapP y.nd with
 |error e=>
  rw[hmp]at Hm;simp only at Hm;have HB:=hid (fun a' w'=>Hbad.out e a' w' (.inl hmp));clear Hbad Hok hmp Ho;dsimp only[sp3,sp4,sp5,ncs,ncl,ncr,ncb,nco,nct,nce,ncx,Tryz.f48]
  go_wp2_with fail
  refine (Hm.out _ HR.out.below).mono ?_;rintro r w3 ⟨rfl,hb3⟩;exact HB.out _ _ rfl (HR.out.below.trans (hb3.mono HR.out.below.size))
 |ok u=>
  rw[hmp]at Hm;simp only at Hm;cases hop:onlyP (nds ms) [aAv,aAu,aA8] y.nd.kids with
  |error e=>
   have HB:=hid (fun a' w'=>Hbad.out e a' w' (.inr ⟨hmp,hop⟩));rw[hop]at Ho;unfold Ends at Ho;simp only at Ho;clear Hbad Hok hmp hop;dsimp only[sp3,sp4,sp5,ncs,ncl,ncr,ncb,nco,nct,nce,ncx,Tryz.f48]
   go_wp2_with fail
   refine (Hm.out _ HR.out.below).mono ?_;rintro r w3 ⟨rfl,hb3⟩;have HR3:=hid (HR.out.later hb3);obtain ⟨k0,k1,k2,k3,k4,k5⟩:=aAq HR3.out.kid Hyv.out;have Ho3:=hid (Ho.out w3 HR3.out.below #[.string ⟨#[115,101,114,118,105,99,101]⟩,.string ⟨#[115,112,108,105,116]⟩,.string ⟨#[119,101,105,103,104,116]⟩] rfl);clear hb3 Hm Ho HR
   go_wp2_with fail
   refine Ho3.out.mono ?_;rintro r w4 ⟨rfl,hb4⟩;have hr4:=HR3.out.later ((a7d _ _).alloc (a7c _) (.cells #[.string ⟨#[115,101,114,118,105,99,101]⟩,.string ⟨#[115,112,108,105,116]⟩,.string ⟨#[119,101,105,103,104,116]⟩] 9));exact HB.out _ _ rfl (hr4.below.trans (hb4.mono hr4.below.size))
  |ok u2=>
   have HO:=hid (fun a' w'=>Hok.out a' w' hmp hop);rw[hop]at Ho;unfold Ends at Ho;simp only at Ho;clear Hbad Hok hmp hop;dsimp only[sp3,sp4,sp5,ncs,ncl,ncr,ncb,nco,nct,nce,ncx,Tryz.f48]
   go_wp2_with fail
   refine (Hm.out _ HR.out.below).mono ?_;rintro r w3 ⟨rfl,hb3⟩;have HR3:=hid (HR.out.later hb3);obtain ⟨k0,k1,k2,k3,k4,k5⟩:=aAq HR3.out.kid Hyv.out;have Ho3:=hid (Ho.out w3 HR3.out.below #[.string ⟨#[115,101,114,118,105,99,101]⟩,.string ⟨#[115,112,108,105,116]⟩,.string ⟨#[119,101,105,103,104,116]⟩] rfl);clear hb3 Hm Ho HR
   go_wp2_with fail
   refine Ho3.out.mono ?_;rintro r w4 ⟨rfl,hb4⟩;have HR4:=hid ((HR3.out.later ((a7d _ _).alloc (a7c _) (.cells #[.string ⟨#[115,101,114,118,105,99,101]⟩,.string ⟨#[115,112,108,105,116]⟩,.string ⟨#[119,101,105,103,104,116]⟩] 9))).later hb4);clear hb4 Ho3 HR3 k0 k1 k2 k3 k4 k5;go_wp2;exact HO.out _ _ ⟨rfl,rfl,rfl,rfl,rfl,rfl,rfl,rfl⟩ HR4.out
theorem sp_b (X:Code) (hD:DocB w0 w db b o cap ms) (hy:y∈ms) (hf:SpK a db rb lb lo q lc j kb) (hr:RMk w1 w kb y)
 (ok:∀a' w',SpA a' db rb lb lo q lc j kb (aDh b o (aA2 (nds ms) y.nd aAv)) (aDh b o (aA2 (nds ms) y.nd aAu))->RMk w1 w' kb y->DocB w0 w' db b o cap ms->X.wp Tryz.prog Q a' w'):(Code.seq sp6 X).wp Tryz.prog Q a w:=by
 have hM:=hD.toM;have hyo:=hM.ok hy;obtain ⟨ay,cy,hyv,_,_⟩:=aAj hyo.kids;obtain ⟨qy,hqy⟩:∃qy,qy=y.nd.kids.length:=⟨_,rfl⟩;rw[<-hqy]at hyv;have Hf:=hid (fun key w3 (hb3:Below w.heap.size w w3)=>aHv w3 db b o cap ms (hM.later hb3) y hy key);rw[aAx hyv]at Hf;have hK0:KS w1 w w.drew kb y ay qy cy:=a0i hr hyv;have Hok:=hid (fun a' w' (h1:KRg w1 w w' kb y) hf'=>ok a' w' hf' h1.rm (hD.later h1.bw))
 have hst:∀w' w'':World,KS w1 w w' kb y ay qy cy->Below w'.heap.size w' w''->KS w1 w w'' kb y ay qy cy:=fun _ _ h hb=>a5m h hb hyv;have hkb:∀w':World,KS w1 w w' kb y ay qy cy->Below w.heap.size w w':=fun _ h=>ks_bw h;have Hst:=hid hst;have Hkb:=hid hkb;obtain ⟨vv,rfl,eE⟩:=hf.shape;simp only[sp_L,eE];clear eE;clear hf ok hM hyo hyv hqy hr hD hst hkb;dsimp only[sp6,ncs,ncl,ncr,ncb,nco,nct,nce,ncx,Tryz.f48]
 go_wp2
 go_region_held3 (fun w'=>KS w1 w w' kb y ay qy cy) (first|exact hK0|(refine Hst.out _ _ ?_ hb3;assumption)|assumption)
  (first|(go_at_call 43;refine (Hf.out _ _ ?_).mono ?_;(refine Hkb.out _ ?_;assumption);rintro r w3 ⟨rfl,hb3⟩))
 all_goals go_wp2
 all_goals refine Hok.out _ _ ?_ ⟨rfl,rfl,rfl,rfl,rfl,rfl,rfl,rfl,rfl,rfl⟩
 all_goals first|exact (show KS w1 w _ kb y ay qy cy from by assumption).2.2.2.2.2.2|exact (show KS w1 w _ kb y ay qy cy from by refine Hst.out _ _ ?_ hb3;assumption).2.2.2.2.2.2
def aD5 (ns:List Nd) (k:Nd):R (ByteArray×ByteArray):=
 match aA9 ns k aAv,aA9 ns k aAu with
  |none,none=>(.error (k.line,122):R (ByteArray×ByteArray))
  |some _,some b=> .error ((aCp ns k.kids b).line,121)
  |some a,none=>(match wordP a aAs with| .error e=> .error e| .ok s=> .ok (s,⟨#[]⟩))
  |none,some b=>(match wordP b aAs with| .error e=> .error e| .ok s=> .ok (⟨#[]⟩,s))
theorem aFz (ns:List Nd) (k:Nd):aCq ns k=(match mapP k with
 | .error e=> .error e
 | .ok ()=>
 match onlyP ns [aAv,aAu,aA8] k.kids with
 | .error e=> .error e
 | .ok ()=>
 match aD5 ns k with
 | .error e=> .error e
 | .ok (a,b)=>
 match needP ns k aA8 with
 | .error e=> .error e
 | .ok n=>
 match aCd n with
 | .error e=> .error e
 | .ok x=> .ok ⟨a,b,x⟩):=rfl
theorem aFr {s:ByteArray} {arr:Array UInt8} (h:s=⟨arr⟩):(s.toList==arr.toList)=true:=aEb (by rw[h])
theorem aGc {s:ByteArray} {arr:Array UInt8} (h:¬s=⟨arr⟩):(s.toList==arr.toList)=false:=aF7 (fun e=>h (aGi e))
theorem aN8 {ns:List Nd} {l:List Int} {i k:Nat} {b:Nd} (h:l[i]? =some (k:Int)):aCp ns (l.take (i+1)) b=if (ns[k]!).key=aAv\/(ns[k]!).key=aAu then ns[k]! else aCp ns (l.take i) b:=by
 unfold aCp;rw[List.take_add_one,h];simp
theorem aHy {w:World} {db b o cap:Nat} {ms:List NdM} (h:DocM w db b o cap ms) {k:Nat} {mk:NdM} (hk:ms[k]? =some mk) {ay:Option Addr} {qy cy:Nat} (hv:mk.kv= .slice ay qy cy):∀w1,Below w.heap.size w w1->
 w1.cell? ⟨b,o+k*6,none⟩=some (.int .i64 mk.nd.kind)/\w1.cell? ⟨b,o+k*6+1,none⟩=some (.string mk.nd.key)/\w1.cell? ⟨b,o+k*6+2,none⟩=some (.string mk.nd.text)/\w1.cell? ⟨b,o+k*6+3,none⟩=some (.bool mk.nd.quoted)/\w1.cell? ⟨b,o+k*6+4,none⟩=some (.int .i64 mk.nd.line)/\w1.cell? ⟨b,o+k*6+5,none⟩=some (.slice ay qy cy):=by
 intro w1 hb;have c:=(h.at hk).1;exact ⟨(hb.cell h.blt).trans c.c0,(hb.cell h.blt).trans c.c1,(hb.cell h.blt).trans c.c2,(hb.cell h.blt).trans c.c3,(hb.cell h.blt).trans c.c4,(hb.cell h.blt).trans (by rw[<-hv];exact c.c5)⟩
theorem aBc {w:World} {db b o cap:Nat} {ms:List NdM} (h:DocM w db b o cap ms) {m:NdM} (hm:m∈ms) {key:ByteArray} {k:Nat} (hk:aA2 (nds ms) m.nd key=some k):∃mk,ms[k]? =some mk/\mk∈ms/\(nds ms)[k]! =mk.nd/\mk.Ok w/\∃ay cy,mk.kv= .slice ay mk.nd.kids.length cy:=by
 obtain ⟨z,hz,e,_⟩:=aGj hk;obtain ⟨k',mk,e2,hk',hmem⟩:=h.kid hm hz;have h2:ms[k]? =some mk:=by rw[<-e,e2];simpa using hk'
 obtain ⟨ay,cy,hv,_⟩:=aAj (h.ok hmem).kids;exact ⟨mk,h2,hmem,aDv h2,h.ok hmem,ay,cy,hv⟩
abbrev TgO (a b:ByteArray) (x:Nat):Obj:= .cells #[.string a,.string b,.float .f64 x] 58
theorem sp_c (X:Code) (hD:DocB w0 w db b o cap ms) (hy:y∈ms) (hf:SpA a db rb lb lo q lc j kb (aDh b o (aA2 (nds ms) y.nd aAv)) (aDh b o (aA2 (nds ms) y.nd aAu))) (hr:RMk w1 w kb y)
 (bad:∀e a' w',aD5 (nds ms) y.nd= .error e->a'.defers=[]->Below w1.heap.size w1 w'->Q (.panic (PanC e)) a' w')
 (ok:∀a' w' p,aD5 (nds ms) y.nd= .ok p->SpT a' db rb lb lo q lc j kb w.heap.size->RTg w1 w' kb y w.heap.size (TgO p.1 p.2 0)->DocB w0 w' db b o cap ms->X.wp Tryz.prog Q a' w'):(Code.seq sp7 (Code.seq sp9 X)).wp Tryz.prog Q a w:=by
 have hM:=hD.toM;have hyo:=hM.ok hy;obtain ⟨ay,cy,hyv,hyl,hks⟩:=aAj hyo.kids;obtain ⟨qy,hqy⟩:∃qy,qy=y.nd.kids.length:=⟨_,rfl⟩;rw[<-hqy]at hyv hyl hks;have HT0:=hid (RTg.new hr (TgO ⟨#[]⟩ ⟨#[]⟩ 0));have HbT:=hid ((a7d w.heap.size w).alloc (a7c _) (TgO ⟨#[]⟩ ⟨#[]⟩ 0));have Hbad:=hid bad;have Hok:=hid ok;have HD:=hid hD;have hk4:∀w',RMk w1 w' kb y->w'.cell? ⟨kb,4,none⟩=some (.int .i64 y.nd.line):=fun w' h=>(aAq h.kid hyv).2.2.2.2.1
 have hk5:∀w',RMk w1 w' kb y->w'.cell? ⟨kb,5,none⟩=some (.slice ay qy cy):=fun w' h=>(aAq h.kid hyv).2.2.2.2.2;have Hfl:=hid (fun w3 l e=>aGa w3 l e);have kb4:=hk4 _ HT0.out.rm;have kb5:=hk5 _ HT0.out.rm;have Hw:=hid (fun w3 m (hm:NdM.Ok w3 m)=>aFq w3 m hm);obtain ⟨vv,rfl,eE⟩:=hf.shape;simp only[sp_L,eE];clear eE;clear hf bad ok hD hr hk4 hk5;cases hxa:aA2 (nds ms) y.nd aAv with
 |none=>
  cases hxb:aA2 (nds ms) y.nd aAu with
  |none=>
   have hv:aD5 (nds ms) y.nd= .error (y.nd.line,122):=by unfold aD5 aA9;rw[hxa,hxb];rfl
   have HB:=hid (fun a' w'=>Hbad.out _ a' w' hv);unfold aDh;simp only[Option.map_none];clear Hbad Hok hv hxa hxb hM hyo hyv hyl hks hqy hy;dsimp only[sp7,sp9,ncs,ncl,ncr,ncb,nco,nct,nce,ncx,Tryz.f48]
   go_wp2_with fail
   refine (Hfl.out _ _ _).mono ?_;rintro r w3 ⟨rfl,rfl⟩;exact HB.out _ _ rfl HT0.out.rm.below
  |some z=>
   obtain ⟨mz,hmz,hmem,hnd,hzo,az,cz,hzv⟩:=aBc hM hy hxb;have hv:aD5 (nds ms) y.nd=(match wordP mz.nd aAs with| .error e=> .error e| .ok s=> .ok (⟨#[]⟩,s)):=by unfold aD5 aA9;rw[hxa,hxb];simp only[Option.map_none,Option.map_some,hnd]
   obtain ⟨qz,hqz⟩:∃qz,qz=mz.nd.kids.length:=⟨_,rfl⟩;rw[<-hqz]at hzv;obtain ⟨n0,n1,n2,n3,n4,n5⟩:=aHy hM hmz hzv _ HbT.out;have Hwz:=hid (Hw.out _ mz (hzo.later HbT.out));rw[aAx hzv]at Hwz;unfold aDh;simp only[Option.map_none,Option.map_some];cases hwp:wordP mz.nd aAs with
   |error e=>
    rw[hwp]at Hwz hv;simp only at Hwz hv;have HB:=hid (fun a' w'=>Hbad.out _ a' w' hv);clear Hbad Hok hv hxa hxb hM hyo hyv hyl hks hqy hy hmz hmem hnd hzo hqz hzv hwp Hw;dsimp only[sp7,sp9,ncs,ncl,ncr,ncb,nco,nct,nce,ncx,Tryz.f48]
    go_wp2_with fail
    refine Hwz.out.mono ?_;rintro r w3 ⟨rfl,hb3⟩;exact HB.out _ _ rfl (HT0.out.rm.below.trans (hb3.mono HT0.out.rm.below.size))
   |ok s=>
    rw[hwp]at Hwz hv;simp only at Hwz hv;have HO:=hid (fun a' w'=>Hok.out a' w' _ hv);clear Hbad Hok hv hxa hxb hM hyo hyv hyl hks hqy hy hmz hmem hnd hzo hqz hzv hwp Hw;dsimp only[sp7,sp9,ncs,ncl,ncr,ncb,nco,nct,nce,ncx,Tryz.f48]
    go_wp2_with fail
    refine Hwz.out.mono ?_;rintro r w3 ⟨rfl,hb3⟩;have HT1:=hid (HT0.out.later hb3);have HD1:=hid ((HD.out.later HbT.out).later hb3);have t1:=aAa HT1.out.obj 1;have t2:=aAd HT1.out.obj 1;simp at t1;have HE:=hid (HT1.out.set 1 (.string s));clear hb3 Hwz;go_wp2;refine HO.out _ _ ⟨rfl,rfl,rfl,rfl,rfl,rfl,rfl,rfl,rfl⟩ HE.out ?_;exact HD1.out.step (F:=fun k=>k=w.heap.size) ((Mod.refl _ _).setCell _ _ (fun _=>rfl)) (fun e=>by have:=aAb HD.out.doc;omega) (fun k e=>by rw[e];exact HD.out.below.size)
 |some x=>
  obtain ⟨mx,hmx,hmemx,hndx,hxo,ax,cx,hxv⟩:=aBc hM hy hxa;cases hxb:aA2 (nds ms) y.nd aAu with
  |none=>
   have hv:aD5 (nds ms) y.nd=(match wordP mx.nd aAs with| .error e=> .error e| .ok s=> .ok (s,⟨#[]⟩)):=by unfold aD5 aA9;rw[hxa,hxb];simp only[Option.map_none,Option.map_some,hndx]
   obtain ⟨qx,hqx⟩:∃qx,qx=mx.nd.kids.length:=⟨_,rfl⟩;rw[<-hqx]at hxv;obtain ⟨n0,n1,n2,n3,n4,n5⟩:=aHy hM hmx hxv _ HbT.out;have Hwz:=hid (Hw.out _ mx (hxo.later HbT.out));rw[aAx hxv]at Hwz;unfold aDh;simp only[Option.map_none,Option.map_some];cases hwp:wordP mx.nd aAs with
   |error e=>
    rw[hwp]at Hwz hv;simp only at Hwz hv;have HB:=hid (fun a' w'=>Hbad.out _ a' w' hv);clear Hbad Hok hv hxa hxb hM hyo hyv hyl hks hqy hy hmx hmemx hndx hxo hqx hxv hwp Hw;dsimp only[sp7,sp9,ncs,ncl,ncr,ncb,nco,nct,nce,ncx,Tryz.f48]
    go_wp2_with fail
    refine Hwz.out.mono ?_;rintro r w3 ⟨rfl,hb3⟩;exact HB.out _ _ rfl (HT0.out.rm.below.trans (hb3.mono HT0.out.rm.below.size))
   |ok s=>
    rw[hwp]at Hwz hv;simp only at Hwz hv;have HO:=hid (fun a' w'=>Hok.out a' w' _ hv);clear Hbad Hok hv hxa hxb hM hyo hyv hyl hks hqy hy hmx hmemx hndx hxo hqx hxv hwp Hw;dsimp only[sp7,sp9,ncs,ncl,ncr,ncb,nco,nct,nce,ncx,Tryz.f48]
    go_wp2_with fail
    refine Hwz.out.mono ?_;rintro r w3 ⟨rfl,hb3⟩;have HT1:=hid (HT0.out.later hb3);have HD1:=hid ((HD.out.later HbT.out).later hb3);have t1:=aAa HT1.out.obj 0;have t2:=aAd HT1.out.obj 0;simp at t1;have HE:=hid (HT1.out.set 0 (.string s));clear hb3 Hwz;go_wp2;refine HO.out _ _ ⟨rfl,rfl,rfl,rfl,rfl,rfl,rfl,rfl,rfl⟩ HE.out ?_;exact HD1.out.step (F:=fun k=>k=w.heap.size) ((Mod.refl _ _).setCell _ _ (fun _=>rfl)) (fun e=>by have:=aAb HD.out.doc;omega) (fun k e=>by rw[e];exact HD.out.below.size)
  |some z=>
   obtain ⟨mz,hmz,hmem,hnd,hzo,az,cz,hzv⟩:=aBc hM hy hxb;have hv:aD5 (nds ms) y.nd= .error ((aCp (nds ms) y.nd.kids ((nds ms)[z]!)).line,121):=by unfold aD5 aA9;rw[hxa,hxb];rfl
   have HB:=hid (fun a' w'=>Hbad.out _ a' w' hv);obtain ⟨n,hn⟩:∃n,n=ms.length:=⟨_,rfl⟩;have d0:(w.alloc (TgO ⟨#[]⟩ ⟨#[]⟩ 0)).cell? ⟨db,0,none⟩=some (.slice (some ⟨b,o,none⟩) n cap):=by
    rw[hn];exact (World.cell?_of_block (aAe _ (aAb hM.doc))).trans (aAa hM.doc 0)
   have Hkid:=hid (fun i (hi:i<qy)=>show ∃(k:Nat) (mk:NdM),y.nd.kids[i]? =some (k:Int)/\ms[k]? =some mk/\k<n from by
    obtain ⟨x,hx⟩:∃x,y.nd.kids[i]? =some x:=aAh (by omega);obtain ⟨k,mk,e,hk,_⟩:=hM.kid hy (List.mem_of_getElem? hx);exact ⟨k,mk,by rw[hx,e],hk,by rw[hn];exact (a7j hk).1⟩)
   have Hks:=hid hks;have Hq:=hid hqy;have Hyl:=hid hyl;have HM:=hid hM;have Hn:=hid hn;have Hz:=hid (show z<ms.length from (a7j hmz).1);unfold aDh;simp only[Option.map_some];clear Hbad Hok hv hxa hxb hM hyo hyv hyl hks hqy hy hmx hmemx hndx hxo hxv Hw hmz hmem hnd hzo hzv hn;dsimp only[sp7,sp9,ncs,ncl,ncr,ncb,nco,nct,nce,ncx,Tryz.f48];go_wp2
   go_loopw [11,63] (fun vp vi wr=>∃(s i:Nat),vp= .pointer (some ⟨b,o+s*6,none⟩)/\vi= .int .i64 (i:Int)/\w.alloc (TgO ⟨#[]⟩ ⟨#[]⟩ 0)=wr/\Hid (i<=qy/\s<ms.length/\(nds ms)[s]! =aCp (nds ms) (y.nd.kids.take i) ((nds ms)[z]!))) (fun _ vi _=>qy-(intOf vi).toNat)
   case atStart=>exact ⟨z,0,rfl,rfl,rfl,hid ⟨Nat.zero_le _,Hz.out,rfl⟩⟩
   case round=>
    obtain ⟨s,i,rfl,rfl,rfl,H⟩:=hrel;by_cases hi:i<qy
    ·have ti:decide (i<qy)=true:=dT hi;have bi:(i:Int)<(qy:Int):=by omega
     obtain ⟨k,mk,hx,hk,hkn⟩:=Hkid.out i hi;obtain ⟨b3,o3,rfl,hb3,hc⟩:=Hks.out (by omega);have x1:(w.alloc (TgO ⟨#[]⟩ ⟨#[]⟩ 0)).cell? ⟨b3,o3+i,none⟩=some (.int .i64 (k:Int)):=(World.cell?_of_block (aAe _ hb3)).trans (hc i _ hx);have y1:(w.alloc (TgO ⟨#[]⟩ ⟨#[]⟩ 0)).cell? ⟨b,o+k*6+1,none⟩=some (.string mk.nd.key):=(World.cell?_of_block (aAe _ HM.out.blt)).trans (HM.out.at hk).1.c1;have bk:(k:Int)<(n:Int):=by omega
     have hkd:=aDv hk;have hst:=aN8 (ns:=nds ms) (b:=(nds ms)[z]!) hx;rw[hkd]at hst;have hkl:=(a7j hk).1;obtain ⟨Hms,Hgo⟩:=aA3 (k:=i) (n:=qy) hi (by have:=Hyl.out;omega);by_cases e1:mk.nd.key=aAv
     ·have u1:=aFr e1;rw[if_pos (.inl e1)]at hst;have Hnx:=hid (show i+1<=qy/\k<ms.length/\(nds ms)[k]! =aCp (nds ms) (y.nd.kids.take (i+1)) ((nds ms)[z]!) from ⟨hi,hkl,by rw[hst,hkd]⟩);clear hst hkd hkl hk hx hc hb3 H Hkid Hks hi hkn e1 HM HB;go_wp2;go_roundw
      case rel=>exact ⟨k,i+1,rfl,Hgo.out,trivial,Hnx⟩
      case measure=>exact Hms.out
     ·have u1:=aGc e1;by_cases e2:mk.nd.key=aAu
      ·have u2:=aFr e2;rw[if_pos (.inr e2)]at hst;have Hnx:=hid (show i+1<=qy/\k<ms.length/\(nds ms)[k]! =aCp (nds ms) (y.nd.kids.take (i+1)) ((nds ms)[z]!) from ⟨hi,hkl,by rw[hst,hkd]⟩);clear hst hkd hkl hk hx hc hb3 H Hkid Hks hi hkn e1 e2 HM HB;go_wp2;go_roundw
       case rel=>exact ⟨k,i+1,rfl,Hgo.out,trivial,Hnx⟩
       case measure=>exact Hms.out
      ·have u2:=aGc e2;rw[if_neg (by rintro (q|q);exact e1 q;exact e2 q)]at hst;have Hnx:=hid (show i+1<=qy/\s<ms.length/\(nds ms)[s]! =aCp (nds ms) (y.nd.kids.take (i+1)) ((nds ms)[z]!) from ⟨hi,H.out.2.1,by rw[hst];exact H.out.2.2⟩);clear hst hkd hkl hk hx hc hb3 H Hkid Hks hi hkn e1 e2 HM HB;go_wp2;go_roundw
       case rel=>exact ⟨s,i+1,rfl,Hgo.out,trivial,Hnx⟩
       case measure=>exact Hms.out
    ·have ti:decide (i<qy)=false:=dF hi;obtain ⟨msn,hmsn⟩:∃msn,ms[s]? =some msn:=aAh H.out.2.1;have y4:(w.alloc (TgO ⟨#[]⟩ ⟨#[]⟩ 0)).cell? ⟨b,o+s*6+4,none⟩=some (.int .i64 msn.nd.line):=(World.cell?_of_block (aAe _ HM.out.blt)).trans (HM.out.at hmsn).1.c4;have hfin:(aCp (nds ms) y.nd.kids ((nds ms)[z]!)).line=msn.nd.line:=by
      have e3:=H.out.2.2;rw[List.take_of_length_le (by have:=Hq.out;omega),aDv hmsn]at e3;rw[<-e3]
     have Hfin:=hid hfin;clear H Hkid Hks hi HM hmsn hfin
     go_wp2_with fail
     refine (Hfl.out _ _ _).mono ?_;rintro r w3 ⟨rfl,rfl⟩;rw[<-Hfin.out];exact HB.out _ _ rfl HT0.out.rm.below
end
