/-
Parts of a proof.
-/
import Derived.Test.YtfenoaeoedobmaaGreatDoorOw19
set_option linter.unusedVariables false
set_option linter.unusedSimpArgs false
set_option maxHeartbeats 4000000
set_option maxRecDepth 20000
namespace Go.Proofs.YtfenoaeoedobmaaGreatDoor
open Go Go.RowKit
section
variable {w0 w1 w:World} {Q:Exit->Act->World->Prop} {a:Act} {ms:List NdM} {db rb lb lo q lc j kb tb b o cap:Nat} {y:NdM}
theorem sp_a (X:Code) (hD:DocB w0 w db b o cap ms) (hy:y∈ms) (hf:SpO a db rb lb lo q lc j) (hj:j<q)
 (z0:w.cell? ⟨lb,lo+j*6,none⟩=some (.int .i64 y.nd.kind)) (z1:w.cell? ⟨lb,lo+j*6+1,none⟩=some (.string y.nd.key)) (z2:w.cell? ⟨lb,lo+j*6+2,none⟩=some (.string y.nd.text)) (z3:w.cell? ⟨lb,lo+j*6+3,none⟩=some (.bool y.nd.quoted)) (z4:w.cell? ⟨lb,lo+j*6+4,none⟩=some (.int .i64 y.nd.line)) (z5:w.cell? ⟨lb,lo+j*6+5,none⟩=some y.kv)
 (bad:∀e a' w',(dt y.nd= .error e\/(dt y.nd= .ok ()/\bG (nds ms) [bd,aU,bD] y.nd.kids= .error e))->a'.defers=[]->Below w.heap.size w w'->Q (.panic (gh e)) a' w')
 (ok:∀a' w',dt y.nd= .ok ()->bG (nds ms) [bd,aU,bD] y.nd.kids= .ok ()->SpK a' db rb lb lo q lc j w.heap.size->RMk w w' w.heap.size y->X.wp Tryz.prog Q a' w'):
 (Code.seq sp3 (Code.seq sp4 (Code.seq sp5 X))).wp Tryz.prog Q a w:=by
 have hM:=hD.toM;have hyo:=hM.ok hy;obtain ⟨ay,cy,hyv,_,_⟩:=aF hyo.kids;obtain ⟨qy,hqy⟩:=ex (y.nd.kids.length);rw[<-hqy]at hyv;rw[hyv]at z5;have bj:(j:Int)<(q:Int):=by omega
 have hr:RMk w (w.alloc (NdO y)) w.heap.size y:=RMk.new;have Hm:=hid (fun w3 (hb3:Below w.heap.size w w3)=>xo w3 y (hyo.later hb3));have Ho:=hid (fun w3 (hb3:Below w.heap.size w w3) (arr:Array Value) (harr:arr.toList=[bd,aU,bD].map Value.string)=>oI (w3.alloc (.cells arr 9)) db b o cap ms (hM.later (hb3.alloc hb3.size _)) y hy (.slice (some ⟨w3.heap.size,0,none⟩) 3 3) [bd,aU,bD] (pieces w3 _ arr harr 3 rfl (by decide) _))
 have hE:=oN hyv;rw[aZ hyv]at Hm Ho;rw[hE]at hr;have HR:=hid hr;have Hbad:=hid bad;have Hok:=hid ok;have Hyv:=hid hyv;obtain ⟨vv,rfl,eE⟩:=hf.shape;simp only[lU,eE];clear eE;clear hf bad ok hM hyo hyv hqy hr hE hD hj;cases hmp:dt y.nd with
 |error e=>
  rw[hmp]at Hm;simp only at Hm;have HB:=hid (fun a' w'=>Hbad.o e a' w' (.inl hmp));clear Hbad Hok hmp Ho;dsimp only[sp3,sp4,sp5,ncs,ncl,ncr,ncb,nco,nct,nce,ncx,Tryz.f48]
  go_wp2_with fail
  refine (Hm.o _ HR.o.below).mono ?_;rintro r w3 ⟨rfl,hb3⟩;exact HB.o _ _ rfl (HR.o.below.trans (hb3.mono HR.o.below.size))
 |ok u=>
  rw[hmp]at Hm;simp only at Hm;cases hop:bG (nds ms) [bd,aU,bD] y.nd.kids with
  |error e=>
   have HB:=hid (fun a' w'=>Hbad.o e a' w' (.inr ⟨hmp,hop⟩));rw[hop]at Ho;unfold Ends at Ho;simp only at Ho;clear Hbad Hok hmp hop;dsimp only[sp3,sp4,sp5,ncs,ncl,ncr,ncb,nco,nct,nce,ncx,Tryz.f48]
   go_wp2_with fail
   refine (Hm.o _ HR.o.below).mono ?_;rintro r w3 ⟨rfl,hb3⟩;have HR3:=hid (HR.o.later hb3);obtain ⟨k0,k1,k2,k3,k4,k5⟩:=aV HR3.o.kid Hyv.o;have Ho3:=hid (Ho.o w3 HR3.o.below #[.string ⟨#[115,101,114,118,105,99,101]⟩,.string ⟨#[115,112,108,105,116]⟩,.string ⟨#[119,101,105,103,104,116]⟩] rfl);clear hb3 Hm Ho HR
   go_wp2_with fail
   refine Ho3.o.mono ?_;rintro r w4 ⟨rfl,hb4⟩;have hr4:=HR3.o.later ((aAb _ _).alloc (aAa _) (.cells #[.string ⟨#[115,101,114,118,105,99,101]⟩,.string ⟨#[115,112,108,105,116]⟩,.string ⟨#[119,101,105,103,104,116]⟩] 9));exact HB.o _ _ rfl (hr4.below.trans (hb4.mono hr4.below.size))
  |ok u2=>
   have HO:=hid (fun a' w'=>Hok.o a' w' hmp hop);rw[hop]at Ho;unfold Ends at Ho;simp only at Ho;clear Hbad Hok hmp hop;dsimp only[sp3,sp4,sp5,ncs,ncl,ncr,ncb,nco,nct,nce,ncx,Tryz.f48]
   go_wp2_with fail
   refine (Hm.o _ HR.o.below).mono ?_;rintro r w3 ⟨rfl,hb3⟩;have HR3:=hid (HR.o.later hb3);obtain ⟨k0,k1,k2,k3,k4,k5⟩:=aV HR3.o.kid Hyv.o;have Ho3:=hid (Ho.o w3 HR3.o.below #[.string ⟨#[115,101,114,118,105,99,101]⟩,.string ⟨#[115,112,108,105,116]⟩,.string ⟨#[119,101,105,103,104,116]⟩] rfl);clear hb3 Hm Ho HR
   go_wp2_with fail
   refine Ho3.o.mono ?_;rintro r w4 ⟨rfl,hb4⟩;have HR4:=hid ((HR3.o.later ((aAb _ _).alloc (aAa _) (.cells #[.string ⟨#[115,101,114,118,105,99,101]⟩,.string ⟨#[115,112,108,105,116]⟩,.string ⟨#[119,101,105,103,104,116]⟩] 9))).later hb4);clear hb4 Ho3 HR3 k0 k1 k2 k3 k4 k5;go_wp2;exact HO.o _ _ ⟨rfl,rfl,rfl,rfl,rfl,rfl,rfl,rfl⟩ HR4.o
theorem sp_b (X:Code) (hD:DocB w0 w db b o cap ms) (hy:y∈ms) (hf:SpK a db rb lb lo q lc j kb) (hr:RMk w1 w kb y)
 (ok:∀a' w',SpA a' db rb lb lo q lc j kb (eg b o (bz (nds ms) y.nd bd)) (eg b o (bz (nds ms) y.nd aU))->RMk w1 w' kb y->DocB w0 w' db b o cap ms->X.wp Tryz.prog Q a' w'):(Code.seq sp6 X).wp Tryz.prog Q a w:=by
 have hM:=hD.toM;have hyo:=hM.ok hy;obtain ⟨ay,cy,hyv,_,_⟩:=aF hyo.kids;obtain ⟨qy,hqy⟩:=ex (y.nd.kids.length);rw[<-hqy]at hyv;have Hf:=hid (fun key w3 (hb3:Below w.heap.size w w3)=>j2 w3 db b o cap ms (hM.later hb3) y hy key);rw[aZ hyv]at Hf;have hK0:KS w1 w w.drew kb y ay qy cy:=CM hr hyv;have Hok:=hid (fun a' w' (h1:KRg w1 w w' kb y) hf'=>ok a' w' hf' h1.rm (hD.later h1.bw))
 have hst:∀w' w'':World,KS w1 w w' kb y ay qy cy->Below w'.heap.size w' w''->KS w1 w w'' kb y ay qy cy:=fun _ _ h hb=>Fx h hb hyv;have hkb:∀w':World,KS w1 w w' kb y ay qy cy->Below w.heap.size w w':=fun _ h=>KY h;have Hst:=hid hst;have Hkb:=hid hkb;obtain ⟨vv,rfl,eE⟩:=hf.shape;simp only[lU,eE];clear eE;clear hf ok hM hyo hyv hqy hr hD hst hkb;dsimp only[sp6,ncs,ncl,ncr,ncb,nco,nct,nce,ncx,Tryz.f48]
 go_wp2
 go_region_held3 (fun w'=>KS w1 w w' kb y ay qy cy) (first|exact hK0|(refine Hst.o _ _ ?_ hb3;assumption)|assumption)
  (first|(go_at_call 43;refine (Hf.o _ _ ?_).mono ?_;(refine Hkb.o _ ?_;assumption);rintro r w3 ⟨rfl,hb3⟩))
 all_goals go_wp2
 all_goals refine Hok.o _ _ ?_ ⟨rfl,rfl,rfl,rfl,rfl,rfl,rfl,rfl,rfl,rfl⟩
 all_goals first|exact (show KS w1 w _ kb y ay qy cy from by assumption).2.2.2.2.2.2|exact (show KS w1 w _ kb y ay qy cy from by refine Hst.o _ _ ?_ hb3;assumption).2.2.2.2.2.2
def e7 (ns:List Nd) (k:Nd):R (ByteArray×ByteArray):=
 match bC ns k bd,bC ns k aU with
  |none,none=>(.error (k.line,122):R (ByteArray×ByteArray))
  |some _,some b=> .error ((eN ns k.kids b).line,121)
  |some a,none=>(match aS a isName with| .error e=> .error e| .ok s=> .ok (s,⟨#[]⟩))
  |none,some b=>(match aS b isName with| .error e=> .error e| .ok s=> .ok (⟨#[]⟩,s))
theorem iV (ns:List Nd) (k:Nd):dz ns k=(match dt k with
 | .error e=> .error e
 | .ok ()=>
 match bG ns [bd,aU,bD] k.kids with
 | .error e=> .error e
 | .ok ()=>
 match e7 ns k with
 | .error e=> .error e
 | .ok (a,b)=>
 match bH ns k bD with
 | .error e=> .error e
 | .ok n=>
 match cw n with
 | .error e=> .error e
 | .ok x=> .ok ⟨a,b,x⟩):=rfl
theorem g7 {s:ByteArray} {arr:Array UInt8} (h:s=⟨arr⟩):(s.toList==arr.toList)=true:=fj (by rw[h])
theorem iq {s:ByteArray} {arr:Array UInt8} (h:¬s=⟨arr⟩):(s.toList==arr.toList)=false:=fZ (fun e=>h (j5 e))
theorem ry {ns:List Nd} {l:List Int} {i k:Nat} {b:Nd} (h:l[i]? =some (k:Int)):eN ns (l.take (i+1)) b=if (ns[k]!).key=bd\/(ns[k]!).key=aU then ns[k]! else eN ns (l.take i) b:=by
 unfold eN;rw[List.take_add_one,h];simp
theorem kG {w:World} {db b o cap:Nat} {ms:List NdM} (h:DocM w db b o cap ms) {k:Nat} {mk:NdM} (hk:ms[k]? =some mk) {ay:Option Addr} {qy cy:Nat} (hv:mk.kv= .slice ay qy cy):∀w1,Below w.heap.size w w1->
 w1.cell? ⟨b,o+k*6,none⟩=some (.int .i64 mk.nd.kind)/\w1.cell? ⟨b,o+k*6+1,none⟩=some (.string mk.nd.key)/\w1.cell? ⟨b,o+k*6+2,none⟩=some (.string mk.nd.text)/\w1.cell? ⟨b,o+k*6+3,none⟩=some (.bool mk.nd.quoted)/\w1.cell? ⟨b,o+k*6+4,none⟩=some (.int .i64 mk.nd.line)/\w1.cell? ⟨b,o+k*6+5,none⟩=some (.slice ay qy cy):=by
 intro w1 hb;have c:=(h.at hk).1;exact ⟨(hb.cell h.blt).trans c.c0,(hb.cell h.blt).trans c.c1,(hb.cell h.blt).trans c.c2,(hb.cell h.blt).trans c.c3,(hb.cell h.blt).trans c.c4,(hb.cell h.blt).trans (by rw[<-hv];exact c.c5)⟩
theorem bS {w:World} {db b o cap:Nat} {ms:List NdM} (h:DocM w db b o cap ms) {m:NdM} (hm:m∈ms) {key:ByteArray} {k:Nat} (hk:bz (nds ms) m.nd key=some k):∃mk,ms[k]? =some mk/\mk∈ms/\(nds ms)[k]! =mk.nd/\mk.Ok w/\∃ay cy,mk.kv= .slice ay mk.nd.kids.length cy:=by
 obtain ⟨z,hz,e,_⟩:=jD hk;obtain ⟨k',mk,e2,hk',hmem⟩:=h.kid hm hz;have h2:ms[k]? =some mk:=by rw[<-e,e2];simpa using hk'
 obtain ⟨ay,cy,hv,_⟩:=aF (h.ok hmem).kids;exact ⟨mk,h2,hmem,eS h2,h.ok hmem,ay,cy,hv⟩
abbrev TgO (a b:ByteArray) (x:Nat):Obj:= .cells #[.string a,.string b,.float .f64 x] 58
theorem sp_c (X:Code) (hD:DocB w0 w db b o cap ms) (hy:y∈ms) (hf:SpA a db rb lb lo q lc j kb (eg b o (bz (nds ms) y.nd bd)) (eg b o (bz (nds ms) y.nd aU))) (hr:RMk w1 w kb y)
 (bad:∀e a' w',e7 (nds ms) y.nd= .error e->a'.defers=[]->Below w1.heap.size w1 w'->Q (.panic (gh e)) a' w')
 (ok:∀a' w' p,e7 (nds ms) y.nd= .ok p->SpT a' db rb lb lo q lc j kb w.heap.size->RTg w1 w' kb y w.heap.size (TgO p.1 p.2 0)->DocB w0 w' db b o cap ms->X.wp Tryz.prog Q a' w'):(Code.seq sp7 (Code.seq sp9 X)).wp Tryz.prog Q a w:=by
 have hM:=hD.toM;have hyo:=hM.ok hy;obtain ⟨ay,cy,hyv,hyl,hks⟩:=aF hyo.kids;obtain ⟨qy,hqy⟩:=ex (y.nd.kids.length);rw[<-hqy]at hyv hyl hks;have HT0:=hid (RTg.new hr (TgO ⟨#[]⟩ ⟨#[]⟩ 0));have HbT:=hid ((aAb w.heap.size w).alloc (aAa _) (TgO ⟨#[]⟩ ⟨#[]⟩ 0));have Hbad:=hid bad;have Hok:=hid ok;have HD:=hid hD;have hk4:∀w',RMk w1 w' kb y->w'.cell? ⟨kb,4,none⟩=some (.int .i64 y.nd.line):=fun w' h=>(aV h.kid hyv).2.2.2.2.1
 have hk5:∀w',RMk w1 w' kb y->w'.cell? ⟨kb,5,none⟩=some (.slice ay qy cy):=fun w' h=>(aV h.kid hyv).2.2.2.2.2;have Hfl:=hid (fun w3 l e=>iu w3 l e);have kb4:=hk4 _ HT0.o.rm;have kb5:=hk5 _ HT0.o.rm;have Hw:=hid (fun w3 m (hm:NdM.Ok w3 m)=>iv w3 m hm);obtain ⟨vv,rfl,eE⟩:=hf.shape;simp only[lU,eE];clear eE;clear hf bad ok hD hr hk4 hk5;cases hxa:bz (nds ms) y.nd bd with
 |none=>
  cases hxb:bz (nds ms) y.nd aU with
  |none=>
   have hv:e7 (nds ms) y.nd= .error (y.nd.line,122):=by unfold e7 bC;rw[hxa,hxb];rfl
   have HB:=hid (fun a' w'=>Hbad.o _ a' w' hv);unfold eg;simp only[Option.map_none];clear Hbad Hok hv hxa hxb hM hyo hyv hyl hks hqy hy;dsimp only[sp7,sp9,ncs,ncl,ncr,ncb,nco,nct,nce,ncx,Tryz.f48]
   go_wp2_with fail
   refine (Hfl.o _ _ _).mono ?_;rintro r w3 ⟨rfl,rfl⟩;exact HB.o _ _ rfl HT0.o.rm.below
  |some z=>
   obtain ⟨mz,hmz,hmem,hnd,hzo,az,cz,hzv⟩:=bS hM hy hxb;have hv:e7 (nds ms) y.nd=(match aS mz.nd isName with| .error e=> .error e| .ok s=> .ok (⟨#[]⟩,s)):=by unfold e7 bC;rw[hxa,hxb];simp only[Option.map_none,Option.map_some,hnd]
   obtain ⟨qz,hqz⟩:=ex (mz.nd.kids.length);rw[<-hqz]at hzv;obtain ⟨n0,n1,n2,n3,n4,n5⟩:=kG hM hmz hzv _ HbT.o;have Hwz:=hid (Hw.o _ mz (hzo.later HbT.o));rw[aZ hzv]at Hwz;unfold eg;simp only[Option.map_none,Option.map_some];cases hwp:aS mz.nd isName with
   |error e=>
    rw[hwp]at Hwz hv;simp only at Hwz hv;have HB:=hid (fun a' w'=>Hbad.o _ a' w' hv);clear Hbad Hok hv hxa hxb hM hyo hyv hyl hks hqy hy hmz hmem hnd hzo hqz hzv hwp Hw;dsimp only[sp7,sp9,ncs,ncl,ncr,ncb,nco,nct,nce,ncx,Tryz.f48]
    go_wp2_with fail
    refine Hwz.o.mono ?_;rintro r w3 ⟨rfl,hb3⟩;exact HB.o _ _ rfl (HT0.o.rm.below.trans (hb3.mono HT0.o.rm.below.size))
   |ok s=>
    rw[hwp]at Hwz hv;simp only at Hwz hv;have HO:=hid (fun a' w'=>Hok.o a' w' _ hv);clear Hbad Hok hv hxa hxb hM hyo hyv hyl hks hqy hy hmz hmem hnd hzo hqz hzv hwp Hw;dsimp only[sp7,sp9,ncs,ncl,ncr,ncb,nco,nct,nce,ncx,Tryz.f48]
    go_wp2_with fail
    refine Hwz.o.mono ?_;rintro r w3 ⟨rfl,hb3⟩;have HT1:=hid (HT0.o.later hb3);have HD1:=hid ((HD.o.later HbT.o).later hb3);have t1:=af HT1.o.obj 1;have t2:=ai HT1.o.obj 1;simp at t1;have HE:=hid (HT1.o.set 1 (.string s));clear hb3 Hwz;go_wp2;refine HO.o _ _ ⟨rfl,rfl,rfl,rfl,rfl,rfl,rfl,rfl,rfl⟩ HE.o ?_;exact HD1.o.step (F:=fun k=>k=w.heap.size) ((Mod.refl _ _).setCell _ _ (fun _=>rfl)) (fun e=>by have:=ag HD.o.doc;omega) (fun k e=>by rw[e];exact HD.o.below.size)
 |some x=>
  obtain ⟨mx,hmx,hmemx,hndx,hxo,ax,cx,hxv⟩:=bS hM hy hxa;cases hxb:bz (nds ms) y.nd aU with
  |none=>
   have hv:e7 (nds ms) y.nd=(match aS mx.nd isName with| .error e=> .error e| .ok s=> .ok (s,⟨#[]⟩)):=by unfold e7 bC;rw[hxa,hxb];simp only[Option.map_none,Option.map_some,hndx]
   obtain ⟨qx,hqx⟩:=ex (mx.nd.kids.length);rw[<-hqx]at hxv;obtain ⟨n0,n1,n2,n3,n4,n5⟩:=kG hM hmx hxv _ HbT.o;have Hwz:=hid (Hw.o _ mx (hxo.later HbT.o));rw[aZ hxv]at Hwz;unfold eg;simp only[Option.map_none,Option.map_some];cases hwp:aS mx.nd isName with
   |error e=>
    rw[hwp]at Hwz hv;simp only at Hwz hv;have HB:=hid (fun a' w'=>Hbad.o _ a' w' hv);clear Hbad Hok hv hxa hxb hM hyo hyv hyl hks hqy hy hmx hmemx hndx hxo hqx hxv hwp Hw;dsimp only[sp7,sp9,ncs,ncl,ncr,ncb,nco,nct,nce,ncx,Tryz.f48]
    go_wp2_with fail
    refine Hwz.o.mono ?_;rintro r w3 ⟨rfl,hb3⟩;exact HB.o _ _ rfl (HT0.o.rm.below.trans (hb3.mono HT0.o.rm.below.size))
   |ok s=>
    rw[hwp]at Hwz hv;simp only at Hwz hv;have HO:=hid (fun a' w'=>Hok.o a' w' _ hv);clear Hbad Hok hv hxa hxb hM hyo hyv hyl hks hqy hy hmx hmemx hndx hxo hqx hxv hwp Hw;dsimp only[sp7,sp9,ncs,ncl,ncr,ncb,nco,nct,nce,ncx,Tryz.f48]
    go_wp2_with fail
    refine Hwz.o.mono ?_;rintro r w3 ⟨rfl,hb3⟩;have HT1:=hid (HT0.o.later hb3);have HD1:=hid ((HD.o.later HbT.o).later hb3);have t1:=af HT1.o.obj 0;have t2:=ai HT1.o.obj 0;simp at t1;have HE:=hid (HT1.o.set 0 (.string s));clear hb3 Hwz;go_wp2;refine HO.o _ _ ⟨rfl,rfl,rfl,rfl,rfl,rfl,rfl,rfl,rfl⟩ HE.o ?_;exact HD1.o.step (F:=fun k=>k=w.heap.size) ((Mod.refl _ _).setCell _ _ (fun _=>rfl)) (fun e=>by have:=ag HD.o.doc;omega) (fun k e=>by rw[e];exact HD.o.below.size)
  |some z=>
   obtain ⟨mz,hmz,hmem,hnd,hzo,az,cz,hzv⟩:=bS hM hy hxb;have hv:e7 (nds ms) y.nd= .error ((eN (nds ms) y.nd.kids ((nds ms)[z]!)).line,121):=by unfold e7 bC;rw[hxa,hxb];rfl
   have HB:=hid (fun a' w'=>Hbad.o _ a' w' hv);obtain ⟨n,hn⟩:=ex (ms.length);have d0:(w.alloc (TgO ⟨#[]⟩ ⟨#[]⟩ 0)).cell? ⟨db,0,none⟩=some (.slice (some ⟨b,o,none⟩) n cap):=by
    rw[hn];exact (World.cell?_of_block (aj _ (ag hM.doc))).trans (af hM.doc 0)
   have Hkid:=hid (fun i (hi:i<qy)=>show ∃(k:Nat) (mk:NdM),y.nd.kids[i]? =some (k:Int)/\ms[k]? =some mk/\k<n from by
    obtain ⟨x,hx⟩:∃x,y.nd.kids[i]? =some x:=au (by omega);obtain ⟨k,mk,e,hk,_⟩:=hM.kid hy (List.mem_of_getElem? hx);exact ⟨k,mk,by rw[hx,e],hk,by rw[hn];exact (aAh hk).1⟩)
   have Hks:=hid hks;have Hq:=hid hqy;have Hyl:=hid hyl;have HM:=hid hM;have Hn:=hid hn;have Hz:=hid (show z<ms.length from (aAh hmz).1);unfold eg;simp only[Option.map_some];clear Hbad Hok hv hxa hxb hM hyo hyv hyl hks hqy hy hmx hmemx hndx hxo hxv Hw hmz hmem hnd hzo hzv hn;dsimp only[sp7,sp9,ncs,ncl,ncr,ncb,nco,nct,nce,ncx,Tryz.f48];go_wp2
   go_loopw [11,63] (fun vp vi wr=>∃(s i:Nat),vp= .pointer (some ⟨b,o+s*6,none⟩)/\vi= .int .i64 (i:Int)/\w.alloc (TgO ⟨#[]⟩ ⟨#[]⟩ 0)=wr/\Hid (i<=qy/\s<ms.length/\(nds ms)[s]! =eN (nds ms) (y.nd.kids.take i) ((nds ms)[z]!))) (fun _ vi _=>qy-(intOf vi).toNat)
   case atStart=>exact ⟨z,0,rfl,rfl,rfl,hid ⟨Nat.zero_le _,Hz.o,rfl⟩⟩
   case round=>
    obtain ⟨s,i,rfl,rfl,rfl,H⟩:=hrel;by_cases hi:i<qy
    ·have ti:decide (i<qy)=true:=dT hi;have bi:(i:Int)<(qy:Int):=by omega
     obtain ⟨k,mk,hx,hk,hkn⟩:=Hkid.o i hi;obtain ⟨b3,o3,rfl,hb3,hc⟩:=Hks.o (by omega);have x1:(w.alloc (TgO ⟨#[]⟩ ⟨#[]⟩ 0)).cell? ⟨b3,o3+i,none⟩=some (.int .i64 (k:Int)):=(World.cell?_of_block (aj _ hb3)).trans (hc i _ hx);have y1:(w.alloc (TgO ⟨#[]⟩ ⟨#[]⟩ 0)).cell? ⟨b,o+k*6+1,none⟩=some (.string mk.nd.key):=(World.cell?_of_block (aj _ HM.o.blt)).trans (HM.o.at hk).1.c1;have bk:(k:Int)<(n:Int):=by omega
     have hkd:=eS hk;have hst:=ry (ns:=nds ms) (b:=(nds ms)[z]!) hx;rw[hkd]at hst;have hkl:=(aAh hk).1;obtain ⟨Hms,Hgo⟩:=aM (k:=i) (n:=qy) hi (by have:=Hyl.o;omega);by_cases e1:mk.nd.key=bd
     ·have u1:=g7 e1;rw[if_pos (.inl e1)]at hst;have Hnx:=hid (show i+1<=qy/\k<ms.length/\(nds ms)[k]! =eN (nds ms) (y.nd.kids.take (i+1)) ((nds ms)[z]!) from ⟨hi,hkl,by rw[hst,hkd]⟩);clear hst hkd hkl hk hx hc hb3 H Hkid Hks hi hkn e1 HM HB;go_wp2;go_roundw
      case rel=>exact ⟨k,i+1,rfl,Hgo.o,trivial,Hnx⟩
      case measure=>exact Hms.o
     ·have u1:=iq e1;by_cases e2:mk.nd.key=aU
      ·have u2:=g7 e2;rw[if_pos (.inr e2)]at hst;have Hnx:=hid (show i+1<=qy/\k<ms.length/\(nds ms)[k]! =eN (nds ms) (y.nd.kids.take (i+1)) ((nds ms)[z]!) from ⟨hi,hkl,by rw[hst,hkd]⟩);clear hst hkd hkl hk hx hc hb3 H Hkid Hks hi hkn e1 e2 HM HB;go_wp2;go_roundw
       case rel=>exact ⟨k,i+1,rfl,Hgo.o,trivial,Hnx⟩
       case measure=>exact Hms.o
      ·have u2:=iq e2;rw[if_neg (by rintro (q|q);exact e1 q;exact e2 q)]at hst;have Hnx:=hid (show i+1<=qy/\s<ms.length/\(nds ms)[s]! =eN (nds ms) (y.nd.kids.take (i+1)) ((nds ms)[z]!) from ⟨hi,H.o.2.1,by rw[hst];exact H.o.2.2⟩);clear hst hkd hkl hk hx hc hb3 H Hkid Hks hi hkn e1 e2 HM HB;go_wp2;go_roundw
       case rel=>exact ⟨s,i+1,rfl,Hgo.o,trivial,Hnx⟩
       case measure=>exact Hms.o
    ·have ti:decide (i<qy)=false:=dF hi;obtain ⟨msn,hmsn⟩:∃msn,ms[s]? =some msn:=au H.o.2.1;have y4:(w.alloc (TgO ⟨#[]⟩ ⟨#[]⟩ 0)).cell? ⟨b,o+s*6+4,none⟩=some (.int .i64 msn.nd.line):=(World.cell?_of_block (aj _ HM.o.blt)).trans (HM.o.at hmsn).1.c4;have hfin:(eN (nds ms) y.nd.kids ((nds ms)[z]!)).line=msn.nd.line:=by
      have e3:=H.o.2.2;rw[List.take_of_length_le (by have:=Hq.o;omega),eS hmsn]at e3;rw[<-e3]
     have Hfin:=hid hfin;clear H Hkid Hks hi HM hmsn hfin
     go_wp2_with fail
     refine (Hfl.o _ _ _).mono ?_;rintro r w3 ⟨rfl,rfl⟩;rw[<-Hfin.o];exact HB.o _ _ rfl HT0.o.rm.below
end
