/-
Parts of a proof.
-/
import Derived.Deep.RegionWith
import Derived.Orders
import Derived.Tactics
import Derived.Test.YtfenoaeoedobmaaGreatDoorOw24
set_option linter.unusedVariables false
set_option linter.unusedSimpArgs false
set_option maxHeartbeats 4000000
set_option maxRecDepth 20000
namespace Go.Proofs.YtfenoaeoedobmaaGreatDoor
open Go Go.RowKit
def rdD (n:Nat):Deferred:={target:= .fn (.func 35) #[.pointer (some ⟨n,0,none⟩),.pointer (some ⟨n+1,0,none⟩),.pointer (some ⟨n+1+1,0,none⟩)],args:=#[]}
noncomputable def bL:Code:=(ncr (ncr (ncr (ncr (ncr (ncr (ncr (ncr (ncx Tryz.f21.body)))))))))
noncomputable def gu:Code:=(ncr (ncr (ncr (ncr bL))))
noncomputable def rd6:Code:=(ncl (ncr (ncr (ncr (ncr (ncr (ncx Tryz.f21.body)))))))
noncomputable def rd7:Code:=(ncl (ncr (ncr (ncr (ncr (ncr (ncr (ncx Tryz.f21.body))))))))
noncomputable def rd8:Code:=(ncl (ncr (ncr (ncr (ncr (ncr (ncr (ncr (ncx Tryz.f21.body)))))))))
noncomputable def rd9:Code:=(ncl bL)
noncomputable def zv:Code:=(ncl (ncr bL))
noncomputable def BT:Code:=(ncl (ncr (ncr bL)))
noncomputable def ju:Code:=(ncl (ncr (ncr (ncr bL))))
noncomputable def BQ:Code:=(ncl gu)
noncomputable def IE:Code:=(ncl (ncr gu))
noncomputable def ID:Code:=(ncl (ncr (ncr gu)))
noncomputable def IC:Code:=(ncl (ncr (ncr (ncr gu))))
noncomputable def rdT:Code:=(ncr (ncr (ncr (ncr gu))))
def iE (n:Nat) (v:Nat->Value):Act:=⟨#[v 0,v 1,v 2,v 3,v 4,v 5,v 6,v 7,v 8,v 9,v 10,v 11,v 12,v 13,v 14,v 15,v 16,v 17,v 18,v 19,v 20,v 21,v 22,v 23,v 24,v 25,v 26,v 27,v 28,v 29,v 30,v 31,v 32,v 33,v 34,v 35,v 36,v 37,v 38,v 39,v 40,v 41,v 42,v 43,v 44,v 45,v 46,v 47,v 48,v 49,v 50,v 51,v 52,v 53,v 54,v 55,v 56,v 57,v 58,v 59,v 60,v 61,v 62,v 63,v 64,v 65,v 66,v 67,v 68,v 69,v 70,v 71,v 72,v 73,v 74,v 75,v 76,v 77,v 78,v 79,v 80,v 81,v 82,v 83,v 84,v 85,v 86,v 87,v 88,v 89,v 90,v 91,v 92,v 93,v 94,v 95,v 96,v 97,v 98,v 99,v 100,v 101,v 102,v 103,v 104,v 105,v 106,v 107,v 108,v 109,v 110,v 111,v 112,v 113,v 114],[rdD n]⟩
theorem oC (n:Nat) (a:Act) (hs:a.tmps.size=115) (hd:a.defers=[rdD n]):∃v:Nat->Value,(∀(i:Nat) (x:Value),a.tmps[i]? =some x->v i=x)/\a=iE n v:=by
 obtain ⟨t,d⟩:=a;obtain ⟨l⟩:=t;obtain rfl:d=[rdD n]:=hd;have hl:l.length=115:=hs;refine ⟨fun i=>l.getD i undef,fun i x hx=> ?_,?_⟩
 ·have hx':l[i]? =some x:=by simpa using hx
  simp[List.getD,hx']
 ·have e:l=(List.range 115).map (fun i=>l.getD i undef):=by
   apply List.ext_getElem
   ·simp[hl]
   ·intro i h1 h2;simp[List.getD,h1]
  generalize (fun i=>l.getD i undef)=v at e |-;subst e;rfl
structure RdB (a:Act) (n:Nat):Prop where
 size:a.tmps.size=115
 dfr:a.defers=[rdD n]
 s2:a.tmps[2]? =some (.pointer (some ⟨n,0,none⟩))
 s3:a.tmps[3]? =some (.pointer (some ⟨n+1,0,none⟩))
 s4:a.tmps[4]? =some (.pointer (some ⟨n+1+1,0,none⟩))
theorem RdB.shape {a:Act} {n:Nat} (h:RdB a n):∃v:Nat->Value,a=iE n v/\v 2= .pointer (some ⟨n,0,none⟩)/\v 3= .pointer (some ⟨n+1,0,none⟩)/\v 4= .pointer (some ⟨n+1+1,0,none⟩):=by
 obtain ⟨v,hv,hd⟩:=oC n a h.size h.dfr;exact ⟨v,hd,hv 2 _ h.s2,hv 3 _ h.s3,hv 4 _ h.s4⟩
structure RdD (a:Act) (n:Nat) (db:Nat) (kb:Nat):Prop where
 size:a.tmps.size=115
 dfr:a.defers=[rdD n]
 s2:a.tmps[2]? =some (.pointer (some ⟨n,0,none⟩))
 s3:a.tmps[3]? =some (.pointer (some ⟨n+1,0,none⟩))
 s4:a.tmps[4]? =some (.pointer (some ⟨n+1+1,0,none⟩))
 s5:a.tmps[5]? =some (.pointer (some ⟨db,0,none⟩))
 s6:a.tmps[6]? =some (.pointer (some ⟨kb,0,none⟩))
theorem RdD.shape {a:Act} {n:Nat} {db:Nat} {kb:Nat} (h:RdD a n db kb):∃v:Nat->Value,a=iE n v/\v 2= .pointer (some ⟨n,0,none⟩)/\v 3= .pointer (some ⟨n+1,0,none⟩)/\v 4= .pointer (some ⟨n+1+1,0,none⟩)/\v 5= .pointer (some ⟨db,0,none⟩)/\v 6= .pointer (some ⟨kb,0,none⟩):=by
 obtain ⟨v,hv,hd⟩:=oC n a h.size h.dfr;exact ⟨v,hd,hv 2 _ h.s2,hv 3 _ h.s3,hv 4 _ h.s4,hv 5 _ h.s5,hv 6 _ h.s6⟩
structure RdK (a:Act) (n:Nat) (db:Nat) (kb:Nat) (qb:Nat) (gb:Nat):Prop where
 size:a.tmps.size=115
 dfr:a.defers=[rdD n]
 s2:a.tmps[2]? =some (.pointer (some ⟨n,0,none⟩))
 s3:a.tmps[3]? =some (.pointer (some ⟨n+1,0,none⟩))
 s4:a.tmps[4]? =some (.pointer (some ⟨n+1+1,0,none⟩))
 s5:a.tmps[5]? =some (.pointer (some ⟨db,0,none⟩))
 s6:a.tmps[6]? =some (.pointer (some ⟨kb,0,none⟩))
 s7:a.tmps[7]? =some (.pointer (some ⟨qb,0,none⟩))
 s8:a.tmps[8]? =some (.pointer (some ⟨gb,0,none⟩))
theorem RdK.shape {a:Act} {n:Nat} {db:Nat} {kb:Nat} {qb:Nat} {gb:Nat} (h:RdK a n db kb qb gb):∃v:Nat->Value,a=iE n v/\v 2= .pointer (some ⟨n,0,none⟩)/\v 3= .pointer (some ⟨n+1,0,none⟩)/\v 4= .pointer (some ⟨n+1+1,0,none⟩)/\v 5= .pointer (some ⟨db,0,none⟩)/\v 6= .pointer (some ⟨kb,0,none⟩)/\v 7= .pointer (some ⟨qb,0,none⟩)/\v 8= .pointer (some ⟨gb,0,none⟩):=by
 obtain ⟨v,hv,hd⟩:=oC n a h.size h.dfr;exact ⟨v,hd,hv 2 _ h.s2,hv 3 _ h.s3,hv 4 _ h.s4,hv 5 _ h.s5,hv 6 _ h.s6,hv 7 _ h.s7,hv 8 _ h.s8⟩
structure RdW (w0 w:World) (n db kb b o cap:Nat) (ms:List NdM) (m0:NdM) (r:Res):Prop where
 doc:DocB w0 w db b o cap ms
 res:w.heap[n]? =some (.cells (bJ r (.slice none 0 0) (.slice none 0 0) (.slice none 0 0)) 49 (0,0))
 lin:w.heap[n+1]? =some (.cells #[.int .i64 0] 3 (0,0))
 err:w.heap[n+1+1]? =some (.cells #[.int .i64 0] 25 (0,0))
 kid:w.heap[kb]? =some (NdO m0)
 nn:n=w0.heap.size
 ndb:n+1+1<db
 nkb:n+1+1<kb
 hm:m0∈ms
theorem RdW.later {w0 w w2:World} {n db kb b o cap:Nat} {ms:List NdM} {m0:NdM} {r:Res} (h:RdW w0 w n db kb b o cap ms m0 r) (hb:Below w.heap.size w w2):RdW w0 w2 n db kb b o cap ms m0 r:=
 ⟨h.doc.later hb,(hb.block _ (ag h.res)).trans h.res,(hb.block _ (ag h.lin)).trans h.lin,(hb.block _ (ag h.err)).trans h.err,(hb.block _ (ag h.kid)).trans h.kid,h.nn,h.ndb,h.nkb,h.hm⟩
theorem RdW.drewN {w0 w:World} {n db kb b o cap:Nat} {ms:List NdM} {m0:NdM} {r:Res} (h:RdW w0 w n db kb b o cap ms m0 r) (k:Nat):RdW w0 (w.drewN k) n db kb b o cap ms m0 r:=h.later (bdH (aAb _ _) k)
theorem RdW.put {w0 w:World} {n db kb b o cap:Nat} {ms:List NdM} {m0:NdM} {r r':Res} (h:RdW w0 w n db kb b o cap ms m0 r) (i:Nat) (v:Value) (he:(bJ r (.slice none 0 0) (.slice none 0 0) (.slice none 0 0)).setIfInBounds i v=bJ r' (.slice none 0 0) (.slice none 0 0) (.slice none 0 0)):RdW w0 (w.setCell ⟨n,i,none⟩ v) n db kb b o cap ms m0 r':=by
 have hm:Mod (fun k=>k=n) w (w.setCell ⟨n,i,none⟩ v):=(Mod.refl _ _).setCell _ _ (fun _=>rfl);exact ⟨h.doc.step hm (fun e=>by have:=h.ndb;omega) (fun k e=>by rw[e,h.nn];exact aAa _),by rw[aE h.res,he],hm.heap h.lin (by omega),hm.heap h.err (by omega),hm.heap h.kid (fun e=>by have:=h.nkb;omega),h.nn,h.ndb,h.nkb,h.hm⟩
structure RdE (w0 w:World) (n:Nat):Prop where
 below:Below w0.heap.size w0 w
 res:∃r ev tv rv,w.heap[n]? =some (.cells (bJ r ev tv rv) 49 (0,0))
 lin:w.heap[n+1]? =some (.cells #[.int .i64 0] 3 (0,0))
 err:w.heap[n+1+1]? =some (.cells #[.int .i64 0] 25 (0,0))
 nn:n=w0.heap.size
theorem RdW.toE {w0 w:World} {n db kb b o cap:Nat} {ms:List NdM} {m0:NdM} {r:Res} (h:RdW w0 w n db kb b o cap ms m0 r):RdE w0 w n:=⟨h.doc.below,⟨_,_,_,_,h.res⟩,h.lin,h.err,h.nn⟩
def lM (w0:World) (x:R Res) (r:Ending) (w':World):Prop:=
 (match x with| .ok rs=>∃ev tv rv,r= .returned (.tuple #[.agg (bJ rs ev tv rv),.int .i64 0,.int .i64 0])/\ResN w' w0.heap.size rs ev tv rv| .error e=>r= .returned (.tuple #[.agg tC.toArray,.int .i64 e.1,.int .i64 e.2]))/\Below w0.heap.size w0 w'
theorem results_read {w:World} {n:Nat} {l e:Int} {arr:List Value} {tmps:Array Value} (h2:tmps[2]? =some (.pointer (some ⟨n,0,none⟩))) (h3:tmps[3]? =some (.pointer (some ⟨n+1,0,none⟩))) (h4:tmps[4]? =some (.pointer (some ⟨n+1+1,0,none⟩))) (ha:w.heap[n]? =some (.cells arr.toArray 49 (0,0))) (hl:arr.length=8) (hb:w.heap[n+1]? =some (.cells #[.int .i64 l] 3 (0,0))) (hc:w.heap[n+1+1]? =some (.cells #[.int .i64 e] 25 (0,0))):
 (results Tryz.f21 tmps).run Tryz.prog w= .ok (.tuple #[.agg arr.toArray,.int .i64 l,.int .i64 e]) w:=by
 have h1:=run_loadVar_mid (P:= Tryz.prog) w n 0 49 arr _ (gA ha) Tryz.underlying49 rfl (show (Tryz.prog.info? 49).map (·.size)=some arr.length by rw[hl];kernel_rfl);have c1:=af hb 0;have c2:=af hc 0;simp at c1 c2;have b1:(loadVar 3 ⟨n+1,0,none⟩).run Tryz.prog w= .ok (.int .i64 l) w:=by simp[go_sem,c1]
 have b2:(loadVar 25 ⟨n+1+1,0,none⟩).run Tryz.prog w= .ok (.int .i64 e) w:=by simp[go_sem,c2]
 rw[Array.getElem?_eq_some_iff]at h2 h3 h4;obtain ⟨l2,e2⟩:=h2;obtain ⟨l3,e3⟩:=h3;obtain ⟨l4,e4⟩:=h4;simp[results,Tryz.results21,asAddr,Array.getD,l2,e2,l3,e3,l4,e4,h1,b1,b2]
theorem l6 {w0 w:World} {a:Act} {n:Nat} {x:R Res} {e:Stop} (hx:x= .error e) (hf:RdB a n) (h:RdE w0 w n):bodyPostD Tryz.prog Tryz.f21 (lM w0 x) (.panic (gh e)) a w:=by
 subst hx
 show Leaves Tryz.prog Tryz.f21 a.tmps _ a.defers (.panicking (gh e)) w
 rw[hf.dfr];obtain ⟨r,ev,tv,rv,hr⟩:=h.res;refine leaves_cons (f:= 35) (args:=#[.pointer (some ⟨n,0,none⟩),.pointer (some ⟨n+1,0,none⟩),.pointer (some ⟨n+1+1,0,none⟩)]) (by simp) (by simp[go_sem]) ?_;refine (BI n e [] w _ _ _ _ _ _ _ _ _ _ _ _ _ hr h.lin h.err).mono ?_;rintro r2 u' w2 ⟨rfl,rfl,hm,h1,h2,h3⟩;refine ⟨_,results_read hf.s2 hf.s3 hf.s4 h1 rfl h2 h3,rfl,?_⟩;have hn:=h.nn
 exact h.below.trans (hm.below h.below.size fun k hk=>by omega)
theorem BO {w0 w:World} {a:Act} {n:Nat} {x:R Res} {r:Res} (hx:x= .ok r) (hf:RdB a n) (hb:Below w0.heap.size w0 w) {ev tv rv:Value} (h1:w.heap[n]? =some (.cells (bJ r ev tv rv) 49 (0,0))) (hl:ResN w w0.heap.size r ev tv rv) (h2:w.heap[n+1]? =some (.cells #[.int .i64 0] 3 (0,0))) (h3:w.heap[n+1+1]? =some (.cells #[.int .i64 0] 25 (0,0))):
 bodyPostD Tryz.prog Tryz.f21 (lM w0 x) .ret a w:=by
 subst hx
 show Leaves Tryz.prog Tryz.f21 a.tmps _ a.defers .returning w
 rw[hf.dfr];refine leaves_cons (f:= 35) (args:=#[.pointer (some ⟨n,0,none⟩),.pointer (some ⟨n+1,0,none⟩),.pointer (some ⟨n+1+1,0,none⟩)]) (by simp) (by simp[go_sem]) ?_;refine (BJ n (n+1) (n+1+1) w).mono ?_;rintro r2 u' w2 ⟨rfl,rfl,rfl⟩;exact ⟨_,results_read (arr:=(bJ r ev tv rv).toList) hf.s2 hf.s3 hf.s4 h1 rfl h2 h3,⟨ev,tv,rv,rfl,hl⟩,hb⟩
section
variable {w0 w:World} {Q:Exit->Act->World->Prop} {a:Act} {ms:List NdM} {n db kb qb gb b o cap:Nat} {m0 mk:NdM} {rs:Res}
theorem rd_a (X:Code) (hf:RdD a n db kb) (h:RdW w0 w n db kb b o cap ms m0 rs)
 (bad:∀e a' w',(dt m0.nd= .error e\/(dt m0.nd= .ok ()/\bH (nds ms) m0.nd kKind= .error e))->RdB a' n->RdE w0 w' n->Q (.panic (gh e)) a' w')
 (ok:∀a' w' mk qb gb,dt m0.nd= .ok ()->bH (nds ms) m0.nd kKind= .ok mk.nd->mk.Ok w'->RdK a' n db kb qb gb->RdW w0 w' n db kb b o cap ms m0 rs->w'.heap[qb]? =some (NdO mk)->w'.heap[gb]? =some (.cells kh 82 (0,0))->n+1+1<qb->n+1+1<gb->X.wp Tryz.prog Q a' w'):
 (Code.seq rd6 (Code.seq rd7 (Code.seq rd8 X))).wp Tryz.prog Q a w:=by
 have hM:=h.doc.toM;have hyo:=hM.ok h.hm;obtain ⟨ay,cy,hyv,_,_⟩:=aF hyo.kids;obtain ⟨qy,hqy⟩:=ex (m0.nd.kids.length);rw[<-hqy]at hyv;have Hm:=hid (fun w3 (hb3:Below w.heap.size w w3)=>xo w3 m0 (hyo.later hb3));have Hn:=hid (fun w3 (hb3:Below w.heap.size w w3)=>il w3 db b o cap ms (hM.later hb3) m0 h.hm kKind);rw[aZ hyv]at Hm Hn;have hkx:kKind=⟨#[107,105,110,100]⟩:=rfl;obtain ⟨k0,k1,k2,k3,k4,k5⟩:=aV h.kid hyv
 have HW:=hid h;have Hyv:=hid hyv;have Hbad:=hid bad;have Hok:=hid ok;have Hk:=hid (fun w3=>yb w3);have hfn:=fun k (hk:bz (nds ms) m0.nd kKind=some k)=>bS hM h.hm hk;obtain ⟨vv,rfl,eE⟩:=hf.shape;simp only[iE,eE];clear eE;clear hf bad ok h hM hyo hyv hqy;cases hmp:dt m0.nd with
 |error e=>
  rw[hmp]at Hm;simp only at Hm;have HB:=hid (fun a' w'=>Hbad.o e a' w' (.inl hmp));clear Hbad Hok hmp Hn hfn hkx Hk;dsimp only[rd6,rd7,rd8,ncl,ncr,ncx,Tryz.f21]
  go_wp2_with fail
  refine (Hm.o _ (aAb _ _)).mono ?_;rintro r w3 ⟨rfl,hb3⟩;exact HB.o _ _ ⟨rfl,rfl,rfl,rfl,rfl⟩ (HW.o.later hb3).toE
 |ok u=>
  rw[hmp]at Hm;simp only at Hm;cases hxa:bz (nds ms) m0.nd kKind with
  |none=>
   rw[hxa]at Hn;simp only at Hn;rw[hkx]at Hn;have HB:=hid (fun a' w'=>Hbad.o _ a' w' (.inr ⟨hmp,cY hxa⟩));clear Hbad Hok hxa hfn hkx hmp Hk;dsimp only[rd6,rd7,rd8,ncl,ncr,ncx,Tryz.f21]
   go_wp2_with fail
   refine (Hm.o _ (aAb _ _)).mono ?_;rintro r w3 ⟨rfl,hb3⟩;have HW3:=hid (HW.o.later hb3);obtain ⟨k0,k1,k2,k3,k4,k5⟩:=aV HW3.o.kid Hyv.o;have Hn3:=hid (Hn.o _ hb3);clear hb3 Hm Hn HW
   go_wp2_with fail
   refine Hn3.o.mono ?_;rintro r w4 ⟨rfl,hb4⟩;exact HB.o _ _ ⟨rfl,rfl,rfl,rfl,rfl⟩ (HW3.o.later hb4).toE
  |some k=>
   rw[hxa]at Hn;simp only at Hn;rw[hkx]at Hn;obtain ⟨mk,hmk,hmem,hnd,hko,ak,ck,hkv⟩:=hfn k hxa;have hnp:bH (nds ms) m0.nd kKind= .ok mk.nd:=by rw[cX hxa,hnd]
   have HO:=hid (fun a' w' qb gb=>Hok.o a' w' mk qb gb hmp hnp);have Hmk:=hid hmk;have Hmv:=hid (aZ hkv);have Hme:=hid (oN hkv);have Hko:=hid hko;clear Hbad Hok hxa hfn hkx hmp hmk hmem hnd hko hnp;dsimp only[rd6,rd7,rd8,ncl,ncr,ncx,Tryz.f21]
   go_wp2_with fail
   refine (Hm.o _ (aAb _ _)).mono ?_;rintro r w3 ⟨rfl,hb3⟩;have HW3:=hid (HW.o.later hb3);have Hko3:=hid (Hko.o.later hb3);obtain ⟨k0,k1,k2,k3,k4,k5⟩:=aV HW3.o.kid Hyv.o;have Hn3:=hid (Hn.o _ hb3);clear hb3 Hm Hn HW Hko
   go_wp2_with fail
   refine Hn3.o.mono ?_;rintro r w4 ⟨⟨mk2,hmk2,rfl⟩,hb4⟩;have e2:=Hmk.o;rw[e2]at hmk2;obtain rfl:=aAf hmk2;rw[Hmv.o];have HW4:=hid (HW3.o.later hb4);have Hko4:=hid (Hko3.o.later hb4);clear hb4 Hn3 HW3 hmk2 e2 k0 k1 k2 k3 k4 k5 Hko3
   go_wp2_with fail
   refine (Hk.o _).mono ?_;rintro r w5 ⟨rfl,hb5⟩;have hb0:=(aAb w4.heap.size w4).alloc (aAa _) (.cells #[.int .i64 mk.nd.kind,.string mk.nd.key,.string mk.nd.text,.bool mk.nd.quoted,.int .i64 mk.nd.line,.slice ak mk.nd.kids.length ck] 55);have hb6:=hb0.trans (hb5.mono hb0.size);have hb7:=hb6.alloc hb6.size (.cells kh 82);have HW7:=hid (HW4.o.later hb7)
   have Hko7:=hid (Hko4.o.later hb7);have hq0:=(hb5.block _ (ag (ah (w:=w4) (.cells #[.int .i64 mk.nd.kind,.string mk.nd.key,.string mk.nd.text,.bool mk.nd.quoted,.int .i64 mk.nd.line,.slice ak mk.nd.kids.length ck] 55)))).trans (ah (w:=w4) _);have Hq:=hid ((aj (.cells kh 82) (ag hq0)).trans hq0);have Hs:=hid (show n+1+1<w4.heap.size/\n+1+1<w5.heap.size from by
    have h1:=ag HW4.o.err;have h2:=hb6.size;exact ⟨h1,by omega⟩)
   clear hb5 hb6 hb7 hb0 hq0 HW4 Hko4 Hk;unfold kh at Hq HW7 Hko7 |-;go_wp2;exact HO.o _ _ _ _ Hko7.o ⟨rfl,rfl,rfl,rfl,rfl,rfl,rfl,rfl,rfl⟩ HW7.o (Hq.o.trans (by rw[Hme.o])) (ah _) Hs.o.1 Hs.o.2
def kg:List ByteArray:=[⟨#[]⟩,fK,mj,ml,jW]
theorem C0 {s:ByteArray} (h:¬s=⟨#[]⟩):Lib.idxOfS kg s=if s=fK then 1 else if s=mj then 2 else if s=ml then 3 else if s=jW then 4 else -1:=by
 have h0:¬(⟨#[]⟩:ByteArray)=s:=fun e=>h e.symm;have c:∀z:ByteArray,(z=s)=(s=z):=fun z=>propext ⟨Eq.symm,Eq.symm⟩;simp only[Lib.idxOfS,kg,Lib.idxFromS,h0,if_false,c]
 repeat' split
 all_goals rfl
theorem Fz {m:Nd} (h1:m.kind=1) (h:¬m.text=⟨#[]⟩):(kindN m=0/\Lib.idxOfS kg m.text= -1)\/(1<=kindN m/\kindN m<=4/\Lib.idxOfS kg m.text=(kindN m:Int)):=by
 rw[C0 h];unfold kindN;rw[if_neg (fun q=>q h1)];by_cases e1:m.text=fK
 ·rw[if_pos e1,if_pos e1];exact .inr ⟨by omega,by omega,rfl⟩
 ·rw[if_neg e1,if_neg e1];by_cases e2:m.text=mj
  ·rw[if_pos e2,if_pos e2];exact .inr ⟨by omega,by omega,rfl⟩
  ·rw[if_neg e2,if_neg e2];by_cases e3:m.text=ml
   ·rw[if_pos e3,if_pos e3];exact .inr ⟨by omega,by omega,rfl⟩
   ·rw[if_neg e3,if_neg e3];by_cases e4:m.text=jW
    ·rw[if_pos e4,if_pos e4];exact .inr ⟨by omega,by omega,rfl⟩
    ·rw[if_neg e4,if_neg e4];exact .inl ⟨rfl,rfl⟩
theorem nh {m:Nd} (h:¬m.kind=1\/m.text=⟨#[]⟩):kindN m=0:=by
 unfold kindN;by_cases h1:m.kind=1
 ·rw[if_neg (fun q=>q h1)];rcases h with h|h
  ·exact absurd h1 h
  ·rw[h];decide
 ·rw[if_pos h1]
theorem rd_b (X:Code) (hf:RdK a n db kb qb gb) (h:RdW w0 w n db kb b o cap ms m0 rs) (hk0:rs.kind=0) (hmk:mk.Ok w) (hq:w.heap[qb]? =some (NdO mk)) (hg:w.heap[gb]? =some (.cells kh 82 (0,0))) (hql:n+1+1<qb) (hgl:n+1+1<gb)
 (bad:∀a' w',kindN mk.nd=0->RdB a' n->RdE w0 w' n->Q (.panic (gh (mk.nd.line,120))) a' w')
 (ok:∀a' w',1<=kindN mk.nd->kindN mk.nd<=4->RdD a' n db kb->RdW w0 w' n db kb b o cap ms m0 {rs with kind:=(kindN mk.nd:Int)}->X.wp Tryz.prog Q a' w'):
 (Code.seq rd9 (Code.seq zv X)).wp Tryz.prog Q a w:=by
 obtain ⟨ay,cy,hyv,_,_⟩:=aF hmk.kids;obtain ⟨qy,hqy⟩:=ex (mk.nd.kids.length);rw[<-hqy]at hyv;obtain ⟨k0,k1,k2,k3,k4,k5⟩:=aV hq hyv;have r0:=af h.res 0;have f0:=ai h.res 0;unfold bJ at r0;simp[hk0]at r0;have n1:¬n=qb:=by omega
 have n2:¬qb=n:=by omega
 have HW:=hid h;have Hfl:=hid (fun w3 l e=>iu w3 l e);have Hbad:=hid bad;have hput:∀(k:Nat) (v:Int),RdW w0 ((w.drewN k).setCell ⟨n,0,none⟩ (.int .i64 v)) n db kb b o cap ms m0 {rs with kind:=v}:=fun k v=>(HW.o.drewN k).put 0 _ rfl;have Hput:=hid hput;have Hok:=hid ok;obtain ⟨vv,rfl,eE⟩:=hf.shape;simp only[iE,eE];clear eE;by_cases hkd:mk.nd.kind=1
 ·have t1:(mk.nd.kind==1)=true:=by rw[beq_iff_eq];exact hkd
  by_cases htx:mk.nd.text=⟨#[]⟩
  ·have u1:=g7 (arr:=#[]) htx;simp at u1;have HB:=hid (fun a' w'=>Hbad.o a' w' (nh (.inr htx)));clear hf bad ok h hk0 hmk hq hg hyv hqy hput Hput Hok Hbad htx hkd;dsimp only[rd9,zv,bL,ncl,ncr,ncx,Tryz.f21]
   go_wp2_with fail
   refine (Hfl.o _ _ _).mono ?_;rintro r w3 ⟨rfl,rfl⟩;exact HB.o _ _ ⟨rfl,rfl,rfl,rfl,rfl⟩ HW.o.toE
  ·have u1:=iq (arr:=#[]) htx;simp at u1;have hcell:∀(k:Nat) j,j<kg.length->(w.drewN k).cell? ⟨gb,0+j,none⟩=some (.string (kg.getD j ByteArray.empty)):=by
    intro k j hj;have h2:(w.drewN k).cell? ⟨gb,0+j,none⟩=w.cell? ⟨gb,0+j,none⟩:=rfl;rw[h2,Nat.zero_add,af hg];have hj5:j<5:=hj
    match j,hj5 with
    |0,_=>rfl
    |1,_=>rfl
    |2,_=>rfl
    |3,_=>rfl
    |4,_=>rfl
   have Hix:=hid (fun k=> Tryz.slices_Index_string gb 0 5 5 kg mk.nd.text (w.drewN k) (by decide) (by omega) (hcell k));have htk:kg.take 5=kg:=rfl;rw[htk]at Hix;have hid0:=Fz hkd htx;obtain ⟨ix,hix⟩:=ex (Lib.idxOfS kg mk.nd.text);rw[<-hix]at Hix hid0;clear hcell htk hix;rcases hid0 with ⟨hk,rfl⟩|⟨hk1,hk4,rfl⟩
   ·have HB:=hid (fun a' w'=>Hbad.o a' w' hk);have HE:=hid (fun k=>(Hput.o k (-1)).toE);clear hf bad ok h hk0 hmk hq hg hyv hqy hput Hput Hok Hbad htx hkd hk;dsimp only[rd9,zv,bL,ncl,ncr,ncx,Tryz.f21];go_wp2;rotate_left
    ·exfalso
     have hh:(!mk.nd.text.toList.isEmpty)=false:=by assumption
     exact u1 (by simpa using hh)
    refine gE ?_
    go_region_with (go_at_call 39;refine (Hix.o 1).mono ?_;rintro r w3 ⟨rfl,hw⟩;obtain rfl:=hw.symm)
    all_goals go_wp2_with fail
    all_goals
     refine (Hfl.o _ _ _).mono ?_;rintro r w3 ⟨rfl,rfl⟩;exact HB.o _ _ ⟨rfl,rfl,rfl,rfl,rfl⟩ (HE.o _)
   ·have HO:=hid (fun a' w'=>Hok.o a' w' hk1 hk4);have HE:=hid (fun k=>Hput.o k (kindN mk.nd:Int));have tk:decide ((kindN mk.nd:Int)<1)=false:=dF (by omega);clear hf bad ok h hk0 hmk hq hg hyv hqy hput Hput Hok Hbad htx hkd hk1 hk4;generalize (kindN mk.nd:Int)=kn at*;dsimp only[rd9,zv,bL,ncl,ncr,ncx,Tryz.f21];go_wp2;rotate_left
    ·exfalso
     have hh:(!mk.nd.text.toList.isEmpty)=false:=by assumption
     exact u1 (by simpa using hh)
    refine gE ?_
    go_region_with (go_at_call 39;refine (Hix.o 1).mono ?_;rintro r w3 ⟨rfl,hw⟩;obtain rfl:=hw.symm)
    all_goals go_wp2
    all_goals exact HO.o _ _ ⟨rfl,rfl,rfl,rfl,rfl,rfl,rfl⟩ (HE.o _)
 ·have t1:(mk.nd.kind==1)=false:=by rw[beq_eq_false_iff_ne];exact hkd
  have HB:=hid (fun a' w'=>Hbad.o a' w' (nh (.inl hkd)));clear hf bad ok h hk0 hmk hq hg hyv hqy hput Hput Hok Hbad hkd;dsimp only[rd9,zv,bL,ncl,ncr,ncx,Tryz.f21]
  go_wp2_with fail
  refine (Hfl.o _ _ _).mono ?_;rintro r w3 ⟨rfl,rfl⟩;exact HB.o _ _ ⟨rfl,rfl,rfl,rfl,rfl⟩ HW.o.toE
theorem rd_c (X:Code) (hf:RdD a n db kb) (h:RdW w0 w n db kb b o cap ms m0 rs)
 (bad:∀e a' w',nwP (nds ms) m0.nd bB isName= .error e->RdB a' n->RdE w0 w' n->Q (.panic (gh e)) a' w')
 (ok:∀a' w' s,nwP (nds ms) m0.nd bB isName= .ok s->RdD a' n db kb->RdW w0 w' n db kb b o cap ms m0 {rs with name:=s}->X.wp Tryz.prog Q a' w'):(Code.seq BT X).wp Tryz.prog Q a w:=by
 have hM:=h.doc.toM;have hyo:=hM.ok h.hm;obtain ⟨ay,cy,hyv,_,_⟩:=aF hyo.kids;obtain ⟨qy,hqy⟩:=ex (m0.nd.kids.length);rw[<-hqy]at hyv;have Hn:=hid (il w db b o cap ms hM m0 h.hm bB);rw[aZ hyv]at Hn;have hkx:bB=⟨#[110,97,109,101]⟩:=rfl;obtain ⟨k0,k1,k2,k3,k4,k5⟩:=aV h.kid hyv;have HW:=hid h;have Hbad:=hid bad;have Hok:=hid ok;have hfn:=fun k (hk:bz (nds ms) m0.nd bB=some k)=>bS hM h.hm hk
 obtain ⟨vv,rfl,eE⟩:=hf.shape;simp only[iE,eE];clear eE;clear hf bad ok h hM hyo hyv hqy;cases hxa:bz (nds ms) m0.nd bB with
 |none=>
  rw[hxa]at Hn;simp only at Hn;rw[hkx]at Hn;have HB:=hid (fun a' w'=>Hbad.o (m0.nd.line,122) a' w' (by unfold nwP;rw[cY hxa]));clear Hbad Hok hxa hfn hkx;dsimp only[BT,bL,ncl,ncr,ncx,Tryz.f21]
  go_wp2_with fail
  refine Hn.o.mono ?_;rintro r w3 ⟨rfl,hb3⟩;exact HB.o _ _ ⟨rfl,rfl,rfl,rfl,rfl⟩ (HW.o.later hb3).toE
 |some k=>
  rw[hxa]at Hn;simp only at Hn;rw[hkx]at Hn;obtain ⟨mk,hmk,hmem,hnd,hko,ak,ck,hkv⟩:=hfn k hxa;have hw:nwP (nds ms) m0.nd bB isName=aS mk.nd isName:=by unfold nwP;rw[cX hxa,hnd]
  have Hwt:=hid (fun w3 (hb3:Below w.heap.size w w3)=>iv w3 mk (hko.later hb3));have Hmk:=hid hmk;have hmv:=aZ hkv;have Hmv:=hid hmv;rw[hmv]at Hwt;clear hfn hkx hxa hmk hmem hnd hko hkv hmv;cases hwp:aS mk.nd isName with
  |error e=>
   rw[hwp]at Hwt;simp only at Hwt;have HB:=hid (fun a' w'=>Hbad.o e a' w' (hw.trans hwp));clear Hbad Hok hw hwp;dsimp only[BT,bL,ncl,ncr,ncx,Tryz.f21]
   go_wp2_with fail
   refine Hn.o.mono ?_;rintro r w3 ⟨⟨mk2,hmk2,rfl⟩,hb3⟩;have e2:=Hmk.o;rw[e2]at hmk2;obtain rfl:=aAf hmk2;rw[Hmv.o];have Hb3:=hid hb3;have Hw3:=hid (Hwt.o w3 hb3);clear hb3 hmk2 e2 Hn Hwt
   go_wp2_with fail
   refine Hw3.o.mono ?_;rintro r w4 ⟨rfl,hb4⟩;exact HB.o _ _ ⟨rfl,rfl,rfl,rfl,rfl⟩ (HW.o.later (Hb3.o.trans (hb4.mono Hb3.o.size))).toE
  |ok x=>
   rw[hwp]at Hwt;simp only at Hwt;have HO:=hid (fun a' w'=>Hok.o a' w' x (hw.trans hwp));clear Hbad Hok hw hwp;dsimp only[BT,bL,ncl,ncr,ncx,Tryz.f21]
   go_wp2_with fail
   refine Hn.o.mono ?_;rintro r w3 ⟨⟨mk2,hmk2,rfl⟩,hb3⟩;have e2:=Hmk.o;rw[e2]at hmk2;obtain rfl:=aAf hmk2;rw[Hmv.o];have Hb3:=hid hb3;have Hw3:=hid (Hwt.o w3 hb3);clear hb3 hmk2 e2 Hn Hwt
   go_wp2_with fail
   refine Hw3.o.mono ?_;rintro r w4 ⟨rfl,hb4⟩;have HW1:=hid (HW.o.later (Hb3.o.trans (hb4.mono Hb3.o.size)));have t1:=af HW1.o.res 1;have t2:=ai HW1.o.res 1;unfold bJ at t1;simp at t1;have HE:=hid (HW1.o.put (r':={rs with name:=x}) 1 (.string x) rfl);clear hb4 Hw3;go_wp2;exact HO.o _ _ ⟨rfl,rfl,rfl,rfl,rfl,rfl,rfl⟩ HE.o
theorem kF {w:World} {c:Array Value} {lv ev l e v0 v1 v2 v3 v4 v5 v6 v7:Value} {n:Nat} {T1 T2 T3:TypeId} (hr:w.heap[n]? =some (.cells c T1 (0,0))) (hs:c.size=8) (hl:w.heap[n+1]? =some (.cells #[lv] T2 (0,0))) (he:w.heap[n+1+1]? =some (.cells #[ev] T3 (0,0))):
 ∀W,W=((((((((((w.setCell ⟨n,0,none⟩ v0).setCell ⟨n,1,none⟩ v1).setCell ⟨n,2,none⟩ v2).setCell ⟨n,3,none⟩ v3).setCell ⟨n,4,none⟩ v4).setCell ⟨n,5,none⟩ v5).setCell ⟨n,6,none⟩ v6).setCell ⟨n,7,none⟩ v7).setCell ⟨n+1,0,none⟩ l).setCell ⟨n+1+1,0,none⟩ e)->
  Mod (fun k=>k=n\/k=n+1\/k=n+1+1) w W/\W.heap[n]? =some (.cells #[v0,v1,v2,v3,v4,v5,v6,v7] T1 (0,0))/\W.heap[n+1]? =some (.cells #[l] T2 (0,0))/\W.heap[n+1+1]? =some (.cells #[e] T3 (0,0)):=by
 rintro W rfl;obtain ⟨x0,x1,x2,x3,x4,x5,x6,x7,rfl⟩:∃x0 x1 x2 x3 x4 x5 x6 x7,c=#[x0,x1,x2,x3,x4,x5,x6,x7]:=by
  obtain ⟨L⟩:=c
  match L,hs with
  |[x0,x1,x2,x3,x4,x5,x6,x7],_=>exact ⟨x0,x1,x2,x3,x4,x5,x6,x7,rfl⟩
 refine ⟨(((((((((((Mod.refl (fun k=>k=n\/k=n+1\/k=n+1+1) w).setCell ⟨n,0,none⟩ v0 (fun _=> .inl rfl)).setCell ⟨n,1,none⟩ v1 (fun _=> .inl rfl)).setCell ⟨n,2,none⟩ v2 (fun _=> .inl rfl)).setCell ⟨n,3,none⟩ v3 (fun _=> .inl rfl)).setCell ⟨n,4,none⟩ v4 (fun _=> .inl rfl)).setCell ⟨n,5,none⟩ v5 (fun _=> .inl rfl)).setCell ⟨n,6,none⟩ v6 (fun _=> .inl rfl)).setCell ⟨n,7,none⟩ v7 (fun _=> .inl rfl)).setCell ⟨n+1,0,none⟩ l (fun _=> .inr (.inl rfl))).setCell ⟨n+1+1,0,none⟩ e (fun _=> .inr (.inr rfl))),?_,?_,?_⟩
 ·have g0:=aE hr 0 v0;have g1:=aE g0 1 v1;have g2:=aE g1 2 v2;have g3:=aE g2 3 v3;have g4:=aE g3 4 v4;have g5:=aE g4 5 v5;have g6:=aE g5 6 v6;have h1:=aE g6 7 v7;refine (aO _ _ (by show ¬n=n+1+1;omega)).trans ?_;refine (aO _ _ (by show ¬n=n+1;omega)).trans ?_;refine h1.trans ?_;rfl
 ·have h1:∀(U:World) j v,(U.setCell ⟨n,j,none⟩ v).heap[n+1]? =U.heap[n+1]? :=fun U j v=>aO _ _ (by show ¬n+1=n;omega);refine (aO _ _ (by show ¬n+1=n+1+1;omega)).trans (aE (c:=#[lv]) ?_ 0 l);rw[h1,h1,h1,h1,h1,h1,h1,h1];exact hl
 ·have h1:∀(U:World) j v,(U.setCell ⟨n,j,none⟩ v).heap[n+1+1]? =U.heap[n+1+1]? :=fun U j v=>aO _ _ (by show ¬n+1+1=n;omega);refine aE (c:=#[ev]) ?_ 0 e;refine (aO _ _ (by show ¬n+1+1=n+1;omega)).trans ?_;rw[h1,h1,h1,h1,h1,h1,h1,h1];exact he
theorem rd_g {ev tv rv:Value} (hf:RdB a n) (hl:ResL w rs ev tv rv) (h1:w.heap[n]? =some (.cells (bJ rs ev tv rv) 49 (0,0))) (h2:w.heap[n+1]? =some (.cells #[.int .i64 0] 3 (0,0))) (h3:w.heap[n+1+1]? =some (.cells #[.int .i64 0] 25 (0,0)))
 (ok:∀a' w',RdB a' n->Mod (fun k=>k=n\/k=n+1\/k=n+1+1) w w'->w'.heap[n]? =some (.cells (bJ rs ev tv rv) 49 (0,0))->w'.heap[n+1]? =some (.cells #[.int .i64 0] 3 (0,0))->w'.heap[n+1+1]? =some (.cells #[.int .i64 0] 25 (0,0))->Q .ret a' w'):
 (Code.seq IC rdT).wp Tryz.prog Q a w:=by
 obtain ⟨ae,ce,rfl,_⟩:=hl.e;obtain ⟨at',ct,rfl,_⟩:=hl.t;obtain ⟨ar,cr,rfl,_⟩:=hl.r;have HE:=hid (kF (l:= .int .i64 0) (e:= .int .i64 0) (v0:= .int .i64 rs.kind) (v1:= .string rs.name) (v2:= .slice ae rs.endps.length ce) (v3:= .slice at' rs.targets.length ct) (v4:= .string rs.host) (v5:= .slice ar rs.rules.length cr) (v6:= .string rs.route) (v7:= .bool rs.del) h1 rfl h2 h3);obtain ⟨c0,c1,c2,c3,c4,c5,c6,c7⟩:=cB8 h1
 have f1:=fun j=>ai h1 j;have l1:=af h2 0;have l2:=ai h2 0;have l3:=af h3 0;have l4:=ai h3 0;unfold bJ at c0 c1 c2 c3 c4 c5 c6 c7;simp at c0 c1 c2 c3 c4 c5 c6 c7 l1 l3;have Hok:=hid ok;obtain ⟨vv,rfl,eE⟩:=hf.shape;simp only[iE,eE];clear eE;clear hf ok hl h1 h2 h3;dsimp only[IC,rdT,gu,bL,ncl,ncr,ncx,Tryz.f21];go_wp2;obtain ⟨z1,z2,z3,z4⟩:=HE.o _ rfl
 exact Hok.o _ _ ⟨rfl,rfl,rfl,rfl,rfl⟩ z1 z2 z3 z4
end
end Go.Proofs.YtfenoaeoedobmaaGreatDoor
namespace Go.Proofs.YtfenoaeoedobmaaGreatDoor
open Go
def ET (t:Array Value) (d:Option Tmp) (v:Value):Array Value:=match d with|some d=>t.setIfInBounds d v|none=>t
theorem oE (a:Act) (d:Option Tmp) (v:Value):(a.put d v).tmps=ET a.tmps d v:=by cases d<;>rfl
def yz (Q:Exit->Act->World->Prop) (I:Array Value->Prop):Exit->Act->World->Prop
 | .outgrown,a,w=>Q .outgrown a w
 |e,a,w=>Q e a w/\I a.tmps
theorem qh {Q:Exit->Act->World->Prop} {I:Array Value->Prop} (h:LetsOut Q):LetsOut (yz Q I):=by
 obtain ⟨a,w,h⟩:=h;exact ⟨a,w,h⟩
theorem AW {P:Program} {o:Oper} {a:Act} {w:World} {K K':Act->World->Prop} {Q:Exit->Act->World->Prop} {I:Array Value->Prop} (ha:I a.tmps) (hI:∀v t,I t->I (ET t o.dst v)) (hK:∀a w,I a.tmps->K a w->K' a w)
 (h:o.wp P a w K Q):o.wp P a w K' (yz Q I):=by
 unfold Oper.wp at*;generalize (execOp a.eval o).run P w=r at*;have hp:∀v,I (a.put o.dst v).tmps:=fun v=>by rw[oE];exact hI v _ ha
 cases r with
 |ok n w'=>
  cases n with
  |value v=>exact hK _ _ (hp v) h
  |skip=>exact hK _ _ (hp undef) h
  |defer d=>exact hK _ _ (by rw[oE];exact hI _ _ ha) h
  |enter f args=>
   refine Calls.mono h (fun e w'' he=> ?_);cases e with
   |returned v=>exact hK _ _ (hp v) he
   |panicked ch=>exact ⟨he,ha⟩
   |outgrown=>exact qh he
  |row row args=>exact Rows.mono h (fun v _ he=>hK _ _ (hp v) he)
  |_=>exact h
 |halt x w'=>
  cases x with
  |panic v=>exact ⟨h,ha⟩
  |_=>exact h
theorem jL {P:Program} {ops:Array Oper} {Q:Exit->Act->World->Prop} {I:Array Value->Prop} (hI:∀(i:Nat) o v t,ops[i]? =some o->I t->I (ET t o.dst v)):
 ∀(l:List Nat) (a:Act) (w:World),I a.tmps->wpOps P ops Q l a w->wpOps P ops (yz Q I) l a w
 |[],a,w,ha,h=>⟨h,ha⟩
 |i::l,a,w,ha,h=>by
  unfold wpOps at*;cases ho:ops[i]? with
  |none=>rw[ho]at h;exact jL hI l a w ha h
  |some o=>
   rw[ho]at h;simp only at h |-
   split
   ·rename_i hw
    rw[if_pos hw]at h;rcases h with h|h
    ·exact .inl (AW ha (fun v t=>hI i o v t ho) (fun a w ha h=>jL hI l a w ha h) h)
    ·exact .inr ⟨h.1,qh h.2⟩
   ·rename_i hw
    rw[if_neg hw]at h;exact jL hI l _ w (by rw[oE];exact hI i o _ _ ho ha) h
def xO (ops:Array Oper) (ds:List Nat):Bool:=ops.all fun o=>match o.dst with|some d=> !ds.contains d|none=>true
def vf (t0:Array Value) (ds:List Nat) (t:Array Value):Prop:=t.size=t0.size/\∀d∈ds,t[d]? =t0[d]?
theorem y8 {ops:Array Oper} {ds:List Nat} {t0:Array Value} (h:xO ops ds=true) (i:Nat) (o:Oper) (v:Value) (t:Array Value) (ho:ops[i]? =some o) (ht:vf t0 ds t):vf t0 ds (ET t o.dst v):=by
 unfold xO at h;rw[Array.all_eq_true_iff_forall_mem]at h;have h1:=h o (Array.mem_of_getElem? ho);cases hd:o.dst with
 |none=>exact ht
 |some d=>
  rw[hd]at h1;simp only[Bool.not_eq_true',List.contains_eq_mem,decide_eq_false_iff_not]at h1;refine ⟨?_,fun e he=> ?_⟩
  ·show (t.setIfInBounds d v).size=_
   rw[Array.size_setIfInBounds];exact ht.1
  ·show (t.setIfInBounds d v)[e]? =_
   rw[Array.getElem?_setIfInBounds_ne (fun q:d=e=>h1 (by rw[q];exact he))];exact ht.2 e he
theorem pR {P:Program} {id:Nat} {ops:Array Oper} {a:Act} {w:World} (ds:List Nat) {Q:Exit->Act->World->Prop} {Q':Exit->Act->World->Prop} (hm:P.follows .mixedOrders=true) (hn:xO ops ds=true)
 (hQ:∀e a' w',Q e a' w'->(e≠ .outgrown->vf a.tmps ds a'.tmps)->Q' e a' w')
 (h:wpAny P .any ops Q ops.size (Array.replicate ops.size false) a w.drew):(Code.region id ops true).wp P Q' a w:=by
 refine wp_mono (Q:=yz Q (vf a.tmps ds)) (wp_region_draw fun t=> ?_) (fun e a' w' h'=> ?_)
 ·simp only[Region.schedule,hm,Bool.true_or,if_true];exact jL (fun i o v t ho ht=>y8 hn i o v t ho ht) _ _ _ ⟨rfl,fun _ _=>rfl⟩ (wpAny_sound ops.size t _ a _ h)
 ·cases e with
  |outgrown=>exact hQ _ _ _ h' (fun q=>absurd rfl q)
  |_=>exact hQ _ _ _ h'.1 (fun _=>h'.2)
end Go.Proofs.YtfenoaeoedobmaaGreatDoor
namespace Go.Proofs.YtfenoaeoedobmaaGreatDoor
open Go Go.RowKit
def RdQ (Q:Exit->Act->World->Prop) (n:Nat) (R:List PanicEntry->World->Prop):Exit->Act->World->Prop
 | .panic ch,a,w=>a.defers=[rdD n]/\R ch w
 | .normal,a,w=>Q .normal a w
 |_,_,_=>False
theorem BN {a a':Act} {n:Nat} (h:RdB a n) (hs:vf a.tmps [2,3,4] a'.tmps) (hd:a'.defers=[rdD n]):RdB a' n:=
 ⟨hs.1.trans h.size,hd,(hs.2 2 (by simp)).trans h.s2,(hs.2 3 (by simp)).trans h.s3,(hs.2 4 (by simp)).trans h.s4⟩
theorem IB {P:Program} {id:Nat} {ops:Array Oper} {Q:Exit->Act->World->Prop} {a:Act} {w:World} {n:Nat} {R:List PanicEntry->World->Prop} (hm:P.follows .mixedOrders=true) (hn:xO ops [2,3,4]=true) (hf:RdB a n)
 (hR:∀a' w' ch,RdB a' n->R ch w'->Q (.panic ch) a' w') (h:wpAny P .any ops (RdQ Q n R) ops.size (Array.replicate ops.size false) a w.drew):(Code.region id ops true).wp P Q a w:=
 pR [2,3,4] hm hn (fun e a' w' h hs=>by
  cases e with
  |panic ch=>exact hR _ _ _ (BN hf (hs (by simp)) h.1) h.2
  |normal=>exact h
  |_=>exact h.elim) h
section
variable {w0 w:World} {Q:Exit->Act->World->Prop} {a:Act} {ms:List NdM} {n db kb qb gb b o cap k:Nat} {m0 mk:NdM} {rs:Res}
theorem ES (X:Code) (hf:RdD a n db kb) (h:RdW w0 w n db kb b o cap ms m0 rs) (hk:rs.kind=(k:Int)) (hk1:1<=k) (hk4:k<=4)
 (hop:bG (nds ms) (kKind::bB::p7 k) m0.nd.kids= .ok ())
 (ok:∀a' w',bG (nds ms) (kKind::bB::p7 k) m0.nd.kids= .ok ()->RdD a' n db kb->RdW w0 w' n db kb b o cap ms m0 rs->X.wp Tryz.prog Q a' w'):(Code.seq BQ X).wp Tryz.prog Q a w:=by
 have hM:=h.doc.toM;have hyo:=hM.ok h.hm;obtain ⟨ay,cy,hyv,_,_⟩:=aF hyo.kids;obtain ⟨qy,hqy⟩:=ex (m0.nd.kids.length);rw[<-hqy]at hyv;obtain ⟨k0,k1,k2,k3,k4,k5⟩:=aV h.kid hyv;have r0:=af h.res 0;unfold bJ at r0;simp[hk]at r0;have HWd:=hid (h.drewN 1);have Hyv:=hid hyv;have Hok:=hid ok;have Hfd:=hid (fun w3=>uq w3 k hk1 hk4);have Ho:=hid (fun w3 (h3:RdW w0 w3 n db kb b o cap ms m0 rs) kv (hs:SlR w3 kv 1 (kKind::bB::p7 k) aR)=>oI w3 db b o cap ms h3.doc.toM m0 h3.hm kv _ hs)
 rw[aZ hyv]at Ho;obtain ⟨vv,rfl,eE⟩:=hf.shape;simp only[iE,eE];clear eE;clear hf ok h hM hyo hyv hqy hk hk1 hk4;rw[hop]at Ho;unfold Ends at Ho;simp only at Ho;have HO:=hid (fun a' w'=>Hok.o a' w' hop);clear Hok hop;dsimp only[BQ,gu,bL,ncl,ncr,ncx,Tryz.f21];go_wp2;refine gE ?_
 go_region_with (first
  |(go_at_call 46;refine (Hfd.o _).mono ?_;rintro r w3 ⟨⟨kv,rfl,hs⟩,hb3⟩;have HW3:=hid (HWd.o.later hb3);obtain ⟨k0,k1,k2,k3,k4,k5⟩:=aV HW3.o.kid Hyv.o;have Ho3:=hid (Ho.o _ HW3.o kv hs);clear hs hb3)
  |(go_at_call 45;refine Ho3.o.mono ?_;rintro r w4 ⟨rfl,hb4⟩;have HW4:=hid (HW3.o.later hb4);clear hb4))
 all_goals go_wp2
 all_goals exact HO.o _ _ ⟨rfl,rfl,rfl,rfl,rfl,rfl,rfl⟩ HW4.o
end
section
variable {w0 w:World} {Q:Exit->Act->World->Prop} {a:Act} {ms:List NdM} {n db kb qb gb b o cap k:Nat} {m0 mk:NdM} {rs:Res}
theorem BP (X:Code) {e:Stop} (hf:RdD a n db kb) (h:RdW w0 w n db kb b o cap ms m0 rs) (hk:rs.kind=(k:Int)) (hk1:1<=k) (hk4:k<=4)
 (bad:∀e a' w',bG (nds ms) (kKind::bB::p7 k) m0.nd.kids= .error e->RdB a' n->RdE w0 w' n->Q (.panic (gh e)) a' w')
 (hop:bG (nds ms) (kKind::bB::p7 k) m0.nd.kids= .error e):(Code.seq BQ X).wp Tryz.prog Q a w:=by
 have hM:=h.doc.toM;have hyo:=hM.ok h.hm;obtain ⟨ay,cy,hyv,_,_⟩:=aF hyo.kids;obtain ⟨qy,hqy⟩:=ex (m0.nd.kids.length);rw[<-hqy]at hyv;obtain ⟨k0,k1,k2,k3,k4,k5⟩:=aV h.kid hyv;have r0:=af h.res 0;unfold bJ at r0;simp[hk]at r0;have HWd:=hid (h.drewN 1);have Hyv:=hid hyv;have Hbad:=hid bad;have Hfd:=hid (fun w3=>uq w3 k hk1 hk4);have Ho:=hid (fun w3 (h3:RdW w0 w3 n db kb b o cap ms m0 rs) kv (hs:SlR w3 kv 1 (kKind::bB::p7 k) aR)=>oI w3 db b o cap ms h3.doc.toM m0 h3.hm kv _ hs)
 rw[aZ hyv]at Ho;obtain ⟨vv,rfl,eE⟩:=hf.shape;simp only[iE,eE];clear eE;clear hf bad h hM hyo hyv hqy hk hk1 hk4;rw[hop]at Ho;unfold Ends at Ho;simp only at Ho;have HB:=hid (fun a' w'=>Hbad.o e a' w' hop);clear Hbad hop;dsimp only[BQ,gu,bL,ncl,ncr,ncx,Tryz.f21];go_wp2;refine IB (n:=n) (R:=fun ch w'=>ch=gh e/\RdE w0 w' n) (by kernel_rfl) (by kernel_rfl) ⟨rfl,rfl,rfl,rfl,rfl⟩ (fun a' w' ch h1 h2=>by obtain ⟨rfl,h3⟩:=h2;exact HB.o _ _ h1 h3) ?_
 refine wpAny_take (i:=0) (v:= ?v0) rfl (by kernel_rfl) (by kernel_rfl) (by kernel_rfl) (fun _ _ _ h=>h) (Or.inl ⟨by rfl,?hy0⟩) ?rest0
 case hy0=>
  intro w;go_simp
  try with_reducible rfl
 refine wpAny_take (i:=2) (v:= ?v2) rfl (by kernel_rfl) (by kernel_rfl) (by kernel_rfl) (fun _ _ _ h=>h) (Or.inl ⟨by rfl,?hy2⟩) ?rest2
 case hy2=>
  intro w;go_simp
  try with_reducible rfl
 refine wpAny_ready (rs:=[1,3]) (by kernel_rfl) (by simp) (AllReady.cons rfl (fun K hK=> ?_) (AllReady.cons rfl (fun K hK=> ?_) AllReady.nil))
 ·go_simp;refine hK _ _ ?_;clear hK K;refine wpAny_ready (rs:=[3]) (by kernel_rfl) (by simp) (AllReady.cons rfl (fun K hK=> ?_) AllReady.nil)
  ·go_simp;refine hK _ _ ?_;clear hK K;refine wpAny_ready (rs:=[4]) (by kernel_rfl) (by simp) (AllReady.cons rfl (fun K hK=> ?_) AllReady.nil)
   ·go_wp2_with (go_at_call 46;refine (Hfd.o _).mono ?_;rintro r w3 ⟨⟨kv,rfl,hs⟩,hb3⟩;have HW3:=hid (HWd.o.later hb3);obtain ⟨k0,k1,k2,k3,k4,k5⟩:=aV HW3.o.kid Hyv.o;have Ho3:=hid (Ho.o _ HW3.o kv hs);clear hs hb3)
    refine wpAny_ready (rs:=[5]) (by kernel_rfl) (by simp) (AllReady.cons rfl (fun K hK=> ?_) AllReady.nil)
    ·go_simp;refine Ho3.o.mono ?_;rintro r w4 ⟨rfl,hb4⟩;exact ⟨rfl,rfl,(HW3.o.later hb4).toE⟩
 ·go_simp;refine hK _ _ ?_;clear hK K;refine wpAny_ready (rs:=[1,4]) (by kernel_rfl) (by simp) (AllReady.cons rfl (fun K hK=> ?_) (AllReady.cons rfl (fun K hK=> ?_) AllReady.nil))
  ·go_simp;refine hK _ _ ?_;clear hK K;refine wpAny_ready (rs:=[4]) (by kernel_rfl) (by simp) (AllReady.cons rfl (fun K hK=> ?_) AllReady.nil)
   ·go_wp2_with (go_at_call 46;refine (Hfd.o _).mono ?_;rintro r w3 ⟨⟨kv,rfl,hs⟩,hb3⟩;have HW3:=hid (HWd.o.later hb3);obtain ⟨k0,k1,k2,k3,k4,k5⟩:=aV HW3.o.kid Hyv.o;have Ho3:=hid (Ho.o _ HW3.o kv hs);clear hs hb3)
    refine wpAny_ready (rs:=[5]) (by kernel_rfl) (by simp) (AllReady.cons rfl (fun K hK=> ?_) AllReady.nil)
    ·go_simp;refine Ho3.o.mono ?_;rintro r w4 ⟨rfl,hb4⟩;exact ⟨rfl,rfl,(HW3.o.later hb4).toE⟩
  ·go_wp2_with (go_at_call 46;refine (Hfd.o _).mono ?_;rintro r w3 ⟨⟨kv,rfl,hs⟩,hb3⟩;have HW3:=hid (HWd.o.later hb3);obtain ⟨k0,k1,k2,k3,k4,k5⟩:=aV HW3.o.kid Hyv.o;have Ho3:=hid (Ho.o _ HW3.o kv hs);clear hs hb3)
   refine wpAny_ready (rs:=[1]) (by kernel_rfl) (by simp) (AllReady.cons rfl (fun K hK=> ?_) AllReady.nil)
   ·go_simp;refine hK _ _ ?_;clear hK K;refine wpAny_ready (rs:=[5]) (by kernel_rfl) (by simp) (AllReady.cons rfl (fun K hK=> ?_) AllReady.nil)
    ·go_simp;refine Ho3.o.mono ?_;rintro r w4 ⟨rfl,hb4⟩;exact ⟨rfl,rfl,(HW3.o.later hb4).toE⟩
end
