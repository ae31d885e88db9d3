/-
Parts of a proof.
-/
import Derived.Test.YtfenoaeoedobmaaGreatDoorOn24
set_option linter.unusedVariables false
set_option linter.unusedSimpArgs false
set_option maxHeartbeats 4000000
set_option maxRecDepth 20000
namespace Go.Proofs.YtfenoaeoedobmaaGreatDoor
open Go Go.RowKit
noncomputable def Vg:Code:=(ncr (ncr (ncx Tryz.f48.body)))
noncomputable def Vf:Code:=(ncl (nco (ncb (ncr (ncr (ncx Tryz.f48.body))))))
noncomputable def Ve:Code:=(ncl (ncr (nco (ncb (ncr (ncr (ncx Tryz.f48.body)))))))
noncomputable def YO:Code:=(ncr (ncr (ncr (nco (ncb (ncr (ncr (ncx Tryz.f48.body))))))))
noncomputable def GC:Code:=(ncb (ncl (ncr (ncr (nco (ncb (ncr (ncr (ncx Tryz.f48.body)))))))))
noncomputable def sp3:Code:=(ncl (ncb (ncl (ncr (ncr (nco (ncb (ncr (ncr (ncx Tryz.f48.body))))))))))
noncomputable def sp4:Code:=(ncl (ncr (ncb (ncl (ncr (ncr (nco (ncb (ncr (ncr (ncx Tryz.f48.body)))))))))))
noncomputable def sp5:Code:=(ncl (ncr (ncr (ncb (ncl (ncr (ncr (nco (ncb (ncr (ncr (ncx Tryz.f48.body))))))))))))
noncomputable def sp6:Code:=(ncl (ncr (ncr (ncr (ncb (ncl (ncr (ncr (nco (ncb (ncr (ncr (ncx Tryz.f48.body)))))))))))))
noncomputable def sp7:Code:=(ncl (ncr (ncr (ncr (ncr (ncb (ncl (ncr (ncr (nco (ncb (ncr (ncr (ncx Tryz.f48.body))))))))))))))
noncomputable def sp9:Code:=(ncl (ncr (ncr (ncr (ncr (ncr (ncb (ncl (ncr (ncr (nco (ncb (ncr (ncr (ncx Tryz.f48.body)))))))))))))))
noncomputable def Mo:Code:=(ncl (ncr (ncr (ncr (ncr (ncr (ncr (ncb (ncl (ncr (ncr (nco (ncb (ncr (ncr (ncx Tryz.f48.body))))))))))))))))
noncomputable def Vh:Code:=(ncr (ncr (ncr (ncr (ncr (ncr (ncr (ncb (ncl (ncr (ncr (nco (ncb (ncr (ncr (ncx Tryz.f48.body))))))))))))))))
def rW (v:Nat->Value):Act:=⟨#[v 0,v 1,v 2,v 3,v 4,v 5,v 6,v 7,v 8,v 9,v 10,v 11,v 12,v 13,v 14,v 15,v 16,v 17,v 18,v 19,v 20,v 21,v 22,v 23,v 24,v 25,v 26,v 27,v 28,v 29,v 30,v 31,v 32,v 33,v 34,v 35,v 36,v 37,v 38,v 39,v 40,v 41,v 42,v 43,v 44,v 45,v 46,v 47,v 48,v 49,v 50,v 51,v 52,v 53,v 54,v 55,v 56,v 57,v 58,v 59,v 60,v 61,v 62,v 63,v 64,v 65,v 66,v 67,v 68,v 69,v 70,v 71,v 72,v 73,v 74,v 75,v 76,v 77,v 78,v 79,v 80,v 81,v 82,v 83,v 84,v 85,v 86,v 87,v 88,v 89,v 90,v 91,v 92,v 93,v 94,v 95,v 96,v 97,v 98,v 99,v 100,v 101,v 102,v 103,v 104,v 105,v 106,v 107,v 108,v 109,v 110,v 111,v 112,v 113,v 114,v 115,v 116],[]⟩
theorem z8 (a:Act) (hs:a.tmps.size=117) (hd:a.defers=[]):∃v:Nat->Value,(∀(i:Nat) (x:Value),a.tmps[i]? =some x->v i=x)/\a=rW v:=by
 obtain ⟨t,d⟩:=a;obtain ⟨l⟩:=t;obtain rfl:d=[]:=hd;have hl:l.length=117:=hs;refine ⟨fun i=>l.getD i undef,fun i x hx=> ?_,?_⟩
 ·have KA:l[i]? =some x:=by simpa using hx
  simp[List.getD,KA]
 ·have e:l=(List.range 117).map (fun i=>l.getD i undef):=by
   apply List.ext_getElem
   ·simp[hl]
   ·intro i h1 h2;simp[List.getD,h1]
  generalize (fun i=>l.getD i undef)=v at e |-;subst e;rfl
structure SpO (a:Act) (db:Nat) (rb:Nat) (lb:Nat) (lo:Nat) (q:Nat) (lc:Nat) (j:Nat):Prop where
 size:a.tmps.size=117
 dfr:a.defers=[]
 s0:a.tmps[0]? =some (.pointer (some ⟨db,0,none⟩))
 s2:a.tmps[2]? =some (.pointer (some ⟨rb,0,none⟩))
 s19:a.tmps[19]? =some (.slice (some ⟨lb,lo,none⟩) q lc)
 s20:a.tmps[20]? =some (.int .i64 (q:Int))
 s21:a.tmps[21]? =some (.int .i64 (j:Int))
theorem SpO.shape {a:Act} {db:Nat} {rb:Nat} {lb:Nat} {lo:Nat} {q:Nat} {lc:Nat} {j:Nat} (h:SpO a db rb lb lo q lc j):∃v:Nat->Value,a=rW v/\v 0= .pointer (some ⟨db,0,none⟩)/\v 2= .pointer (some ⟨rb,0,none⟩)/\v 19= .slice (some ⟨lb,lo,none⟩) q lc/\v 20= .int .i64 (q:Int)/\v 21= .int .i64 (j:Int):=by
 obtain ⟨v,hv,hd⟩:=z8 a h.size h.dfr;exact ⟨v,hd,hv 0 _ h.s0,hv 2 _ h.s2,hv 19 _ h.s19,hv 20 _ h.s20,hv 21 _ h.s21⟩
structure SpK (a:Act) (db:Nat) (rb:Nat) (lb:Nat) (lo:Nat) (q:Nat) (lc:Nat) (j:Nat) (kb:Nat):Prop where
 size:a.tmps.size=117
 dfr:a.defers=[]
 s0:a.tmps[0]? =some (.pointer (some ⟨db,0,none⟩))
 s2:a.tmps[2]? =some (.pointer (some ⟨rb,0,none⟩))
 s7:a.tmps[7]? =some (.pointer (some ⟨kb,0,none⟩))
 s19:a.tmps[19]? =some (.slice (some ⟨lb,lo,none⟩) q lc)
 s20:a.tmps[20]? =some (.int .i64 (q:Int))
 s21:a.tmps[21]? =some (.int .i64 (j:Int))
theorem SpK.shape {a:Act} {db:Nat} {rb:Nat} {lb:Nat} {lo:Nat} {q:Nat} {lc:Nat} {j:Nat} {kb:Nat} (h:SpK a db rb lb lo q lc j kb):∃v:Nat->Value,a=rW v/\v 0= .pointer (some ⟨db,0,none⟩)/\v 2= .pointer (some ⟨rb,0,none⟩)/\v 7= .pointer (some ⟨kb,0,none⟩)/\v 19= .slice (some ⟨lb,lo,none⟩) q lc/\v 20= .int .i64 (q:Int)/\v 21= .int .i64 (j:Int):=by
 obtain ⟨v,hv,hd⟩:=z8 a h.size h.dfr;exact ⟨v,hd,hv 0 _ h.s0,hv 2 _ h.s2,hv 7 _ h.s7,hv 19 _ h.s19,hv 20 _ h.s20,hv 21 _ h.s21⟩
structure SpA (a:Act) (db:Nat) (rb:Nat) (lb:Nat) (lo:Nat) (q:Nat) (lc:Nat) (j:Nat) (kb:Nat) (pa:Value) (pb:Value):Prop where
 size:a.tmps.size=117
 dfr:a.defers=[]
 s0:a.tmps[0]? =some (.pointer (some ⟨db,0,none⟩))
 s2:a.tmps[2]? =some (.pointer (some ⟨rb,0,none⟩))
 s7:a.tmps[7]? =some (.pointer (some ⟨kb,0,none⟩))
 s8:a.tmps[8]? =some (pa)
 s9:a.tmps[9]? =some (pb)
 s19:a.tmps[19]? =some (.slice (some ⟨lb,lo,none⟩) q lc)
 s20:a.tmps[20]? =some (.int .i64 (q:Int))
 s21:a.tmps[21]? =some (.int .i64 (j:Int))
theorem SpA.shape {a:Act} {db:Nat} {rb:Nat} {lb:Nat} {lo:Nat} {q:Nat} {lc:Nat} {j:Nat} {kb:Nat} {pa:Value} {pb:Value} (h:SpA a db rb lb lo q lc j kb pa pb):∃v:Nat->Value,a=rW v/\v 0= .pointer (some ⟨db,0,none⟩)/\v 2= .pointer (some ⟨rb,0,none⟩)/\v 7= .pointer (some ⟨kb,0,none⟩)/\v 8=pa/\v 9=pb/\v 19= .slice (some ⟨lb,lo,none⟩) q lc/\v 20= .int .i64 (q:Int)/\v 21= .int .i64 (j:Int):=by
 obtain ⟨v,hv,hd⟩:=z8 a h.size h.dfr;exact ⟨v,hd,hv 0 _ h.s0,hv 2 _ h.s2,hv 7 _ h.s7,hv 8 _ h.s8,hv 9 _ h.s9,hv 19 _ h.s19,hv 20 _ h.s20,hv 21 _ h.s21⟩
structure SpT (a:Act) (db:Nat) (rb:Nat) (lb:Nat) (lo:Nat) (q:Nat) (lc:Nat) (j:Nat) (kb:Nat) (tb:Nat):Prop where
 size:a.tmps.size=117
 dfr:a.defers=[]
 s0:a.tmps[0]? =some (.pointer (some ⟨db,0,none⟩))
 s2:a.tmps[2]? =some (.pointer (some ⟨rb,0,none⟩))
 s7:a.tmps[7]? =some (.pointer (some ⟨kb,0,none⟩))
 s10:a.tmps[10]? =some (.pointer (some ⟨tb,0,none⟩))
 s19:a.tmps[19]? =some (.slice (some ⟨lb,lo,none⟩) q lc)
 s20:a.tmps[20]? =some (.int .i64 (q:Int))
 s21:a.tmps[21]? =some (.int .i64 (j:Int))
theorem SpT.shape {a:Act} {db:Nat} {rb:Nat} {lb:Nat} {lo:Nat} {q:Nat} {lc:Nat} {j:Nat} {kb:Nat} {tb:Nat} (h:SpT a db rb lb lo q lc j kb tb):∃v:Nat->Value,a=rW v/\v 0= .pointer (some ⟨db,0,none⟩)/\v 2= .pointer (some ⟨rb,0,none⟩)/\v 7= .pointer (some ⟨kb,0,none⟩)/\v 10= .pointer (some ⟨tb,0,none⟩)/\v 19= .slice (some ⟨lb,lo,none⟩) q lc/\v 20= .int .i64 (q:Int)/\v 21= .int .i64 (j:Int):=by
 obtain ⟨v,hv,hd⟩:=z8 a h.size h.dfr;exact ⟨v,hd,hv 0 _ h.s0,hv 2 _ h.s2,hv 7 _ h.s7,hv 10 _ h.s10,hv 19 _ h.s19,hv 20 _ h.s20,hv 21 _ h.s21⟩
theorem SpT.toO {a:Act} {db rb lb lo q lc j kb tb:Nat} (h:SpT a db rb lb lo q lc j kb tb):SpO a db rb lb lo q lc j:=⟨h.size,h.dfr,h.s0,h.s2,h.s19,h.s20,h.s21⟩
def jl (e:fx):List PanicEntry:=[{v:= .iface 76 (.agg #[.int .i64 e.1,.int .i64 e.2]),recovered:=false}]
structure RMk (w1 w:World) (kb:Nat) (y:NdM):Prop where
 below:Below w1.heap.size w1 w
 kid:w.heap[kb]? =some (NdO y)
 klo:w1.heap.size<=kb
theorem bm {w:World} {kb:Nat} {y:NdM} {ay:Option Addr} {qy cy:Nat} (h:w.heap[kb]? =some (NdO y)) (hv:y.kv= .slice ay qy cy):
 w.cell? ⟨kb,0,none⟩=some (.int .i64 y.nd.kind)/\w.cell? ⟨kb,1,none⟩=some (.string y.nd.key)/\w.cell? ⟨kb,2,none⟩=some (.string y.nd.text)/\w.cell? ⟨kb,3,none⟩=some (.bool y.nd.quoted)/\w.cell? ⟨kb,4,none⟩=some (.int .i64 y.nd.line)/\w.cell? ⟨kb,5,none⟩=some (.slice ay qy cy):=
 ⟨aa h 0,aa h 1,aa h 2,aa h 3,aa h 4,by rw[<-hv];exact aa h 5⟩
theorem RMk.later {w1 w w2:World} {kb:Nat} {y:NdM} (h:RMk w1 w kb y) (hb:Below w.heap.size w w2):RMk w1 w2 kb y:=
 ⟨h.below.trans (hb.mono h.below.size),(hb.block _ (af h.kid)).trans h.kid,h.klo⟩
theorem RMk.drewN {w1 w:World} {kb:Nat} {y:NdM} (h:RMk w1 w kb y) (n:Nat):RMk w1 (w.drewN n) kb y:=⟨bdH h.below n,h.kid,h.klo⟩
theorem RMk.new {w1:World} {y:NdM}:RMk w1 (w1.alloc (NdO y)) w1.heap.size y:=⟨(aBi _ w1).alloc (aBh _) _,ag _,aBh _⟩
structure RTg (w1 w:World) (kb:Nat) (y:NdM) (tb:Nat) (ob:Obj):Prop where
 rm:RMk w1 w kb y
 obj:w.heap[tb]? =some ob
 tlo:w1.heap.size<=tb
 ne:tb≠kb
theorem RTg.later {w1 w w2:World} {kb tb:Nat} {y:NdM} {ob:Obj} (h:RTg w1 w kb y tb ob) (hb:Below w.heap.size w w2):RTg w1 w2 kb y tb ob:=
 ⟨h.rm.later hb,(hb.block _ (af h.obj)).trans h.obj,h.tlo,h.ne⟩
theorem RTg.new {w1 w:World} {kb:Nat} {y:NdM} (h:RMk w1 w kb y) (ob:Obj):RTg w1 (w.alloc ob) kb y w.heap.size ob:=
 ⟨h.later ((aBi _ w).alloc (aBh _) _),ag _,h.below.size,by have:=af h.kid;omega⟩
theorem RTg.set {w1 w:World} {kb tb:Nat} {y:NdM} {c:Array Value} {T:TypeId} (h:RTg w1 w kb y tb (.cells c T (0,0))) (i:Nat) (v:Value):RTg w1 (w.setCell ⟨tb,i,none⟩ v) kb y tb (.cells (c.setIfInBounds i v) T (0,0)):=by
 have hm:Mod (fun k=>k=tb) w (w.setCell ⟨tb,i,none⟩ v):=(Mod.refl _ w).setCell _ _ (fun _=>rfl);exact ⟨⟨h.rm.below.trans (hm.below h.rm.below.size fun k hk=>by rw[hk];exact h.tlo),hm.heap h.rm.kid (fun e=>h.ne e.symm),h.rm.klo⟩,aI h.obj i v,h.tlo,h.ne⟩
structure KRg (w1 w w':World) (kb:Nat) (y:NdM):Prop where
 rm:RMk w1 w' kb y
 bw:Below w.heap.size w w'
abbrev KS (w1 w w':World) (kb:Nat) (y:NdM) (ay:Option Addr) (qy cy:Nat):Prop:=
 w'.cell? ⟨kb,0,none⟩=some (.int .i64 y.nd.kind)/\w'.cell? ⟨kb,1,none⟩=some (.string y.nd.key)/\w'.cell? ⟨kb,2,none⟩=some (.string y.nd.text)/\w'.cell? ⟨kb,3,none⟩=some (.bool y.nd.quoted)/\w'.cell? ⟨kb,4,none⟩=some (.int .i64 y.nd.line)/\w'.cell? ⟨kb,5,none⟩=some (.slice ay qy cy)/\KRg w1 w w' kb y
theorem TJ {w1 w w':World} {kb:Nat} {y:NdM} {ay:Option Addr} {qy cy:Nat} (h:KRg w1 w w' kb y) (hv:y.kv= .slice ay qy cy):KS w1 w w' kb y ay qy cy:=by
 obtain ⟨k0,k1,k2,k3,k4,k5⟩:=bm h.rm.kid hv;exact ⟨k0,k1,k2,k3,k4,k5,h⟩
theorem KRg.step {w1 w w' Eg:World} {kb:Nat} {y:NdM} (h:KRg w1 w w' kb y) (hb:Below w'.heap.size w' Eg):KRg w1 w Eg kb y:=⟨h.rm.later hb,h.bw.trans (hb.mono h.bw.size)⟩
theorem N1 {w1 w:World} {kb:Nat} {y:NdM} {ay:Option Addr} {qy cy:Nat} (h:RMk w1 w kb y) (hv:y.kv= .slice ay qy cy):KS w1 w w.drew kb y ay qy cy:=TJ ⟨h.drewN 1,bdH (aBi _ _) 1⟩ hv
theorem Se {w1 w w' Eg:World} {kb:Nat} {y:NdM} {ay:Option Addr} {qy cy:Nat} (h:KS w1 w w' kb y ay qy cy) (hb:Below w'.heap.size w' Eg) (hv:y.kv= .slice ay qy cy):KS w1 w Eg kb y ay qy cy:=TJ (h.2.2.2.2.2.2.step hb) hv
theorem Zh {w1 w w':World} {kb:Nat} {y:NdM} {ay:Option Addr} {qy cy:Nat} (h:KS w1 w w' kb y ay qy cy):Below w.heap.size w w':=h.2.2.2.2.2.2.bw
section
variable {w0 w1 w:World} {Q:Exit->Act->World->Prop} {a:Act} {ms:List NdM} {db rb lb lo q lc j kb tb b o cap:Nat} {y:NdM}
theorem sp_a (X:Code) (hD:DocB w0 w db b o cap ms) (hy:y∈ms) (hf:SpO a db rb lb lo q lc j) (hj:j<q)
 (z0:w.cell? ⟨lb,lo+j*6,none⟩=some (.int .i64 y.nd.kind)) (z1:w.cell? ⟨lb,lo+j*6+1,none⟩=some (.string y.nd.key)) (z2:w.cell? ⟨lb,lo+j*6+2,none⟩=some (.string y.nd.text)) (z3:w.cell? ⟨lb,lo+j*6+3,none⟩=some (.bool y.nd.quoted)) (z4:w.cell? ⟨lb,lo+j*6+4,none⟩=some (.int .i64 y.nd.line)) (z5:w.cell? ⟨lb,lo+j*6+5,none⟩=some y.kv)
 (bad:∀e a' w',(dg y.nd= .error e\/(dg y.nd= .ok ()/\bE (nds ms) [aT,aH,aR] y.nd.kids= .error e))->a'.defers=[]->Below w.heap.size w w'->Q (.panic (jl e)) a' w')
 (ok:∀a' w',dg y.nd= .ok ()->bE (nds ms) [aT,aH,aR] y.nd.kids= .ok ()->SpK a' db rb lb lo q lc j w.heap.size->RMk w w' w.heap.size y->X.wp Tryz.prog Q a' w'):
 (Code.seq sp3 (Code.seq sp4 (Code.seq sp5 X))).wp Tryz.prog Q a w:=by
 have hM:=hD.toM;have gn:=hM.ok hy;obtain ⟨ay,cy,cT,_,_⟩:=aL gn.kids;obtain ⟨qy,fM⟩:=ex (y.nd.kids.length);rw[<-fM]at cT;rw[cT]at z5;have bj:(j:Int)<(q:Int):=by omega
 have hr:RMk w (w.alloc (NdO y)) w.heap.size y:=RMk.new;have Hm:=hid (fun w3 (aV:Below w.heap.size w w3)=>Gh w3 y (gn.later aV));have Ho:=hid (fun w3 (aV:Below w.heap.size w w3) (arr:Array Value) (eC:arr.toList=[aT,aH,aR].map Value.string)=>wA (w3.alloc (.cells arr 9)) db b o cap ms (hM.later (aV.alloc aV.size _)) y hy (.slice (some ⟨w3.heap.size,0,none⟩) 3 3) [aT,aH,aR] (E2 w3 _ arr eC 3 rfl (by decide) _))
 have hE:=wH cT;rw[bA cT]at Hm Ho;rw[hE]at hr;have HR:=hid hr;have aG:=hid bad;have bh:=hid ok;have BG:=hid cT;obtain ⟨vv,rfl,eE⟩:=hf.shape;simp only[rW,eE];clear eE;clear hf bad ok hM gn cT fM hr hE hD hj;cases rQ:dg y.nd with
 |error e=>
  rw[rQ]at Hm;simp only at Hm;have HB:=hid (fun a' w'=>aG.o e a' w' (.inl rQ));clear aG bh rQ Ho;dsimp only[sp3,sp4,sp5,ncs,ncl,ncr,ncb,nco,nct,nce,ncx,Tryz.f48]
  go_wp2_with fail
  refine (Hm.o _ HR.o.below).mono ?_;rintro r w3 ⟨rfl,aV⟩;exact HB.o _ _ rfl (HR.o.below.trans (aV.mono HR.o.below.size))
 |ok u=>
  rw[rQ]at Hm;simp only at Hm;cases kY:bE (nds ms) [aT,aH,aR] y.nd.kids with
  |error e=>
   have HB:=hid (fun a' w'=>aG.o e a' w' (.inr ⟨rQ,kY⟩));rw[kY]at Ho;unfold D5 at Ho;simp only at Ho;clear aG bh rQ kY;dsimp only[sp3,sp4,sp5,ncs,ncl,ncr,ncb,nco,nct,nce,ncx,Tryz.f48]
   go_wp2_with fail
   refine (Hm.o _ HR.o.below).mono ?_;rintro r w3 ⟨rfl,aV⟩;have uP:=hid (HR.o.later aV);obtain ⟨k0,k1,k2,k3,k4,k5⟩:=bm uP.o.kid BG.o;have DX:=hid (Ho.o w3 uP.o.below #[.string ⟨#[115,101,114,118,105,99,101]⟩,.string ⟨#[115,112,108,105,116]⟩,.string ⟨#[119,101,105,103,104,116]⟩] rfl);clear aV Hm Ho HR
   go_wp2_with fail
   refine DX.o.mono ?_;rintro r w4 ⟨rfl,bX⟩;have TX:=uP.o.later ((aBi _ _).alloc (aBh _) (.cells #[.string ⟨#[115,101,114,118,105,99,101]⟩,.string ⟨#[115,112,108,105,116]⟩,.string ⟨#[119,101,105,103,104,116]⟩] 9));exact HB.o _ _ rfl (TX.below.trans (bX.mono TX.below.size))
  |ok u2=>
   have HO:=hid (fun a' w'=>bh.o a' w' rQ kY);rw[kY]at Ho;unfold D5 at Ho;simp only at Ho;clear aG bh rQ kY;dsimp only[sp3,sp4,sp5,ncs,ncl,ncr,ncb,nco,nct,nce,ncx,Tryz.f48]
   go_wp2_with fail
   refine (Hm.o _ HR.o.below).mono ?_;rintro r w3 ⟨rfl,aV⟩;have uP:=hid (HR.o.later aV);obtain ⟨k0,k1,k2,k3,k4,k5⟩:=bm uP.o.kid BG.o;have DX:=hid (Ho.o w3 uP.o.below #[.string ⟨#[115,101,114,118,105,99,101]⟩,.string ⟨#[115,112,108,105,116]⟩,.string ⟨#[119,101,105,103,104,116]⟩] rfl);clear aV Hm Ho HR
   go_wp2_with fail
   refine DX.o.mono ?_;rintro r w4 ⟨rfl,bX⟩;have UA:=hid ((uP.o.later ((aBi _ _).alloc (aBh _) (.cells #[.string ⟨#[115,101,114,118,105,99,101]⟩,.string ⟨#[115,112,108,105,116]⟩,.string ⟨#[119,101,105,103,104,116]⟩] 9))).later bX);clear bX DX uP k0 k1 k2 k3 k4 k5;go_wp2;exact HO.o _ _ ⟨rfl,rfl,rfl,rfl,rfl,rfl,rfl,rfl⟩ UA.o
theorem sp_b (X:Code) (hD:DocB w0 w db b o cap ms) (hy:y∈ms) (hf:SpK a db rb lb lo q lc j kb) (hr:RMk w1 w kb y)
 (ok:∀a' w',SpA a' db rb lb lo q lc j kb (fO b o (bH (nds ms) y.nd aT)) (fO b o (bH (nds ms) y.nd aH))->RMk w1 w' kb y->DocB w0 w' db b o cap ms->X.wp Tryz.prog Q a' w'):(Code.seq sp6 X).wp Tryz.prog Q a w:=by
 have hM:=hD.toM;have gn:=hM.ok hy;obtain ⟨ay,cy,cT,_,_⟩:=aL gn.kids;obtain ⟨qy,fM⟩:=ex (y.nd.kids.length);rw[<-fM]at cT;have Hf:=hid (fun key w3 (aV:Below w.heap.size w w3)=>oD w3 db b o cap ms (hM.later aV) y hy key);rw[bA cT]at Hf;have hK0:KS w1 w w.drew kb y ay qy cy:=N1 hr cT;have bh:=hid (fun a' w' (h1:KRg w1 w w' kb y) im=>ok a' w' im h1.rm (hD.later h1.bw))
 have cw:∀w' Eg:World,KS w1 w w' kb y ay qy cy->Below w'.heap.size w' Eg->KS w1 w Eg kb y ay qy cy:=fun _ _ h hb=>Se h hb cT;have hkb:∀w':World,KS w1 w w' kb y ay qy cy->Below w.heap.size w w':=fun _ h=>Zh h;have jQ:=hid cw;have Hkb:=hid hkb;obtain ⟨vv,rfl,eE⟩:=hf.shape;simp only[rW,eE];clear eE;clear hf ok hM gn cT fM hr hD cw hkb;dsimp only[sp6,ncs,ncl,ncr,ncb,nco,nct,nce,ncx,Tryz.f48]
 go_wp2
 go_region_held3 (fun w'=>KS w1 w w' kb y ay qy cy) (first|exact hK0|(refine jQ.o _ _ ?_ aV;assumption)|assumption)
  (first|(go_at_call 43;refine (Hf.o _ _ ?_).mono ?_;(refine Hkb.o _ ?_;assumption);rintro r w3 ⟨rfl,aV⟩))
 all_goals go_wp2
 all_goals refine bh.o _ _ ?_ ⟨rfl,rfl,rfl,rfl,rfl,rfl,rfl,rfl,rfl,rfl⟩
 all_goals first|exact (show KS w1 w _ kb y ay qy cy from by assumption).2.2.2.2.2.2|exact (show KS w1 w _ kb y ay qy cy from by refine jQ.o _ _ ?_ aV;assumption).2.2.2.2.2.2
def gT (ns:List Nd) (k:Nd):R (ByteArray×ByteArray):=
 match aY ns k aT,aY ns k aH with
  |none,none=>(.error (k.line,122):R (ByteArray×ByteArray))
  |some _,some b=> .error ((eD ns k.kids b).line,121)
  |some a,none=>(match aO a aD with| .error e=> .error e| .ok s=> .ok (s,⟨#[]⟩))
  |none,some b=>(match aO b aD with| .error e=> .error e| .ok s=> .ok (⟨#[]⟩,s))
theorem lZ (ns:List Nd) (k:Nd):cX ns k=(match dg k with
 | .error e=> .error e
 | .ok ()=>
 match bE ns [aT,aH,aR] k.kids with
 | .error e=> .error e
 | .ok ()=>
 match gT ns k with
 | .error e=> .error e
 | .ok (a,b)=>
 match bt ns k aR with
 | .error e=> .error e
 | .ok n=>
 match bD n with
 | .error e=> .error e
 | .ok x=> .ok ⟨a,b,x⟩):=rfl
theorem kG {s:ByteArray} {arr:Array UInt8} (h:s=⟨arr⟩):(s.toList==arr.toList)=true:=ia (by rw[h])
theorem kX {s:ByteArray} {arr:Array UInt8} (h:¬s=⟨arr⟩):(s.toList==arr.toList)=false:=ji (fun e=>h (oH e))
theorem Ac {ns:List Nd} {l:List Int} {i k:Nat} {b:Nd} (h:l[i]? =some (k:Int)):eD ns (l.take (i+1)) b=if (ns[k]!).key=aT\/(ns[k]!).key=aH then ns[k]! else eD ns (l.take i) b:=by
 unfold eD;rw[List.take_add_one,h];simp
theorem pB {w:World} {db b o cap:Nat} {ms:List NdM} (h:DocM w db b o cap ms) {k:Nat} {mk:NdM} (hk:ms[k]? =some mk) {ay:Option Addr} {qy cy:Nat} (hv:mk.kv= .slice ay qy cy):∀w1,Below w.heap.size w w1->
 w1.cell? ⟨b,o+k*6,none⟩=some (.int .i64 mk.nd.kind)/\w1.cell? ⟨b,o+k*6+1,none⟩=some (.string mk.nd.key)/\w1.cell? ⟨b,o+k*6+2,none⟩=some (.string mk.nd.text)/\w1.cell? ⟨b,o+k*6+3,none⟩=some (.bool mk.nd.quoted)/\w1.cell? ⟨b,o+k*6+4,none⟩=some (.int .i64 mk.nd.line)/\w1.cell? ⟨b,o+k*6+5,none⟩=some (.slice ay qy cy):=by
 intro w1 hb;have c:=(h.at hk).1;exact ⟨(hb.cell h.blt).trans c.c0,(hb.cell h.blt).trans c.c1,(hb.cell h.blt).trans c.c2,(hb.cell h.blt).trans c.c3,(hb.cell h.blt).trans c.c4,(hb.cell h.blt).trans (by rw[<-hv];exact c.c5)⟩
theorem cC {w:World} {db b o cap:Nat} {ms:List NdM} (h:DocM w db b o cap ms) {m:NdM} (hm:m∈ms) {key:ByteArray} {k:Nat} (hk:bH (nds ms) m.nd key=some k):∃mk,ms[k]? =some mk/\mk∈ms/\(nds ms)[k]! =mk.nd/\mk.Ok w/\∃ay cy,mk.kv= .slice ay mk.nd.kids.length cy:=by
 obtain ⟨z,hz,e,_⟩:=nP hk;obtain ⟨k',mk,e2,Sy,ed⟩:=h.kid hm hz;have h2:ms[k]? =some mk:=by rw[<-e,e2];simpa using Sy
 obtain ⟨ay,cy,hv,_⟩:=aL (h.ok ed).kids;exact ⟨mk,h2,ed,gI h2,h.ok ed,ay,cy,hv⟩
abbrev TgO (a b:ByteArray) (x:Nat):Obj:= .cells #[.string a,.string b,.float .f64 x] 58
theorem sp_c (X:Code) (hD:DocB w0 w db b o cap ms) (hy:y∈ms) (hf:SpA a db rb lb lo q lc j kb (fO b o (bH (nds ms) y.nd aT)) (fO b o (bH (nds ms) y.nd aH))) (hr:RMk w1 w kb y)
 (bad:∀e a' w',gT (nds ms) y.nd= .error e->a'.defers=[]->Below w1.heap.size w1 w'->Q (.panic (jl e)) a' w')
 (ok:∀a' w' p,gT (nds ms) y.nd= .ok p->SpT a' db rb lb lo q lc j kb w.heap.size->RTg w1 w' kb y w.heap.size (TgO p.1 p.2 0)->DocB w0 w' db b o cap ms->X.wp Tryz.prog Q a' w'):(Code.seq sp7 (Code.seq sp9 X)).wp Tryz.prog Q a w:=by
 have hM:=hD.toM;have gn:=hM.ok hy;obtain ⟨ay,cy,cT,TO,hks⟩:=aL gn.kids;obtain ⟨qy,fM⟩:=ex (y.nd.kids.length);rw[<-fM]at cT TO hks;have QJ:=hid (RTg.new hr (TgO ⟨#[]⟩ ⟨#[]⟩ 0));have Yp:=hid ((aBi w.heap.size w).alloc (aBh _) (TgO ⟨#[]⟩ ⟨#[]⟩ 0));have aG:=hid bad;have bh:=hid ok;have HD:=hid hD;have ue:∀w',RMk w1 w' kb y->w'.cell? ⟨kb,4,none⟩=some (.int .i64 y.nd.line):=fun w' h=>(bm h.kid cT).2.2.2.2.1
 have hk5:∀w',RMk w1 w' kb y->w'.cell? ⟨kb,5,none⟩=some (.slice ay qy cy):=fun w' h=>(bm h.kid cT).2.2.2.2.2;have Ls:=hid (fun w3 l e=>lg w3 l e);have kb4:=ue _ QJ.o.rm;have kb5:=hk5 _ QJ.o.rm;have Hw:=hid (fun w3 m (hm:NdM.Ok w3 m)=>lr w3 m hm);obtain ⟨vv,rfl,eE⟩:=hf.shape;simp only[rW,eE];clear eE;clear hf bad ok hD hr ue hk5;cases gj:bH (nds ms) y.nd aT with
 |none=>
  cases Ky:bH (nds ms) y.nd aH with
  |none=>
   have hv:gT (nds ms) y.nd= .error (y.nd.line,122):=by unfold gT aY;rw[gj,Ky];rfl
   have HB:=hid (fun a' w'=>aG.o _ a' w' hv);unfold fO;simp only[Option.map_none];clear aG bh hv gj Ky hM gn cT TO hks fM hy;dsimp only[sp7,sp9,ncs,ncl,ncr,ncb,nco,nct,nce,ncx,Tryz.f48]
   go_wp2_with fail
   refine (Ls.o _ _ _).mono ?_;rintro r w3 ⟨rfl,rfl⟩;exact HB.o _ _ rfl QJ.o.rm.below
  |some z=>
   obtain ⟨mz,X9,ed,fh,Zj,az,cz,Wa⟩:=cC hM hy Ky;have hv:gT (nds ms) y.nd=(match aO mz.nd aD with| .error e=> .error e| .ok s=> .ok (⟨#[]⟩,s)):=by unfold gT aY;rw[gj,Ky];simp only[Option.map_none,Option.map_some,fh]
   obtain ⟨qz,hqz⟩:=ex (mz.nd.kids.length);rw[<-hqz]at Wa;obtain ⟨n0,n1,n2,n3,n4,n5⟩:=pB hM X9 Wa _ Yp.o;have DV:=hid (Hw.o _ mz (Zj.later Yp.o));rw[bA Wa]at DV;unfold fO;simp only[Option.map_none,Option.map_some];cases fL:aO mz.nd aD with
   |error e=>
    rw[fL]at DV hv;simp only at DV hv;have HB:=hid (fun a' w'=>aG.o _ a' w' hv);clear aG bh hv gj Ky hM gn cT TO hks fM hy X9 ed fh Zj hqz Wa fL Hw;dsimp only[sp7,sp9,ncs,ncl,ncr,ncb,nco,nct,nce,ncx,Tryz.f48]
    go_wp2_with fail
    refine DV.o.mono ?_;rintro r w3 ⟨rfl,aV⟩;exact HB.o _ _ rfl (QJ.o.rm.below.trans (aV.mono QJ.o.rm.below.size))
   |ok s=>
    rw[fL]at DV hv;simp only at DV hv;have HO:=hid (fun a' w'=>bh.o a' w' _ hv);clear aG bh hv gj Ky hM gn cT TO hks fM hy X9 ed fh Zj hqz Wa fL Hw;dsimp only[sp7,sp9,ncs,ncl,ncr,ncb,nco,nct,nce,ncx,Tryz.f48]
    go_wp2_with fail
    refine DV.o.mono ?_;rintro r w3 ⟨rfl,aV⟩;have rO:=hid (QJ.o.later aV);have Gt:=hid ((HD.o.later Yp.o).later aV);have t1:=aa rO.o.obj 1;have t2:=ah rO.o.obj 1;simp at t1;have HE:=hid (rO.o.set 1 (.string s));clear aV DV;go_wp2;refine HO.o _ _ ⟨rfl,rfl,rfl,rfl,rfl,rfl,rfl,rfl,rfl⟩ HE.o ?_;exact Gt.o.step (F:=fun k=>k=w.heap.size) ((Mod.refl _ _).setCell _ _ (fun _=>rfl)) (fun e=>by have:=af HD.o.doc;omega) (fun k e=>by rw[e];exact HD.o.below.size)
 |some x=>
  obtain ⟨mx,St,OF,Sq,hxo,ax,cx,X3⟩:=cC hM hy gj;cases Ky:bH (nds ms) y.nd aH with
  |none=>
   have hv:gT (nds ms) y.nd=(match aO mx.nd aD with| .error e=> .error e| .ok s=> .ok (s,⟨#[]⟩)):=by unfold gT aY;rw[gj,Ky];simp only[Option.map_none,Option.map_some,Sq]
   obtain ⟨qx,hqx⟩:=ex (mx.nd.kids.length);rw[<-hqx]at X3;obtain ⟨n0,n1,n2,n3,n4,n5⟩:=pB hM St X3 _ Yp.o;have DV:=hid (Hw.o _ mx (hxo.later Yp.o));rw[bA X3]at DV;unfold fO;simp only[Option.map_none,Option.map_some];cases fL:aO mx.nd aD with
   |error e=>
    rw[fL]at DV hv;simp only at DV hv;have HB:=hid (fun a' w'=>aG.o _ a' w' hv);clear aG bh hv gj Ky hM gn cT TO hks fM hy St OF Sq hxo hqx X3 fL Hw;dsimp only[sp7,sp9,ncs,ncl,ncr,ncb,nco,nct,nce,ncx,Tryz.f48]
    go_wp2_with fail
    refine DV.o.mono ?_;rintro r w3 ⟨rfl,aV⟩;exact HB.o _ _ rfl (QJ.o.rm.below.trans (aV.mono QJ.o.rm.below.size))
   |ok s=>
    rw[fL]at DV hv;simp only at DV hv;have HO:=hid (fun a' w'=>bh.o a' w' _ hv);clear aG bh hv gj Ky hM gn cT TO hks fM hy St OF Sq hxo hqx X3 fL Hw;dsimp only[sp7,sp9,ncs,ncl,ncr,ncb,nco,nct,nce,ncx,Tryz.f48]
    go_wp2_with fail
    refine DV.o.mono ?_;rintro r w3 ⟨rfl,aV⟩;have rO:=hid (QJ.o.later aV);have Gt:=hid ((HD.o.later Yp.o).later aV);have t1:=aa rO.o.obj 0;have t2:=ah rO.o.obj 0;simp at t1;have HE:=hid (rO.o.set 0 (.string s));clear aV DV;go_wp2;refine HO.o _ _ ⟨rfl,rfl,rfl,rfl,rfl,rfl,rfl,rfl,rfl⟩ HE.o ?_;exact Gt.o.step (F:=fun k=>k=w.heap.size) ((Mod.refl _ _).setCell _ _ (fun _=>rfl)) (fun e=>by have:=af HD.o.doc;omega) (fun k e=>by rw[e];exact HD.o.below.size)
  |some z=>
   obtain ⟨mz,X9,ed,fh,Zj,az,cz,Wa⟩:=cC hM hy Ky;have hv:gT (nds ms) y.nd= .error ((eD (nds ms) y.nd.kids ((nds ms)[z]!)).line,121):=by unfold gT aY;rw[gj,Ky];rfl
   have HB:=hid (fun a' w'=>aG.o _ a' w' hv);obtain ⟨n,hn⟩:=ex (ms.length);have d0:(w.alloc (TgO ⟨#[]⟩ ⟨#[]⟩ 0)).cell? ⟨db,0,none⟩=some (.slice (some ⟨b,o,none⟩) n cap):=by
    rw[hn];exact (World.cell?_of_block (ai _ (af hM.doc))).trans (aa hM.doc 0)
   have iW:=hid (fun i (hi:i<qy)=>show ∃(k:Nat) (mk:NdM),y.nd.kids[i]? =some (k:Int)/\ms[k]? =some mk/\k<n from by
    obtain ⟨x,hx⟩:∃x,y.nd.kids[i]? =some x:=aF (by omega);obtain ⟨k,mk,e,hk,_⟩:=hM.kid hy (List.mem_of_getElem? hx);exact ⟨k,mk,by rw[hx,e],hk,by rw[hn];exact (aBo hk).1⟩)
   have uN:=hid hks;have Hq:=hid fM;have Hyl:=hid TO;have HM:=hid hM;have Hn:=hid hn;have Hz:=hid (show z<ms.length from (aBo X9).1);unfold fO;simp only[Option.map_some];clear aG bh hv gj Ky hM gn cT TO hks fM hy St OF Sq hxo X3 Hw X9 ed fh Zj Wa hn;dsimp only[sp7,sp9,ncs,ncl,ncr,ncb,nco,nct,nce,ncx,Tryz.f48];go_wp2
   go_loopw [11,63] (fun vp vi wr=>∃(s i:Nat),vp= .pointer (some ⟨b,o+s*6,none⟩)/\vi= .int .i64 (i:Int)/\w.alloc (TgO ⟨#[]⟩ ⟨#[]⟩ 0)=wr/\Hid (i<=qy/\s<ms.length/\(nds ms)[s]! =eD (nds ms) (y.nd.kids.take i) ((nds ms)[z]!))) (fun _ vi _=>qy-(intOf vi).toNat)
   case atStart=>exact ⟨z,0,rfl,rfl,rfl,hid ⟨Nat.zero_le _,Hz.o,rfl⟩⟩
   case round=>
    obtain ⟨s,i,rfl,rfl,rfl,H⟩:=hrel;by_cases hi:i<qy
    ·have ti:decide (i<qy)=true:=dT hi;have bi:(i:Int)<(qy:Int):=by omega
     obtain ⟨k,mk,hx,hk,cg⟩:=iW.o i hi;obtain ⟨b3,o3,rfl,aV,hc⟩:=uN.o (by omega);have x1:(w.alloc (TgO ⟨#[]⟩ ⟨#[]⟩ 0)).cell? ⟨b3,o3+i,none⟩=some (.int .i64 (k:Int)):=(World.cell?_of_block (ai _ aV)).trans (hc i _ hx);have y1:(w.alloc (TgO ⟨#[]⟩ ⟨#[]⟩ 0)).cell? ⟨b,o+k*6+1,none⟩=some (.string mk.nd.key):=(World.cell?_of_block (ai _ HM.o.blt)).trans (HM.o.at hk).1.c1;have bk:(k:Int)<(n:Int):=by omega
     have gu:=gI hk;have cw:=Ac (ns:=nds ms) (b:=(nds ms)[z]!) hx;rw[gu]at cw;have lT:=(aBo hk).1;obtain ⟨cY,df⟩:=bL (k:=i) (n:=qy) hi (by have:=Hyl.o;omega);by_cases e1:mk.nd.key=aT
     ·have u1:=kG e1;rw[if_pos (.inl e1)]at cw;have tg:=hid (show i+1<=qy/\k<ms.length/\(nds ms)[k]! =eD (nds ms) (y.nd.kids.take (i+1)) ((nds ms)[z]!) from ⟨hi,lT,by rw[cw,gu]⟩);clear cw gu lT hk hx hc aV H iW uN hi cg e1 HM HB;go_wp2;go_roundw
      case rel=>exact ⟨k,i+1,rfl,df.o,trivial,tg⟩
      case measure=>exact cY.o
     ·have u1:=kX e1;by_cases e2:mk.nd.key=aH
      ·have u2:=kG e2;rw[if_pos (.inr e2)]at cw;have tg:=hid (show i+1<=qy/\k<ms.length/\(nds ms)[k]! =eD (nds ms) (y.nd.kids.take (i+1)) ((nds ms)[z]!) from ⟨hi,lT,by rw[cw,gu]⟩);clear cw gu lT hk hx hc aV H iW uN hi cg e1 e2 HM HB;go_wp2;go_roundw
       case rel=>exact ⟨k,i+1,rfl,df.o,trivial,tg⟩
       case measure=>exact cY.o
      ·have u2:=kX e2;rw[if_neg (by rintro (q|q);exact e1 q;exact e2 q)]at cw;have tg:=hid (show i+1<=qy/\s<ms.length/\(nds ms)[s]! =eD (nds ms) (y.nd.kids.take (i+1)) ((nds ms)[z]!) from ⟨hi,H.o.2.1,by rw[cw];exact H.o.2.2⟩);clear cw gu lT hk hx hc aV H iW uN hi cg e1 e2 HM HB;go_wp2;go_roundw
       case rel=>exact ⟨s,i+1,rfl,df.o,trivial,tg⟩
       case measure=>exact cY.o
    ·have ti:decide (i<qy)=false:=dF hi;obtain ⟨msn,Wn⟩:∃msn,ms[s]? =some msn:=aF H.o.2.1;have y4:(w.alloc (TgO ⟨#[]⟩ ⟨#[]⟩ 0)).cell? ⟨b,o+s*6+4,none⟩=some (.int .i64 msn.nd.line):=(World.cell?_of_block (ai _ HM.o.blt)).trans (HM.o.at Wn).1.c4;have jA:(eD (nds ms) y.nd.kids ((nds ms)[z]!)).line=msn.nd.line:=by
      have e3:=H.o.2.2;rw[List.take_of_length_le (by have:=Hq.o;omega),gI Wn]at e3;rw[<-e3]
     have Tr:=hid jA;clear H iW uN hi HM Wn jA
     go_wp2_with fail
     refine (Ls.o _ _ _).mono ?_;rintro r w3 ⟨rfl,rfl⟩;rw[<-Tr.o];exact HB.o _ _ rfl QJ.o.rm.below
end
