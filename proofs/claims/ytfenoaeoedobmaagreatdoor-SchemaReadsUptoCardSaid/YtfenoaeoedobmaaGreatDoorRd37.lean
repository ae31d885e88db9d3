/-
Parts of a proof, one behind the other (laid dense by a program of mine: pack.py).
-/
import Derived.Test.YtfenoaeoedobmaaGreatDoorRd36
set_option linter.unusedVariables false
set_option linter.unusedSimpArgs false
set_option maxHeartbeats 4000000
set_option maxRecDepth 20000
namespace Go.Proofs.YtfenoaeoedobmaaGreatDoor
open Go Go.RowKit
noncomputable def rg0:Code:=(ncl (ncx Tryz.f94.body))
noncomputable def rg1:Code:=(ncl (ncr (ncx Tryz.f94.body)))
noncomputable def rg2:Code:=(ncl (ncr (ncr (ncx Tryz.f94.body))))
noncomputable def rg4:Code:=(ncl (ncr (ncr (ncr (ncx Tryz.f94.body)))))
noncomputable def rg5:Code:=(ncl (ncr (ncr (ncr (ncr (ncx Tryz.f94.body))))))
noncomputable def rg9:Code:=(ncl (ncr (ncr (ncr (ncr (ncr (ncx Tryz.f94.body)))))))
noncomputable def rg10:Code:=(ncl (ncr (ncr (ncr (ncr (ncr (ncr (ncx Tryz.f94.body))))))))
noncomputable def rg11:Code:=(ncl (ncr (ncr (ncr (ncr (ncr (ncr (ncr (ncx Tryz.f94.body)))))))))
noncomputable def rg12:Code:=(ncl (ncr (ncr (ncr (ncr (ncr (ncr (ncr (ncr (ncx Tryz.f94.body))))))))))
noncomputable def rg14:Code:=(ncl (ncr (ncr (ncr (ncr (ncr (ncr (ncr (ncr (ncr (ncx Tryz.f94.body)))))))))))
noncomputable def rgE:Code:=(ncr (ncr (ncr (ncr (ncr (ncr (ncr (ncr (ncr (ncr (ncx Tryz.f94.body)))))))))))
theorem rg_act (a:Act) (hs:a.tmps.size=83) (hd:a.defers=[]):∃v:Nat→Value,(∀(i:Nat) (x:Value),a.tmps[i]? =some x→v i=x)∧a=⟨#[v 0,v 1,v 2,v 3,v 4,v 5,v 6,v 7,v 8,v 9,v 10,v 11,v 12,v 13,v 14,v 15,v 16,v 17,v 18,v 19,v 20,v 21,v 22,v 23,v 24,v 25,v 26,v 27,v 28,v 29,v 30,v 31,v 32,v 33,v 34,v 35,v 36,v 37,v 38,v 39,v 40,v 41,v 42,v 43,v 44,v 45,v 46,v 47,v 48,v 49,v 50,v 51,v 52,v 53,v 54,v 55,v 56,v 57,v 58,v 59,v 60,v 61,v 62,v 63,v 64,v 65,v 66,v 67,v 68,v 69,v 70,v 71,v 72,v 73,v 74,v 75,v 76,v 77,v 78,v 79,v 80,v 81,v 82],[]⟩:=by
 obtain ⟨t,d⟩:=a;obtain ⟨l⟩:=t;obtain rfl:d=[]:=hd;have hl:l.length=83:=hs;refine ⟨fun i=>l.getD i undef,fun i x hx=> ?_,?_⟩
 ·have hx':l[i]? =some x:=by simpa using hx
  simp[List.getD,hx']
 ·have e:l=(List.range 83).map (fun i=>l.getD i undef):=by
   apply List.ext_getElem
   ·simp[hl]
   ·intro i h1 h2;simp[List.getD,h1]
  generalize (fun i=>l.getD i undef)=v at e ⊢;subst e;rfl
structure RgA (a:Act) (db:Nat) (i:Nat) (lk:ByteArray) (tb:Nat) (xb:Nat):Prop where
 size:a.tmps.size=83
 dfr:a.defers=[]
 s0:a.tmps[0]? =some (.pointer (some ⟨db,0,none⟩))
 s1:a.tmps[1]? =some (.int .i64 (i:Int))
 s2:a.tmps[2]? =some (.string lk)
 s6:a.tmps[6]? =some (.pointer (some ⟨tb,0,none⟩))
 s7:a.tmps[7]? =some (.pointer (some ⟨xb,0,none⟩))
theorem RgA.shape {a:Act} {db:Nat} {i:Nat} {lk:ByteArray} {tb:Nat} {xb:Nat} (h:RgA a db i lk tb xb):∃v:Nat→Value,a=⟨#[.pointer (some ⟨db,0,none⟩),.int .i64 (i:Int),.string lk,v 3,v 4,v 5,.pointer (some ⟨tb,0,none⟩),.pointer (some ⟨xb,0,none⟩),v 8,v 9,v 10,v 11,v 12,v 13,v 14,v 15,v 16,v 17,v 18,v 19,v 20,v 21,v 22,v 23,v 24,v 25,v 26,v 27,v 28,v 29,v 30,v 31,v 32,v 33,v 34,v 35,v 36,v 37,v 38,v 39,v 40,v 41,v 42,v 43,v 44,v 45,v 46,v 47,v 48,v 49,v 50,v 51,v 52,v 53,v 54,v 55,v 56,v 57,v 58,v 59,v 60,v 61,v 62,v 63,v 64,v 65,v 66,v 67,v 68,v 69,v 70,v 71,v 72,v 73,v 74,v 75,v 76,v 77,v 78,v 79,v 80,v 81,v 82],[]⟩:=by
 obtain ⟨v,hv,hd⟩:=rg_act a h.size h.dfr;have e0:=hv 0 _ h.s0;have e1:=hv 1 _ h.s1;have e2:=hv 2 _ h.s2;have e6:=hv 6 _ h.s6;have e7:=hv 7 _ h.s7;refine ⟨v,?_⟩;rw[hd];simp only[e0,e1,e2,e6,e7]
structure RgB (a:Act) (db:Nat) (i:Nat) (lk:ByteArray) (tb:Nat) (xb:Nat) (x:Option Nat):Prop where
 size:a.tmps.size=83
 dfr:a.defers=[]
 s0:a.tmps[0]? =some (.pointer (some ⟨db,0,none⟩))
 s1:a.tmps[1]? =some (.int .i64 (i:Int))
 s2:a.tmps[2]? =some (.string lk)
 s6:a.tmps[6]? =some (.pointer (some ⟨tb,0,none⟩))
 s7:a.tmps[7]? =some (.pointer (some ⟨xb,0,none⟩))
 s10:a.tmps[10]? =some (.int .i64 (fldV x))
theorem RgB.shape {a:Act} {db:Nat} {i:Nat} {lk:ByteArray} {tb:Nat} {xb:Nat} {x:Option Nat} (h:RgB a db i lk tb xb x):∃v:Nat→Value,a=⟨#[.pointer (some ⟨db,0,none⟩),.int .i64 (i:Int),.string lk,v 3,v 4,v 5,.pointer (some ⟨tb,0,none⟩),.pointer (some ⟨xb,0,none⟩),v 8,v 9,.int .i64 (fldV x),v 11,v 12,v 13,v 14,v 15,v 16,v 17,v 18,v 19,v 20,v 21,v 22,v 23,v 24,v 25,v 26,v 27,v 28,v 29,v 30,v 31,v 32,v 33,v 34,v 35,v 36,v 37,v 38,v 39,v 40,v 41,v 42,v 43,v 44,v 45,v 46,v 47,v 48,v 49,v 50,v 51,v 52,v 53,v 54,v 55,v 56,v 57,v 58,v 59,v 60,v 61,v 62,v 63,v 64,v 65,v 66,v 67,v 68,v 69,v 70,v 71,v 72,v 73,v 74,v 75,v 76,v 77,v 78,v 79,v 80,v 81,v 82],[]⟩:=by
 obtain ⟨v,hv,hd⟩:=rg_act a h.size h.dfr;have e0:=hv 0 _ h.s0;have e1:=hv 1 _ h.s1;have e2:=hv 2 _ h.s2;have e6:=hv 6 _ h.s6;have e7:=hv 7 _ h.s7;have e10:=hv 10 _ h.s10;refine ⟨v,?_⟩;rw[hd];simp only[e0,e1,e2,e6,e7,e10]
structure RgC (a:Act) (db:Nat) (i:Nat) (lk:ByteArray) (tb:Nat) (xb:Nat) (x:Option Nat):Prop where
 size:a.tmps.size=83
 dfr:a.defers=[]
 s0:a.tmps[0]? =some (.pointer (some ⟨db,0,none⟩))
 s1:a.tmps[1]? =some (.int .i64 (i:Int))
 s2:a.tmps[2]? =some (.string lk)
 s6:a.tmps[6]? =some (.pointer (some ⟨tb,0,none⟩))
 s7:a.tmps[7]? =some (.pointer (some ⟨xb,0,none⟩))
 s11:a.tmps[11]? =some (.int .i64 (fldV x))
theorem RgC.shape {a:Act} {db:Nat} {i:Nat} {lk:ByteArray} {tb:Nat} {xb:Nat} {x:Option Nat} (h:RgC a db i lk tb xb x):∃v:Nat→Value,a=⟨#[.pointer (some ⟨db,0,none⟩),.int .i64 (i:Int),.string lk,v 3,v 4,v 5,.pointer (some ⟨tb,0,none⟩),.pointer (some ⟨xb,0,none⟩),v 8,v 9,v 10,.int .i64 (fldV x),v 12,v 13,v 14,v 15,v 16,v 17,v 18,v 19,v 20,v 21,v 22,v 23,v 24,v 25,v 26,v 27,v 28,v 29,v 30,v 31,v 32,v 33,v 34,v 35,v 36,v 37,v 38,v 39,v 40,v 41,v 42,v 43,v 44,v 45,v 46,v 47,v 48,v 49,v 50,v 51,v 52,v 53,v 54,v 55,v 56,v 57,v 58,v 59,v 60,v 61,v 62,v 63,v 64,v 65,v 66,v 67,v 68,v 69,v 70,v 71,v 72,v 73,v 74,v 75,v 76,v 77,v 78,v 79,v 80,v 81,v 82],[]⟩:=by
 obtain ⟨v,hv,hd⟩:=rg_act a h.size h.dfr;have e0:=hv 0 _ h.s0;have e1:=hv 1 _ h.s1;have e2:=hv 2 _ h.s2;have e6:=hv 6 _ h.s6;have e7:=hv 7 _ h.s7;have e11:=hv 11 _ h.s11;refine ⟨v,?_⟩;rw[hd];simp only[e0,e1,e2,e6,e7,e11]
def rulA (r:Rul):Array Value:=#[.string r.path,.string r.method,.string r.split,.bool r.allow]
theorem fault4 {w4:World} {fb:Nat} {T:TypeId} {x0 x1 x2 x3:Value} (h:w4.heap[fb]? =some (.cells #[x0,x1,x2,x3] T (0,0))) (u0 u1 u2 u3:Value):
 Mod (fun k=>k=fb) w4 ((((w4.setCell ⟨fb,0,none⟩ u0).setCell ⟨fb,1,none⟩ u1).setCell ⟨fb,2,none⟩ u2).setCell ⟨fb,3,none⟩ u3)∧((((w4.setCell ⟨fb,0,none⟩ u0).setCell ⟨fb,1,none⟩ u1).setCell ⟨fb,2,none⟩ u2).setCell ⟨fb,3,none⟩ u3).heap[fb]? =some (.cells #[u0,u1,u2,u3] T (0,0)):=by
 have m0:Mod (fun k=>k=fb) w4 (w4.setCell ⟨fb,0,none⟩ u0):=(Mod.refl _ _).setCell _ _ (fun _=>rfl);have m1:Mod (fun k=>k=fb) w4 ((w4.setCell ⟨fb,0,none⟩ u0).setCell ⟨fb,1,none⟩ u1):=m0.setCell _ _ (fun _=>rfl);have m2:Mod (fun k=>k=fb) w4 (((w4.setCell ⟨fb,0,none⟩ u0).setCell ⟨fb,1,none⟩ u1).setCell ⟨fb,2,none⟩ u2):=m1.setCell _ _ (fun _=>rfl);have m3:Mod (fun k=>k=fb) w4 ((((w4.setCell ⟨fb,0,none⟩ u0).setCell ⟨fb,1,none⟩ u1).setCell ⟨fb,2,none⟩ u2).setCell ⟨fb,3,none⟩ u3):=m2.setCell _ _ (fun _=>rfl)
 exact ⟨m3,set_blk (set_blk (set_blk (set_blk h 0 _) 1 _) 2 _) 3 _⟩
theorem allow_eq (p:ByteArray):(p.toList==[97,108,108,111,119])=decide (p=kAllow):=by
 by_cases h:p=kAllow
 ·have t:=key_yes (arr:=#[97,108,108,111,119]) h;simp at t;rw[t,dT h];rfl
 ·have t:=key_no (arr:=#[97,108,108,111,119]) h;simp at t;rw[dF h]
  simpa using t
section
variable {w0 wb w:World} {Q:Exit→Act→World→Prop} {a:Act} {ms:List NdM} {st:St} {db b o cap i tb xb:Nat} {m:NdM} {t:Rul} {tc:Array Value} {lk:ByteArray}
theorem rg_map (X:Code) (hf:RgA a db i lk tb xb) (h:TQ w0 wb w db b o cap ms none tb xb 60 tc (rulA t)) (htc:∃z,tc=rulA z) (hi:ms[i]? =some m)
 (stop:∀a' w' st2,isMapR m.nd none=st2→st2≠none→RgA a' db i lk tb xb→TQ w0 wb w' db b o cap ms st2 tb xb 60 (rulA t) (rulA t)→Q .ret a' w')
 (ok:∀a' w',isMapR m.nd none=none→RgA a' db i lk tb xb→TQ w0 wb w' db b o cap ms none tb xb 60 tc (rulA t)→X.wp Tryz.prog Q a' w'):(Code.seq rg2 X).wp Tryz.prog Q a w:=by
 have Hm:=hid (isMap_r h.dq hi);obtain ⟨s2,hs2⟩:∃s2,s2=isMapR m.nd none:=⟨_,rfl⟩;rw[←hs2]at Hm;have HT:=hid h;have Hok:=hid ok;have Hstop:=hid stop;have Hs:=hid hs2;obtain ⟨vv,rfl⟩:=hf.shape;obtain ⟨z,rfl⟩:=htc;clear hf h ok stop hs2;cases hz:decide (s2=none) with
 |true=>
  rw[hz]at Hm;have he:=of_decide_eq_true hz;subst he;clear hz;dsimp only[rg2,ncs,ncl,ncr,ncb,nco,nct,nce,ncx,Tryz.f94]
  go_wp2_with fail
  refine Hm.out.mono ?_;rintro r w2 ⟨rfl,hq,hm⟩;have HE:=hid (HT.out.call hq hm);clear hq hm Hm;go_wp2;exact Hok.out _ _ Hs.out.symm ⟨rfl,rfl,rfl,rfl,rfl,rfl,rfl⟩ HE.out
 |false=>
  rw[hz]at Hm;have Hne:=hid (of_decide_eq_false hz);clear hz;dsimp only[rg2,ncs,ncl,ncr,ncb,nco,nct,nce,ncx,Tryz.f94]
  go_wp2_with fail
  refine Hm.out.mono ?_;rintro r w2 ⟨rfl,hq,hm⟩;have hT:=HT.out.call hq hm;have x0:=cell_blk hT.xbk 0;have x1:=cell_blk hT.xbk 1;have x2:=cell_blk hT.xbk 2;have x3:=cell_blk hT.xbk 3;have y0:=cell_blk hT.tbk 0;have y1:=cell_blk hT.tbk 1;have y2:=cell_blk hT.tbk 2;have y3:=cell_blk hT.tbk 3;have yf:=fun j=>frozen_blk hT.tbk j;unfold rulA at x0 x1 x2 x3 y0 y1 y2 y3;simp at x0 x1 x2 x3 y0 y1 y2 y3;obtain ⟨f1,f2⟩:=fault4 hT.tbk (.string t.path) (.string t.method) (.string t.split) (.bool t.allow)
  have HE:=hid (hT.copy f1 f2);clear hq hm Hm hT f1 f2;go_wp2;exact Hstop.out _ _ _ Hs.out.symm Hne.out ⟨rfl,rfl,rfl,rfl,rfl,rfl,rfl⟩ HE.out
theorem rg_only (X:Code) (hf:RgA a db i lk tb xb) (h:TQ w0 wb w db b o cap ms st tb xb 60 tc (rulA t)) (hi:ms[i]? =some m)
 (ok:∀a' w',RgA a' db i lk tb xb→TQ w0 wb w' db b o cap ms (onlyR (nds ms) [kPath,kMethod,lk] m.nd.kids st) tb xb 60 tc (rulA t)→X.wp Tryz.prog Q a' w'):(Code.seq rg4 X).wp Tryz.prog Q a w:=by
 have hb1:=(Below.refl w.heap.size w).alloc (Nat.le_refl _) (.cells #[.string kPath,.string kMethod,.string lk] 9);have HT:=hid (h.later hb1);have hlt:=lt_of_heap h.dq.doc;have Ho:=hid (only_r (h.later hb1).dq hi _ _ (strs3 w kPath kMethod lk) (fun g hg e=>by injection hg with hg;have hg2:w.heap.size=g:=hg;omega));have Hok:=hid ok;obtain ⟨vv,rfl⟩:=hf.shape;clear hf h ok hb1 hlt;generalize onlyR (nds ms) [kPath,kMethod,lk] m.nd.kids st=s2 at*
 unfold kPath kMethod at Ho HT;dsimp only[rg4,ncs,ncl,ncr,ncb,nco,nct,nce,ncx,Tryz.f94]
 go_wp2_with fail
 refine Ho.out.mono ?_;rintro r w2 ⟨rfl,hq,hm⟩;have HE:=hid (HT.out.call hq hm);clear hq hm Ho HT;go_wp2;exact Hok.out _ _ ⟨rfl,rfl,rfl,rfl,rfl,rfl,rfl⟩ HE.out
theorem rg_actn (X:Code) (hf:RgA a db i kAction tb xb) (h:TQ w0 wb w db b o cap ms st tb xb 60 tc (rulA t)) (hi:ms[i]? =some m)
 (ok:∀a' w',RgA a' db i kAction tb xb→TQ w0 wb w' db b o cap ms (wordR (nds ms) (needR (nds ms) m.nd kAction st).1 (isAct (textR (nds ms) (needR (nds ms) m.nd kAction st).1)) (needR (nds ms) m.nd kAction st).2).2 tb xb 60 tc (rulA {t with allow:=decide ((wordR (nds ms) (needR (nds ms) m.nd kAction st).1 (isAct (textR (nds ms) (needR (nds ms) m.nd kAction st).1)) (needR (nds ms) m.nd kAction st).2).1=kAllow)})→X.wp Tryz.prog Q a' w'):(Code.seq rg5 X).wp Tryz.prog Q a w:=by
 have Hn:=hid (need_r h.dq hi kAction);have hlt:∀k,(needR (nds ms) m.nd kAction st).1=some k→k<ms.length:=fun k hk=>h.dq.fldlt (List.mem_of_getElem? hi) k (need_lt hk);have Ht:=hid (fun w2 (q:DQ w0 w2 db b o cap ms (needR (nds ms) m.nd kAction st).2)=>text_r q _ hlt);have Hw:=hid (fun w2 (q:DQ w0 w2 db b o cap ms (needR (nds ms) m.nd kAction st).2)=>word_r q _ hlt (isAct (textR (nds ms) (needR (nds ms) m.nd kAction st).1)))
 have HT:=hid h;have Hok:=hid ok;generalize (wordR (nds ms) (needR (nds ms) m.nd kAction st).1 (isAct (textR (nds ms) (needR (nds ms) m.nd kAction st).1)) (needR (nds ms) m.nd kAction st).2)=p at*;obtain ⟨p1,p2⟩:=p;generalize needR (nds ms) m.nd kAction st=nd at*;obtain ⟨n1,n2⟩:=nd;simp only at Hn Hw Hok Ht;generalize textR (nds ms) n1=tx at*;unfold kAction at Hn hf Hok;obtain ⟨vv,rfl⟩:=hf.shape;clear hf h ok hlt hi
 by_cases h1:tx=kAllow
 ·have e:isAct tx=true:=by unfold isAct;exact dT (.inl h1)
  rw[e]at Hw;have t1:=key_yes (arr:=#[97,108,108,111,119]) h1;simp at t1;clear e h1
  skip
  dsimp only[rg5,ncs,ncl,ncr,ncb,nco,nct,nce,ncx,Tryz.f94]
  go_wp2_with fail
  refine Hn.out.mono ?_;rintro r w2 ⟨rfl,hq,hm⟩;have HT2:=hid (HT.out.call hq hm);have Ht2:=hid (Ht.out w2 hq);have Hw2:=hid (Hw.out w2 hq);clear hq hm Hn HT Ht Hw
  go_wp2_with fail
  refine Ht2.out.mono ?_;rintro r w3 ⟨rfl,hw⟩;obtain rfl:=hw.symm;clear Ht2
  go_wp2_with fail
  refine Hw2.out.mono ?_;rintro r w3 ⟨rfl,hq,hm⟩;have hT:=HT2.out.call hq hm;have x0:=cell_blk hT.xbk 3;have xf:=frozen_blk hT.xbk 3;unfold rulA at x0;simp at x0;clear Hw2 HT2;have HE:=hid (hT.put 3 (.bool (p1.toList==[97,108,108,111,119])) (xc':=rulA {t with allow:=decide (p1=kAllow)}) (by rw[allow_eq];rfl));clear hq hm hT;go_wp2;exact Hok.out _ _ ⟨rfl,rfl,rfl,rfl,rfl,rfl,rfl⟩ HE.out
 ·have t1:(tx.toList==[97,108,108,111,119])=false:=key_no (arr:=#[97,108,108,111,119]) h1;by_cases h2:tx=kDeny
  ·have e:isAct tx=true:=by unfold isAct;exact dT (.inr h2)
   rw[e]at Hw;have t2:=key_yes (arr:=#[100,101,110,121]) h2;simp at t2;clear e h1 h2
   skip
   dsimp only[rg5,ncs,ncl,ncr,ncb,nco,nct,nce,ncx,Tryz.f94]
   go_wp2_with fail
   refine Hn.out.mono ?_;rintro r w2 ⟨rfl,hq,hm⟩;have HT2:=hid (HT.out.call hq hm);have Ht2:=hid (Ht.out w2 hq);have Hw2:=hid (Hw.out w2 hq);clear hq hm Hn HT Ht Hw
   go_wp2_with fail
   refine Ht2.out.mono ?_;rintro r w3 ⟨rfl,hw⟩;obtain rfl:=hw.symm;clear Ht2
   go_wp2_with fail
   refine Hw2.out.mono ?_;rintro r w3 ⟨rfl,hq,hm⟩;have hT:=HT2.out.call hq hm;have x0:=cell_blk hT.xbk 3;have xf:=frozen_blk hT.xbk 3;unfold rulA at x0;simp at x0;clear Hw2 HT2;have HE:=hid (hT.put 3 (.bool (p1.toList==[97,108,108,111,119])) (xc':=rulA {t with allow:=decide (p1=kAllow)}) (by rw[allow_eq];rfl));clear hq hm hT;go_wp2;exact Hok.out _ _ ⟨rfl,rfl,rfl,rfl,rfl,rfl,rfl⟩ HE.out
  ·have e:isAct tx=false:=by unfold isAct;exact dF (fun q=>q.elim h1 h2)
   rw[e]at Hw;have t2:(tx.toList==[100,101,110,121])=false:=key_no (arr:=#[100,101,110,121]) h2;clear e h1 h2
   skip
   dsimp only[rg5,ncs,ncl,ncr,ncb,nco,nct,nce,ncx,Tryz.f94]
   go_wp2_with fail
   refine Hn.out.mono ?_;rintro r w2 ⟨rfl,hq,hm⟩;have HT2:=hid (HT.out.call hq hm);have Ht2:=hid (Ht.out w2 hq);have Hw2:=hid (Hw.out w2 hq);clear hq hm Hn HT Ht Hw
   go_wp2_with fail
   refine Ht2.out.mono ?_;rintro r w3 ⟨rfl,hw⟩;obtain rfl:=hw.symm;clear Ht2
   go_wp2_with fail
   refine Hw2.out.mono ?_;rintro r w3 ⟨rfl,hq,hm⟩;have hT:=HT2.out.call hq hm;have x0:=cell_blk hT.xbk 3;have xf:=frozen_blk hT.xbk 3;unfold rulA at x0;simp at x0;clear Hw2 HT2;have HE:=hid (hT.put 3 (.bool (p1.toList==[97,108,108,111,119])) (xc':=rulA {t with allow:=decide (p1=kAllow)}) (by rw[allow_eq];rfl));clear hq hm hT;go_wp2;exact Hok.out _ _ ⟨rfl,rfl,rfl,rfl,rfl,rfl,rfl⟩ HE.out
theorem rg_noact (X:Code) (hf:RgA a db i kSplit tb xb) (ok:∀a',RgA a' db i kSplit tb xb→X.wp Tryz.prog Q a' w):(Code.seq rg5 X).wp Tryz.prog Q a w:=by
 have Hok:=hid ok;unfold kSplit at hf Hok;obtain ⟨vv,rfl⟩:=hf.shape;clear hf ok;dsimp only[rg5,ncs,ncl,ncr,ncb,nco,nct,nce,ncx,Tryz.f94];go_wp2;exact Hok.out _ ⟨rfl,rfl,rfl,rfl,rfl,rfl,rfl⟩
theorem rg_path0 (X:Code) (hf:RgA a db i lk tb xb) (h:TQ w0 wb w db b o cap ms st tb xb 60 tc (rulA t)) (hi:ms[i]? =some m)
 (ok:∀a' w',RgB a' db i lk tb xb (needR (nds ms) m.nd kPath st).1→TQ w0 wb w' db b o cap ms (needR (nds ms) m.nd kPath st).2 tb xb 60 tc (rulA t)→X.wp Tryz.prog Q a' w'):(Code.seq rg9 X).wp Tryz.prog Q a w:=by
 have Hn:=hid (need_r h.dq hi kPath);have HT:=hid h;have Hok:=hid ok;generalize needR (nds ms) m.nd kPath st=nd at*;obtain ⟨n1,n2⟩:=nd;simp only at Hn Hok;unfold kPath at Hn;obtain ⟨vv,rfl⟩:=hf.shape;clear hf h ok hi;dsimp only[rg9,ncs,ncl,ncr,ncb,nco,nct,nce,ncx,Tryz.f94]
 go_wp2_with fail
 refine Hn.out.mono ?_;rintro r w2 ⟨rfl,hq,hm⟩;have HE:=hid (HT.out.call hq hm);clear hq hm Hn HT;go_wp2;exact Hok.out _ _ ⟨rfl,rfl,rfl,rfl,rfl,rfl,rfl,rfl⟩ HE.out
theorem rg_path (X:Code) {x:Option Nat} (hf:RgB a db i lk tb xb x) (h:TQ w0 wb w db b o cap ms st tb xb 60 tc (rulA t)) (hx:∀k,x=some k→k<ms.length)
 (ok:∀a' w',RgB a' db i lk tb xb x→TQ w0 wb w' db b o cap ms (wordR (nds ms) x (patB (textR (nds ms) x)) st).2 tb xb 60 tc (rulA {t with path:=(wordR (nds ms) x (patB (textR (nds ms) x)) st).1})→X.wp Tryz.prog Q a' w'):(Code.seq rg10 X).wp Tryz.prog Q a w:=by
 have Ht:=hid (text_r h.dq x hx);have Hn:=hid (rpat_c w (textR (nds ms) x) (textR_size h.dq x hx));have Hw:=hid (word_r h.dq x hx (patB (textR (nds ms) x)));have HT:=hid h;have Hok:=hid ok;generalize (wordR (nds ms) x (patB (textR (nds ms) x)) st)=p at*;obtain ⟨p1,p2⟩:=p;generalize textR (nds ms) x=tx at*;generalize patB tx=nm at*;simp only at Hw Hok;obtain ⟨vv,rfl⟩:=hf.shape;clear hf h ok hx
 skip
 dsimp only[rg10,ncs,ncl,ncr,ncb,nco,nct,nce,ncx,Tryz.f94]
 go_wp2_with fail
 refine Ht.out.mono ?_;rintro r w2 ⟨rfl,hw⟩;obtain rfl:=hw.symm;clear Ht
 go_wp2_with fail
 refine Hn.out.mono ?_;rintro r w2 ⟨rfl,hw⟩;obtain rfl:=hw.symm;clear Hn
 go_wp2_with fail
 refine Hw.out.mono ?_;rintro r w2 ⟨rfl,hq,hm⟩;have hT:=HT.out.call hq hm;have x0:=cell_blk hT.xbk 0;have xf:=frozen_blk hT.xbk 0;unfold rulA at x0;simp at x0;have HE:=hid (hT.put 0 (.string p1) (xc':=rulA {t with path:=p1}) rfl);clear hq hm Hw HT hT;go_wp2;exact Hok.out _ _ ⟨rfl,rfl,rfl,rfl,rfl,rfl,rfl,rfl⟩ HE.out
theorem rg_meth0 (X:Code) (hf:RgA a db i lk tb xb) (h:TQ w0 wb w db b o cap ms st tb xb 60 tc (rulA t)) (hi:ms[i]? =some m)
 (ok:∀a',RgC a' db i lk tb xb (fieldN (nds ms) m.nd kMethod)→X.wp Tryz.prog Q a' w):(Code.seq rg11 X).wp Tryz.prog Q a w:=by
 have Hn:=hid (field_r h.dq hi kMethod);have Hok:=hid ok;generalize fieldN (nds ms) m.nd kMethod=x at*;unfold kMethod at Hn;obtain ⟨vv,rfl⟩:=hf.shape;clear hf h ok hi;dsimp only[rg11,ncs,ncl,ncr,ncb,nco,nct,nce,ncx,Tryz.f94]
 go_wp2_with fail
 refine Hn.out.mono ?_;rintro r w2 ⟨rfl,hw⟩;obtain rfl:=hw.symm;clear Hn;go_wp2;exact Hok.out _ ⟨rfl,rfl,rfl,rfl,rfl,rfl,rfl,rfl⟩
theorem rg_nometh (X:Code) (hf:RgC a db i lk tb xb none) (ok:∀a',RgC a' db i lk tb xb none→X.wp Tryz.prog Q a' w):(Code.seq rg12 X).wp Tryz.prog Q a w:=by
 have Hok:=hid ok;obtain ⟨vv,rfl⟩:=hf.shape;have hv:fldV none= -1:=rfl;rw[hv];clear hf ok;dsimp only[rg12,ncs,ncl,ncr,ncb,nco,nct,nce,ncx,Tryz.f94];go_wp2;exact Hok.out _ ⟨rfl,rfl,rfl,rfl,rfl,rfl,rfl,rfl⟩
theorem rg_meth (X:Code) {x:Option Nat} (hf:RgC a db i lk tb xb x) (h:TQ w0 wb w db b o cap ms st tb xb 60 tc (rulA t)) (hx:∀k,x=some k→k<ms.length) (hsome:∃k,x=some k)
 (ok:∀a' w',RgC a' db i lk tb xb x→TQ w0 wb w' db b o cap ms (wordR (nds ms) x (methB (textR (nds ms) x)) st).2 tb xb 60 tc (rulA {t with method:=(wordR (nds ms) x (methB (textR (nds ms) x)) st).1})→X.wp Tryz.prog Q a' w'):(Code.seq rg12 X).wp Tryz.prog Q a w:=by
 have Ht:=hid (text_r h.dq x hx);have Hn:=hid (rmethod_c w (textR (nds ms) x) (textR_size h.dq x hx));have Hw:=hid (word_r h.dq x hx (methB (textR (nds ms) x)));have HT:=hid h;have Hok:=hid ok;generalize (wordR (nds ms) x (methB (textR (nds ms) x)) st)=p at*;obtain ⟨p1,p2⟩:=p;generalize textR (nds ms) x=tx at*;generalize methB tx=nm at*;simp only at Hw Hok;obtain ⟨vv,rfl⟩:=hf.shape;clear hf h ok hx
 obtain ⟨k,rfl⟩:=hsome;have hv:fldV (some k)=(k:Int):=rfl;rw[hv]at Ht Hw ⊢;have tk:decide ((0:Int)≤(k:Int))=true:=dT (by omega);dsimp only[rg12,ncs,ncl,ncr,ncb,nco,nct,nce,ncx,Tryz.f94]
 go_wp2_with fail
 refine Ht.out.mono ?_;rintro r w2 ⟨rfl,hw⟩;obtain rfl:=hw.symm;clear Ht
 go_wp2_with fail
 refine Hn.out.mono ?_;rintro r w2 ⟨rfl,hw⟩;obtain rfl:=hw.symm;clear Hn
 go_wp2_with fail
 refine Hw.out.mono ?_;rintro r w2 ⟨rfl,hq,hm⟩;have hT:=HT.out.call hq hm;have x0:=cell_blk hT.xbk 1;have xf:=frozen_blk hT.xbk 1;unfold rulA at x0;simp at x0;have HE:=hid (hT.put 1 (.string p1) (xc':=rulA {t with method:=p1}) rfl);clear hq hm Hw HT hT;go_wp2;exact Hok.out _ _ ⟨rfl,rfl,rfl,rfl,rfl,rfl,rfl,rfl⟩ HE.out
theorem rg_spl (X:Code) (hf:RgA a db i kSplit tb xb) (h:TQ w0 wb w db b o cap ms st tb xb 60 tc (rulA t)) (hi:ms[i]? =some m)
 (ok:∀a' w',RgA a' db i kSplit tb xb→TQ w0 wb w' db b o cap ms (wordR (nds ms) (needR (nds ms) m.nd kSplit st).1 (isName (textR (nds ms) (needR (nds ms) m.nd kSplit st).1)) (needR (nds ms) m.nd kSplit st).2).2 tb xb 60 tc (rulA {t with split:=(wordR (nds ms) (needR (nds ms) m.nd kSplit st).1 (isName (textR (nds ms) (needR (nds ms) m.nd kSplit st).1)) (needR (nds ms) m.nd kSplit st).2).1})→X.wp Tryz.prog Q a' w'):(Code.seq rg14 X).wp Tryz.prog Q a w:=by
 have Hn:=hid (need_r h.dq hi kSplit);have hlt:∀k,(needR (nds ms) m.nd kSplit st).1=some k→k<ms.length:=fun k hk=>h.dq.fldlt (List.mem_of_getElem? hi) k (need_lt hk);have Ht:=hid (fun w2 (q:DQ w0 w2 db b o cap ms (needR (nds ms) m.nd kSplit st).2)=>text_r q _ hlt);have Hnm:=hid (fun w2=>rname_c w2 (textR (nds ms) (needR (nds ms) m.nd kSplit st).1) (textR_size h.dq _ hlt));have Hw:=hid (fun w2 (q:DQ w0 w2 db b o cap ms (needR (nds ms) m.nd kSplit st).2)=>word_r q _ hlt (isName (textR (nds ms) (needR (nds ms) m.nd kSplit st).1)))
 have HT:=hid h;have Hok:=hid ok;generalize (wordR (nds ms) (needR (nds ms) m.nd kSplit st).1 (isName (textR (nds ms) (needR (nds ms) m.nd kSplit st).1)) (needR (nds ms) m.nd kSplit st).2)=p at*;obtain ⟨p1,p2⟩:=p;generalize needR (nds ms) m.nd kSplit st=nd at*;obtain ⟨n1,n2⟩:=nd;simp only at Hn Hw Hok Ht Hnm;generalize textR (nds ms) n1=tx at*;generalize isName tx=nm at*;unfold kSplit at Hn hf Hok
 obtain ⟨vv,rfl⟩:=hf.shape;clear hf h ok hlt hi;dsimp only[rg14,ncs,ncl,ncr,ncb,nco,nct,nce,ncx,Tryz.f94]
 go_wp2_with fail
 refine Hn.out.mono ?_;rintro r w2 ⟨rfl,hq,hm⟩;have HT2:=hid (HT.out.call hq hm);have Ht2:=hid (Ht.out w2 hq);have Hw2:=hid (Hw.out w2 hq);clear hq hm Hn HT Ht Hw
 go_wp2_with fail
 refine Ht2.out.mono ?_;rintro r w3 ⟨rfl,hw⟩;obtain rfl:=hw.symm;clear Ht2
 go_wp2_with fail
 refine (Hnm.out _).mono ?_;rintro r w3 ⟨rfl,hw⟩;obtain rfl:=hw.symm;clear Hnm
 go_wp2_with fail
 refine Hw2.out.mono ?_;rintro r w3 ⟨rfl,hq,hm⟩;have hT:=HT2.out.call hq hm;have x0:=cell_blk hT.xbk 2;have xf:=frozen_blk hT.xbk 2;unfold rulA at x0;simp at x0;have HE:=hid (hT.put 2 (.string p1) (xc':=rulA {t with split:=p1}) rfl);clear hq hm Hw2 HT2 hT;go_wp2;exact Hok.out _ _ ⟨rfl,rfl,rfl,rfl,rfl,rfl,rfl⟩ HE.out
theorem rg_nospl (X:Code) (hf:RgA a db i kAction tb xb) (ok:∀a',RgA a' db i kAction tb xb→X.wp Tryz.prog Q a' w):(Code.seq rg14 X).wp Tryz.prog Q a w:=by
 have Hok:=hid ok;unfold kAction at hf Hok;obtain ⟨vv,rfl⟩:=hf.shape;clear hf ok;dsimp only[rg14,ncs,ncl,ncr,ncb,nco,nct,nce,ncx,Tryz.f94];go_wp2;exact Hok.out _ ⟨rfl,rfl,rfl,rfl,rfl,rfl,rfl⟩
theorem rg_end (hf:RgA a db i lk tb xb) (h:TQ w0 wb w db b o cap ms st tb xb 60 tc (rulA t)) (htc:∃z,tc=rulA z)
 (ok:∀a' w',RgA a' db i lk tb xb→TQ w0 wb w' db b o cap ms st tb xb 60 (rulA t) (rulA t)→Q .ret a' w'):rgE.wp Tryz.prog Q a w:=by
 have Hok:=hid ok;obtain ⟨z,rfl⟩:=htc;have x0:=cell_blk h.xbk 0;have x1:=cell_blk h.xbk 1;have x2:=cell_blk h.xbk 2;have x3:=cell_blk h.xbk 3;have y0:=cell_blk h.tbk 0;have y1:=cell_blk h.tbk 1;have y2:=cell_blk h.tbk 2;have y3:=cell_blk h.tbk 3;have yf:=fun j=>frozen_blk h.tbk j;unfold rulA at x0 x1 x2 x3 y0 y1 y2 y3;simp at x0 x1 x2 x3 y0 y1 y2 y3;obtain ⟨f1,f2⟩:=fault4 h.tbk (.string t.path) (.string t.method) (.string t.split) (.bool t.allow)
 have HE:=hid (h.copy f1 f2);obtain ⟨vv,rfl⟩:=hf.shape;clear hf h ok f1 f2;dsimp only[rgE,ncs,ncl,ncr,ncb,nco,nct,nce,ncx,Tryz.f94];go_wp2;exact Hok.out _ _ ⟨rfl,rfl,rfl,rfl,rfl,rfl,rfl⟩ HE.out
end
theorem RgB.toA {a:Act} {db i tb xb:Nat} {lk:ByteArray} {x:Option Nat} (h:RgB a db i lk tb xb x):RgA a db i lk tb xb:=⟨h.size,h.dfr,h.s0,h.s1,h.s2,h.s6,h.s7⟩
theorem RgC.toA {a:Act} {db i tb xb:Nat} {lk:ByteArray} {x:Option Nat} (h:RgC a db i lk tb xb x):RgA a db i lk tb xb:=⟨h.size,h.dfr,h.s0,h.s1,h.s2,h.s6,h.s7⟩
noncomputable def rgRest:Code:=(ncr (ncr (ncx Tryz.f94.body)))
theorem rgRest_eq:rgRest=Code.seq rg2 (Code.seq rg4 (Code.seq rg5 (Code.seq rg9 (Code.seq rg10 (Code.seq rg11 (Code.seq rg12 (Code.seq rg14 rgE))))))):=rfl
def rul0:Rul:=⟨⟨#[]⟩,kStar,⟨#[]⟩,false⟩
def PostU (w0 w:World) (db b o cap:Nat) (ms:List NdM) (p:Rul×St) (r:Ending) (w':World):Prop:=
 r= .returned (.agg (rulA p.1))∧DQ w0 w' db b o cap ms p.2∧Mod (fun k=>k=db) w w'
theorem results_rul {w:World} {b:Nat} {t:Rul} {tmps:Array Value} (h4:tmps[6]? =some (.pointer (some ⟨b,0,none⟩))) (hb:w.heap[b]? =some (.cells (rulA t) 60 (0,0))):
 (results Tryz.f94 tmps).run Tryz.prog w= .ok (.agg (rulA t)) w:=by
 have h1:=run_loadVar_mid (P:= Tryz.prog) w b 0 60 (rulA t).toList _ (range_blk (l:=(rulA t).toList) hb) Tryz.underlying60 rfl (show (Tryz.prog.info? 60).map (·.size)=some 4 by kernel_rfl);rw[Array.getElem?_eq_some_iff]at h4;obtain ⟨l4,e4⟩:=h4;simp[results,Tryz.results94,asAddr,Array.getD,l4,e4,h1]
theorem rule_r {w0 w:World} {db b o cap i:Nat} {ms:List NdM} {m:NdM} (h:DQ w0 w db b o cap ms none) (hi:ms[i]? =some m) (act:Bool):
 Calls Tryz.prog 94 #[.pointer (some ⟨db,0,none⟩),.int .i64 (i:Int),.string (lastK act)] w (PostU w0 w db b o cap ms (ruleR (nds ms) act i none)):=by
 have hni:=nds_at hi;have hw1:∀z,TQ w0 w ((w.alloc (.cells #[.string ⟨#[]⟩,.string ⟨#[]⟩,.string ⟨#[]⟩,.bool false] 60)).alloc (.cells (rulA z) 60)) db b o cap ms none w.heap.size (w.heap.size+1) 60 (rulA ⟨⟨#[]⟩,⟨#[]⟩,⟨#[]⟩,false⟩) (rulA z):=fun z=>by
  have hb:Below w.heap.size w ((w.alloc (.cells #[.string ⟨#[]⟩,.string ⟨#[]⟩,.string ⟨#[]⟩,.bool false] 60)).alloc (.cells (rulA z) 60)):=((Below.refl _ _).alloc (Nat.le_refl _) _).alloc (by simp) _;exact ⟨h.later hb,(mod_below hb).mono (fun _ _ f=>f.elim),alloc2_old _ _ _,alloc2_new _ _ _,Nat.le_refl _,by omega,by omega,lt_of_heap h.doc,h.below.size⟩
 have HQ:=hid (hw1 rul0);have Hfin:=hid (fun (a':Act) (w':World) (st2:St) (t:Rul) (tc:Array Value) (e:ruleR (nds ms) act i none=(t,st2)) (h4:a'.tmps[6]? =some (.pointer (some ⟨w.heap.size,0,none⟩))) (hd:a'.defers=[]) (hq:TQ w0 w w' db b o cap ms st2 w.heap.size (w.heap.size+1) 60 (rulA t) tc)=>
  show bodyPost Tryz.prog Tryz.f94 (PostU w0 w db b o cap ms (ruleR (nds ms) act i none)) .ret a' w' from bodyPost_ret (results_rul h4 hq.tbk) hd ⟨by rw[e],by rw[e];exact hq.dq,hq.mod⟩)
 refine calls_of_wp Tryz.func94 rfl ?_
 show Code.wp _ (Code.seq rg0 (Code.seq rg1 rgRest)) _ _ _
 simp only[Tryz.ntmps94,List.size_toArray,List.length_cons,List.length_nil,Nat.reduceAdd,Nat.reduceSub,Array.replicate_succ,Array.replicate_zero,List.push_toArray,List.append_toArray,List.nil_append,List.cons_append];clear h hw1;generalize bodyPost Tryz.prog Tryz.f94 (PostU w0 w db b o cap ms (ruleR (nds ms) act i none))=QQ at*
 have HR:=hid (fun (a:Act) (hf:RgA a db i (lastK act) w.heap.size (w.heap.size+1)) (w1:World) (h1:TQ w0 w w1 db b o cap ms none w.heap.size (w.heap.size+1) 60 (rulA ⟨⟨#[]⟩,⟨#[]⟩,⟨#[]⟩,false⟩) (rulA rul0))=>show rgRest.wp Tryz.prog QQ a w1 from by
  rw[rgRest_eq];refine rg_map _ hf h1 ⟨_,rfl⟩ hi ?_ ?_
  ·intro a2 w2 st2 he hne hf2 h2;refine Hfin.out _ _ st2 rul0 _ ?_ hf2.s6 hf2.dfr h2;unfold ruleR;rw[hni,he,if_pos hne];rfl
  intro a2 w2 hmap hf2 h2;refine rg_only _ hf2 h2 hi ?_;intro a3 w3 hf3 h3;have hru:ruleR (nds ms) act i none=ruleT (nds ms) act i (onlyR (nds ms) [kPath,kMethod,lastK act] m.nd.kids none):=by
   unfold ruleR;rw[hni,hmap,if_neg (fun q=>q rfl)];rfl
  rw[hru]at Hfin;generalize onlyR (nds ms) [kPath,kMethod,lastK act] m.nd.kids none=s3 at*;have hmem:=List.mem_of_getElem? hi;have tail:∀(a4:Act) (w4:World) (ac:ByteArray×St),actR (nds ms) act i s3=ac→RgA a4 db i (lastK act) w.heap.size (w.heap.size+1)→TQ w0 w w4 db b o cap ms ac.2 w.heap.size (w.heap.size+1) 60 (rulA ⟨⟨#[]⟩,⟨#[]⟩,⟨#[]⟩,false⟩) (rulA {rul0 with allow:=decide (ac.1=kAllow)})→
   (Code.seq rg9 (Code.seq rg10 (Code.seq rg11 (Code.seq rg12 (Code.seq rg14 rgE))))).wp Tryz.prog QQ a4 w4:=by
   intro a4 w4 ac hac hf4 h4;refine rg_path0 _ hf4 h4 hi ?_;intro a5 w5 hf5 h5;refine rg_path _ hf5 h5 (fun k hk=>h5.dq.fldlt hmem k (need_lt hk)) ?_;intro a6 w6 hf6 h6;have hpa:pathR (nds ms) i ac.2=(wordR (nds ms) (needR (nds ms) m.nd kPath ac.2).1 (patB (textR (nds ms) (needR (nds ms) m.nd kPath ac.2).1)) (needR (nds ms) m.nd kPath ac.2).2):=by unfold pathR;rw[hni]
   rw[←hpa]at h6;refine rg_meth0 _ hf6.toA h6 hi ?_;intro a7 hf7;have last:∀(a8:Act) (w8:World),RgA a8 db i (lastK act) w.heap.size (w.heap.size+1)→TQ w0 w w8 db b o cap ms (methR (nds ms) i (pathR (nds ms) i ac.2).2).2 w.heap.size (w.heap.size+1) 60 (rulA ⟨⟨#[]⟩,⟨#[]⟩,⟨#[]⟩,false⟩) (rulA ⟨(pathR (nds ms) i ac.2).1,(methR (nds ms) i (pathR (nds ms) i ac.2).2).1,⟨#[]⟩,decide (ac.1=kAllow)⟩)→
    (Code.seq rg14 rgE).wp Tryz.prog QQ a8 w8:=by
    intro a8 w8 hf8 h8;cases act with
    |true=>
     refine rg_nospl _ hf8 ?_;intro a9 hf9;refine rg_end hf9 h8 ⟨_,rfl⟩ ?_;intro a10 w10 hf10 h10;refine Hfin.out _ _ _ _ _ ?_ hf10.s6 hf10.dfr h10;unfold ruleT;simp only[hac];rfl
    |false=>
     refine rg_spl _ hf8 h8 hi ?_;intro a9 w9 hf9 h9;refine rg_end hf9 h9 ⟨_,rfl⟩ ?_;intro a10 w10 hf10 h10;refine Hfin.out _ _ _ _ _ ?_ hf10.s6 hf10.dfr h10;unfold ruleT;simp only[hac];unfold splR;rw[hni];rfl
   cases hme:fieldN (nds ms) m.nd kMethod with
   |none=>
    rw[hme]at hf7;refine rg_nometh _ hf7 ?_;intro a8 hf8;refine last _ _ hf8.toA ?_;have e:methR (nds ms) i (pathR (nds ms) i ac.2).2=(kStar,(pathR (nds ms) i ac.2).2):=by unfold methR;rw[hni,hme,if_pos rfl]
    rw[e];exact h6
   |some z=>
    rw[hme]at hf7;refine rg_meth _ hf7 h6 (fun k hk=>h6.dq.fldlt hmem k (by rw[hme,hk])) ⟨z,rfl⟩ ?_;intro a8 w8 hf8 h8;refine last _ _ hf8.toA ?_;have e:methR (nds ms) i (pathR (nds ms) i ac.2).2=wordR (nds ms) (some z) (methB (textR (nds ms) (some z))) (pathR (nds ms) i ac.2).2:=by unfold methR;rw[hni,hme,if_neg nofun]
    rw[e];exact h8
  cases act with
  |true=>
   refine rg_actn _ hf3 h3 hi ?_;intro a4 w4 hf4 h4;refine tail a4 w4 (actR (nds ms) true i s3) rfl hf4 ?_;unfold actR;rw[hni];exact h4
  |false=>
   refine rg_noact _ hf3 ?_;intro a4 hf4;exact tail a4 _ (⟨#[]⟩,s3) rfl hf4 h3)
 unfold rulA rul0 kStar at HQ;dsimp only[rg0,rg1,ncs,ncl,ncr,ncb,nco,nct,nce,ncx,Tryz.f94];go_wp2;exact HR.out _ ⟨rfl,rfl,rfl,rfl,rfl,rfl,rfl⟩ _ HQ.out
end Go.Proofs.YtfenoaeoedobmaaGreatDoor
