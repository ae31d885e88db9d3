/-
Parts of a proof, one behind the other (laid dense by a program of mine: pack.py).
-/
import Derived.Test.YtfenoaeoedobmaaGreatDoorRd26
set_option linter.unusedVariables false
set_option linter.unusedSimpArgs false
set_option maxHeartbeats 4000000
set_option maxRecDepth 20000
namespace Go.Proofs.YtfenoaeoedobmaaGreatDoor
open Go Go.RowKit
noncomputable def spLoop:Code:=(ncr (ncr (ncx Tryz.f48.body)))
noncomputable def spT1:Code:=(ncl (nco (ncb (ncr (ncr (ncx Tryz.f48.body))))))
noncomputable def spT2:Code:=(ncl (ncr (nco (ncb (ncr (ncr (ncx Tryz.f48.body)))))))
noncomputable def spT4:Code:=(ncr (ncr (ncr (nco (ncb (ncr (ncr (ncx Tryz.f48.body))))))))
noncomputable def spRound:Code:=(ncb (ncl (ncr (ncr (nco (ncb (ncr (ncr (ncx Tryz.f48.body)))))))))
noncomputable def sp3:Code:=(ncl (ncb (ncl (ncr (ncr (nco (ncb (ncr (ncr (ncx Tryz.f48.body))))))))))
noncomputable def sp4:Code:=(ncl (ncr (ncb (ncl (ncr (ncr (nco (ncb (ncr (ncr (ncx Tryz.f48.body)))))))))))
noncomputable def sp5:Code:=(ncl (ncr (ncr (ncb (ncl (ncr (ncr (nco (ncb (ncr (ncr (ncx Tryz.f48.body))))))))))))
noncomputable def sp6:Code:=(ncl (ncr (ncr (ncr (ncb (ncl (ncr (ncr (nco (ncb (ncr (ncr (ncx Tryz.f48.body)))))))))))))
noncomputable def sp7:Code:=(ncl (ncr (ncr (ncr (ncr (ncb (ncl (ncr (ncr (nco (ncb (ncr (ncr (ncx Tryz.f48.body))))))))))))))
noncomputable def sp9:Code:=(ncl (ncr (ncr (ncr (ncr (ncr (ncb (ncl (ncr (ncr (nco (ncb (ncr (ncr (ncx Tryz.f48.body)))))))))))))))
noncomputable def sp23:Code:=(ncl (ncr (ncr (ncr (ncr (ncr (ncr (ncb (ncl (ncr (ncr (nco (ncb (ncr (ncr (ncx Tryz.f48.body))))))))))))))))
noncomputable def sp24:Code:=(ncr (ncr (ncr (ncr (ncr (ncr (ncr (ncb (ncl (ncr (ncr (nco (ncb (ncr (ncr (ncx Tryz.f48.body))))))))))))))))
theorem sp_act (a:Act) (hs:a.tmps.size=117) (hd:a.defers=[]):∃v:Nat→Value,(∀(i:Nat) (x:Value),a.tmps[i]? =some x→v i=x)∧a=⟨#[v 0,v 1,v 2,v 3,v 4,v 5,v 6,v 7,v 8,v 9,v 10,v 11,v 12,v 13,v 14,v 15,v 16,v 17,v 18,v 19,v 20,v 21,v 22,v 23,v 24,v 25,v 26,v 27,v 28,v 29,v 30,v 31,v 32,v 33,v 34,v 35,v 36,v 37,v 38,v 39,v 40,v 41,v 42,v 43,v 44,v 45,v 46,v 47,v 48,v 49,v 50,v 51,v 52,v 53,v 54,v 55,v 56,v 57,v 58,v 59,v 60,v 61,v 62,v 63,v 64,v 65,v 66,v 67,v 68,v 69,v 70,v 71,v 72,v 73,v 74,v 75,v 76,v 77,v 78,v 79,v 80,v 81,v 82,v 83,v 84,v 85,v 86,v 87,v 88,v 89,v 90,v 91,v 92,v 93,v 94,v 95,v 96,v 97,v 98,v 99,v 100,v 101,v 102,v 103,v 104,v 105,v 106,v 107,v 108,v 109,v 110,v 111,v 112,v 113,v 114,v 115,v 116],[]⟩:=by
 obtain ⟨t,d⟩:=a;obtain ⟨l⟩:=t;obtain rfl:d=[]:=hd;have hl:l.length=117:=hs;refine ⟨fun i=>l.getD i undef,fun i x hx=> ?_,?_⟩
 ·have hx':l[i]? =some x:=by simpa using hx
  simp[List.getD,hx']
 ·have e:l=(List.range 117).map (fun i=>l.getD i undef):=by
   apply List.ext_getElem
   ·simp[hl]
   ·intro i h1 h2;simp[List.getD,h1]
  generalize (fun i=>l.getD i undef)=v at e ⊢;subst e;rfl
structure SpO (a:Act) (db:Nat) (rb:Nat) (lb:Nat) (lo:Nat) (q:Nat) (lc:Nat) (j:Nat):Prop where
 size:a.tmps.size=117
 dfr:a.defers=[]
 s0:a.tmps[0]? =some (.pointer (some ⟨db,0,none⟩))
 s2:a.tmps[2]? =some (.pointer (some ⟨rb,0,none⟩))
 s19:a.tmps[19]? =some (.slice (some ⟨lb,lo,none⟩) q lc)
 s20:a.tmps[20]? =some (.int .i64 (q:Int))
 s21:a.tmps[21]? =some (.int .i64 (j:Int))
theorem SpO.shape {a:Act} {db:Nat} {rb:Nat} {lb:Nat} {lo:Nat} {q:Nat} {lc:Nat} {j:Nat} (h:SpO a db rb lb lo q lc j):∃v:Nat→Value,a=⟨#[.pointer (some ⟨db,0,none⟩),v 1,.pointer (some ⟨rb,0,none⟩),v 3,v 4,v 5,v 6,v 7,v 8,v 9,v 10,v 11,v 12,v 13,v 14,v 15,v 16,v 17,v 18,.slice (some ⟨lb,lo,none⟩) q lc,.int .i64 (q:Int),.int .i64 (j:Int),v 22,v 23,v 24,v 25,v 26,v 27,v 28,v 29,v 30,v 31,v 32,v 33,v 34,v 35,v 36,v 37,v 38,v 39,v 40,v 41,v 42,v 43,v 44,v 45,v 46,v 47,v 48,v 49,v 50,v 51,v 52,v 53,v 54,v 55,v 56,v 57,v 58,v 59,v 60,v 61,v 62,v 63,v 64,v 65,v 66,v 67,v 68,v 69,v 70,v 71,v 72,v 73,v 74,v 75,v 76,v 77,v 78,v 79,v 80,v 81,v 82,v 83,v 84,v 85,v 86,v 87,v 88,v 89,v 90,v 91,v 92,v 93,v 94,v 95,v 96,v 97,v 98,v 99,v 100,v 101,v 102,v 103,v 104,v 105,v 106,v 107,v 108,v 109,v 110,v 111,v 112,v 113,v 114,v 115,v 116],[]⟩:=by
 obtain ⟨v,hv,hd⟩:=sp_act a h.size h.dfr;have e0:=hv 0 _ h.s0;have e2:=hv 2 _ h.s2;have e19:=hv 19 _ h.s19;have e20:=hv 20 _ h.s20;have e21:=hv 21 _ h.s21;refine ⟨v,?_⟩;rw[hd];simp only[e0,e2,e19,e20,e21]
structure SpK (a:Act) (db:Nat) (rb:Nat) (lb:Nat) (lo:Nat) (q:Nat) (lc:Nat) (j:Nat) (kb:Nat):Prop where
 size:a.tmps.size=117
 dfr:a.defers=[]
 s0:a.tmps[0]? =some (.pointer (some ⟨db,0,none⟩))
 s2:a.tmps[2]? =some (.pointer (some ⟨rb,0,none⟩))
 s7:a.tmps[7]? =some (.pointer (some ⟨kb,0,none⟩))
 s19:a.tmps[19]? =some (.slice (some ⟨lb,lo,none⟩) q lc)
 s20:a.tmps[20]? =some (.int .i64 (q:Int))
 s21:a.tmps[21]? =some (.int .i64 (j:Int))
theorem SpK.shape {a:Act} {db:Nat} {rb:Nat} {lb:Nat} {lo:Nat} {q:Nat} {lc:Nat} {j:Nat} {kb:Nat} (h:SpK a db rb lb lo q lc j kb):∃v:Nat→Value,a=⟨#[.pointer (some ⟨db,0,none⟩),v 1,.pointer (some ⟨rb,0,none⟩),v 3,v 4,v 5,v 6,.pointer (some ⟨kb,0,none⟩),v 8,v 9,v 10,v 11,v 12,v 13,v 14,v 15,v 16,v 17,v 18,.slice (some ⟨lb,lo,none⟩) q lc,.int .i64 (q:Int),.int .i64 (j:Int),v 22,v 23,v 24,v 25,v 26,v 27,v 28,v 29,v 30,v 31,v 32,v 33,v 34,v 35,v 36,v 37,v 38,v 39,v 40,v 41,v 42,v 43,v 44,v 45,v 46,v 47,v 48,v 49,v 50,v 51,v 52,v 53,v 54,v 55,v 56,v 57,v 58,v 59,v 60,v 61,v 62,v 63,v 64,v 65,v 66,v 67,v 68,v 69,v 70,v 71,v 72,v 73,v 74,v 75,v 76,v 77,v 78,v 79,v 80,v 81,v 82,v 83,v 84,v 85,v 86,v 87,v 88,v 89,v 90,v 91,v 92,v 93,v 94,v 95,v 96,v 97,v 98,v 99,v 100,v 101,v 102,v 103,v 104,v 105,v 106,v 107,v 108,v 109,v 110,v 111,v 112,v 113,v 114,v 115,v 116],[]⟩:=by
 obtain ⟨v,hv,hd⟩:=sp_act a h.size h.dfr;have e0:=hv 0 _ h.s0;have e2:=hv 2 _ h.s2;have e7:=hv 7 _ h.s7;have e19:=hv 19 _ h.s19;have e20:=hv 20 _ h.s20;have e21:=hv 21 _ h.s21;refine ⟨v,?_⟩;rw[hd];simp only[e0,e2,e7,e19,e20,e21]
structure SpA (a:Act) (db:Nat) (rb:Nat) (lb:Nat) (lo:Nat) (q:Nat) (lc:Nat) (j:Nat) (kb:Nat) (pa:Value) (pb:Value):Prop where
 size:a.tmps.size=117
 dfr:a.defers=[]
 s0:a.tmps[0]? =some (.pointer (some ⟨db,0,none⟩))
 s2:a.tmps[2]? =some (.pointer (some ⟨rb,0,none⟩))
 s7:a.tmps[7]? =some (.pointer (some ⟨kb,0,none⟩))
 s8:a.tmps[8]? =some (pa)
 s9:a.tmps[9]? =some (pb)
 s19:a.tmps[19]? =some (.slice (some ⟨lb,lo,none⟩) q lc)
 s20:a.tmps[20]? =some (.int .i64 (q:Int))
 s21:a.tmps[21]? =some (.int .i64 (j:Int))
theorem SpA.shape {a:Act} {db:Nat} {rb:Nat} {lb:Nat} {lo:Nat} {q:Nat} {lc:Nat} {j:Nat} {kb:Nat} {pa:Value} {pb:Value} (h:SpA a db rb lb lo q lc j kb pa pb):∃v:Nat→Value,a=⟨#[.pointer (some ⟨db,0,none⟩),v 1,.pointer (some ⟨rb,0,none⟩),v 3,v 4,v 5,v 6,.pointer (some ⟨kb,0,none⟩),pa,pb,v 10,v 11,v 12,v 13,v 14,v 15,v 16,v 17,v 18,.slice (some ⟨lb,lo,none⟩) q lc,.int .i64 (q:Int),.int .i64 (j:Int),v 22,v 23,v 24,v 25,v 26,v 27,v 28,v 29,v 30,v 31,v 32,v 33,v 34,v 35,v 36,v 37,v 38,v 39,v 40,v 41,v 42,v 43,v 44,v 45,v 46,v 47,v 48,v 49,v 50,v 51,v 52,v 53,v 54,v 55,v 56,v 57,v 58,v 59,v 60,v 61,v 62,v 63,v 64,v 65,v 66,v 67,v 68,v 69,v 70,v 71,v 72,v 73,v 74,v 75,v 76,v 77,v 78,v 79,v 80,v 81,v 82,v 83,v 84,v 85,v 86,v 87,v 88,v 89,v 90,v 91,v 92,v 93,v 94,v 95,v 96,v 97,v 98,v 99,v 100,v 101,v 102,v 103,v 104,v 105,v 106,v 107,v 108,v 109,v 110,v 111,v 112,v 113,v 114,v 115,v 116],[]⟩:=by
 obtain ⟨v,hv,hd⟩:=sp_act a h.size h.dfr;have e0:=hv 0 _ h.s0;have e2:=hv 2 _ h.s2;have e7:=hv 7 _ h.s7;have e8:=hv 8 _ h.s8;have e9:=hv 9 _ h.s9;have e19:=hv 19 _ h.s19;have e20:=hv 20 _ h.s20;have e21:=hv 21 _ h.s21;refine ⟨v,?_⟩;rw[hd];simp only[e0,e2,e7,e8,e9,e19,e20,e21]
structure SpT (a:Act) (db:Nat) (rb:Nat) (lb:Nat) (lo:Nat) (q:Nat) (lc:Nat) (j:Nat) (kb:Nat) (tb:Nat):Prop where
 size:a.tmps.size=117
 dfr:a.defers=[]
 s0:a.tmps[0]? =some (.pointer (some ⟨db,0,none⟩))
 s2:a.tmps[2]? =some (.pointer (some ⟨rb,0,none⟩))
 s7:a.tmps[7]? =some (.pointer (some ⟨kb,0,none⟩))
 s10:a.tmps[10]? =some (.pointer (some ⟨tb,0,none⟩))
 s19:a.tmps[19]? =some (.slice (some ⟨lb,lo,none⟩) q lc)
 s20:a.tmps[20]? =some (.int .i64 (q:Int))
 s21:a.tmps[21]? =some (.int .i64 (j:Int))
theorem SpT.shape {a:Act} {db:Nat} {rb:Nat} {lb:Nat} {lo:Nat} {q:Nat} {lc:Nat} {j:Nat} {kb:Nat} {tb:Nat} (h:SpT a db rb lb lo q lc j kb tb):∃v:Nat→Value,a=⟨#[.pointer (some ⟨db,0,none⟩),v 1,.pointer (some ⟨rb,0,none⟩),v 3,v 4,v 5,v 6,.pointer (some ⟨kb,0,none⟩),v 8,v 9,.pointer (some ⟨tb,0,none⟩),v 11,v 12,v 13,v 14,v 15,v 16,v 17,v 18,.slice (some ⟨lb,lo,none⟩) q lc,.int .i64 (q:Int),.int .i64 (j:Int),v 22,v 23,v 24,v 25,v 26,v 27,v 28,v 29,v 30,v 31,v 32,v 33,v 34,v 35,v 36,v 37,v 38,v 39,v 40,v 41,v 42,v 43,v 44,v 45,v 46,v 47,v 48,v 49,v 50,v 51,v 52,v 53,v 54,v 55,v 56,v 57,v 58,v 59,v 60,v 61,v 62,v 63,v 64,v 65,v 66,v 67,v 68,v 69,v 70,v 71,v 72,v 73,v 74,v 75,v 76,v 77,v 78,v 79,v 80,v 81,v 82,v 83,v 84,v 85,v 86,v 87,v 88,v 89,v 90,v 91,v 92,v 93,v 94,v 95,v 96,v 97,v 98,v 99,v 100,v 101,v 102,v 103,v 104,v 105,v 106,v 107,v 108,v 109,v 110,v 111,v 112,v 113,v 114,v 115,v 116],[]⟩:=by
 obtain ⟨v,hv,hd⟩:=sp_act a h.size h.dfr;have e0:=hv 0 _ h.s0;have e2:=hv 2 _ h.s2;have e7:=hv 7 _ h.s7;have e10:=hv 10 _ h.s10;have e19:=hv 19 _ h.s19;have e20:=hv 20 _ h.s20;have e21:=hv 21 _ h.s21;refine ⟨v,?_⟩;rw[hd];simp only[e0,e2,e7,e10,e19,e20,e21]
def PanC (e:Stop):List PanicEntry:=[{v:= .iface 76 (.agg #[.int .i64 e.1,.int .i64 e.2]),recovered:=false}]
structure RMk (w1 w:World) (kb:Nat) (y:NdM):Prop where
 below:Below w1.heap.size w1 w
 kid:w.heap[kb]? =some (NdO y)
 klo:w1.heap.size≤kb
theorem ndO_cells {w:World} {kb:Nat} {y:NdM} {ay:Option Addr} {qy cy:Nat} (h:w.heap[kb]? =some (NdO y)) (hv:y.kv= .slice ay qy cy):
 w.cell? ⟨kb,0,none⟩=some (.int .i64 y.nd.kind)∧w.cell? ⟨kb,1,none⟩=some (.string y.nd.key)∧w.cell? ⟨kb,2,none⟩=some (.string y.nd.text)∧w.cell? ⟨kb,3,none⟩=some (.bool y.nd.quoted)∧w.cell? ⟨kb,4,none⟩=some (.int .i64 y.nd.line)∧w.cell? ⟨kb,5,none⟩=some (.slice ay qy cy):=
 ⟨cell_blk h 0,cell_blk h 1,cell_blk h 2,cell_blk h 3,cell_blk h 4,by rw[←hv];exact cell_blk h 5⟩
theorem RMk.later {w1 w w2:World} {kb:Nat} {y:NdM} (h:RMk w1 w kb y) (hb:Below w.heap.size w w2):RMk w1 w2 kb y:=
 ⟨h.below.trans (hb.mono h.below.size),(hb.block _ (lt_of_heap h.kid)).trans h.kid,h.klo⟩
theorem RMk.drewN {w1 w:World} {kb:Nat} {y:NdM} (h:RMk w1 w kb y) (n:Nat):RMk w1 (w.drewN n) kb y:=⟨bdH h.below n,h.kid,h.klo⟩
theorem RMk.new {w1:World} {y:NdM}:RMk w1 (w1.alloc (NdO y)) w1.heap.size y:=⟨(Below.refl _ w1).alloc (Nat.le_refl _) _,alloc_new _,Nat.le_refl _⟩
structure RTg (w1 w:World) (kb:Nat) (y:NdM) (tb:Nat) (ob:Obj):Prop where
 rm:RMk w1 w kb y
 obj:w.heap[tb]? =some ob
 tlo:w1.heap.size≤tb
 ne:tb≠kb
theorem RTg.later {w1 w w2:World} {kb tb:Nat} {y:NdM} {ob:Obj} (h:RTg w1 w kb y tb ob) (hb:Below w.heap.size w w2):RTg w1 w2 kb y tb ob:=
 ⟨h.rm.later hb,(hb.block _ (lt_of_heap h.obj)).trans h.obj,h.tlo,h.ne⟩
theorem RTg.new {w1 w:World} {kb:Nat} {y:NdM} (h:RMk w1 w kb y) (ob:Obj):RTg w1 (w.alloc ob) kb y w.heap.size ob:=
 ⟨h.later ((Below.refl _ w).alloc (Nat.le_refl _) _),alloc_new _,h.below.size,by have:=lt_of_heap h.kid;omega⟩
theorem RTg.set {w1 w:World} {kb tb:Nat} {y:NdM} {c:Array Value} {T:TypeId} (h:RTg w1 w kb y tb (.cells c T (0,0))) (i:Nat) (v:Value):RTg w1 (w.setCell ⟨tb,i,none⟩ v) kb y tb (.cells (c.setIfInBounds i v) T (0,0)):=by
 have hm:Mod (fun k=>k=tb) w (w.setCell ⟨tb,i,none⟩ v):=(Mod.refl _ w).setCell _ _ (fun _=>rfl);exact ⟨⟨h.rm.below.trans (hm.below h.rm.below.size fun k hk=>by rw[hk];exact h.tlo),hm.heap h.rm.kid (fun e=>h.ne e.symm),h.rm.klo⟩,set_blk h.obj i v,h.tlo,h.ne⟩
structure KRg (w1 w w':World) (kb:Nat) (y:NdM):Prop where
 rm:RMk w1 w' kb y
 bw:Below w.heap.size w w'
abbrev KS (w1 w w':World) (kb:Nat) (y:NdM) (ay:Option Addr) (qy cy:Nat):Prop:=
 w'.cell? ⟨kb,0,none⟩=some (.int .i64 y.nd.kind)∧w'.cell? ⟨kb,1,none⟩=some (.string y.nd.key)∧w'.cell? ⟨kb,2,none⟩=some (.string y.nd.text)∧w'.cell? ⟨kb,3,none⟩=some (.bool y.nd.quoted)∧w'.cell? ⟨kb,4,none⟩=some (.int .i64 y.nd.line)∧w'.cell? ⟨kb,5,none⟩=some (.slice ay qy cy)∧KRg w1 w w' kb y
theorem ks_of {w1 w w':World} {kb:Nat} {y:NdM} {ay:Option Addr} {qy cy:Nat} (h:KRg w1 w w' kb y) (hv:y.kv= .slice ay qy cy):KS w1 w w' kb y ay qy cy:=by
 obtain ⟨k0,k1,k2,k3,k4,k5⟩:=ndO_cells h.rm.kid hv;exact ⟨k0,k1,k2,k3,k4,k5,h⟩
theorem KRg.step {w1 w w' w'':World} {kb:Nat} {y:NdM} (h:KRg w1 w w' kb y) (hb:Below w'.heap.size w' w''):KRg w1 w w'' kb y:=⟨h.rm.later hb,h.bw.trans (hb.mono h.bw.size)⟩
theorem ks_first {w1 w:World} {kb:Nat} {y:NdM} {ay:Option Addr} {qy cy:Nat} (h:RMk w1 w kb y) (hv:y.kv= .slice ay qy cy):KS w1 w w.drew kb y ay qy cy:=ks_of ⟨h.drewN 1,bdH (Below.refl _ _) 1⟩ hv
theorem ks_step {w1 w w' w'':World} {kb:Nat} {y:NdM} {ay:Option Addr} {qy cy:Nat} (h:KS w1 w w' kb y ay qy cy) (hb:Below w'.heap.size w' w'') (hv:y.kv= .slice ay qy cy):KS w1 w w'' kb y ay qy cy:=ks_of (h.2.2.2.2.2.2.step hb) hv
theorem ks_bw {w1 w w':World} {kb:Nat} {y:NdM} {ay:Option Addr} {qy cy:Nat} (h:KS w1 w w' kb y ay qy cy):Below w.heap.size w w':=h.2.2.2.2.2.2.bw
section
variable {w0 w1 w:World} {Q:Exit→Act→World→Prop} {a:Act} {ms:List NdM} {db rb lb lo q lc j kb tb b o cap:Nat} {y:NdM}
theorem sp_a (X:Code) (hD:DocB w0 w db b o cap ms) (hy:y∈ms) (hf:SpO a db rb lb lo q lc j) (hj:j<q)
 (z0:w.cell? ⟨lb,lo+j*6,none⟩=some (.int .i64 y.nd.kind)) (z1:w.cell? ⟨lb,lo+j*6+1,none⟩=some (.string y.nd.key)) (z2:w.cell? ⟨lb,lo+j*6+2,none⟩=some (.string y.nd.text)) (z3:w.cell? ⟨lb,lo+j*6+3,none⟩=some (.bool y.nd.quoted)) (z4:w.cell? ⟨lb,lo+j*6+4,none⟩=some (.int .i64 y.nd.line)) (z5:w.cell? ⟨lb,lo+j*6+5,none⟩=some y.kv)
 (bad:∀e a' w',(mapP y.nd= .error e∨(mapP y.nd= .ok ()∧onlyP (nds ms) [kService,kSplit,kWeight] y.nd.kids= .error e))→a'.defers=[]→Below w.heap.size w w'→Q (.panic (PanC e)) a' w')
 (ok:∀a' w',mapP y.nd= .ok ()→onlyP (nds ms) [kService,kSplit,kWeight] y.nd.kids= .ok ()→SpK a' db rb lb lo q lc j w.heap.size→RMk w w' w.heap.size y→X.wp Tryz.prog Q a' w'):
 (Code.seq sp3 (Code.seq sp4 (Code.seq sp5 X))).wp Tryz.prog Q a w:=by
 have hM:=hD.toM;have hyo:=hM.ok hy;obtain ⟨ay,cy,hyv,_,_⟩:=ints_open hyo.kids;obtain ⟨qy,hqy⟩:∃qy,qy=y.nd.kids.length:=⟨_,rfl⟩;rw[←hqy]at hyv;rw[hyv]at z5;have bj:(j:Int)<(q:Int):=by omega
 have hr:RMk w (w.alloc (NdO y)) w.heap.size y:=RMk.new;have Hm:=hid (fun w3 (hb3:Below w.heap.size w w3)=>aMap_c w3 y (hyo.later hb3));have Ho:=hid (fun w3 (hb3:Below w.heap.size w w3) (arr:Array Value) (harr:arr.toList=[kService,kSplit,kWeight].map Value.string)=>only_c (w3.alloc (.cells arr 9)) db b o cap ms (hM.later (hb3.alloc hb3.size _)) y hy (.slice (some ⟨w3.heap.size,0,none⟩) 3 3) [kService,kSplit,kWeight] (pieces w3 _ arr harr 3 rfl (by decide) _))
 have hE:=ndO_eq hyv;rw[ndv_eq hyv]at Hm Ho;rw[hE]at hr;have HR:=hid hr;have Hbad:=hid bad;have Hok:=hid ok;have Hyv:=hid hyv;obtain ⟨vv,rfl⟩:=hf.shape;clear hf bad ok hM hyo hyv hqy hr hE hD hj;cases hmp:mapP y.nd with
 |error e=>
  rw[hmp]at Hm;simp only at Hm;have HB:=hid (fun a' w'=>Hbad.out e a' w' (.inl hmp));clear Hbad Hok hmp Ho;dsimp only[sp3,sp4,sp5,ncs,ncl,ncr,ncb,nco,nct,nce,ncx,Tryz.f48]
  go_wp2_with fail
  refine (Hm.out _ HR.out.below).mono ?_;rintro r w3 ⟨rfl,hb3⟩;exact HB.out _ _ rfl (HR.out.below.trans (hb3.mono HR.out.below.size))
 |ok u=>
  rw[hmp]at Hm;simp only at Hm;cases hop:onlyP (nds ms) [kService,kSplit,kWeight] y.nd.kids with
  |error e=>
   have HB:=hid (fun a' w'=>Hbad.out e a' w' (.inr ⟨hmp,hop⟩));rw[hop]at Ho;unfold Ends at Ho;simp only at Ho;clear Hbad Hok hmp hop;dsimp only[sp3,sp4,sp5,ncs,ncl,ncr,ncb,nco,nct,nce,ncx,Tryz.f48]
   go_wp2_with fail
   refine (Hm.out _ HR.out.below).mono ?_;rintro r w3 ⟨rfl,hb3⟩;have HR3:=hid (HR.out.later hb3);obtain ⟨k0,k1,k2,k3,k4,k5⟩:=ndO_cells HR3.out.kid Hyv.out;have Ho3:=hid (Ho.out w3 HR3.out.below #[.string ⟨#[115,101,114,118,105,99,101]⟩,.string ⟨#[115,112,108,105,116]⟩,.string ⟨#[119,101,105,103,104,116]⟩] rfl);clear hb3 Hm Ho HR
   go_wp2_with fail
   refine Ho3.out.mono ?_;rintro r w4 ⟨rfl,hb4⟩;have hr4:=HR3.out.later ((Below.refl _ _).alloc (Nat.le_refl _) (.cells #[.string ⟨#[115,101,114,118,105,99,101]⟩,.string ⟨#[115,112,108,105,116]⟩,.string ⟨#[119,101,105,103,104,116]⟩] 9));exact HB.out _ _ rfl (hr4.below.trans (hb4.mono hr4.below.size))
  |ok u2=>
   have HO:=hid (fun a' w'=>Hok.out a' w' hmp hop);rw[hop]at Ho;unfold Ends at Ho;simp only at Ho;clear Hbad Hok hmp hop;dsimp only[sp3,sp4,sp5,ncs,ncl,ncr,ncb,nco,nct,nce,ncx,Tryz.f48]
   go_wp2_with fail
   refine (Hm.out _ HR.out.below).mono ?_;rintro r w3 ⟨rfl,hb3⟩;have HR3:=hid (HR.out.later hb3);obtain ⟨k0,k1,k2,k3,k4,k5⟩:=ndO_cells HR3.out.kid Hyv.out;have Ho3:=hid (Ho.out w3 HR3.out.below #[.string ⟨#[115,101,114,118,105,99,101]⟩,.string ⟨#[115,112,108,105,116]⟩,.string ⟨#[119,101,105,103,104,116]⟩] rfl);clear hb3 Hm Ho HR
   go_wp2_with fail
   refine Ho3.out.mono ?_;rintro r w4 ⟨rfl,hb4⟩;have HR4:=hid ((HR3.out.later ((Below.refl _ _).alloc (Nat.le_refl _) (.cells #[.string ⟨#[115,101,114,118,105,99,101]⟩,.string ⟨#[115,112,108,105,116]⟩,.string ⟨#[119,101,105,103,104,116]⟩] 9))).later hb4);clear hb4 Ho3 HR3 k0 k1 k2 k3 k4 k5;go_wp2;exact HO.out _ _ ⟨rfl,rfl,rfl,rfl,rfl,rfl,rfl,rfl⟩ HR4.out
theorem sp_b (X:Code) (hD:DocB w0 w db b o cap ms) (hy:y∈ms) (hf:SpK a db rb lb lo q lc j kb) (hr:RMk w1 w kb y)
 (ok:∀a' w',SpA a' db rb lb lo q lc j kb (fieldA b o (fieldN (nds ms) y.nd kService)) (fieldA b o (fieldN (nds ms) y.nd kSplit))→RMk w1 w' kb y→DocB w0 w' db b o cap ms→X.wp Tryz.prog Q a' w'):(Code.seq sp6 X).wp Tryz.prog Q a w:=by
 have hM:=hD.toM;have hyo:=hM.ok hy;obtain ⟨ay,cy,hyv,_,_⟩:=ints_open hyo.kids;obtain ⟨qy,hqy⟩:∃qy,qy=y.nd.kids.length:=⟨_,rfl⟩;rw[←hqy]at hyv;have Hf:=hid (fun key w3 (hb3:Below w.heap.size w w3)=>field_c w3 db b o cap ms (hM.later hb3) y hy key);rw[ndv_eq hyv]at Hf;have hK0:KS w1 w w.drew kb y ay qy cy:=ks_first hr hyv;have Hok:=hid (fun a' w' (h1:KRg w1 w w' kb y) hf'=>ok a' w' hf' h1.rm (hD.later h1.bw))
 have hst:∀w' w'':World,KS w1 w w' kb y ay qy cy→Below w'.heap.size w' w''→KS w1 w w'' kb y ay qy cy:=fun _ _ h hb=>ks_step h hb hyv;have hkb:∀w':World,KS w1 w w' kb y ay qy cy→Below w.heap.size w w':=fun _ h=>ks_bw h;have Hst:=hid hst;have Hkb:=hid hkb;obtain ⟨vv,rfl⟩:=hf.shape;clear hf ok hM hyo hyv hqy hr hD hst hkb;dsimp only[sp6,ncs,ncl,ncr,ncb,nco,nct,nce,ncx,Tryz.f48]
 go_wp2
 go_region_held3 (fun w'=>KS w1 w w' kb y ay qy cy) (first|exact hK0|(refine Hst.out _ _ ?_ hb3;assumption)|assumption)
  (first|(go_at_call 43;refine (Hf.out _ _ ?_).mono ?_;(refine Hkb.out _ ?_;assumption);rintro r w3 ⟨rfl,hb3⟩))
 all_goals go_wp2
 all_goals refine Hok.out _ _ ?_ ⟨rfl,rfl,rfl,rfl,rfl,rfl,rfl,rfl,rfl,rfl⟩
 all_goals first|exact (show KS w1 w _ kb y ay qy cy from by assumption).2.2.2.2.2.2|exact (show KS w1 w _ kb y ay qy cy from by refine Hst.out _ _ ?_ hb3;assumption).2.2.2.2.2.2
def whichP (ns:List Nd) (k:Nd):R (ByteArray×ByteArray):=
 match fieldP ns k kService,fieldP ns k kSplit with
  |none,none=>(.error (k.line,122):R (ByteArray×ByteArray))
  |some _,some b=> .error ((secondN ns k.kids b).line,121)
  |some a,none=>(match wordP a isName with| .error e=> .error e| .ok s=> .ok (s,⟨#[]⟩))
  |none,some b=>(match wordP b isName with| .error e=> .error e| .ok s=> .ok (⟨#[]⟩,s))
theorem targetP_eq (ns:List Nd) (k:Nd):targetP ns k=(match mapP k with
 | .error e=> .error e
 | .ok ()=>
 match onlyP ns [kService,kSplit,kWeight] k.kids with
 | .error e=> .error e
 | .ok ()=>
 match whichP ns k with
 | .error e=> .error e
 | .ok (a,b)=>
 match needP ns k kWeight with
 | .error e=> .error e
 | .ok n=>
 match weightP n with
 | .error e=> .error e
 | .ok x=> .ok ⟨a,b,x⟩):=rfl
theorem key_yes {s:ByteArray} {arr:Array UInt8} (h:s=⟨arr⟩):(s.toList==arr.toList)=true:=beq_yes (by rw[h])
theorem key_no {s:ByteArray} {arr:Array UInt8} (h:¬s=⟨arr⟩):(s.toList==arr.toList)=false:=beq_no (fun e=>h (ba_list e))
theorem secondN_step {ns:List Nd} {l:List Int} {i k:Nat} {b:Nd} (h:l[i]? =some (k:Int)):secondN ns (l.take (i+1)) b=if (ns[k]!).key=kService∨(ns[k]!).key=kSplit then ns[k]! else secondN ns (l.take i) b:=by
 unfold secondN;rw[List.take_add_one,h];simp
theorem node_cells {w:World} {db b o cap:Nat} {ms:List NdM} (h:DocM w db b o cap ms) {k:Nat} {mk:NdM} (hk:ms[k]? =some mk) {ay:Option Addr} {qy cy:Nat} (hv:mk.kv= .slice ay qy cy):∀w1,Below w.heap.size w w1→
 w1.cell? ⟨b,o+k*6,none⟩=some (.int .i64 mk.nd.kind)∧w1.cell? ⟨b,o+k*6+1,none⟩=some (.string mk.nd.key)∧w1.cell? ⟨b,o+k*6+2,none⟩=some (.string mk.nd.text)∧w1.cell? ⟨b,o+k*6+3,none⟩=some (.bool mk.nd.quoted)∧w1.cell? ⟨b,o+k*6+4,none⟩=some (.int .i64 mk.nd.line)∧w1.cell? ⟨b,o+k*6+5,none⟩=some (.slice ay qy cy):=by
 intro w1 hb;have c:=(h.at hk).1;exact ⟨(hb.cell h.blt).trans c.c0,(hb.cell h.blt).trans c.c1,(hb.cell h.blt).trans c.c2,(hb.cell h.blt).trans c.c3,(hb.cell h.blt).trans c.c4,(hb.cell h.blt).trans (by rw[←hv];exact c.c5)⟩
theorem field_node {w:World} {db b o cap:Nat} {ms:List NdM} (h:DocM w db b o cap ms) {m:NdM} (hm:m∈ms) {key:ByteArray} {k:Nat} (hk:fieldN (nds ms) m.nd key=some k):∃mk,ms[k]? =some mk∧mk∈ms∧(nds ms)[k]! =mk.nd∧mk.Ok w∧∃ay cy,mk.kv= .slice ay mk.nd.kids.length cy:=by
 obtain ⟨z,hz,e,_⟩:=fieldN_some hk;obtain ⟨k',mk,e2,hk',hmem⟩:=h.kid hm hz;have h2:ms[k]? =some mk:=by rw[←e,e2];simpa using hk'
 obtain ⟨ay,cy,hv,_⟩:=ints_open (h.ok hmem).kids;exact ⟨mk,h2,hmem,nds_at h2,h.ok hmem,ay,cy,hv⟩
abbrev TgO (a b:ByteArray) (x:Nat):Obj:= .cells #[.string a,.string b,.float .f64 x] 58
theorem sp_c (X:Code) (hD:DocB w0 w db b o cap ms) (hy:y∈ms) (hf:SpA a db rb lb lo q lc j kb (fieldA b o (fieldN (nds ms) y.nd kService)) (fieldA b o (fieldN (nds ms) y.nd kSplit))) (hr:RMk w1 w kb y)
 (bad:∀e a' w',whichP (nds ms) y.nd= .error e→a'.defers=[]→Below w1.heap.size w1 w'→Q (.panic (PanC e)) a' w')
 (ok:∀a' w' p,whichP (nds ms) y.nd= .ok p→SpT a' db rb lb lo q lc j kb w.heap.size→RTg w1 w' kb y w.heap.size (TgO p.1 p.2 0)→DocB w0 w' db b o cap ms→X.wp Tryz.prog Q a' w'):(Code.seq sp7 (Code.seq sp9 X)).wp Tryz.prog Q a w:=by
 have hM:=hD.toM;have hyo:=hM.ok hy;obtain ⟨ay,cy,hyv,hyl,hks⟩:=ints_open hyo.kids;obtain ⟨qy,hqy⟩:∃qy,qy=y.nd.kids.length:=⟨_,rfl⟩;rw[←hqy]at hyv hyl hks;have HT0:=hid (RTg.new hr (TgO ⟨#[]⟩ ⟨#[]⟩ 0));have HbT:=hid ((Below.refl w.heap.size w).alloc (Nat.le_refl _) (TgO ⟨#[]⟩ ⟨#[]⟩ 0));have Hbad:=hid bad;have Hok:=hid ok;have HD:=hid hD;have hk4:∀w',RMk w1 w' kb y→w'.cell? ⟨kb,4,none⟩=some (.int .i64 y.nd.line):=fun w' h=>(ndO_cells h.kid hyv).2.2.2.2.1
 have hk5:∀w',RMk w1 w' kb y→w'.cell? ⟨kb,5,none⟩=some (.slice ay qy cy):=fun w' h=>(ndO_cells h.kid hyv).2.2.2.2.2;have Hfl:=hid (fun w3 l e=>fail_c w3 l e);have kb4:=hk4 _ HT0.out.rm;have kb5:=hk5 _ HT0.out.rm;have Hw:=hid (fun w3 m (hm:NdM.Ok w3 m)=>word_name w3 m hm);obtain ⟨vv,rfl⟩:=hf.shape;clear hf bad ok hD hr hk4 hk5;cases hxa:fieldN (nds ms) y.nd kService with
 |none=>
  cases hxb:fieldN (nds ms) y.nd kSplit with
  |none=>
   have hv:whichP (nds ms) y.nd= .error (y.nd.line,122):=by unfold whichP fieldP;rw[hxa,hxb];rfl
   have HB:=hid (fun a' w'=>Hbad.out _ a' w' hv);unfold fieldA;simp only[Option.map_none];clear Hbad Hok hv hxa hxb hM hyo hyv hyl hks hqy hy;dsimp only[sp7,sp9,ncs,ncl,ncr,ncb,nco,nct,nce,ncx,Tryz.f48]
   go_wp2_with fail
   refine (Hfl.out _ _ _).mono ?_;rintro r w3 ⟨rfl,rfl⟩;exact HB.out _ _ rfl HT0.out.rm.below
  |some z=>
   obtain ⟨mz,hmz,hmem,hnd,hzo,az,cz,hzv⟩:=field_node hM hy hxb;have hv:whichP (nds ms) y.nd=(match wordP mz.nd isName with| .error e=> .error e| .ok s=> .ok (⟨#[]⟩,s)):=by unfold whichP fieldP;rw[hxa,hxb];simp only[Option.map_none,Option.map_some,hnd]
   obtain ⟨qz,hqz⟩:∃qz,qz=mz.nd.kids.length:=⟨_,rfl⟩;rw[←hqz]at hzv;obtain ⟨n0,n1,n2,n3,n4,n5⟩:=node_cells hM hmz hzv _ HbT.out;have Hwz:=hid (Hw.out _ mz (hzo.later HbT.out));rw[ndv_eq hzv]at Hwz;unfold fieldA;simp only[Option.map_none,Option.map_some];cases hwp:wordP mz.nd isName with
   |error e=>
    rw[hwp]at Hwz hv;simp only at Hwz hv;have HB:=hid (fun a' w'=>Hbad.out _ a' w' hv);clear Hbad Hok hv hxa hxb hM hyo hyv hyl hks hqy hy hmz hmem hnd hzo hqz hzv hwp Hw;dsimp only[sp7,sp9,ncs,ncl,ncr,ncb,nco,nct,nce,ncx,Tryz.f48]
    go_wp2_with fail
    refine Hwz.out.mono ?_;rintro r w3 ⟨rfl,hb3⟩;exact HB.out _ _ rfl (HT0.out.rm.below.trans (hb3.mono HT0.out.rm.below.size))
   |ok s=>
    rw[hwp]at Hwz hv;simp only at Hwz hv;have HO:=hid (fun a' w'=>Hok.out a' w' _ hv);clear Hbad Hok hv hxa hxb hM hyo hyv hyl hks hqy hy hmz hmem hnd hzo hqz hzv hwp Hw;dsimp only[sp7,sp9,ncs,ncl,ncr,ncb,nco,nct,nce,ncx,Tryz.f48]
    go_wp2_with fail
    refine Hwz.out.mono ?_;rintro r w3 ⟨rfl,hb3⟩;have HT1:=hid (HT0.out.later hb3);have HD1:=hid ((HD.out.later HbT.out).later hb3);have t1:=cell_blk HT1.out.obj 1;have t2:=frozen_blk HT1.out.obj 1;simp at t1;have HE:=hid (HT1.out.set 1 (.string s));clear hb3 Hwz;go_wp2;refine HO.out _ _ ⟨rfl,rfl,rfl,rfl,rfl,rfl,rfl,rfl,rfl⟩ HE.out ?_;exact HD1.out.step (F:=fun k=>k=w.heap.size) ((Mod.refl _ _).setCell _ _ (fun _=>rfl)) (fun e=>by have:=lt_of_heap HD.out.doc;omega) (fun k e=>by rw[e];exact HD.out.below.size)
 |some x=>
  obtain ⟨mx,hmx,hmemx,hndx,hxo,ax,cx,hxv⟩:=field_node hM hy hxa;cases hxb:fieldN (nds ms) y.nd kSplit with
  |none=>
   have hv:whichP (nds ms) y.nd=(match wordP mx.nd isName with| .error e=> .error e| .ok s=> .ok (s,⟨#[]⟩)):=by unfold whichP fieldP;rw[hxa,hxb];simp only[Option.map_none,Option.map_some,hndx]
   obtain ⟨qx,hqx⟩:∃qx,qx=mx.nd.kids.length:=⟨_,rfl⟩;rw[←hqx]at hxv;obtain ⟨n0,n1,n2,n3,n4,n5⟩:=node_cells hM hmx hxv _ HbT.out;have Hwz:=hid (Hw.out _ mx (hxo.later HbT.out));rw[ndv_eq hxv]at Hwz;unfold fieldA;simp only[Option.map_none,Option.map_some];cases hwp:wordP mx.nd isName with
   |error e=>
    rw[hwp]at Hwz hv;simp only at Hwz hv;have HB:=hid (fun a' w'=>Hbad.out _ a' w' hv);clear Hbad Hok hv hxa hxb hM hyo hyv hyl hks hqy hy hmx hmemx hndx hxo hqx hxv hwp Hw;dsimp only[sp7,sp9,ncs,ncl,ncr,ncb,nco,nct,nce,ncx,Tryz.f48]
    go_wp2_with fail
    refine Hwz.out.mono ?_;rintro r w3 ⟨rfl,hb3⟩;exact HB.out _ _ rfl (HT0.out.rm.below.trans (hb3.mono HT0.out.rm.below.size))
   |ok s=>
    rw[hwp]at Hwz hv;simp only at Hwz hv;have HO:=hid (fun a' w'=>Hok.out a' w' _ hv);clear Hbad Hok hv hxa hxb hM hyo hyv hyl hks hqy hy hmx hmemx hndx hxo hqx hxv hwp Hw;dsimp only[sp7,sp9,ncs,ncl,ncr,ncb,nco,nct,nce,ncx,Tryz.f48]
    go_wp2_with fail
    refine Hwz.out.mono ?_;rintro r w3 ⟨rfl,hb3⟩;have HT1:=hid (HT0.out.later hb3);have HD1:=hid ((HD.out.later HbT.out).later hb3);have t1:=cell_blk HT1.out.obj 0;have t2:=frozen_blk HT1.out.obj 0;simp at t1;have HE:=hid (HT1.out.set 0 (.string s));clear hb3 Hwz;go_wp2;refine HO.out _ _ ⟨rfl,rfl,rfl,rfl,rfl,rfl,rfl,rfl,rfl⟩ HE.out ?_;exact HD1.out.step (F:=fun k=>k=w.heap.size) ((Mod.refl _ _).setCell _ _ (fun _=>rfl)) (fun e=>by have:=lt_of_heap HD.out.doc;omega) (fun k e=>by rw[e];exact HD.out.below.size)
  |some z=>
   obtain ⟨mz,hmz,hmem,hnd,hzo,az,cz,hzv⟩:=field_node hM hy hxb;have hv:whichP (nds ms) y.nd= .error ((secondN (nds ms) y.nd.kids ((nds ms)[z]!)).line,121):=by unfold whichP fieldP;rw[hxa,hxb];rfl
   have HB:=hid (fun a' w'=>Hbad.out _ a' w' hv);obtain ⟨n,hn⟩:∃n,n=ms.length:=⟨_,rfl⟩;have d0:(w.alloc (TgO ⟨#[]⟩ ⟨#[]⟩ 0)).cell? ⟨db,0,none⟩=some (.slice (some ⟨b,o,none⟩) n cap):=by
    rw[hn];exact (World.cell?_of_block (alloc_old _ (lt_of_heap hM.doc))).trans (cell_blk hM.doc 0)
   have Hkid:=hid (fun i (hi:i<qy)=>show ∃(k:Nat) (mk:NdM),y.nd.kids[i]? =some (k:Int)∧ms[k]? =some mk∧k<n from by
    obtain ⟨x,hx⟩:∃x,y.nd.kids[i]? =some x:=at_of_lt (by omega);obtain ⟨k,mk,e,hk,_⟩:=hM.kid hy (List.mem_of_getElem? hx);exact ⟨k,mk,by rw[hx,e],hk,by rw[hn];exact (List.getElem?_eq_some_iff.1 hk).1⟩)
   have Hks:=hid hks;have Hq:=hid hqy;have Hyl:=hid hyl;have HM:=hid hM;have Hn:=hid hn;have Hz:=hid (show z<ms.length from (List.getElem?_eq_some_iff.1 hmz).1);unfold fieldA;simp only[Option.map_some];clear Hbad Hok hv hxa hxb hM hyo hyv hyl hks hqy hy hmx hmemx hndx hxo hxv Hw hmz hmem hnd hzo hzv hn;dsimp only[sp7,sp9,ncs,ncl,ncr,ncb,nco,nct,nce,ncx,Tryz.f48];go_wp2
   go_loopw [11,63] (fun vp vi wr=>∃(s i:Nat),vp= .pointer (some ⟨b,o+s*6,none⟩)∧vi= .int .i64 (i:Int)∧w.alloc (TgO ⟨#[]⟩ ⟨#[]⟩ 0)=wr∧Hid (i≤qy∧s<ms.length∧(nds ms)[s]! =secondN (nds ms) (y.nd.kids.take i) ((nds ms)[z]!))) (fun _ vi _=>qy-(intOf vi).toNat)
   case atStart=>exact ⟨z,0,rfl,rfl,rfl,hid ⟨Nat.zero_le _,Hz.out,rfl⟩⟩
   case round=>
    obtain ⟨s,i,rfl,rfl,rfl,H⟩:=hrel;by_cases hi:i<qy
    ·have ti:decide (i<qy)=true:=dT hi;have bi:(i:Int)<(qy:Int):=by omega
     obtain ⟨k,mk,hx,hk,hkn⟩:=Hkid.out i hi;obtain ⟨b3,o3,rfl,hb3,hc⟩:=Hks.out (by omega);have x1:(w.alloc (TgO ⟨#[]⟩ ⟨#[]⟩ 0)).cell? ⟨b3,o3+i,none⟩=some (.int .i64 (k:Int)):=(World.cell?_of_block (alloc_old _ hb3)).trans (hc i _ hx);have y1:(w.alloc (TgO ⟨#[]⟩ ⟨#[]⟩ 0)).cell? ⟨b,o+k*6+1,none⟩=some (.string mk.nd.key):=(World.cell?_of_block (alloc_old _ HM.out.blt)).trans (HM.out.at hk).1.c1;have bk:(k:Int)<(n:Int):=by omega
     have hkd:=nds_at hk;have hst:=secondN_step (ns:=nds ms) (b:=(nds ms)[z]!) hx;rw[hkd]at hst;have hkl:=(List.getElem?_eq_some_iff.1 hk).1;obtain ⟨Hms,Hgo⟩:=step_two (k:=i) (n:=qy) hi (by have:=Hyl.out;omega);by_cases e1:mk.nd.key=kService
     ·have u1:=key_yes e1;rw[if_pos (.inl e1)]at hst;have Hnx:=hid (show i+1≤qy∧k<ms.length∧(nds ms)[k]! =secondN (nds ms) (y.nd.kids.take (i+1)) ((nds ms)[z]!) from ⟨hi,hkl,by rw[hst,hkd]⟩);clear hst hkd hkl hk hx hc hb3 H Hkid Hks hi hkn e1 HM HB;go_wp2;go_roundw
      case rel=>exact ⟨k,i+1,rfl,Hgo.out,trivial,Hnx⟩
      case measure=>exact Hms.out
     ·have u1:=key_no e1;by_cases e2:mk.nd.key=kSplit
      ·have u2:=key_yes e2;rw[if_pos (.inr e2)]at hst;have Hnx:=hid (show i+1≤qy∧k<ms.length∧(nds ms)[k]! =secondN (nds ms) (y.nd.kids.take (i+1)) ((nds ms)[z]!) from ⟨hi,hkl,by rw[hst,hkd]⟩);clear hst hkd hkl hk hx hc hb3 H Hkid Hks hi hkn e1 e2 HM HB;go_wp2;go_roundw
       case rel=>exact ⟨k,i+1,rfl,Hgo.out,trivial,Hnx⟩
       case measure=>exact Hms.out
      ·have u2:=key_no e2;rw[if_neg (by rintro (q|q);exact e1 q;exact e2 q)]at hst;have Hnx:=hid (show i+1≤qy∧s<ms.length∧(nds ms)[s]! =secondN (nds ms) (y.nd.kids.take (i+1)) ((nds ms)[z]!) from ⟨hi,H.out.2.1,by rw[hst];exact H.out.2.2⟩);clear hst hkd hkl hk hx hc hb3 H Hkid Hks hi hkn e1 e2 HM HB;go_wp2;go_roundw
       case rel=>exact ⟨s,i+1,rfl,Hgo.out,trivial,Hnx⟩
       case measure=>exact Hms.out
    ·have ti:decide (i<qy)=false:=dF hi;obtain ⟨msn,hmsn⟩:∃msn,ms[s]? =some msn:=at_of_lt H.out.2.1;have y4:(w.alloc (TgO ⟨#[]⟩ ⟨#[]⟩ 0)).cell? ⟨b,o+s*6+4,none⟩=some (.int .i64 msn.nd.line):=(World.cell?_of_block (alloc_old _ HM.out.blt)).trans (HM.out.at hmsn).1.c4;have hfin:(secondN (nds ms) y.nd.kids ((nds ms)[z]!)).line=msn.nd.line:=by
      have e3:=H.out.2.2;rw[List.take_of_length_le (by have:=Hq.out;omega),nds_at hmsn]at e3;rw[←e3]
     have Hfin:=hid hfin;clear H Hkid Hks hi HM hmsn hfin
     go_wp2_with fail
     refine (Hfl.out _ _ _).mono ?_;rintro r w3 ⟨rfl,rfl⟩;rw[←Hfin.out];exact HB.out _ _ rfl HT0.out.rm.below
end
end Go.Proofs.YtfenoaeoedobmaaGreatDoor
