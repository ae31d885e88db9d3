/-
Parts of a proof, one behind the other (laid dense by a program of mine: pack.py).
-/
import Derived.Test.YtfenoaeoedobmaaGreatDoorRd42
set_option linter.unusedVariables false
set_option linter.unusedSimpArgs false
set_option maxHeartbeats 4000000
set_option maxRecDepth 20000
namespace Go.Proofs.YtfenoaeoedobmaaGreatDoor
open Go Go.RowKit
noncomputable def xr5h:Code:=(ncl (ncl (ncr (ncr (ncr (ncr (ncx Tryz.f22.body)))))))
noncomputable def xrt6:Code:=(ncl (nct (ncr (ncl (ncr (ncr (ncr (ncr (ncx Tryz.f22.body)))))))))
noncomputable def xr20h:Code:=(ncl (ncl (ncr (ncr (ncr (ncr (ncr (ncr (ncr (ncr (ncr (ncr (ncx Tryz.f22.body)))))))))))))
noncomputable def xrt21:Code:=(ncl (nct (ncr (ncl (ncr (ncr (ncr (ncr (ncr (ncr (ncr (ncr (ncr (ncr (ncx Tryz.f22.body)))))))))))))))
noncomputable def xr30h:Code:=(ncl (ncl (ncr (ncr (ncr (ncr (ncr (ncr (ncr (ncr (ncr (ncr (ncr (ncr (ncr (ncx Tryz.f22.body))))))))))))))))
noncomputable def xrt31:Code:=(ncl (nct (ncr (ncl (ncr (ncr (ncr (ncr (ncr (ncr (ncr (ncr (ncr (ncr (ncr (ncr (ncr (ncx Tryz.f22.body))))))))))))))))))
structure XrE (a:Act) (rn:Nat) (l:Int) (e:Int):Prop where
 size:a.tmps.size=158
 dfr:a.defers=[]
 s2:a.tmps[2]? =some (.pointer (some ⟨rn,0,none⟩))
 s3:a.tmps[3]? =some (.int .i64 l)
 s4:a.tmps[4]? =some (.int .i64 e)
theorem XrE.shape {a:Act} {rn:Nat} {l:Int} {e:Int} (h:XrE a rn l e):∃v:Nat→Value,a=⟨#[v 0,v 1,.pointer (some ⟨rn,0,none⟩),.int .i64 l,.int .i64 e,v 5,v 6,v 7,v 8,v 9,v 10,v 11,v 12,v 13,v 14,v 15,v 16,v 17,v 18,v 19,v 20,v 21,v 22,v 23,v 24,v 25,v 26,v 27,v 28,v 29,v 30,v 31,v 32,v 33,v 34,v 35,v 36,v 37,v 38,v 39,v 40,v 41,v 42,v 43,v 44,v 45,v 46,v 47,v 48,v 49,v 50,v 51,v 52,v 53,v 54,v 55,v 56,v 57,v 58,v 59,v 60,v 61,v 62,v 63,v 64,v 65,v 66,v 67,v 68,v 69,v 70,v 71,v 72,v 73,v 74,v 75,v 76,v 77,v 78,v 79,v 80,v 81,v 82,v 83,v 84,v 85,v 86,v 87,v 88,v 89,v 90,v 91,v 92,v 93,v 94,v 95,v 96,v 97,v 98,v 99,v 100,v 101,v 102,v 103,v 104,v 105,v 106,v 107,v 108,v 109,v 110,v 111,v 112,v 113,v 114,v 115,v 116,v 117,v 118,v 119,v 120,v 121,v 122,v 123,v 124,v 125,v 126,v 127,v 128,v 129,v 130,v 131,v 132,v 133,v 134,v 135,v 136,v 137,v 138,v 139,v 140,v 141,v 142,v 143,v 144,v 145,v 146,v 147,v 148,v 149,v 150,v 151,v 152,v 153,v 154,v 155,v 156,v 157],[]⟩:=by
 obtain ⟨v,hv,hd⟩:=xr_act a h.size h.dfr;have e2:=hv 2 _ h.s2;have e3:=hv 3 _ h.s3;have e4:=hv 4 _ h.s4;refine ⟨v,?_⟩;rw[hd];simp only[e2,e3,e4]
theorem over8 {w:World} {c:Array Value} {v0 v1 v2 v3 v4 v5 v6 v7:Value} {n:Nat} {T:TypeId} (hr:w.heap[n]? =some (.cells c T (0,0))) (hs:c.size=8):
 ∀W,W=((((((((w.setCell ⟨n,0,none⟩ v0).setCell ⟨n,1,none⟩ v1).setCell ⟨n,2,none⟩ v2).setCell ⟨n,3,none⟩ v3).setCell ⟨n,4,none⟩ v4).setCell ⟨n,5,none⟩ v5).setCell ⟨n,6,none⟩ v6).setCell ⟨n,7,none⟩ v7)→
  Mod (fun k=>k=n) w W∧W.heap[n]? =some (.cells #[v0,v1,v2,v3,v4,v5,v6,v7] T (0,0)):=by
 rintro W rfl;obtain ⟨x0,x1,x2,x3,x4,x5,x6,x7,rfl⟩:∃x0 x1 x2 x3 x4 x5 x6 x7,c=#[x0,x1,x2,x3,x4,x5,x6,x7]:=by
  obtain ⟨L⟩:=c
  match L,hs with
  |[x0,x1,x2,x3,x4,x5,x6,x7],_=>exact ⟨x0,x1,x2,x3,x4,x5,x6,x7,rfl⟩
 have m0:Mod (fun k=>k=n) w (w.setCell ⟨n,0,none⟩ v0):=(Mod.refl _ _).setCell _ _ (fun _=>rfl);have m1:Mod (fun k=>k=n) w ((w.setCell ⟨n,0,none⟩ v0).setCell ⟨n,1,none⟩ v1):=m0.setCell _ _ (fun _=>rfl);have m2:Mod (fun k=>k=n) w (((w.setCell ⟨n,0,none⟩ v0).setCell ⟨n,1,none⟩ v1).setCell ⟨n,2,none⟩ v2):=m1.setCell _ _ (fun _=>rfl);have m3:Mod (fun k=>k=n) w ((((w.setCell ⟨n,0,none⟩ v0).setCell ⟨n,1,none⟩ v1).setCell ⟨n,2,none⟩ v2).setCell ⟨n,3,none⟩ v3):=m2.setCell _ _ (fun _=>rfl)
 have m4:Mod (fun k=>k=n) w (((((w.setCell ⟨n,0,none⟩ v0).setCell ⟨n,1,none⟩ v1).setCell ⟨n,2,none⟩ v2).setCell ⟨n,3,none⟩ v3).setCell ⟨n,4,none⟩ v4):=m3.setCell _ _ (fun _=>rfl);have m5:Mod (fun k=>k=n) w ((((((w.setCell ⟨n,0,none⟩ v0).setCell ⟨n,1,none⟩ v1).setCell ⟨n,2,none⟩ v2).setCell ⟨n,3,none⟩ v3).setCell ⟨n,4,none⟩ v4).setCell ⟨n,5,none⟩ v5):=m4.setCell _ _ (fun _=>rfl);have m6:Mod (fun k=>k=n) w (((((((w.setCell ⟨n,0,none⟩ v0).setCell ⟨n,1,none⟩ v1).setCell ⟨n,2,none⟩ v2).setCell ⟨n,3,none⟩ v3).setCell ⟨n,4,none⟩ v4).setCell ⟨n,5,none⟩ v5).setCell ⟨n,6,none⟩ v6):=m5.setCell _ _ (fun _=>rfl)
 have m7:Mod (fun k=>k=n) w ((((((((w.setCell ⟨n,0,none⟩ v0).setCell ⟨n,1,none⟩ v1).setCell ⟨n,2,none⟩ v2).setCell ⟨n,3,none⟩ v3).setCell ⟨n,4,none⟩ v4).setCell ⟨n,5,none⟩ v5).setCell ⟨n,6,none⟩ v6).setCell ⟨n,7,none⟩ v7):=m6.setCell _ _ (fun _=>rfl);have g0:(w.setCell ⟨n,0,none⟩ v0).heap[n]? =some (.cells #[v0,x1,x2,x3,x4,x5,x6,x7] T (0,0)):=set_blk hr 0 v0;have g1:((w.setCell ⟨n,0,none⟩ v0).setCell ⟨n,1,none⟩ v1).heap[n]? =some (.cells #[v0,v1,x2,x3,x4,x5,x6,x7] T (0,0)):=set_blk g0 1 v1
 have g2:(((w.setCell ⟨n,0,none⟩ v0).setCell ⟨n,1,none⟩ v1).setCell ⟨n,2,none⟩ v2).heap[n]? =some (.cells #[v0,v1,v2,x3,x4,x5,x6,x7] T (0,0)):=set_blk g1 2 v2;have g3:((((w.setCell ⟨n,0,none⟩ v0).setCell ⟨n,1,none⟩ v1).setCell ⟨n,2,none⟩ v2).setCell ⟨n,3,none⟩ v3).heap[n]? =some (.cells #[v0,v1,v2,v3,x4,x5,x6,x7] T (0,0)):=set_blk g2 3 v3;have g4:(((((w.setCell ⟨n,0,none⟩ v0).setCell ⟨n,1,none⟩ v1).setCell ⟨n,2,none⟩ v2).setCell ⟨n,3,none⟩ v3).setCell ⟨n,4,none⟩ v4).heap[n]? =some (.cells #[v0,v1,v2,v3,v4,x5,x6,x7] T (0,0)):=set_blk g3 4 v4
 have g5:((((((w.setCell ⟨n,0,none⟩ v0).setCell ⟨n,1,none⟩ v1).setCell ⟨n,2,none⟩ v2).setCell ⟨n,3,none⟩ v3).setCell ⟨n,4,none⟩ v4).setCell ⟨n,5,none⟩ v5).heap[n]? =some (.cells #[v0,v1,v2,v3,v4,v5,x6,x7] T (0,0)):=set_blk g4 5 v5;have g6:(((((((w.setCell ⟨n,0,none⟩ v0).setCell ⟨n,1,none⟩ v1).setCell ⟨n,2,none⟩ v2).setCell ⟨n,3,none⟩ v3).setCell ⟨n,4,none⟩ v4).setCell ⟨n,5,none⟩ v5).setCell ⟨n,6,none⟩ v6).heap[n]? =some (.cells #[v0,v1,v2,v3,v4,v5,v6,x7] T (0,0)):=set_blk g5 6 v6
 have g7:((((((((w.setCell ⟨n,0,none⟩ v0).setCell ⟨n,1,none⟩ v1).setCell ⟨n,2,none⟩ v2).setCell ⟨n,3,none⟩ v3).setCell ⟨n,4,none⟩ v4).setCell ⟨n,5,none⟩ v5).setCell ⟨n,6,none⟩ v6).setCell ⟨n,7,none⟩ v7).heap[n]? =some (.cells #[v0,v1,v2,v3,v4,v5,v6,v7] T (0,0)):=set_blk g6 7 v7;exact ⟨m7,g7⟩
section
variable {w0 w:World} {Q:Exit→Act→World→Prop} {a:Act} {ms:List NdM} {st:St} {b o q cap rn db rb:Nat} {kd:Int} {nm:ByteArray} {dl:Bool} {m0:NdM}
theorem xr_t6 {l e:Int} (hf:XrA a b o q cap rn db rb) (hdb:w.heap[db]? =some (.cells #[.slice (some ⟨b,o,none⟩) q cap,.int .i64 l,.int .i64 e] 101 (0,0))) (hrb:w.heap[rb]? =some (.cells (resD 0 ⟨#[]⟩ false) 49 (0,0))) (hrn:w.heap[rn]? =some (.cells (resD 0 ⟨#[]⟩ false) 49 (0,0))) (h1:rn≠db) (h2:rn≠rb)
 (ok:∀a' w',XrE a' rn l e→Mod (fun k=>k=rn) w w'→w'.heap[rn]? =some (.cells (resD 0 ⟨#[]⟩ false) 49 (0,0))→Q .normal a' w'):xrt6.wp Tryz.prog Q a w:=by
 have hS:w.drew.heap[db]? =some (.cells #[.slice (some ⟨b,o,none⟩) q cap,.int .i64 l,.int .i64 e] 101 (0,0))∧w.drew.heap[rb]? =some (.cells (resD 0 ⟨#[]⟩ false) 49 (0,0)):=⟨hdb,hrb⟩;have c0:=cell_blk hrn 0;have c1:=cell_blk hrn 1;have c2:=cell_blk hrn 2;have c3:=cell_blk hrn 3;have c4:=cell_blk hrn 4;have c5:=cell_blk hrn 5;have c6:=cell_blk hrn 6
 have c7:=cell_blk hrn 7;have fz:=fun j=>frozen_blk hrn j;unfold resD at c0 c1 c2 c3 c4 c5 c6 c7;simp at c0 c1 c2 c3 c4 c5 c6 c7;have HE:=hid (over8 (v0:= .int .i64 0) (v1:= .string ⟨#[]⟩) (v2:= .slice none 0 0) (v3:= .slice none 0 0) (v4:= .string ⟨#[]⟩) (v5:= .slice none 0 0) (v6:= .string ⟨#[]⟩) (v7:= .bool false) (w:=w) hrn rfl);have HS2:=hid (fun w2 (hm:Mod (fun k=>k=rn) w w2)=>show w2.heap[db]? =some (.cells #[.slice (some ⟨b,o,none⟩) q cap,.int .i64 l,.int .i64 e] 101 (0,0))∧w2.heap[rb]? =some (.cells (resD 0 ⟨#[]⟩ false) 49 (0,0)) from ⟨hm.heap hS.1 (fun q=>h1 q.symm),hm.heap hS.2 (fun q=>h2 q.symm)⟩)
 have Hok:=hid ok;obtain ⟨vv,rfl⟩:=hf.shape;clear hf hdb hrb hrn h1 h2 ok;dsimp only[xrt6,ncs,ncl,ncr,ncb,nco,nct,nce,ncx,Tryz.f22];refine wp_calm_n ?_;refine wp_region_K (fun w'=>w'.heap[db]? =some (.cells #[.slice (some ⟨b,o,none⟩) q cap,.int .i64 l,.int .i64 e] 101 (0,0))∧w'.heap[rb]? =some (.cells (resD 0 ⟨#[]⟩ false) 49 (0,0))) (fun i=>true) (by kernel_rfl) ?_
 refine wK (i:=0) (v:= ?_) rfl (by kernel_rfl) (fun _ _ _ h=>h) (by rfl) ?_ hS ?_;rotate_left
 ·intro w' hSw;obtain ⟨s1,s2⟩:=hSw;have c1:=cell_blk s1 1;have c2:=cell_blk s1 2;have r0:=cell_blk s2 0;have r1:=cell_blk s2 1;have r2:=cell_blk s2 2;have r3:=cell_blk s2 3;have r4:=cell_blk s2 4;have r5:=cell_blk s2 5;have r6:=cell_blk s2 6;have r7:=cell_blk s2 7;unfold resD at r0 r1 r2 r3 r4 r5 r6 r7;simp at r0 r1 r2 r3 r4 r5 r6 r7;simp at c1 c2;clear s1 s2;go_simp
  try with_reducible rfl
 try simp only[Act.put,sA,sZ,sS]
 refine wK (i:=1) (v:= ?_) rfl (by kernel_rfl) (fun _ _ _ h=>h) (by rfl) ?_ hS ?_;rotate_left
 ·intro w' hSw;obtain ⟨s1,s2⟩:=hSw;have c1:=cell_blk s1 1;have c2:=cell_blk s1 2;have r0:=cell_blk s2 0;have r1:=cell_blk s2 1;have r2:=cell_blk s2 2;have r3:=cell_blk s2 3;have r4:=cell_blk s2 4;have r5:=cell_blk s2 5;have r6:=cell_blk s2 6;have r7:=cell_blk s2 7;unfold resD at r0 r1 r2 r3 r4 r5 r6 r7;simp at r0 r1 r2 r3 r4 r5 r6 r7;simp at c1 c2;clear s1 s2;go_simp
  try with_reducible rfl
 try simp only[Act.put,sA,sZ,sS]
 refine wK (i:=2) (v:= ?_) rfl (by kernel_rfl) (fun _ _ _ h=>h) (by rfl) ?_ hS ?_;rotate_left
 ·intro w' hSw;obtain ⟨s1,s2⟩:=hSw;have c1:=cell_blk s1 1;have c2:=cell_blk s1 2;have r0:=cell_blk s2 0;have r1:=cell_blk s2 1;have r2:=cell_blk s2 2;have r3:=cell_blk s2 3;have r4:=cell_blk s2 4;have r5:=cell_blk s2 5;have r6:=cell_blk s2 6;have r7:=cell_blk s2 7;unfold resD at r0 r1 r2 r3 r4 r5 r6 r7;simp at r0 r1 r2 r3 r4 r5 r6 r7;simp at c1 c2;clear s1 s2;go_simp
  try with_reducible rfl
 try simp only[Act.put,sA,sZ,sS]
 refine wK (i:=3) (v:= ?_) rfl (by kernel_rfl) (fun _ _ _ h=>h) (by rfl) ?_ hS ?_;rotate_left
 ·intro w' hSw;obtain ⟨s1,s2⟩:=hSw;have c1:=cell_blk s1 1;have c2:=cell_blk s1 2;have r0:=cell_blk s2 0;have r1:=cell_blk s2 1;have r2:=cell_blk s2 2;have r3:=cell_blk s2 3;have r4:=cell_blk s2 4;have r5:=cell_blk s2 5;have r6:=cell_blk s2 6;have r7:=cell_blk s2 7;unfold resD at r0 r1 r2 r3 r4 r5 r6 r7;simp at r0 r1 r2 r3 r4 r5 r6 r7;simp at c1 c2;clear s1 s2;go_simp
  try with_reducible rfl
 try simp only[Act.put,sA,sZ,sS]
 refine wK (i:=4) (v:= ?_) rfl (by kernel_rfl) (fun _ _ _ h=>h) (by rfl) ?_ hS ?_;rotate_left
 ·intro w' hSw;obtain ⟨s1,s2⟩:=hSw;have c1:=cell_blk s1 1;have c2:=cell_blk s1 2;have r0:=cell_blk s2 0;have r1:=cell_blk s2 1;have r2:=cell_blk s2 2;have r3:=cell_blk s2 3;have r4:=cell_blk s2 4;have r5:=cell_blk s2 5;have r6:=cell_blk s2 6;have r7:=cell_blk s2 7;unfold resD at r0 r1 r2 r3 r4 r5 r6 r7;simp at r0 r1 r2 r3 r4 r5 r6 r7;simp at c1 c2;clear s1 s2;go_simp
  try with_reducible rfl
 try simp only[Act.put,sA,sZ,sS]
 refine wK (i:=5) (v:= ?_) rfl (by kernel_rfl) (fun _ _ _ h=>h) (by rfl) ?_ hS ?_;rotate_left
 ·intro w' hSw;obtain ⟨s1,s2⟩:=hSw;have c1:=cell_blk s1 1;have c2:=cell_blk s1 2;have r0:=cell_blk s2 0;have r1:=cell_blk s2 1;have r2:=cell_blk s2 2;have r3:=cell_blk s2 3;have r4:=cell_blk s2 4;have r5:=cell_blk s2 5;have r6:=cell_blk s2 6;have r7:=cell_blk s2 7;unfold resD at r0 r1 r2 r3 r4 r5 r6 r7;simp at r0 r1 r2 r3 r4 r5 r6 r7;simp at c1 c2;clear s1 s2;go_simp
  try with_reducible rfl
 try simp only[Act.put,sA,sZ,sS]
 refine wK (i:=6) (v:= ?_) rfl (by kernel_rfl) (fun _ _ _ h=>h) (by rfl) ?_ hS ?_;rotate_left
 ·intro w' hSw;obtain ⟨s1,s2⟩:=hSw;have c1:=cell_blk s1 1;have c2:=cell_blk s1 2;have r0:=cell_blk s2 0;have r1:=cell_blk s2 1;have r2:=cell_blk s2 2;have r3:=cell_blk s2 3;have r4:=cell_blk s2 4;have r5:=cell_blk s2 5;have r6:=cell_blk s2 6;have r7:=cell_blk s2 7;unfold resD at r0 r1 r2 r3 r4 r5 r6 r7;simp at r0 r1 r2 r3 r4 r5 r6 r7;simp at c1 c2;clear s1 s2;go_simp
  try with_reducible rfl
 try simp only[Act.put,sA,sZ,sS]
 refine wK (i:=7) (v:= ?_) rfl (by kernel_rfl) (fun _ _ _ h=>h) (by rfl) ?_ hS ?_;rotate_left
 ·intro w' hSw;obtain ⟨s1,s2⟩:=hSw;have c1:=cell_blk s1 1;have c2:=cell_blk s1 2;have r0:=cell_blk s2 0;have r1:=cell_blk s2 1;have r2:=cell_blk s2 2;have r3:=cell_blk s2 3;have r4:=cell_blk s2 4;have r5:=cell_blk s2 5;have r6:=cell_blk s2 6;have r7:=cell_blk s2 7;unfold resD at r0 r1 r2 r3 r4 r5 r6 r7;simp at r0 r1 r2 r3 r4 r5 r6 r7;simp at c1 c2;clear s1 s2;go_simp
  try with_reducible rfl
 try simp only[Act.put,sA,sZ,sS]
 refine wK (i:=8) (v:= ?_) rfl (by kernel_rfl) (fun _ _ _ h=>h) (by rfl) ?_ hS ?_;rotate_left
 ·intro w' hSw;obtain ⟨s1,s2⟩:=hSw;have c1:=cell_blk s1 1;have c2:=cell_blk s1 2;have r0:=cell_blk s2 0;have r1:=cell_blk s2 1;have r2:=cell_blk s2 2;have r3:=cell_blk s2 3;have r4:=cell_blk s2 4;have r5:=cell_blk s2 5;have r6:=cell_blk s2 6;have r7:=cell_blk s2 7;unfold resD at r0 r1 r2 r3 r4 r5 r6 r7;simp at r0 r1 r2 r3 r4 r5 r6 r7;simp at c1 c2;clear s1 s2;go_simp
  try with_reducible rfl
 try simp only[Act.put,sA,sZ,sS]
 refine wpAnyK_one (i:=9) (by kernel_rfl) rfl (fun K hK=> ?_);go_simp;obtain ⟨m0,m2⟩:=HE.out _ rfl;have m1:=m0.drew;refine hK.out _ _ (fun _=>HS2.out _ m1) ?_;clear hK K;refine wpAnyK_one (i:=10) (by kernel_rfl) rfl (fun K hK=> ?_);go_simp;refine hK.out _ _ (fun _=>HS2.out _ m1) ?_;clear hK K;refine wpAnyK_one (i:=11) (by kernel_rfl) rfl (fun K hK=> ?_);go_simp;refine hK.out _ _ (fun _=>HS2.out _ m1) ?_
 clear hK K;refine wpAnyK_done (by kernel_rfl) ?_ _;refine Hok.out _ _ ⟨rfl,rfl,rfl,rfl,rfl⟩ m1 ?_;rw[heap_drew'];unfold resD;exact m2
theorem xr_t21 {l e:Int} (hf:XrA a b o q cap rn db rb) (hdb:w.heap[db]? =some (.cells #[.slice (some ⟨b,o,none⟩) q cap,.int .i64 l,.int .i64 e] 101 (0,0))) (hrb:True) (hrn:w.heap[rn]? =some (.cells (resD 0 ⟨#[]⟩ false) 49 (0,0))) (h1:rn≠db) (h2:rn≠rb)
 (ok:∀a' w',XrE a' rn l e→Mod (fun k=>k=rn) w w'→w'.heap[rn]? =some (.cells (resD 0 ⟨#[]⟩ false) 49 (0,0))→Q .normal a' w'):xrt21.wp Tryz.prog Q a w:=by
 have hS:w.drew.heap[db]? =some (.cells #[.slice (some ⟨b,o,none⟩) q cap,.int .i64 l,.int .i64 e] 101 (0,0))∧True:=⟨hdb,trivial⟩;have c0:=cell_blk hrn 0;have c1:=cell_blk hrn 1;have c2:=cell_blk hrn 2;have c3:=cell_blk hrn 3;have c4:=cell_blk hrn 4;have c5:=cell_blk hrn 5;have c6:=cell_blk hrn 6;have c7:=cell_blk hrn 7;have fz:=fun j=>frozen_blk hrn j;unfold resD at c0 c1 c2 c3 c4 c5 c6 c7
 simp at c0 c1 c2 c3 c4 c5 c6 c7;have HE:=hid (over8 (v0:= .int .i64 0) (v1:= .string ⟨#[]⟩) (v2:= .slice none 0 0) (v3:= .slice none 0 0) (v4:= .string ⟨#[]⟩) (v5:= .slice none 0 0) (v6:= .string ⟨#[]⟩) (v7:= .bool false) (w:=w) hrn rfl);have HS2:=hid (fun w2 (hm:Mod (fun k=>k=rn) w w2)=>show w2.heap[db]? =some (.cells #[.slice (some ⟨b,o,none⟩) q cap,.int .i64 l,.int .i64 e] 101 (0,0))∧True from ⟨hm.heap hS.1 (fun q=>h1 q.symm),trivial⟩)
 have Hok:=hid ok;obtain ⟨vv,rfl⟩:=hf.shape;clear hf hdb hrb hrn h1 h2 ok;dsimp only[xrt21,ncs,ncl,ncr,ncb,nco,nct,nce,ncx,Tryz.f22];refine wp_calm_n ?_;refine wp_region_K (fun w'=>w'.heap[db]? =some (.cells #[.slice (some ⟨b,o,none⟩) q cap,.int .i64 l,.int .i64 e] 101 (0,0))∧True) (fun i=>true) (by kernel_rfl) ?_;refine wK (i:=0) (v:= ?_) rfl (by kernel_rfl) (fun _ _ _ h=>h) (by rfl) ?_ hS ?_
 rotate_left
 ·intro w' hSw;obtain ⟨s1,s2⟩:=hSw;have c1:=cell_blk s1 1;have c2:=cell_blk s1 2;simp at c1 c2;clear s1 s2;go_simp
  try with_reducible rfl
 try simp only[Act.put,sA,sZ,sS]
 refine wK (i:=1) (v:= ?_) rfl (by kernel_rfl) (fun _ _ _ h=>h) (by rfl) ?_ hS ?_;rotate_left
 ·intro w' hSw;obtain ⟨s1,s2⟩:=hSw;have c1:=cell_blk s1 1;have c2:=cell_blk s1 2;simp at c1 c2;clear s1 s2;go_simp
  try with_reducible rfl
 try simp only[Act.put,sA,sZ,sS]
 refine wK (i:=2) (v:= ?_) rfl (by kernel_rfl) (fun _ _ _ h=>h) (by rfl) ?_ hS ?_;rotate_left
 ·intro w' hSw;obtain ⟨s1,s2⟩:=hSw;have c1:=cell_blk s1 1;have c2:=cell_blk s1 2;simp at c1 c2;clear s1 s2;go_simp
  try with_reducible rfl
 try simp only[Act.put,sA,sZ,sS]
 refine wK (i:=3) (v:= ?_) rfl (by kernel_rfl) (fun _ _ _ h=>h) (by rfl) ?_ hS ?_;rotate_left
 ·intro w' hSw;obtain ⟨s1,s2⟩:=hSw;have c1:=cell_blk s1 1;have c2:=cell_blk s1 2;simp at c1 c2;clear s1 s2;go_simp
  try with_reducible rfl
 try simp only[Act.put,sA,sZ,sS]
 refine wK (i:=4) (v:= ?_) rfl (by kernel_rfl) (fun _ _ _ h=>h) (by rfl) ?_ hS ?_;rotate_left
 ·intro w' hSw;obtain ⟨s1,s2⟩:=hSw;have c1:=cell_blk s1 1;have c2:=cell_blk s1 2;simp at c1 c2;clear s1 s2;go_simp
  try with_reducible rfl
 try simp only[Act.put,sA,sZ,sS]
 refine wK (i:=5) (v:= ?_) rfl (by kernel_rfl) (fun _ _ _ h=>h) (by rfl) ?_ hS ?_;rotate_left
 ·intro w' hSw;obtain ⟨s1,s2⟩:=hSw;have c1:=cell_blk s1 1;have c2:=cell_blk s1 2;simp at c1 c2;clear s1 s2;go_simp
  try with_reducible rfl
 try simp only[Act.put,sA,sZ,sS]
 refine wK (i:=6) (v:= ?_) rfl (by kernel_rfl) (fun _ _ _ h=>h) (by rfl) ?_ hS ?_;rotate_left
 ·intro w' hSw;obtain ⟨s1,s2⟩:=hSw;have c1:=cell_blk s1 1;have c2:=cell_blk s1 2;simp at c1 c2;clear s1 s2;go_simp
  try with_reducible rfl
 try simp only[Act.put,sA,sZ,sS]
 refine wK (i:=7) (v:= ?_) rfl (by kernel_rfl) (fun _ _ _ h=>h) (by rfl) ?_ hS ?_;rotate_left
 ·intro w' hSw;obtain ⟨s1,s2⟩:=hSw;have c1:=cell_blk s1 1;have c2:=cell_blk s1 2;simp at c1 c2;clear s1 s2;go_simp
  try with_reducible rfl
 try simp only[Act.put,sA,sZ,sS]
 refine wK (i:=8) (v:= ?_) rfl (by kernel_rfl) (fun _ _ _ h=>h) (by rfl) ?_ hS ?_;rotate_left
 ·intro w' hSw;obtain ⟨s1,s2⟩:=hSw;have c1:=cell_blk s1 1;have c2:=cell_blk s1 2;simp at c1 c2;clear s1 s2;go_simp
  try with_reducible rfl
 try simp only[Act.put,sA,sZ,sS]
 refine wpAnyK_one (i:=9) (by kernel_rfl) rfl (fun K hK=> ?_);go_simp;obtain ⟨m0,m2⟩:=HE.out _ rfl;have m1:=m0.drew;refine hK.out _ _ (fun _=>HS2.out _ m1) ?_;clear hK K;refine wpAnyK_one (i:=10) (by kernel_rfl) rfl (fun K hK=> ?_);go_simp;refine hK.out _ _ (fun _=>HS2.out _ m1) ?_;clear hK K;refine wpAnyK_one (i:=11) (by kernel_rfl) rfl (fun K hK=> ?_);go_simp;refine hK.out _ _ (fun _=>HS2.out _ m1) ?_
 clear hK K;refine wpAnyK_done (by kernel_rfl) ?_ _;refine Hok.out _ _ ⟨rfl,rfl,rfl,rfl,rfl⟩ m1 ?_;rw[heap_drew'];unfold resD;exact m2
theorem xr_t31 {l e:Int} (hf:XrA a b o q cap rn db rb) (hdb:w.heap[db]? =some (.cells #[.slice (some ⟨b,o,none⟩) q cap,.int .i64 l,.int .i64 e] 101 (0,0))) (hrb:True) (hrn:w.heap[rn]? =some (.cells (resD 0 ⟨#[]⟩ false) 49 (0,0))) (h1:rn≠db) (h2:rn≠rb)
 (ok:∀a' w',XrE a' rn l e→Mod (fun k=>k=rn) w w'→w'.heap[rn]? =some (.cells (resD 0 ⟨#[]⟩ false) 49 (0,0))→Q .normal a' w'):xrt31.wp Tryz.prog Q a w:=by
 have hS:w.drew.heap[db]? =some (.cells #[.slice (some ⟨b,o,none⟩) q cap,.int .i64 l,.int .i64 e] 101 (0,0))∧True:=⟨hdb,trivial⟩;have c0:=cell_blk hrn 0;have c1:=cell_blk hrn 1;have c2:=cell_blk hrn 2;have c3:=cell_blk hrn 3;have c4:=cell_blk hrn 4;have c5:=cell_blk hrn 5;have c6:=cell_blk hrn 6;have c7:=cell_blk hrn 7;have fz:=fun j=>frozen_blk hrn j;unfold resD at c0 c1 c2 c3 c4 c5 c6 c7
 simp at c0 c1 c2 c3 c4 c5 c6 c7;have HE:=hid (over8 (v0:= .int .i64 0) (v1:= .string ⟨#[]⟩) (v2:= .slice none 0 0) (v3:= .slice none 0 0) (v4:= .string ⟨#[]⟩) (v5:= .slice none 0 0) (v6:= .string ⟨#[]⟩) (v7:= .bool false) (w:=w) hrn rfl);have HS2:=hid (fun w2 (hm:Mod (fun k=>k=rn) w w2)=>show w2.heap[db]? =some (.cells #[.slice (some ⟨b,o,none⟩) q cap,.int .i64 l,.int .i64 e] 101 (0,0))∧True from ⟨hm.heap hS.1 (fun q=>h1 q.symm),trivial⟩)
 have Hok:=hid ok;obtain ⟨vv,rfl⟩:=hf.shape;clear hf hdb hrb hrn h1 h2 ok;dsimp only[xrt31,ncs,ncl,ncr,ncb,nco,nct,nce,ncx,Tryz.f22];refine wp_calm_n ?_;refine wp_region_K (fun w'=>w'.heap[db]? =some (.cells #[.slice (some ⟨b,o,none⟩) q cap,.int .i64 l,.int .i64 e] 101 (0,0))∧True) (fun i=>true) (by kernel_rfl) ?_;refine wK (i:=0) (v:= ?_) rfl (by kernel_rfl) (fun _ _ _ h=>h) (by rfl) ?_ hS ?_
 rotate_left
 ·intro w' hSw;obtain ⟨s1,s2⟩:=hSw;have c1:=cell_blk s1 1;have c2:=cell_blk s1 2;simp at c1 c2;clear s1 s2;go_simp
  try with_reducible rfl
 try simp only[Act.put,sA,sZ,sS]
 refine wK (i:=1) (v:= ?_) rfl (by kernel_rfl) (fun _ _ _ h=>h) (by rfl) ?_ hS ?_;rotate_left
 ·intro w' hSw;obtain ⟨s1,s2⟩:=hSw;have c1:=cell_blk s1 1;have c2:=cell_blk s1 2;simp at c1 c2;clear s1 s2;go_simp
  try with_reducible rfl
 try simp only[Act.put,sA,sZ,sS]
 refine wK (i:=2) (v:= ?_) rfl (by kernel_rfl) (fun _ _ _ h=>h) (by rfl) ?_ hS ?_;rotate_left
 ·intro w' hSw;obtain ⟨s1,s2⟩:=hSw;have c1:=cell_blk s1 1;have c2:=cell_blk s1 2;simp at c1 c2;clear s1 s2;go_simp
  try with_reducible rfl
 try simp only[Act.put,sA,sZ,sS]
 refine wK (i:=3) (v:= ?_) rfl (by kernel_rfl) (fun _ _ _ h=>h) (by rfl) ?_ hS ?_;rotate_left
 ·intro w' hSw;obtain ⟨s1,s2⟩:=hSw;have c1:=cell_blk s1 1;have c2:=cell_blk s1 2;simp at c1 c2;clear s1 s2;go_simp
  try with_reducible rfl
 try simp only[Act.put,sA,sZ,sS]
 refine wK (i:=4) (v:= ?_) rfl (by kernel_rfl) (fun _ _ _ h=>h) (by rfl) ?_ hS ?_;rotate_left
 ·intro w' hSw;obtain ⟨s1,s2⟩:=hSw;have c1:=cell_blk s1 1;have c2:=cell_blk s1 2;simp at c1 c2;clear s1 s2;go_simp
  try with_reducible rfl
 try simp only[Act.put,sA,sZ,sS]
 refine wK (i:=5) (v:= ?_) rfl (by kernel_rfl) (fun _ _ _ h=>h) (by rfl) ?_ hS ?_;rotate_left
 ·intro w' hSw;obtain ⟨s1,s2⟩:=hSw;have c1:=cell_blk s1 1;have c2:=cell_blk s1 2;simp at c1 c2;clear s1 s2;go_simp
  try with_reducible rfl
 try simp only[Act.put,sA,sZ,sS]
 refine wK (i:=6) (v:= ?_) rfl (by kernel_rfl) (fun _ _ _ h=>h) (by rfl) ?_ hS ?_;rotate_left
 ·intro w' hSw;obtain ⟨s1,s2⟩:=hSw;have c1:=cell_blk s1 1;have c2:=cell_blk s1 2;simp at c1 c2;clear s1 s2;go_simp
  try with_reducible rfl
 try simp only[Act.put,sA,sZ,sS]
 refine wK (i:=7) (v:= ?_) rfl (by kernel_rfl) (fun _ _ _ h=>h) (by rfl) ?_ hS ?_;rotate_left
 ·intro w' hSw;obtain ⟨s1,s2⟩:=hSw;have c1:=cell_blk s1 1;have c2:=cell_blk s1 2;simp at c1 c2;clear s1 s2;go_simp
  try with_reducible rfl
 try simp only[Act.put,sA,sZ,sS]
 refine wK (i:=8) (v:= ?_) rfl (by kernel_rfl) (fun _ _ _ h=>h) (by rfl) ?_ hS ?_;rotate_left
 ·intro w' hSw;obtain ⟨s1,s2⟩:=hSw;have c1:=cell_blk s1 1;have c2:=cell_blk s1 2;simp at c1 c2;clear s1 s2;go_simp
  try with_reducible rfl
 try simp only[Act.put,sA,sZ,sS]
 refine wpAnyK_one (i:=9) (by kernel_rfl) rfl (fun K hK=> ?_);go_simp;obtain ⟨m0,m2⟩:=HE.out _ rfl;have m1:=m0.drew;refine hK.out _ _ (fun _=>HS2.out _ m1) ?_;clear hK K;refine wpAnyK_one (i:=10) (by kernel_rfl) rfl (fun K hK=> ?_);go_simp;refine hK.out _ _ (fun _=>HS2.out _ m1) ?_;clear hK K;refine wpAnyK_one (i:=11) (by kernel_rfl) rfl (fun K hK=> ?_);go_simp;refine hK.out _ _ (fun _=>HS2.out _ m1) ?_
 clear hK K;refine wpAnyK_done (by kernel_rfl) ?_ _;refine Hok.out _ _ ⟨rfl,rfl,rfl,rfl,rfl⟩ m1 ?_;rw[heap_drew'];unfold resD;exact m2
end
section
variable {w0 w:World} {Q:Exit→Act→World→Prop} {a:Act} {ms:List NdM} {st:St} {b o q cap rn db rb:Nat} {kd:Int} {nm:ByteArray} {dl:Bool} {m0:NdM}
theorem xr_c20 (X:Code) (hf:XrA a b o q cap rn db rb) (hd:DQ w0 w db b o cap ms st) (hrn:w.heap[rn]? =some (.cells (resD 0 ⟨#[]⟩ false) 49 (0,0))) (h1:rn≠db) (h2:rn≠rb) (hq:q=ms.length)
 (bad:∀e a' w',st=some e→XrE a' rn e.1 e.2→Mod (fun k=>k=rn) w w'→w'.heap[rn]? =some (.cells (resD 0 ⟨#[]⟩ false) 49 (0,0))→Q .ret a' w')
 (ok:∀a',st=none→XrA a' b o q cap rn db rb→X.wp Tryz.prog Q a' w):(Code.seq xr20 X).wp Tryz.prog Q a w:=by
 have d2:=cell_blk hd.doc 2;simp at d2;have hdoc:=hd.doc;rw[←hq]at hdoc
 show (Code.seq (Code.seq xr20h (Code.cond (.tmp 89) (Code.seq xrt21 .ret) .skip)) X).wp Tryz.prog Q a w
 cases st with
 |none=>
  have Hok:=hid (fun a'=>ok a' rfl);simp only[stV]at d2;obtain ⟨vv,rfl⟩:=hf.shape;clear hf hd hrn h1 h2 hq bad ok hdoc;dsimp only[xr20h,ncs,ncl,ncr,ncb,nco,nct,nce,ncx,Tryz.f22];go_wp2;exact Hok.out _ ⟨rfl,rfl,rfl,rfl,rfl,rfl⟩
 |some e=>
  have te:(e.2==0)=false:=beq_eq_false_iff_ne.2 (hd.ok e rfl);have pe:¬e.2=0:=hd.ok e rfl;have Hbad:=hid (fun a' w'=>bad e a' w' rfl);simp only[stV]at d2 hdoc;have HT:=hid (fun (Q':Exit→Act→World→Prop) (a':Act) (f':XrA a' b o q cap rn db rb) ok'=>xr_t21 (Q:=Q') f' hdoc trivial hrn h1 h2 ok');obtain ⟨vv,rfl⟩:=hf.shape;clear hf hd hrn h1 h2 hq bad ok hdoc;dsimp only[xr20h,ncs,ncl,ncr,ncb,nco,nct,nce,ncx,Tryz.f22]
  go_wp2
  rename_i K1 hK1
  refine HT.out _ _ ⟨rfl,rfl,rfl,rfl,rfl,rfl⟩ (fun a' w' f' hm hz=>hK1 _ _ ?_);go_wp2;exact Hbad.out _ _ f' hm hz
theorem xr_c30 (X:Code) (hf:XrA a b o q cap rn db rb) (hd:DQ w0 w db b o cap ms st) (hrn:w.heap[rn]? =some (.cells (resD 0 ⟨#[]⟩ false) 49 (0,0))) (h1:rn≠db) (h2:rn≠rb) (hq:q=ms.length)
 (bad:∀e a' w',st=some e→XrE a' rn e.1 e.2→Mod (fun k=>k=rn) w w'→w'.heap[rn]? =some (.cells (resD 0 ⟨#[]⟩ false) 49 (0,0))→Q .ret a' w')
 (ok:∀a',st=none→XrA a' b o q cap rn db rb→X.wp Tryz.prog Q a' w):(Code.seq xr30 X).wp Tryz.prog Q a w:=by
 have d2:=cell_blk hd.doc 2;simp at d2;have hdoc:=hd.doc;rw[←hq]at hdoc
 show (Code.seq (Code.seq xr30h (Code.cond (.tmp 147) (Code.seq xrt31 .ret) .skip)) X).wp Tryz.prog Q a w
 cases st with
 |none=>
  have Hok:=hid (fun a'=>ok a' rfl);simp only[stV]at d2;obtain ⟨vv,rfl⟩:=hf.shape;clear hf hd hrn h1 h2 hq bad ok hdoc;dsimp only[xr30h,ncs,ncl,ncr,ncb,nco,nct,nce,ncx,Tryz.f22];go_wp2;exact Hok.out _ ⟨rfl,rfl,rfl,rfl,rfl,rfl⟩
 |some e=>
  have te:(e.2==0)=false:=beq_eq_false_iff_ne.2 (hd.ok e rfl);have pe:¬e.2=0:=hd.ok e rfl;have Hbad:=hid (fun a' w'=>bad e a' w' rfl);simp only[stV]at d2 hdoc;have HT:=hid (fun (Q':Exit→Act→World→Prop) (a':Act) (f':XrA a' b o q cap rn db rb) ok'=>xr_t31 (Q:=Q') f' hdoc trivial hrn h1 h2 ok');obtain ⟨vv,rfl⟩:=hf.shape;clear hf hd hrn h1 h2 hq bad ok hdoc;dsimp only[xr30h,ncs,ncl,ncr,ncb,nco,nct,nce,ncx,Tryz.f22]
  go_wp2
  rename_i K1 hK1
  refine HT.out _ _ ⟨rfl,rfl,rfl,rfl,rfl,rfl⟩ (fun a' w' f' hm hz=>hK1 _ _ ?_);go_wp2;exact Hbad.out _ _ f' hm hz
theorem xr_map (X:Code) (hf:XrA a b o q cap rn db rb) (h:XQ w0 w db b o cap ms none rn rb 0 ⟨#[]⟩ false) (hq:q=ms.length) (h0:ms[0]? =some m0)
 (bad:∀e a' w1 w',isMapR m0.nd none=some e→XrE a' rn e.1 e.2→XQ w0 w1 db b o cap ms (some e) rn rb 0 ⟨#[]⟩ false→Mod (fun k=>k=rn) w1 w'→w'.heap[rn]? =some (.cells (resD 0 ⟨#[]⟩ false) 49 (0,0))→Q .ret a' w')
 (ok:∀a' w',isMapR m0.nd none=none→XrA a' b o q cap rn db rb→XQ w0 w' db b o cap ms none rn rb 0 ⟨#[]⟩ false→X.wp Tryz.prog Q a' w'):(Code.seq xr5 X).wp Tryz.prog Q a w:=by
 have Hm:=hid (isMap_r (i:=0) h.dq h0);have HX:=hid h;have Hok:=hid ok;have Hbad:=hid bad;have Hq:=hid hq
 show (Code.seq (Code.seq xr5h (Code.cond (.tmp 22) (Code.seq xrt6 .ret) .skip)) X).wp Tryz.prog Q a w
 generalize isMapR m0.nd none=s2 at*;cases s2 with
 |none=>
  have hz:decide ((none:St)=none)=true:=rfl;rw[hz]at Hm;obtain ⟨vv,rfl⟩:=hf.shape;clear hf h bad ok hq hz h0;dsimp only[xr5h,ncs,ncl,ncr,ncb,nco,nct,nce,ncx,Tryz.f22]
  go_wp2_with fail
  refine Hm.out.mono ?_;rintro r w2 ⟨rfl,hq,hm⟩;have HE:=hid (HX.out.call hq hm);clear hq hm Hm HX;go_wp2;exact Hok.out _ _ trivial ⟨rfl,rfl,rfl,rfl,rfl,rfl⟩ HE.out
 |some e=>
  have hz:decide ((some e:St)=none)=false:=rfl;rw[hz]at Hm;obtain ⟨vv,rfl⟩:=hf.shape;clear hf h bad ok hq hz h0;dsimp only[xr5h,ncs,ncl,ncr,ncb,nco,nct,nce,ncx,Tryz.f22]
  go_wp2_with fail
  refine Hm.out.mono ?_;rintro r w2 ⟨rfl,hq,hm⟩;have hE:=HX.out.call hq hm;have hdoc:=hE.dq.doc;rw[←Hq.out]at hdoc;simp only[stV]at hdoc;have HT:=hid (fun (Q':Exit→Act→World→Prop) (a':Act) (f':XrA a' b o q cap rn db rb) ok'=>xr_t6 (Q:=Q') f' hdoc hE.rbk hE.rnk hE.nd hE.nb ok');have HE:=hid hE;clear hq hm Hm HX hdoc hE;go_wp2
  rename_i K1 hK1
  refine HT.out _ _ ⟨rfl,rfl,rfl,rfl,rfl,rfl⟩ (fun a' w' f' hm hz=>hK1 _ _ ?_);go_wp2;exact Hbad.out e _ _ _ (by first|trivial|rfl) f' HE.out hm hz
structure YQ (w0 w:World) (db b o cap:Nat) (ms:List NdM) (st:St) (rn rb:Nat) (r:Res) (ev tv rv:Value):Prop where
 dq:DQ w0 w db b o cap ms st
 rnk:w.heap[rn]? =some (.cells (resD 0 ⟨#[]⟩ false) 49 (0,0))
 rbk:w.heap[rb]? =some (.cells (resA r ev tv rv) 49 (0,0))
 rows:∃lo,rn<lo∧w0.heap.size≤lo∧ResN w lo r ev tv rv
 nlo:w0.heap.size≤rn
 nd:rn≠db
 nb:rn≠rb
theorem xr_end {r:Res} {ev tv rv:Value} (hf:XrA a b o q cap rn db rb) (h:YQ w0 w db b o cap ms st rn rb r ev tv rv)
 (ok:∀a' w',XrE a' rn 0 0→w'.heap[rn]? =some (.cells (resA r ev tv rv) 49 (0,0))→ResN w' w0.heap.size r ev tv rv→Below w0.heap.size w0 w'→Q .ret a' w'):xrE.wp Tryz.prog Q a w:=by
 obtain ⟨lo,l1,l2,hr⟩:=h.rows;obtain ⟨ea,ec,he,_⟩:=hr.toL.e;obtain ⟨ta,tc,ht,_⟩:=hr.toL.t;obtain ⟨ra,rc,hru,_⟩:=hr.toL.r;have r0:=cell_blk h.rbk 0;have r1:=cell_blk h.rbk 1;have r2:=cell_blk h.rbk 2;have r3:=cell_blk h.rbk 3;have r4:=cell_blk h.rbk 4;have r5:=cell_blk h.rbk 5;have r6:=cell_blk h.rbk 6;have r7:=cell_blk h.rbk 7;have c0:=cell_blk h.rnk 0;have c1:=cell_blk h.rnk 1;have c2:=cell_blk h.rnk 2
 have c3:=cell_blk h.rnk 3;have c4:=cell_blk h.rnk 4;have c5:=cell_blk h.rnk 5;have c6:=cell_blk h.rnk 6;have c7:=cell_blk h.rnk 7;have fz:=fun j=>frozen_blk h.rnk j;unfold resD at c0 c1 c2 c3 c4 c5 c6 c7;unfold resA at r0 r1 r2 r3 r4 r5 r6 r7;simp at c0 c1 c2 c3 c4 c5 c6 c7 r0 r1 r2 r3 r4 r5 r6 r7;have HE:=hid (over8 (v0:= .int .i64 r.kind) (v1:= .string r.name) (v2:=ev) (v3:=tv) (v4:= .string r.host) (v5:=rv) (v6:= .string r.route) (v7:= .bool r.del) (w:=w) h.rnk rfl)
 have HF:=hid (fun w' (hm:Mod (fun k=>k=rn) w w')=>show ResN w' w0.heap.size r ev tv rv∧Below w0.heap.size w0 w' from
  ⟨(hr.mod hm (fun g hg e=>by have:=hr.fe g hg;omega) (fun g hg e=>by have:=hr.ft g hg;omega) (fun g hg e=>by have:=hr.fu g hg;omega)).down l2,h.dq.below.trans (hm.below h.dq.below.size fun k hk=>by have:=h.nlo;omega)⟩)
 have Hok:=hid (fun a' w' f' hb hn hbl=>ok a' w' f' hb hn hbl);unfold resA at Hok;rw[he,ht,hru]at HE HF Hok;rw[he]at r2;rw[ht]at r3;rw[hru]at r5;obtain ⟨vv,rfl⟩:=hf.shape;clear hf h ok hr he ht hru l1 l2;dsimp only[xrE,ncs,ncl,ncr,ncb,nco,nct,nce,ncx,Tryz.f22];go_wp2;obtain ⟨m1,m2⟩:=HE.out _ rfl;obtain ⟨n1,n2⟩:=HF.out _ m1;exact Hok.out _ _ ⟨rfl,rfl,rfl,rfl,rfl⟩ m2 n1 n2
end
def ValR (w:World) (vb:Nat) (v:Val):Prop:=w.heap[vb]? =some (.cells #[.int .i64 v.kind,.bool v.bool,.int .i64 v.int,.float .f64 v.real,.string v.text] 108 (0,0))
section
variable {w0 w:World} {Q:Exit→Act→World→Prop} {a:Act} {ms:List NdM} {st:St} {b o q cap rn db rb k vb:Nat} {kd:Int} {nm:ByteArray} {dl:Bool} {m0 mk:NdM}
theorem xr_d24 (Y:Code) (hf:XrX a b o q cap rn db rb (some k)) (h:XQ w0 w db b o cap ms st rn rb kd nm dl) (hq:q=ms.length) (hk:ms[k]? =some mk)
 (ok:∀a' w' vb,XrV a' b o q cap rn db rb (some k) vb→XQ w0 w' db b o cap ms st rn rb kd nm dl→ValR w' vb (readS mk.nd.text mk.nd.quoted)→Y.wp Tryz.prog Q a' w'):(Code.seq xrD24 Y).wp Tryz.prog Q a w:=by
 have c:=(h.dq.at hk).1;have hts:=(h.dq.at hk).2.text;have x2:=c.c2;have x3:=c.c3;have bk:(k:Int)<(q:Int):=by have:=(List.getElem?_eq_some_iff.1 hk).1;omega
 have hst:= @store_float;have HW:=hid h;have Hr3:=hid (fun w1 (hb1:Below w.heap.size w w1)=>refRead_walk w1 mk.nd.text (by omega) mk.nd.quoted);unfold ReadPost at Hr3;unfold ValR at ok;generalize readS mk.nd.text mk.nd.quoted=rv at*;obtain ⟨vk,vbl,vi,vr,vt⟩:=rv;unfold Val.v valV at Hr3;simp only at Hr3 ok;have Hok:=hid ok;have hv:fldV (some k)=(k:Int):=rfl;obtain ⟨vv,rfl⟩:=hf.shape;rw[hv];clear hf ok h c hts hk hq hv
 dsimp only[xrD24,ncs,ncl,ncr,ncb,nco,nct,nce,ncx,Tryz.f22]
 go_wp2_with fail
 refine wp_calm2 ?_;have hK0:=kd_first (w3:=w) x2 x3
 go_region_held3 (fun w'=>Below w.heap.size w w'∧w'.cell? ⟨b,o+k*6+2,none⟩=some (.string mk.nd.text)∧w'.cell? ⟨b,o+k*6+3,none⟩=some (.bool mk.nd.quoted)) (first|exact hK0|with_reducible exact kd_a0 x2 x3 _|with_reducible exact kd_s1 x2 x3 hb4|with_reducible exact kd_s2 x2 x3 hb4|with_reducible exact kd_e1 x2 x3 hb4 _|with_reducible exact kd_e2 x2 x3 hb4)
  (first|(go_at_call 60;refine (Hr3.out _ ?_).mono ?_;(refine kd_below (b:=b) (o2:=o+k*6+2) (o3:=o+k*6+3) (t:=mk.nd.text) (q:=mk.nd.quoted) ?_;assumption);rintro r w4 ⟨rfl,hb4⟩;try (refine zero_then hb4 ?_;intro z0 z1 z2 z3 z4 zf)))
 all_goals go_wp2_with fail
 ·refine Hok.out _ _ _ ⟨rfl,rfl,rfl,rfl,rfl,rfl,rfl,rfl⟩ ?_ ?_
  ·exact HW.out.later (kd_e1 x2 x3 hb4 _).1
  ·exact alloc_new _
 ·refine Hok.out _ _ _ ⟨rfl,rfl,rfl,rfl,rfl,rfl,rfl,rfl⟩ ?_ ?_
  ·exact HW.out.later (kd_e2 x2 x3 hb4).1
  ·exact val_e2 hb4
theorem xr_d25 (hf:XrV a b o q cap rn db rb (some k) vb) (h:XQ w0 w db b o cap ms none rn rb kd nm dl) (hq:q=ms.length) (hk:ms[k]? =some mk) (hv:ValR w vb (readS mk.nd.text mk.nd.quoted))
 (ok:∀a' w',XrA a' b o q cap rn db rb→XQ w0 w' db b o cap ms (if isTrue mk.nd=false then some (mk.nd.line,123) else none) rn rb kd nm dl→Q .normal a' w'):xrD25.wp Tryz.prog Q a w:=by
 have c:=(h.dq.at hk).1;have x0:=c.c0;have x4:=c.c4;have d0:=(h.dq.heads hq).1;have bk:(k:Int)<(q:Int):=by have:=(List.getElem?_eq_some_iff.1 hk).1;omega
 have HW:=hid h;have Hfl:=hid (fail_r h.dq mk.nd.line 123 (by decide));have hfr:failR none mk.nd.line 123=some (mk.nd.line,123):=rfl;rw[hfr]at Hfl;have hi1:¬mk.nd.kind=1→isTrue mk.nd=false:=isTrue_kind;have hi2:mk.nd.kind=1→isTrue mk.nd=(decide ((readS mk.nd.text mk.nd.quoted).kind=2)&&(readS mk.nd.text mk.nd.quoted).bool):=isTrue_rd;unfold ValR at hv;generalize isTrue mk.nd=it at*;generalize readS mk.nd.text mk.nd.quoted=rv at*
 obtain ⟨vk,vbl,vi,vr,vt⟩:=rv;simp only at hv hi2;have y0:=cell_blk hv 0;have y1:=cell_blk hv 1;simp at y0 y1;generalize mk.nd.kind=kq at*;have Hok:=hid ok;have hvk:fldV (some k)=(k:Int):=rfl;obtain ⟨vv,rfl⟩:=hf.shape;rw[hvk];clear hf ok h c hk hv hq hvk hfr;by_cases hkd:kq=1
 ·have hit:=hi2 hkd;subst hkd;clear hi1 hi2;by_cases hk2:vk=2
  ·subst hk2;simp only[decide_true,Bool.true_and]at hit;cases vbl with
   |true=>
    have Hok2:=hid (fun a' w' f' h'=>Hok.out a' w' f' (by rw[hit,if_neg (by simp)];exact h'));clear hit Hok Hfl;dsimp only[xrD25,ncs,ncl,ncr,ncb,nco,nct,nce,ncx,Tryz.f22];go_wp2;exact Hok2.out _ _ ⟨rfl,rfl,rfl,rfl,rfl,rfl⟩ HW.out
   |false=>
    have Hok2:=hid (fun a' w' f' h'=>Hok.out a' w' f' (by rw[hit,if_pos rfl];exact h'));clear hit Hok;dsimp only[xrD25,ncs,ncl,ncr,ncb,nco,nct,nce,ncx,Tryz.f22]
    go_wp2_with fail
    refine Hfl.out.mono ?_;rintro r w2 ⟨rfl,hq2,hm2⟩;have HE:=hid (HW.out.call hq2 hm2);clear hq2 hm2 Hfl HW x0 x4 d0 y0 y1;go_wp2;exact Hok2.out _ _ ⟨rfl,rfl,rfl,rfl,rfl,rfl⟩ HE.out
  ·rw[dF hk2,Bool.false_and]at hit;have Hok2:=hid (fun a' w' f' h'=>Hok.out a' w' f' (by rw[hit,if_pos rfl];exact h'));clear hit Hok;dsimp only[xrD25,ncs,ncl,ncr,ncb,nco,nct,nce,ncx,Tryz.f22]
   go_wp2_with fail
   refine Hfl.out.mono ?_;rintro r w2 ⟨rfl,hq2,hm2⟩;have HE:=hid (HW.out.call hq2 hm2);clear hq2 hm2 Hfl HW x0 x4 d0 y0 y1;go_wp2;exact Hok2.out _ _ ⟨rfl,rfl,rfl,rfl,rfl,rfl⟩ HE.out
 ·have hit:=hi1 hkd;clear hi1 hi2;have Hok2:=hid (fun a' w' f' h'=>Hok.out a' w' f' (by rw[hit,if_pos rfl];exact h'));clear hit Hok;dsimp only[xrD25,ncs,ncl,ncr,ncb,nco,nct,nce,ncx,Tryz.f22]
  go_wp2_with fail
  refine Hfl.out.mono ?_;rintro r w2 ⟨rfl,hq2,hm2⟩;have HE:=hid (HW.out.call hq2 hm2);clear hq2 hm2 Hfl HW x0 x4 d0 y0 y1;go_wp2;exact Hok2.out _ _ ⟨rfl,rfl,rfl,rfl,rfl,rfl⟩ HE.out
theorem xr_d27 (Y:Code) (hf:XrA a b o q cap rn db rb) (h:XQ w0 w db b o cap ms st rn rb kd nm dl) (h0:ms[0]? =some m0)
 (ok:∀a' w',XrA a' b o q cap rn db rb→XQ w0 w' db b o cap ms (onlyR (nds ms) [kKind,kName,kDelete] m0.nd.kids st) rn rb kd nm dl→Y.wp Tryz.prog Q a' w'):(Code.seq xrD27 Y).wp Tryz.prog Q a w:=by
 have hb1:=(Below.refl w.heap.size w).alloc (Nat.le_refl _) (.cells #[.string kKind,.string kName,.string kDelete] 9);have HT:=hid (h.later hb1);have hlt:=lt_of_heap h.dq.doc;have Ho:=hid (only_r (i:=0) (h.later hb1).dq h0 _ _ (strs3 w kKind kName kDelete) (fun g hg e=>by injection hg with hg;have hg2:w.heap.size=g:=hg;omega));have Hok:=hid ok;obtain ⟨vv,rfl⟩:=hf.shape;clear hf h ok hb1 hlt h0
 generalize onlyR (nds ms) [kKind,kName,kDelete] m0.nd.kids st=s2 at*;unfold kKind kName kDelete at Ho HT;dsimp only[xrD27,ncs,ncl,ncr,ncb,nco,nct,nce,ncx,Tryz.f22]
 go_wp2_with fail
 refine Ho.out.mono ?_;rintro r w2 ⟨rfl,hq,hm⟩;have HE:=hid (HT.out.call hq hm);clear hq hm Ho HT;go_wp2;exact Hok.out _ _ ⟨rfl,rfl,rfl,rfl,rfl,rfl⟩ HE.out
theorem xr_d28 (hf:XrA a b o q cap rn db rb) (h:XQ w0 w db b o cap ms st rn rb kd nm dl)
 (ok:∀a' w',XrA a' b o q cap rn db rb→XQ w0 w' db b o cap ms st rn rb kd nm true→Q .normal a' w'):xrD28.wp Tryz.prog Q a w:=by
 have x0:=cell_blk h.rbk 7;have xf:=frozen_blk h.rbk 7;unfold resD at x0;simp at x0;have HE:=hid (h.put 7 (.bool true) (kd':=kd) (nm':=nm) (dl':=true) rfl);have Hok:=hid ok;obtain ⟨vv,rfl⟩:=hf.shape;clear hf h ok;dsimp only[xrD28,ncs,ncl,ncr,ncb,nco,nct,nce,ncx,Tryz.f22];go_wp2;exact Hok.out _ _ ⟨rfl,rfl,rfl,rfl,rfl,rfl⟩ HE.out
theorem xr_f {kn:Nat} (hf:XrA a b o q cap rn db rb) (h:XQ w0 w db b o cap ms none rn rb (kn:Int) nm false) (h0:ms[0]? =some m0) (hk1:1≤kn) (hk4:kn≤4)
 (ok:∀a' w' ev tv rv,XrA a' b o q cap rn db rb→YQ w0 w' db b o cap ms (restR (nds ms) (resK (kn:Int) nm) kn none).2 rn rb (restR (nds ms) (resK (kn:Int) nm) kn none).1 ev tv rv→Q .normal a' w'):xrF.wp Tryz.prog Q a w:=by
 have Hr:=hid (rest_r h.dq h0 h.rbk h.bd h.blo hk1 hk4);have HF:=hid (fun w' (hp:PostR w0 w db b o cap ms rb (restR (nds ms) (resK (kn:Int) nm) kn none) w')=>show ∃ev tv rv,YQ w0 w' db b o cap ms (restR (nds ms) (resK (kn:Int) nm) kn none).2 rn rb (restR (nds ms) (resK (kn:Int) nm) kn none).1 ev tv rv from by
  obtain ⟨hd,hm,ev,tv,rv,hb,hn⟩:=hp;exact ⟨ev,tv,rv,hd,hm.heap h.rnk (fun e=>e.elim h.nd h.nb),hb,⟨w.heap.size,lt_of_heap h.rnk,h.dq.below.size,hn⟩,h.nlo,h.nd,h.nb⟩)
 have Hok:=hid ok;generalize restR (nds ms) (resK (kn:Int) nm) kn none=p at*;obtain ⟨vv,rfl⟩:=hf.shape;clear hf h ok h0 hk1 hk4;dsimp only[xrF,ncs,ncl,ncr,ncb,nco,nct,nce,ncx,Tryz.f22]
 go_wp2_with fail
 refine Hr.out.mono ?_;rintro r w2 ⟨rfl,hp⟩;obtain ⟨ev,tv,rv,hy⟩:=HF.out _ hp;have HE:=hid hy;clear hp hy Hr HF;go_wp2;exact Hok.out _ _ _ _ _ ⟨rfl,rfl,rfl,rfl,rfl,rfl⟩ HE.out
end
end Go.Proofs.YtfenoaeoedobmaaGreatDoor
