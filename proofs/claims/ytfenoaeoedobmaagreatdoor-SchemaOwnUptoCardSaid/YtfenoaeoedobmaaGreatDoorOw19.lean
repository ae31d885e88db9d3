/-
Parts of a proof.
-/
import Derived.Test.YtfenoaeoedobmaaGreatDoorOw17
import Derived.Test.YtfenoaeoedobmaaGreatDoorOw18
set_option linter.unusedVariables false
set_option linter.unusedSimpArgs false
set_option maxHeartbeats 8000000
set_option maxRecDepth 20000
namespace Go.Proofs.YtfenoaeoedobmaaGreatDoor
open Go Go.RowKit
structure DocB (w0 w:World) (db b o cap:Nat) (ms:List NdM):Prop where
 nod:Nds w0 (.slice (some ⟨b,o,none⟩) ms.length cap) ms
 blt:b<w0.heap.size
 below:Below w0.heap.size w0 w
 dlo:w0.heap.size<=db
 doc:w.heap[db]? =some (.cells #[.slice (some ⟨b,o,none⟩) ms.length cap] 79 (0,0))
 tree:dI (nds ms)=true
 glob:Glob w0
theorem DocB.toM {w0 w:World} {db b o cap:Nat} {ms:List NdM} (h:DocB w0 w db b o cap ms):DocM w db b o cap ms:=
 ⟨h.nod.later h.below,Nat.lt_of_lt_of_le h.blt h.below.size,h.doc,h.tree⟩
theorem DocB.step {w0 w w2:World} {db b o cap:Nat} {ms:List NdM} {F:Nat->Prop} (h:DocB w0 w db b o cap ms) (hm:Mod F w w2) (h1:¬F db) (h2:∀k,F k->w0.heap.size<=k):DocB w0 w2 db b o cap ms:=
 ⟨h.nod,h.blt,h.below.trans (hm.below h.below.size h2),h.dlo,hm.heap h.doc h1,h.tree,h.glob⟩
theorem DocB.later {w0 w w2:World} {db b o cap:Nat} {ms:List NdM} (h:DocB w0 w db b o cap ms) (hb:Below w.heap.size w w2):DocB w0 w2 db b o cap ms:=
 h.step (F:=fun _=>False) (Mod.ofBelow hb (fun k hk hge=>by omega)) id (fun _ f=>f.elim)
theorem DocB.g {w0 w:World} {db b o cap:Nat} {ms:List NdM} (h:DocB w0 w db b o cap ms):Glob w:=h.glob.later h.below
structure RF (w wr:World) (rb T f:Nat) (pre:Value->Array Value) (e sz:Nat) (v:Value) (n:Nat) (xs:List Value):Prop where
 mod:Mod (fun k=>k=rb) w wr
 rlt:rb<w.heap.size
 blk:wr.heap[rb]? =some (.cells (pre v) T (0,0))
 row:wr.ownsRow 0 e sz v n xs
 new:∀g,v.ownBlock=some g->w.heap.size<=g
 set:∀v v',(pre v).setIfInBounds f v'=pre v'
theorem RF.first {w:World} {rb T f:Nat} {pre:Value->Array Value} {e sz:Nat} (hb:w.heap[rb]? =some (.cells (pre (.slice none 0 0)) T (0,0))) (hs:∀v v',(pre v).setIfInBounds f v'=pre v'):RF w w rb T f pre e sz (.slice none 0 0) 0 []:=
 ⟨Mod.refl _ _,ag hb,hb,World.ownsRow_nil _ _ _ _,nofun,hs⟩
theorem RF.later {w wr w2:World} {rb T f:Nat} {pre:Value->Array Value} {e sz n:Nat} {v:Value} {xs:List Value} (h:RF w wr rb T f pre e sz v n xs) (hb:Below wr.heap.size wr w2):RF w w2 rb T f pre e sz v n xs:=
 ⟨h.mod.trans' (Mod.ofBelow (F:=fun _=>False) hb (fun k hk hge=>by omega)) (fun _ _ q=>q.elim),h.rlt,(hb.block _ (ag h.blk)).trans h.blk,jS h.row hb,h.new,h.set⟩
theorem RF.put {w wr w2:World} {rb T f:Nat} {pre:Value->Array Value} {e sz n m:Nat} {v v':Value} {xs ys:List Value} (h:RF w wr rb T f pre e sz v n xs) (own2:w2.ownsRow 0 e sz v' m ys) (gr2:wr.grownBy w2 v.ownBlock)
 (new2:∀g,v'.ownBlock=some g->v.ownBlock=some g\/wr.heap.size<=g):RF w (w2.setCell ⟨rb,f,none⟩ v') rb T f pre e sz v' m ys:=by
 have hsz:=h.mod.size;have hm:Mod (fun k=>v.ownBlock=some k) wr w2:=(Mod.refl _ _).grown gr2 (fun k e _=>e);have hb:=hm.heap h.blk (fun e=>by have:=h.new rb e;have:=h.rlt;omega);have hnew:∀g,v'.ownBlock=some g->w.heap.size<=g:=fun g hg=>by
  rcases new2 g hg with q|q
  ·exact h.new g q
  ·omega
 refine ⟨?_,h.rlt,by rw[aE hb,h.set],cL own2 fun g hg=>aO _ _ (fun e=>by have h1:=hnew g hg;have h2:=h.rlt;have e2:g=rb:=e;omega),hnew,h.set⟩;refine (h.mod.trans' hm (fun i hi q=>by have:=h.new i q;omega)).setCell _ _ (fun _=>rfl)
theorem RF.cells {w wr:World} {rb T f:Nat} {pre:Value->Array Value} {e sz n:Nat} {v:Value} {xs:List Value} (h:RF w wr rb T f pre e sz v n xs) (j:Nat):wr.cell? ⟨rb,j,none⟩=(pre v)[j]? /\wr.frozen? ⟨rb,j,none⟩=false:=⟨af h.blk j,ai h.blk j⟩
theorem SlR.mod {α:Type} {w w2:World} {v:Value} {sz:Nat} {xs:List α} {cells:α->List Value} {F:Nat->Prop} (h:SlR w v sz xs cells) (hm:Mod F w w2) (hF:∀b,v.ownBlock=some b->¬F b):SlR w2 v sz xs cells:=by
 obtain ⟨ao,cap,hv,hl,h⟩:=h;refine ⟨ao,cap,hv,hl,fun h0=> ?_⟩;obtain ⟨b,o,ha,hlt,hc⟩:=h h0;have hb:=hF b (by rw[hv,ha];rfl);exact ⟨b,o,ha,Nat.lt_of_lt_of_le hlt hm.size,fun i x hi j u hu=>hm.cell (hc i x hi j u hu) hb⟩
theorem RF.base {w w1 wr:World} {rb T f:Nat} {pre:Value->Array Value} {e sz n:Nat} {v:Value} {xs:List Value} (h:RF w1 wr rb T f pre e sz v n xs) (hb:Below w.heap.size w w1) (hlt:rb<w.heap.size):RF w wr rb T f pre e sz v n xs:=
 ⟨(Mod.ofBelow (F:=fun k=>k=rb) hb (fun k hk hge=>by omega)).trans h.mod,hlt,h.blk,h.row,fun g hg=>aAe hb.size (h.new g hg),h.set⟩
def cf {α:Type} (w:World) (rb f:Nat) (pre:Value->Array Value) (e sz:Nat) (cells:α->List Value) (x:R (List α)) (r:Ending) (w':World):Prop:=
 (match x with| .ok out=>r= .returned (.tuple #[])/\∃v,RF w w' rb 49 f pre e sz v out.length (out.flatMap cells)| .error e=>r=Pan e/\∃v,w'.heap[rb]? =some (.cells (pre v) 49 (0,0)))/\Mod (fun k=>k=rb) w w'
theorem cf.ok {α:Type} {w w':World} {rb f:Nat} {pre:Value->Array Value} {e sz:Nat} {cells:α->List Value} {x:R (List α)} {out:List α} {v:Value} (hx:x= .ok out) (h:RF w w' rb 49 f pre e sz v out.length (out.flatMap cells)):cf w rb f pre e sz cells x (.returned (.tuple #[])) w':=by
 subst hx;exact ⟨⟨rfl,v,h⟩,h.mod⟩
theorem cf.err {α:Type} {w w':World} {rb f:Nat} {pre:Value->Array Value} {e sz:Nat} {cells:α->List Value} {x:R (List α)} {st:Stop} {v:Value} {n:Nat} {xs:List Value} (hx:x= .error st) (h:RF w w' rb 49 f pre e sz v n xs):cf w rb f pre e sz cells x (Pan st) w':=by
 subst hx;exact ⟨⟨rfl,v,h.blk⟩,h.mod⟩
theorem oZ {w:World} {db b o cap:Nat} {ms:List NdM} (h:DocM w db b o cap ms) {m:NdM} (hm:m∈ms):(dK ms m).map (·.nd)=m.nd.kids.map fun k=>(nds ms)[k.toNat]! :=by
 unfold dK;rw[List.map_map];refine List.map_congr_left fun x hx=> ?_;obtain ⟨k,mk,rfl,hk,_⟩:=h.kid hm hx
 show (ms[((k:Int)).toNat]!).nd=(nds ms)[((k:Int)).toNat]!
 rw[Int.toNat_natCast,eS hk,List.getElem!_eq_getElem?_getD,hk];rfl
theorem mq {w:World} {db b o cap:Nat} {ms:List NdM} (h:DocM w db b o cap ms) {m:NdM} (hm:m∈ms) {mk:NdM} (hk:mk∈dK ms m):mk∈ms:=by
 unfold dK at hk;obtain ⟨x,hx,rfl⟩:=List.mem_map.1 hk;obtain ⟨k,mk,rfl,hk,hmem⟩:=h.kid hm hx
 show ms[((k:Int)).toNat]! ∈ms
 rw[Int.toNat_natCast,List.getElem!_eq_getElem?_getD,hk];exact hmem
def dY (ns:List Nd) (m:Nd):R (List ByteArray):=
 match bC ns m bn with
 |none=> .ok []
 |some n=>
  match cn ns n 0 16 with
  | .error e=> .error e
  | .ok l=>dS l []
theorem sX (ns:List Nd) (m:Nd) (r:Res) (h:r.endps=[]):fG ns m r=match dY ns m with| .ok out=> .ok {r with endps:=out}| .error e=> .error e:=by
 unfold fG dY;cases bC ns m bn with
 |none=>simp only;rw[<-h]
 |some n=>
  simp only;cases cn ns n 0 16 with
  |error e=>rfl
  |ok l=>
   simp only;cases dS l []<;>rfl
theorem KQ:kP 42 :=gC Tryz.func42 (by kernel_rfl) (by kernel_rfl)
theorem iv (w:World) (m:NdM) (hm:m.Ok w):
 Calls Tryz.prog 41 #[m.v,.func (.func 42) #[] #[]] w fun r w'=>(match aS m.nd isName with| .ok s=>r= .returned (.string s)| .error e=>r=Pan e)/\Below w.heap.size w w':=
 od w m hm _ KQ isName fun w1 _=>(Ev w1 m.nd.text hm.text).mono (by
  rintro r w' ⟨hr,rfl⟩;exact ⟨hr,aAb _ _⟩)
theorem uB {k:Nd} {r:List Nd} {out:List ByteArray} {e:Stop} (h:aS k isName= .error e):dS (k::r) out= .error e:=by rw[dS,h]
theorem ux {k:Nd} {r:List Nd} {out:List ByteArray} {s:ByteArray} (h:aS k isName= .ok s) (h2:s∈out):dS (k::r) out= .error (k.line,91):=by rw[dS,h];simp only;rw[if_pos h2]
theorem ym {k:Nd} {r:List Nd} {out:List ByteArray} {s:ByteArray} (h:aS k isName= .ok s) (h2:¬s∈out):dS (k::r) out=dS r (out++[s]):=by rw[dS,h];simp only;rw[if_neg h2]
theorem kV:(Tryz.prog.info? 9).map (fun i=>(i.zero,i.size,i.bytes))=some (some (.string ⟨#[]⟩),1,16):=by kernel_rfl
theorem kr {n:Nd} {so:ByteArray->Bool} {s:ByteArray} (h:aS n so= .ok s):s=n.text:=by
 unfold aS at h
 split at h
 ·cases h
 ·injection h with h
  exact h.symm
theorem zb (w0 w:World) (db b o cap:Nat) (ms:List NdM) (h:DocB w0 w db b o cap ms) (m:NdM) (hm:m∈ms) (rb:Nat) (hrb:w0.heap.size<=rb) (hne:rb≠db) (kd:Int) (nm ht rt:ByteArray) (tv rv:Value) (dl:Bool)
 (hblk:w.heap[rb]? =some (.cells #[.int .i64 kd,.string nm,.slice none 0 0,tv,.string ht,rv,.string rt,.bool dl] 49 (0,0))):
 Calls Tryz.prog 47 #[.pointer (some ⟨db,0,none⟩),m.v,.pointer (some ⟨rb,0,none⟩)] w (cf w rb 2 (fun v=>#[.int .i64 kd,.string nm,v,tv,.string ht,rv,.string rt,.bool dl]) 9 1 aR (dY (nds ms) m.nd)):=by
 have hM:=h.toM;have hok:=hM.ok hm;obtain ⟨ao2,c2,hkv,_,_⟩:=aF hok.kids;obtain ⟨q,hq⟩:=ex (m.nd.kids.length);rw[<-hq]at hkv;have Hf:=hid (fun w1 (hb1:Below w.heap.size w w1)=>j2 w1 db b o cap ms (hM.later hb1) m hm bn);rw[aZ hkv]at Hf |-;have Hbn:=hid (fun o=>(aAb w.heap.size w).alloc (aAa _) o);have hF0:RF w w rb 49 2 (fun v=>#[.int .i64 kd,.string nm,v,tv,.string ht,rv,.string rt,.bool dl]) 9 1 (.slice none 0 0) 0 []:=RF.first hblk (fun _ _=>rfl)
 have HF0:=hid hF0;have HD:=hid h;cases hfn:bz (nds ms) m.nd bn with
 |none=>
  have hx:dY (nds ms) m.nd= .ok []:=by unfold dY bC;rw[hfn];rfl
  rw[hx];rw[hfn]at Hf;have hfa:eg b o none= .pointer none:=rfl;rw[hfa]at Hf;unfold bn at Hf;clear hM hok hm hkv hq hblk hF0 h hfn hx hfa;go_enter Tryz.func47,Tryz.ntmps47
  go_wp2_with fail
  refine (Hf.o _ (Hbn.o _)).mono ?_;rintro r w1 ⟨rfl,hb⟩;have hb0:=Hbn.o (.cells #[.int .i64 m.nd.kind,.string m.nd.key,.string m.nd.text,.bool m.nd.quoted,.int .i64 m.nd.line,.slice ao2 q c2] 55);have HE:=hid (HF0.o.later (hb0.trans (hb.mono hb0.size)));clear hb Hf HF0 hb0;go_wp2
  first|go_end0|refine bodyPost_ret (results_none rfl _ _ _) rfl ?_
  exact cf.ok (out:=[]) rfl HE.o
 |some k=>
  obtain ⟨mk,hmk⟩:∃mk,ms[k]? =some mk:=by
   obtain ⟨z,hz,e,_⟩:=jD hfn;obtain ⟨k',mk,e2,hk',_⟩:=hM.kid hm hz;exact ⟨mk,by rw[<-e,e2];simpa using hk'⟩
  have hmem:=List.mem_of_getElem? hmk;have hkd:=eS hmk;have hx:dY (nds ms) m.nd=match cn (nds ms) mk.nd 0 16 with| .error e=> .error e| .ok l=>dS l []:=by
   unfold dY bC;rw[hfn];simp only[Option.map_some,hkd]
  rw[hx];rw[hfn]at Hf;have hfa:eg b o (some k)= .pointer (some ⟨b,o+k*6,none⟩):=rfl;rw[hfa]at Hf;unfold bn at Hf;have c:=(hM.at hmk).1;have hokk:=(hM.at hmk).2;obtain ⟨ao3,c3,hkv3,_,_⟩:=aF hokk.kids;obtain ⟨q3,hq3⟩:=ex (mk.nd.kids.length);rw[<-hq3]at hkv3;have x0:∀w1,Below w.heap.size w w1->w1.cell? ⟨b,o+k*6,none⟩=some (.int .i64 mk.nd.kind):=fun w1 hb=>(hb.cell hM.blt).trans c.c0
  have x1:∀w1,Below w.heap.size w w1->w1.cell? ⟨b,o+k*6+1,none⟩=some (.string mk.nd.key):=fun w1 hb=>(hb.cell hM.blt).trans c.c1;have x2:∀w1,Below w.heap.size w w1->w1.cell? ⟨b,o+k*6+2,none⟩=some (.string mk.nd.text):=fun w1 hb=>(hb.cell hM.blt).trans c.c2;have x3:∀w1,Below w.heap.size w w1->w1.cell? ⟨b,o+k*6+3,none⟩=some (.bool mk.nd.quoted):=fun w1 hb=>(hb.cell hM.blt).trans c.c3;have x4:∀w1,Below w.heap.size w w1->w1.cell? ⟨b,o+k*6+4,none⟩=some (.int .i64 mk.nd.line):=fun w1 hb=>(hb.cell hM.blt).trans c.c4
  have x5:∀w1,Below w.heap.size w w1->w1.cell? ⟨b,o+k*6+5,none⟩=some (.slice ao3 q3 c3):=fun w1 hb=>(hb.cell hM.blt).trans (by rw[<-hkv3];exact c.c5);have X:=hid (And.intro x0 (And.intro x1 (And.intro x2 (And.intro x3 (And.intro x4 x5)))));have Hl:=hid (fun w1 (hb1:Below w.heap.size w w1)=>show Calls Tryz.prog 80 #[.pointer (some ⟨db,0,none⟩),mk.v,.int .i64 0,.int .i64 16] w1 fun r w'=>
   (match cn (nds ms) mk.nd 0 16 with| .ok _=>∃v,r= .returned v/\SlR w' v 6 (dK ms mk) NdM.cells/\(∀g,v.ownBlock=some g->w1.heap.size<=g)| .error e=>r=Pan e)/\Below w1.heap.size w1 w' from
   wI w1 db b o cap ms (hM.later hb1) mk hmem 0 16 (by decide) (by decide))
  rw[aZ hkv3]at Hl;have Hkn:=hid (oZ hM hmem);have Hkm:=hid (fun y (hy:y∈dK ms mk)=>mq hM hmem hy);clear hfn hx hkd hfa c hokk hkv3 hq3 hmk x0 x1 x2 x3 x4 x5 hok hkv hq hblk hF0 hM h hm;cases hlp:cn (nds ms) mk.nd 0 16 with
  |error e=>
   rw[hlp]at Hl;simp only at Hl |-;clear hlp;go_enter Tryz.func47,Tryz.ntmps47
   go_wp2_with fail
   refine (Hf.o _ (Hbn.o _)).mono ?_;rintro r w1 ⟨rfl,hb⟩;have hb0:=Hbn.o (.cells #[.int .i64 m.nd.kind,.string m.nd.key,.string m.nd.text,.bool m.nd.quoted,.int .i64 m.nd.line,.slice ao2 q c2] 55);have hb1:=hb0.trans (hb.mono hb0.size);have HB:=hid hb1;have Hl1:=hid (Hl.o w1 hb1);have y0:=X.o.1 w1 hb1;have y1:=X.o.2.1 w1 hb1;have y2:=X.o.2.2.1 w1 hb1;have y3:=X.o.2.2.2.1 w1 hb1
   have y4:=X.o.2.2.2.2.1 w1 hb1;have y5:=X.o.2.2.2.2.2 w1 hb1;clear hb Hf hb0 hb1 Hl X
   go_wp2_with fail
   refine Hl1.o.mono ?_;rintro r w2 ⟨rfl,hb2⟩;have HE:=hid (HF0.o.later (HB.o.trans (hb2.mono HB.o.size)));exact ⟨rfl,cf.err rfl HE.o⟩
  |ok L=>
   rw[hlp]at Hl;simp only at Hl |-;have hL:L=(dK ms mk).map (·.nd):=by
    rw[Hkn.o];unfold cn at hlp
    split at hlp
    ·cases hlp
    ·split at hlp
     ·cases hlp
     ·injection hlp with hlp
      exact hlp.symm
   have hLl:(dK ms mk).length<=16:=by
    rw[iK];unfold cn at hlp
    split at hlp
    ·cases hlp
    ·split at hlp
     ·cases hlp
     ·omega
   have HLl:=hid hLl;have HL:=hid hL;clear hlp hL hLl;go_enter Tryz.func47,Tryz.ntmps47
   go_wp2_with fail
   refine (Hf.o _ (Hbn.o _)).mono ?_;rintro r w1 ⟨rfl,hb⟩;have hb0:=Hbn.o (.cells #[.int .i64 m.nd.kind,.string m.nd.key,.string m.nd.text,.bool m.nd.quoted,.int .i64 m.nd.line,.slice ao2 q c2] 55);have hb1:=hb0.trans (hb.mono hb0.size);have HB:=hid hb1;have Hl1:=hid (Hl.o w1 hb1);have y0:=X.o.1 w1 hb1;have y1:=X.o.2.1 w1 hb1;have y2:=X.o.2.2.1 w1 hb1;have y3:=X.o.2.2.2.1 w1 hb1
   have y4:=X.o.2.2.2.2.1 w1 hb1;have y5:=X.o.2.2.2.2.2 w1 hb1;clear hb Hf hb0 hb1 Hl X
   go_wp2_with fail
   refine Hl1.o.mono ?_;rintro r w2 ⟨⟨lv,rfl,hsl,hlnew⟩,hb2⟩;clear y0 y1 y2 y3 y4 y5;have hbw:Below w.heap.size w w2:=HB.o.trans (hb2.mono HB.o.size);obtain ⟨la,lc,hlv,hll,hlat⟩:=hsl;have Hlnew:=hid (fun g hg=>aAe HB.o.size (hlnew g hg));have hlv2:=hlv;obtain ⟨nL,hnL⟩:=ex ((dK ms mk).length);rw[<-hnL]at hlv hlat;have HnL:=hid hnL;have Hlat:=hid hlat;have HB2:=hid hbw;subst hlv;have HF2:=hid (RF.first (w:=w2) (rb:=rb) (T:= 49) (f:=2) (pre:=fun v=>#[.int .i64 kd,.string nm,v,tv,.string ht,rv,.string rt,.bool dl]) (e:= 9) (sz:=1) ((hbw.block _ HF0.o.rlt).trans HF0.o.blk) (fun _ _=>rfl))
   have HD2:=hid (HD.o.later hbw);clear Hl1 hb2 HB hlnew hlv2 hnL hlat hll hbw;go_wp2
   go_loopw [21] (fun vi wr=>∃(j:Nat) (v2:Value) (out:List ByteArray),vi= .int .i64 (j:Int)/\Hid (j<=nL/\out.length=j/\RF w2 wr rb 49 2 (fun v=>#[.int .i64 kd,.string nm,v,tv,.string ht,rv,.string rt,.bool dl]) 9 1 v2 out.length (out.flatMap aR)/\dS L []=dS (L.drop j) out)) (fun vi _=>nL-(intOf vi).toNat)
   case atStart=>exact ⟨0,_,[],rfl,hid ⟨Nat.zero_le _,rfl,HF2.o,rfl⟩⟩
   case round=>
    clear HF2;obtain ⟨j,v2,out,rfl,H⟩:=hrel;obtain ⟨hjn,hol,hrf,hst⟩:=H.o;have HRF:=hid hrf;have hms:=hrf.mod;by_cases hj:j<nL
    ·have tj:decide (j<nL)=true:=dT hj;have bj:(j:Int)<(nL:Int):=by omega
     obtain ⟨y,hy⟩:∃y,(dK ms mk)[j]? =some y:=au (by rw[<-HnL.o];exact hj);have hyk:=Hkm.o y (List.mem_of_getElem? hy);obtain ⟨lb,lo,rfl,hlb,hlc⟩:=Hlat.o (by omega);have hlr:lb≠rb:=fun e=>by have:=Hlnew.o lb rfl;have:=HF0.o.rlt;omega
     have hD:DocB w0 wr db b o cap ms:=HD2.o.step hms (fun e=>hne e.symm) (fun k e=>by rw[e];exact hrb);have hyo:=hD.toM.ok hyk;obtain ⟨ay,cy,hyv,_,_⟩:=aF hyo.kids;obtain ⟨qy,hqy⟩:=ex (y.nd.kids.length);rw[<-hqy]at hyv;have z0:wr.cell? ⟨lb,lo+j*6,none⟩=some (.int .i64 y.nd.kind):=hms.cell (hlc j y hy 0 _ rfl) hlr;have z1:wr.cell? ⟨lb,lo+j*6+1,none⟩=some (.string y.nd.key):=hms.cell (hlc j y hy 1 _ rfl) hlr
     have z2:wr.cell? ⟨lb,lo+j*6+2,none⟩=some (.string y.nd.text):=hms.cell (hlc j y hy 2 _ rfl) hlr;have z3:wr.cell? ⟨lb,lo+j*6+3,none⟩=some (.bool y.nd.quoted):=hms.cell (hlc j y hy 3 _ rfl) hlr;have z4:wr.cell? ⟨lb,lo+j*6+4,none⟩=some (.int .i64 y.nd.line):=hms.cell (hlc j y hy 4 _ rfl) hlr;have z5:wr.cell? ⟨lb,lo+j*6+5,none⟩=some (y.kv):=hms.cell (hlc j y hy 5 _ rfl) hlr;rw[hyv]at z5;have hLj:L[j]? =some y.nd:=by rw[HL.o,List.getElem?_map,hy];rfl
     rw[fC hLj]at hst;have Hw:=hid (fun w3 (hb3:Below wr.heap.size wr w3)=>iv w3 y (hyo.later hb3));rw[aZ hyv]at Hw;have Hst:=hid hst;have Hms0:=hid hms;obtain ⟨Hms,Hgo⟩:=aM (k:=j) (n:=nL) hj (by have:=HLl.o;have:=HnL.o;omega);have Hj:=hid (show j+1<=nL/\out.length=j/\j<=16 from ⟨hj,hol,by have:=HLl.o;have:=HnL.o;omega⟩);have Hbw:=hid (fun o=>(aAb wr.heap.size wr).alloc (aAa _) o)
     have hys:y.nd.text.size<=1048576:=hyo.text;have Hys:=hid hys;clear H hjn hol hrf hst hms hy hyk hlb hlc hlr hD hyo hqy hyv hLj hj hys;cases hwp:aS y.nd isName with
     |error e=>
      rw[hwp]at Hw;have He:=hid (Hst.o.trans (uB hwp));clear hwp Hst
      go_wp2_with fail
      refine (Hw.o _ (Hbw.o _)).mono ?_;rintro r w3 ⟨rfl,hb3⟩;have hb0:=Hbw.o (.cells #[.int .i64 y.nd.kind,.string y.nd.key,.string y.nd.text,.bool y.nd.quoted,.int .i64 y.nd.line,.slice ay qy cy] 55);exact ⟨rfl,cf.err He.o ((HRF.o.base HB2.o HF0.o.rlt).later (hb0.trans (hb3.mono hb0.size)))⟩
     |ok s=>
      rw[hwp]at Hw;have hst2:=kr hwp;have Hwp:=hid hwp;have hss:s.size<=1048576:=by rw[hst2];exact Hys.o
      clear hwp hst2
      go_wp2_with fail
      have hb0:=Hbw.o (.cells #[.int .i64 y.nd.kind,.string y.nd.key,.string y.nd.text,.bool y.nd.quoted,.int .i64 y.nd.line,.slice ay qy cy] 55);refine (Hw.o _ hb0).mono ?_;rintro r w3 ⟨rfl,hb3⟩;have hbw:=hb0.trans (hb3.mono hb0.size);have hk4:w3.cell? ⟨wr.heap.size,4,none⟩=some (.int .i64 y.nd.line):=(hb3.cell (p:=⟨wr.heap.size,4,none⟩) (by simp)).trans (af (ah _) 4)
      have hrf3:=HRF.o.later hbw;have hr2:=(hrf3.cells 2).1;obtain ⟨ao4,c4,hv4⟩:∃ao c,v2= .slice ao out.length c:=by
       rcases hrf3.row.2 with ⟨hv,hn⟩|⟨g,cap,cur,hv,_⟩
       ·exact ⟨none,0,by rw[hv,hn]⟩
       ·exact ⟨_,_,hv⟩
      subst hv4;simp at hr2;have Hc:=hid (pz (w:=w3) (kv:= .slice ao4 out.length c4) (keys:=out) (SlR.ofRow hrf3.row rfl (fun _=>rfl) (by have:=Hj.o;omega) (by decide)) s);have HRF3:=hid hrf3;clear hb0 hb3 hbw hrf3 Hw HRF z0 z1 z2 z3 z4 z5;by_cases hin:s∈out
      ·rw[dT hin]at Hc;have He:=hid (Hst.o.trans (ux Hwp.o hin));have Hfl:=hid (fun w1=>iu w1 y.nd.line 91);clear hin
       go_wp2_with fail
       refine Hc.o.mono ?_;rintro r w4 ⟨rfl,hw4⟩;obtain rfl:=hw4.symm;clear hw4
       go_wp2_with fail
       refine (Hfl.o _).mono ?_;rintro r w4 ⟨rfl,rfl⟩;exact ⟨rfl,cf.err He.o (HRF3.o.base HB2.o HF0.o.rlt)⟩
      ·rw[dF hin]at Hc;have Hst2:=hid (Hst.o.trans (ym Hwp.o hin));have Hown:=hid (fun o=>HRF3.o.row.alloc o);have Hd1:=hid (show 0<1 by decide);have Hd2:=hid (show 16<=1000 by decide);have Hone:=hid (show ∀u∈[Value.string s],u.oneCell'=true from fun u hu=>by simp at hu;subst hu;rfl);have Hjl:=hid (show out.length<=1000000 by have:=Hj.o;omega);have Hend:=hid (fun o v' (w5:World) a1 a2 a3=>show j+1<=nL/\(out++[s]).length=j+1/\RF w2 (w5.setCell ⟨rb,2,none⟩ v') rb 49 2 (fun v=>#[.int .i64 kd,.string nm,v,tv,.string ht,rv,.string rt,.bool dl]) 9 1 v' (out++[s]).length ((out++[s]).flatMap aR)/\dS L []=dS (L.drop (j+1)) (out++[s]) from
        ⟨Hj.o.1,by rw[aAc,Hj.o.2.1];rfl,by
         have:=RF.put (w2:=w5) (v':=v') (m:=out.length+1) (ys:=out.flatMap aR++[.string s]) (HRF3.o.later ((aAb w3.heap.size w3).alloc (aAa _) o)) a1 a2 a3;rw[aAc,List.flatMap_append];exact this,Hst2.o⟩)
       have Hblk:=hid (fun o w5 (a2:(w3.alloc o).grownBy w5 (Value.slice ao4 out.length c4).ownBlock)=>show w5.heap[rb]? =some (.cells #[.int .i64 kd,.string nm,.slice ao4 out.length c4,tv,.string ht,rv,.string rt,.bool dl] 49 (0,0)) from
        ((Mod.refl (fun k=>(Value.slice ao4 out.length c4).ownBlock=some k) (w3.alloc o)).grown a2 (fun k e _=>e)).heap ((aj o (ag HRF3.o.blk)).trans HRF3.o.blk) (fun e=>by have:=HRF3.o.new rb e;have:=HRF3.o.rlt;omega))
       have hr2':∀ob,(w3.alloc ob).cell? ⟨rb,2,none⟩=some (.slice ao4 out.length c4):=fun ob=>(World.cell?_of_block (aj ob (ag HRF3.o.blk))).trans hr2;clear hin Hst Hwp
       go_wp2_with fail
       refine Hc.o.mono ?_;rintro r w4 ⟨rfl,hw4⟩;obtain rfl:=hw4.symm;clear hw4 Hc
       go_wp2_with (at_builtin;refine qF 9 45 (.string ⟨#[]⟩) 1 16 Tryz.underlying45 kV rfl Hd1.o Hd2.o rfl _ _ rfl (.slice ao4 out.length c4) out.length (out.flatMap aR) rfl (Hown.o _) w3.heap.size #[.string s] [.string s] rfl (ah _) rfl rfl Hone.o Hjl.o (out.length+1) rfl ?_;intro ao5 c5 w5 own2 gr2 new2;have HE:=hid (Hend.o _ _ _ own2 gr2 new2);have q1:=af (Hblk.o _ w5 gr2) 2;have q2:=ai (Hblk.o _ w5 gr2) 2;simp at q1;clear own2 gr2 new2)
       go_roundw
       case rel=>exact ⟨j+1,_,_,Hgo.o,HE⟩
       case measure=>exact Hms.o
    ·have tj:decide (j<nL)=false:=dF hj;have He:=hid (show dS L []= .ok out from by
      rw[hst,List.drop_eq_nil_of_le (by rw[HL.o,List.length_map,<-HnL.o];omega)];rfl)
     clear H hjn hol hrf hst hms hj Hlat;go_wp2
     first|go_end0|refine bodyPost_ret (results_none rfl _ _ _) rfl ?_
     exact cf.ok He.o (HRF.o.base HB2.o HF0.o.rlt)
noncomputable def Ig:Code:=(ncr (ncr (ncx Tryz.f48.body)))
noncomputable def Ie:Code:=(ncl (nco (ncb (ncr (ncr (ncx Tryz.f48.body))))))
noncomputable def Ic:Code:=(ncl (ncr (nco (ncb (ncr (ncr (ncx Tryz.f48.body)))))))
noncomputable def Kc:Code:=(ncr (ncr (ncr (nco (ncb (ncr (ncr (ncx Tryz.f48.body))))))))
noncomputable def xC:Code:=(ncb (ncl (ncr (ncr (nco (ncb (ncr (ncr (ncx Tryz.f48.body)))))))))
noncomputable def sp3:Code:=(ncl (ncb (ncl (ncr (ncr (nco (ncb (ncr (ncr (ncx Tryz.f48.body))))))))))
noncomputable def sp4:Code:=(ncl (ncr (ncb (ncl (ncr (ncr (nco (ncb (ncr (ncr (ncx Tryz.f48.body)))))))))))
noncomputable def sp5:Code:=(ncl (ncr (ncr (ncb (ncl (ncr (ncr (nco (ncb (ncr (ncr (ncx Tryz.f48.body))))))))))))
noncomputable def sp6:Code:=(ncl (ncr (ncr (ncr (ncb (ncl (ncr (ncr (nco (ncb (ncr (ncr (ncx Tryz.f48.body)))))))))))))
noncomputable def sp7:Code:=(ncl (ncr (ncr (ncr (ncr (ncb (ncl (ncr (ncr (nco (ncb (ncr (ncr (ncx Tryz.f48.body))))))))))))))
noncomputable def sp9:Code:=(ncl (ncr (ncr (ncr (ncr (ncr (ncb (ncl (ncr (ncr (nco (ncb (ncr (ncr (ncx Tryz.f48.body)))))))))))))))
noncomputable def Be:Code:=(ncl (ncr (ncr (ncr (ncr (ncr (ncr (ncb (ncl (ncr (ncr (nco (ncb (ncr (ncr (ncx Tryz.f48.body))))))))))))))))
noncomputable def Ih:Code:=(ncr (ncr (ncr (ncr (ncr (ncr (ncr (ncb (ncl (ncr (ncr (nco (ncb (ncr (ncr (ncx Tryz.f48.body))))))))))))))))
def lU (v:Nat->Value):Act:=⟨#[v 0,v 1,v 2,v 3,v 4,v 5,v 6,v 7,v 8,v 9,v 10,v 11,v 12,v 13,v 14,v 15,v 16,v 17,v 18,v 19,v 20,v 21,v 22,v 23,v 24,v 25,v 26,v 27,v 28,v 29,v 30,v 31,v 32,v 33,v 34,v 35,v 36,v 37,v 38,v 39,v 40,v 41,v 42,v 43,v 44,v 45,v 46,v 47,v 48,v 49,v 50,v 51,v 52,v 53,v 54,v 55,v 56,v 57,v 58,v 59,v 60,v 61,v 62,v 63,v 64,v 65,v 66,v 67,v 68,v 69,v 70,v 71,v 72,v 73,v 74,v 75,v 76,v 77,v 78,v 79,v 80,v 81,v 82,v 83,v 84,v 85,v 86,v 87,v 88,v 89,v 90,v 91,v 92,v 93,v 94,v 95,v 96,v 97,v 98,v 99,v 100,v 101,v 102,v 103,v 104,v 105,v 106,v 107,v 108,v 109,v 110,v 111,v 112,v 113,v 114,v 115,v 116],[]⟩
theorem rk (a:Act) (hs:a.tmps.size=117) (hd:a.defers=[]):∃v:Nat->Value,(∀(i:Nat) (x:Value),a.tmps[i]? =some x->v i=x)/\a=lU v:=by
 obtain ⟨t,d⟩:=a;obtain ⟨l⟩:=t;obtain rfl:d=[]:=hd;have hl:l.length=117:=hs;refine ⟨fun i=>l.getD i undef,fun i x hx=> ?_,?_⟩
 ·have hx':l[i]? =some x:=by simpa using hx
  simp[List.getD,hx']
 ·have e:l=(List.range 117).map (fun i=>l.getD i undef):=by
   apply List.ext_getElem
   ·simp[hl]
   ·intro i h1 h2;simp[List.getD,h1]
  generalize (fun i=>l.getD i undef)=v at e |-;subst e;rfl
structure SpO (a:Act) (db:Nat) (rb:Nat) (lb:Nat) (lo:Nat) (q:Nat) (lc:Nat) (j:Nat):Prop where
 size:a.tmps.size=117
 dfr:a.defers=[]
 s0:a.tmps[0]? =some (.pointer (some ⟨db,0,none⟩))
 s2:a.tmps[2]? =some (.pointer (some ⟨rb,0,none⟩))
 s19:a.tmps[19]? =some (.slice (some ⟨lb,lo,none⟩) q lc)
 s20:a.tmps[20]? =some (.int .i64 (q:Int))
 s21:a.tmps[21]? =some (.int .i64 (j:Int))
theorem SpO.shape {a:Act} {db:Nat} {rb:Nat} {lb:Nat} {lo:Nat} {q:Nat} {lc:Nat} {j:Nat} (h:SpO a db rb lb lo q lc j):∃v:Nat->Value,a=lU v/\v 0= .pointer (some ⟨db,0,none⟩)/\v 2= .pointer (some ⟨rb,0,none⟩)/\v 19= .slice (some ⟨lb,lo,none⟩) q lc/\v 20= .int .i64 (q:Int)/\v 21= .int .i64 (j:Int):=by
 obtain ⟨v,hv,hd⟩:=rk a h.size h.dfr;exact ⟨v,hd,hv 0 _ h.s0,hv 2 _ h.s2,hv 19 _ h.s19,hv 20 _ h.s20,hv 21 _ h.s21⟩
structure SpK (a:Act) (db:Nat) (rb:Nat) (lb:Nat) (lo:Nat) (q:Nat) (lc:Nat) (j:Nat) (kb:Nat):Prop where
 size:a.tmps.size=117
 dfr:a.defers=[]
 s0:a.tmps[0]? =some (.pointer (some ⟨db,0,none⟩))
 s2:a.tmps[2]? =some (.pointer (some ⟨rb,0,none⟩))
 s7:a.tmps[7]? =some (.pointer (some ⟨kb,0,none⟩))
 s19:a.tmps[19]? =some (.slice (some ⟨lb,lo,none⟩) q lc)
 s20:a.tmps[20]? =some (.int .i64 (q:Int))
 s21:a.tmps[21]? =some (.int .i64 (j:Int))
theorem SpK.shape {a:Act} {db:Nat} {rb:Nat} {lb:Nat} {lo:Nat} {q:Nat} {lc:Nat} {j:Nat} {kb:Nat} (h:SpK a db rb lb lo q lc j kb):∃v:Nat->Value,a=lU v/\v 0= .pointer (some ⟨db,0,none⟩)/\v 2= .pointer (some ⟨rb,0,none⟩)/\v 7= .pointer (some ⟨kb,0,none⟩)/\v 19= .slice (some ⟨lb,lo,none⟩) q lc/\v 20= .int .i64 (q:Int)/\v 21= .int .i64 (j:Int):=by
 obtain ⟨v,hv,hd⟩:=rk a h.size h.dfr;exact ⟨v,hd,hv 0 _ h.s0,hv 2 _ h.s2,hv 7 _ h.s7,hv 19 _ h.s19,hv 20 _ h.s20,hv 21 _ h.s21⟩
structure SpA (a:Act) (db:Nat) (rb:Nat) (lb:Nat) (lo:Nat) (q:Nat) (lc:Nat) (j:Nat) (kb:Nat) (pa:Value) (pb:Value):Prop where
 size:a.tmps.size=117
 dfr:a.defers=[]
 s0:a.tmps[0]? =some (.pointer (some ⟨db,0,none⟩))
 s2:a.tmps[2]? =some (.pointer (some ⟨rb,0,none⟩))
 s7:a.tmps[7]? =some (.pointer (some ⟨kb,0,none⟩))
 s8:a.tmps[8]? =some (pa)
 s9:a.tmps[9]? =some (pb)
 s19:a.tmps[19]? =some (.slice (some ⟨lb,lo,none⟩) q lc)
 s20:a.tmps[20]? =some (.int .i64 (q:Int))
 s21:a.tmps[21]? =some (.int .i64 (j:Int))
theorem SpA.shape {a:Act} {db:Nat} {rb:Nat} {lb:Nat} {lo:Nat} {q:Nat} {lc:Nat} {j:Nat} {kb:Nat} {pa:Value} {pb:Value} (h:SpA a db rb lb lo q lc j kb pa pb):∃v:Nat->Value,a=lU v/\v 0= .pointer (some ⟨db,0,none⟩)/\v 2= .pointer (some ⟨rb,0,none⟩)/\v 7= .pointer (some ⟨kb,0,none⟩)/\v 8=pa/\v 9=pb/\v 19= .slice (some ⟨lb,lo,none⟩) q lc/\v 20= .int .i64 (q:Int)/\v 21= .int .i64 (j:Int):=by
 obtain ⟨v,hv,hd⟩:=rk a h.size h.dfr;exact ⟨v,hd,hv 0 _ h.s0,hv 2 _ h.s2,hv 7 _ h.s7,hv 8 _ h.s8,hv 9 _ h.s9,hv 19 _ h.s19,hv 20 _ h.s20,hv 21 _ h.s21⟩
structure SpT (a:Act) (db:Nat) (rb:Nat) (lb:Nat) (lo:Nat) (q:Nat) (lc:Nat) (j:Nat) (kb:Nat) (tb:Nat):Prop where
 size:a.tmps.size=117
 dfr:a.defers=[]
 s0:a.tmps[0]? =some (.pointer (some ⟨db,0,none⟩))
 s2:a.tmps[2]? =some (.pointer (some ⟨rb,0,none⟩))
 s7:a.tmps[7]? =some (.pointer (some ⟨kb,0,none⟩))
 s10:a.tmps[10]? =some (.pointer (some ⟨tb,0,none⟩))
 s19:a.tmps[19]? =some (.slice (some ⟨lb,lo,none⟩) q lc)
 s20:a.tmps[20]? =some (.int .i64 (q:Int))
 s21:a.tmps[21]? =some (.int .i64 (j:Int))
theorem SpT.shape {a:Act} {db:Nat} {rb:Nat} {lb:Nat} {lo:Nat} {q:Nat} {lc:Nat} {j:Nat} {kb:Nat} {tb:Nat} (h:SpT a db rb lb lo q lc j kb tb):∃v:Nat->Value,a=lU v/\v 0= .pointer (some ⟨db,0,none⟩)/\v 2= .pointer (some ⟨rb,0,none⟩)/\v 7= .pointer (some ⟨kb,0,none⟩)/\v 10= .pointer (some ⟨tb,0,none⟩)/\v 19= .slice (some ⟨lb,lo,none⟩) q lc/\v 20= .int .i64 (q:Int)/\v 21= .int .i64 (j:Int):=by
 obtain ⟨v,hv,hd⟩:=rk a h.size h.dfr;exact ⟨v,hd,hv 0 _ h.s0,hv 2 _ h.s2,hv 7 _ h.s7,hv 10 _ h.s10,hv 19 _ h.s19,hv 20 _ h.s20,hv 21 _ h.s21⟩
theorem SpT.toO {a:Act} {db rb lb lo q lc j kb tb:Nat} (h:SpT a db rb lb lo q lc j kb tb):SpO a db rb lb lo q lc j:=⟨h.size,h.dfr,h.s0,h.s2,h.s19,h.s20,h.s21⟩
def gh (e:Stop):List PanicEntry:=[{v:= .iface 76 (.agg #[.int .i64 e.1,.int .i64 e.2]),recovered:=false}]
structure RMk (w1 w:World) (kb:Nat) (y:NdM):Prop where
 below:Below w1.heap.size w1 w
 kid:w.heap[kb]? =some (NdO y)
 klo:w1.heap.size<=kb
theorem aV {w:World} {kb:Nat} {y:NdM} {ay:Option Addr} {qy cy:Nat} (h:w.heap[kb]? =some (NdO y)) (hv:y.kv= .slice ay qy cy):
 w.cell? ⟨kb,0,none⟩=some (.int .i64 y.nd.kind)/\w.cell? ⟨kb,1,none⟩=some (.string y.nd.key)/\w.cell? ⟨kb,2,none⟩=some (.string y.nd.text)/\w.cell? ⟨kb,3,none⟩=some (.bool y.nd.quoted)/\w.cell? ⟨kb,4,none⟩=some (.int .i64 y.nd.line)/\w.cell? ⟨kb,5,none⟩=some (.slice ay qy cy):=
 ⟨af h 0,af h 1,af h 2,af h 3,af h 4,by rw[<-hv];exact af h 5⟩
theorem RMk.later {w1 w w2:World} {kb:Nat} {y:NdM} (h:RMk w1 w kb y) (hb:Below w.heap.size w w2):RMk w1 w2 kb y:=
 ⟨h.below.trans (hb.mono h.below.size),(hb.block _ (ag h.kid)).trans h.kid,h.klo⟩
theorem RMk.drewN {w1 w:World} {kb:Nat} {y:NdM} (h:RMk w1 w kb y) (n:Nat):RMk w1 (w.drewN n) kb y:=⟨bdH h.below n,h.kid,h.klo⟩
theorem RMk.new {w1:World} {y:NdM}:RMk w1 (w1.alloc (NdO y)) w1.heap.size y:=⟨(aAb _ w1).alloc (aAa _) _,ah _,aAa _⟩
structure RTg (w1 w:World) (kb:Nat) (y:NdM) (tb:Nat) (ob:Obj):Prop where
 rm:RMk w1 w kb y
 obj:w.heap[tb]? =some ob
 tlo:w1.heap.size<=tb
 ne:tb≠kb
theorem RTg.later {w1 w w2:World} {kb tb:Nat} {y:NdM} {ob:Obj} (h:RTg w1 w kb y tb ob) (hb:Below w.heap.size w w2):RTg w1 w2 kb y tb ob:=
 ⟨h.rm.later hb,(hb.block _ (ag h.obj)).trans h.obj,h.tlo,h.ne⟩
theorem RTg.new {w1 w:World} {kb:Nat} {y:NdM} (h:RMk w1 w kb y) (ob:Obj):RTg w1 (w.alloc ob) kb y w.heap.size ob:=
 ⟨h.later ((aAb _ w).alloc (aAa _) _),ah _,h.below.size,by have:=ag h.kid;omega⟩
theorem RTg.set {w1 w:World} {kb tb:Nat} {y:NdM} {c:Array Value} {T:TypeId} (h:RTg w1 w kb y tb (.cells c T (0,0))) (i:Nat) (v:Value):RTg w1 (w.setCell ⟨tb,i,none⟩ v) kb y tb (.cells (c.setIfInBounds i v) T (0,0)):=by
 have hm:Mod (fun k=>k=tb) w (w.setCell ⟨tb,i,none⟩ v):=(Mod.refl _ w).setCell _ _ (fun _=>rfl);exact ⟨⟨h.rm.below.trans (hm.below h.rm.below.size fun k hk=>by rw[hk];exact h.tlo),hm.heap h.rm.kid (fun e=>h.ne e.symm),h.rm.klo⟩,aE h.obj i v,h.tlo,h.ne⟩
structure KRg (w1 w w':World) (kb:Nat) (y:NdM):Prop where
 rm:RMk w1 w' kb y
 bw:Below w.heap.size w w'
abbrev KS (w1 w w':World) (kb:Nat) (y:NdM) (ay:Option Addr) (qy cy:Nat):Prop:=
 w'.cell? ⟨kb,0,none⟩=some (.int .i64 y.nd.kind)/\w'.cell? ⟨kb,1,none⟩=some (.string y.nd.key)/\w'.cell? ⟨kb,2,none⟩=some (.string y.nd.text)/\w'.cell? ⟨kb,3,none⟩=some (.bool y.nd.quoted)/\w'.cell? ⟨kb,4,none⟩=some (.int .i64 y.nd.line)/\w'.cell? ⟨kb,5,none⟩=some (.slice ay qy cy)/\KRg w1 w w' kb y
theorem Gx {w1 w w':World} {kb:Nat} {y:NdM} {ay:Option Addr} {qy cy:Nat} (h:KRg w1 w w' kb y) (hv:y.kv= .slice ay qy cy):KS w1 w w' kb y ay qy cy:=by
 obtain ⟨k0,k1,k2,k3,k4,k5⟩:=aV h.rm.kid hv;exact ⟨k0,k1,k2,k3,k4,k5,h⟩
theorem KRg.step {w1 w w' w'':World} {kb:Nat} {y:NdM} (h:KRg w1 w w' kb y) (hb:Below w'.heap.size w' w''):KRg w1 w w'' kb y:=⟨h.rm.later hb,h.bw.trans (hb.mono h.bw.size)⟩
theorem CM {w1 w:World} {kb:Nat} {y:NdM} {ay:Option Addr} {qy cy:Nat} (h:RMk w1 w kb y) (hv:y.kv= .slice ay qy cy):KS w1 w w.drew kb y ay qy cy:=Gx ⟨h.drewN 1,bdH (aAb _ _) 1⟩ hv
theorem Fx {w1 w w' w'':World} {kb:Nat} {y:NdM} {ay:Option Addr} {qy cy:Nat} (h:KS w1 w w' kb y ay qy cy) (hb:Below w'.heap.size w' w'') (hv:y.kv= .slice ay qy cy):KS w1 w w'' kb y ay qy cy:=Gx (h.2.2.2.2.2.2.step hb) hv
theorem KY {w1 w w':World} {kb:Nat} {y:NdM} {ay:Option Addr} {qy cy:Nat} (h:KS w1 w w' kb y ay qy cy):Below w.heap.size w w':=h.2.2.2.2.2.2.bw
