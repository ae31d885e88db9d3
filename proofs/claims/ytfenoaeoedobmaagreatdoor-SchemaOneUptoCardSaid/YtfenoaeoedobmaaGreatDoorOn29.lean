/-
Parts of a proof.
-/
import Derived.Defers
import Derived.Recover
import Derived.Test.YtfenoaeoedobmaaGreatDoorOn28
set_option linter.unusedVariables false
set_option linter.unusedSimpArgs false
set_option maxHeartbeats 4000000
set_option maxRecDepth 20000
namespace Go.Proofs.YtfenoaeoedobmaaGreatDoor
open Go Go.RowKit
def bV (r:Res) (ev tv rv:Value):Array Value:=#[.int .i64 r.kind,.string r.name,ev,tv,.string r.host,rv,.string r.route,.bool r.del]
structure ResL (w:World) (r:Res) (ev tv rv:Value):Prop where
 e:SlR w ev 1 r.endps bc
 t:SlR w tv 3 r.targets cn
 r:SlR w rv 4 r.rules bU
theorem dD {w w2:World} {b e z n:Nat} {v:Value} {xs:List Value} {F:Nat->Prop} (h:w.ownsRow b e z v n xs) (hm:Mod F w w2) (hF:∀g,v.ownBlock=some g->¬F g):w2.ownsRow b e z v n xs:=
 dE h fun g hg=>hm.block g (h.lt g hg).2 (hF g hg)
structure ResN (w:World) (lo:Nat) (r:Res) (ev tv rv:Value):Prop where
 e:w.ownsRow 0 9 1 ev r.endps.length (r.endps.flatMap bc)
 t:w.ownsRow 0 58 3 tv r.targets.length (r.targets.flatMap cn)
 u:w.ownsRow 0 60 4 rv r.rules.length (r.rules.flatMap bU)
 fe:∀g,ev.ownBlock=some g->lo<=g
 ft:∀g,tv.ownBlock=some g->lo<=g
 fu:∀g,rv.ownBlock=some g->lo<=g
 le:r.endps.length<=1000/\r.targets.length<=1000/\r.rules.length<=1000
theorem ResN.toL {w:World} {lo:Nat} {r:Res} {ev tv rv:Value} (h:ResN w lo r ev tv rv):ResL w r ev tv rv:=
 ⟨SlR.ofRow h.e rfl (fun _=>rfl) (by have:=h.le;omega) (by decide),SlR.ofRow h.t rfl (fun _=>rfl) (by have:=h.le;omega) (by decide),SlR.ofRow h.u rfl (fun _=>rfl) (by have:=h.le;omega) (by decide)⟩
theorem ResN.down {w:World} {lo lo':Nat} {r:Res} {ev tv rv:Value} (h:ResN w lo r ev tv rv) (hl:lo'<=lo):ResN w lo' r ev tv rv:=
 ⟨h.e,h.t,h.u,fun g hg=>aBl hl (h.fe g hg),fun g hg=>aBl hl (h.ft g hg),fun g hg=>aBl hl (h.fu g hg),h.le⟩
theorem ResN.mod {w w2:World} {lo:Nat} {r:Res} {ev tv rv:Value} {F:Nat->Prop} (h:ResN w lo r ev tv rv) (hm:Mod F w w2) (h1:∀g,ev.ownBlock=some g->¬F g) (h2:∀g,tv.ownBlock=some g->¬F g) (h3:∀g,rv.ownBlock=some g->¬F g):ResN w2 lo r ev tv rv:=
 ⟨dD h.e hm h1,dD h.t hm h2,dD h.u hm h3,h.fe,h.ft,h.fu,h.le⟩
def Qb (w:World) (lo rb:Nat) (r:Res):Prop:=
 ∃ev tv rv,w.heap[rb]? =some (.cells (bV r ev tv rv) 49 (0,0))/\ResN w lo r ev tv rv
def eO (w:World) (rb:Nat) (x:R Res) (r:Ending) (w':World):Prop:=
 (match x with| .ok rs=>r= .returned (.tuple #[])/\Qb w' w.heap.size rb rs| .error e=>r=Pan e/\∃r2 ev tv rv,w'.heap[rb]? =some (.cells (bV r2 ev tv rv) 49 (0,0)))/\Mod (fun k=>k=rb) w w'
theorem eO.err {w w':World} {rb:Nat} {x:R Res} {e:fx} (hx:x= .error e) (h:Mod (fun k=>k=rb) w w') (hb:∃r2 ev tv rv,w'.heap[rb]? =some (.cells (bV r2 ev tv rv) 49 (0,0))):eO w rb x (Pan e) w':=by
 subst hx;exact ⟨⟨rfl,hb⟩,h⟩
theorem su {w w':World} {rb:Nat} (h:Below w.heap.size w w'):Mod (fun k=>k=rb) w w':=(Mod.refl _ _).trans' (Mod.ofBelow (F:=fun _=>False) h (fun k hk mQ=>by omega)) (fun _ _ q=>q.elim)
theorem SlR.nil {α:Type} {w:World} {sz:Nat} {cells:α->List Value}:SlR w (.slice none 0 0) sz [] cells:=⟨none,0,rfl,Nat.zero_le _,fun h=>absurd h (Nat.lt_irrefl _)⟩
theorem Di:∀(L:List Nd) (out fc:List ByteArray),dQ L out= .ok fc->fc.length=out.length+L.length
 |[],out,fc,h=>by
  rw[dQ]at h;injection h with h
  rw[h];rfl
 |k::r,out,fc,h=>by
  cases hw:aO k aD with
  |error e=>rw[Dk hw]at h;cases h
  |ok s=>
   by_cases hs:s∈out
   ·rw[Dh hw hs]at h;cases h
   ·rw[Iy hw hs]at h;have:=Di r _ _ h;rw[aBj]at this;simp only[aBk,List.length_nil]at this |-;omega
theorem GA {ns:List Nd}:∀(L:List Nd) (out fc:List Tgt),ba ns L out= .ok fc->fc.length=out.length+L.length
 |[],out,fc,h=>by
  rw[ba]at h;injection h with h
  rw[h];rfl
 |k::r,out,fc,h=>by
  cases hw:cX ns k with
  |error e=>rw[tC hw]at h;cases h
  |ok s=>
   rw[vJ hw]at h;have:=GA r _ _ h;rw[aBj]at this;simp only[aBk,List.length_nil]at this |-;omega
theorem GL {ns:List Nd} {act:Bool}:∀(L:List Nd) (out fc:List Rul),cc ns act L out= .ok fc->fc.length=out.length+L.length
 |[],out,fc,h=>by
  rw[cc]at h;injection h with h
  rw[h];rfl
 |k::r,out,fc,h=>by
  cases hw:fy ns act k with
  |error e=>rw[yJ hw]at h;cases h
  |ok s=>
   rw[Cf hw]at h;have:=GL r _ _ h;rw[aBj]at this;simp only[aBk,List.length_nil]at this |-;omega
theorem Ab {ns:List Nd} {m:Nd} {out:List ByteArray} (h:fI ns m= .ok out):out.length<=16:=by
 unfold fI at h;cases hf:aY ns m bd with
 |none=>rw[hf]at h;injection h with h;rw[<-h];exact Nat.zero_le _
 |some n=>
  rw[hf]at h;simp only at h;cases hl:cp ns n 0 16 with
  |error e=>rw[hl]at h;cases h
  |ok l=>
   rw[hl]at h;simp only at h;obtain ⟨h1,_,h3⟩:=lE hl;have:=Di _ _ _ h;rw[h1,List.length_map]at this;simp only[List.length_nil]at this;omega
theorem Eo {ns:List Nd} {m:Nd} {out:List Tgt} (h:jV ns m= .ok out):out.length<=8:=by
 unfold jV at h;cases hf:bt ns m cD with
 |error e=>rw[hf]at h;cases h
 |ok n=>
  rw[hf]at h;simp only at h;cases hl:cp ns n 1 8 with
  |error e=>rw[hl]at h;cases h
  |ok l=>
   rw[hl]at h;simp only at h;obtain ⟨h1,_,h3⟩:=lE hl;have:=GA _ _ _ h;rw[h1,List.length_map]at this;simp only[List.length_nil]at this;omega
theorem EA {ns:List Nd} {act:Bool} {m:Nd} {out:List Rul} (h:gV ns act m= .ok out):out.length<=16:=by
 unfold gV at h;cases hf:bt ns m bZ with
 |error e=>rw[hf]at h;cases h
 |ok n=>
  rw[hf]at h;simp only at h;cases hl:cp ns n 1 16 with
  |error e=>rw[hl]at h;cases h
  |ok l=>
   rw[hl]at h;simp only at h;obtain ⟨h1,_,h3⟩:=lE hl;have:=GL _ _ _ h;rw[h1,List.length_map]at this;simp only[List.length_nil]at this;omega
theorem Bp {w w':World} {rb:Nat} {ns:List Nd} {m:Nd} {kd:Int} {nm:ByteArray} {dl:Bool} {r:Ending} (h:cR w rb 2 (fun v=>#[.int .i64 kd,.string nm,v,.slice none 0 0,.string ⟨#[]⟩,.slice none 0 0,.string ⟨#[]⟩,.bool dl]) 9 1 bc (fI ns m) r w'):
 eO w rb (dX ns m ⟨kd,nm,[],[],⟨#[]⟩,[],⟨#[]⟩,dl⟩) r w':=by
 rw[B5 _ _ _ rfl];cases hx:fI ns m with
 |error e=>
  rw[hx]at h;obtain ⟨⟨hr,v,hb⟩,hm⟩:=h;exact ⟨⟨hr,⟨kd,nm,[],[],⟨#[]⟩,[],⟨#[]⟩,dl⟩,v,_,_,hb⟩,hm⟩
 |ok out=>
  have hl:=Ab hx;rw[hx]at h;obtain ⟨⟨hr,v,hf⟩,hm⟩:=h;exact ⟨⟨hr,v,_,_,hf.blk,⟨hf.row,World.ownsRow_nil _ _ _ _,World.ownsRow_nil _ _ _ _,hf.new,nofun,nofun,by simp only[List.length_nil];omega⟩⟩,hm⟩
theorem Gf {w w':World} {rb:Nat} {ns:List Nd} {m:Nd} {kd:Int} {nm:ByteArray} {dl:Bool} {r:Ending} (h:cR w rb 3 (fun v=>#[.int .i64 kd,.string nm,.slice none 0 0,v,.string ⟨#[]⟩,.slice none 0 0,.string ⟨#[]⟩,.bool dl]) 58 3 cn (jV ns m) r w'):
 eO w rb (iu ns m ⟨kd,nm,[],[],⟨#[]⟩,[],⟨#[]⟩,dl⟩) r w':=by
 rw[Jm];cases hx:jV ns m with
 |error e=>
  rw[hx]at h;obtain ⟨⟨hr,v,hb⟩,hm⟩:=h;exact ⟨⟨hr,⟨kd,nm,[],[],⟨#[]⟩,[],⟨#[]⟩,dl⟩,_,v,_,hb⟩,hm⟩
 |ok out=>
  have hl:=Eo hx;rw[hx]at h;obtain ⟨⟨hr,v,hf⟩,hm⟩:=h;exact ⟨⟨hr,_,v,_,hf.blk,⟨World.ownsRow_nil _ _ _ _,hf.row,World.ownsRow_nil _ _ _ _,nofun,hf.new,nofun,by simp only[List.length_nil];omega⟩⟩,hm⟩
theorem xH {w w1 w':World} {rb:Nat} {ns:List Nd} {act:Bool} {m:Nd} {kd:Int} {nm ht rt:ByteArray} {dl:Bool} {r:Ending} (h:cR w rb 5 (fun v=>#[.int .i64 kd,.string nm,.slice none 0 0,.slice none 0 0,.string ht,v,.string rt,.bool dl]) 60 4 bU (gV ns act m) r w') (hw:Mod (fun k=>k=rb) w1 w):
 (match gV ns act m with| .ok out=>r= .returned (.tuple #[])/\Qb w' w1.heap.size rb ⟨kd,nm,[],[],ht,out,rt,dl⟩| .error e=>r=Pan e/\∃r2 ev tv rv,w'.heap[rb]? =some (.cells (bV r2 ev tv rv) 49 (0,0)))/\Mod (fun k=>k=rb) w1 w':=by
 cases hx:gV ns act m with
 |error e=>
  rw[hx]at h;obtain ⟨⟨hr,v,hb⟩,hm⟩:=h;exact ⟨⟨hr,⟨kd,nm,[],[],ht,[],rt,dl⟩,_,_,v,hb⟩,hw.trans hm⟩
 |ok out=>
  have hl:=EA hx;rw[hx]at h;obtain ⟨⟨hr,v,hf⟩,hm⟩:=h;exact ⟨⟨hr,_,_,v,hf.blk,⟨World.ownsRow_nil _ _ _ _,World.ownsRow_nil _ _ _ _,hf.row,nofun,nofun,fun g hg=>aBl hw.size (hf.new g hg),by simp only[List.length_nil];omega⟩⟩,hw.trans hm⟩
theorem Qe {w:World} {m:NdM} {ao:Option Addr} {q c:Nat} (cI:m.kv= .slice ao q c):(w.alloc (.cells #[.int .i64 m.nd.kind,.string m.nd.key,.string m.nd.text,.bool m.nd.quoted,.int .i64 m.nd.line,.slice ao q c] 55)).heap[w.heap.size]? =some (.cells #[.int .i64 m.nd.kind,.string m.nd.key,.string m.nd.text,.bool m.nd.quoted,.int .i64 m.nd.line,.slice ao q c] 55 (0,0)):=ag _
theorem Rv (w0 w:World) (db b o cap:Nat) (ms:List NdM) (h:DocB w0 w db b o cap ms) (m:NdM) (hm:m∈ms) (rb:Nat) (hrb:w0.heap.size<=rb) (hne:rb≠db) (kd:Int) (nm:ByteArray) (dl:Bool)
 (bg:w.heap[rb]? =some (.cells #[.int .i64 kd,.string nm,.slice none 0 0,.slice none 0 0,.string ⟨#[]⟩,.slice none 0 0,.string ⟨#[]⟩,.bool dl] 49 (0,0))):
 Calls Tryz.prog 49 #[.pointer (some ⟨db,0,none⟩),m.v,.pointer (some ⟨rb,0,none⟩)] w (eO w rb (gH (nds ms) m.nd ⟨kd,nm,[],[],⟨#[]⟩,[],⟨#[]⟩,dl⟩)):=by
 have hM:=h.toM;have hok:=hM.ok hm;obtain ⟨kp,c2,cI,_,_⟩:=aL hok.kids;obtain ⟨q,hq⟩:=ex (m.nd.kids.length);rw[<-hq]at cI;have Hf:=hid (fun w1 (bG:Below w.heap.size w w1)=>kS w1 db b o cap ms (hM.later bG) m hm gL);have Hr:=hid (fun w1 (h1:DocB w0 w1 db b o cap ms) s2 hb=>GK false w0 w1 db b o cap ms h1 m hm rb hrb hne kd nm s2 ⟨#[]⟩ (.slice none 0 0) (.slice none 0 0) dl hb)
 have ZM:jr false=⟨#[115,112,108,105,116]⟩:=rfl;rw[bA cI,ZM]at Hr;rw[bA cI]at Hf |-;have fD:=hid ((aBi w.heap.size w).alloc (aBh _) (.cells #[.int .i64 m.nd.kind,.string m.nd.key,.string m.nd.text,.bool m.nd.quoted,.int .i64 m.nd.line,.slice kp q c2] 55));have HD:=hid h;have jF:=hid bg;have aN:=af bg;have kO:=hid aN;have iC:gL=⟨#[104,111,115,116]⟩:=rfl
 have hK:=Qe (w:=w) (m:=m) cI;have HK:=hid hK;cases eh:bH (nds ms) m.nd gL with
 |none=>
  have hx:gH (nds ms) m.nd ⟨kd,nm,[],[],⟨#[]⟩,[],⟨#[]⟩,dl⟩= .error (m.nd.line,122):=by unfold gH;rw[eA eh]
  rw[hx];rw[eh]at Hf;simp only at Hf;rw[iC]at Hf;clear hM hok hm cI hq bg h eh hx iC Hr HK hK aN;go_enter Tryz.func49,Tryz.ntmps49
  go_wp2_with fail
  refine (Hf.o _ fD.o).mono ?_;rintro r w1 ⟨rfl,hb⟩;exact ⟨rfl,eO.err rfl (su (fD.o.trans (hb.mono fD.o.size))) ⟨⟨kd,nm,[],[],⟨#[]⟩,[],⟨#[]⟩,dl⟩,_,_,_,((fD.o.trans (hb.mono fD.o.size)).block _ kO.o).trans jF.o⟩⟩
 |some k=>
  obtain ⟨mk,cN,ed,fh,j7,IM,c3,gO⟩:=cC hM hm eh;have hx:gH (nds ms) m.nd ⟨kd,nm,[],[],⟨#[]⟩,[],⟨#[]⟩,dl⟩=match aO mk.nd kJ with| .error e=> .error e| .ok s=>gG (nds ms) false m.nd ⟨kd,nm,[],[],Iu s,[],⟨#[]⟩,dl⟩:=by
   unfold gH;rw[ez eh,fh];rfl
  rw[hx];rw[eh]at Hf;simp only at Hf;rw[iC]at Hf;have pZ:=hid cN;have mJ:=hid (bA gO);have eQ:=hid (fun w3 (aV:Below w.heap.size w w3)=>I1 w3 mk (j7.later aV));rw[bA gO]at eQ;have Htx:=hid j7.text;clear hM hok hm cI hq bg h eh hx iC hK aN cN ed fh j7 gO;cases fL:aO mk.nd kJ with
  |error e=>
   rw[fL]at eQ;simp only at eQ |-;clear fL Hr HK;go_enter Tryz.func49,Tryz.ntmps49
   go_wp2_with fail
   refine (Hf.o _ fD.o).mono ?_;rintro r w1 ⟨⟨BC,bT,rfl⟩,hb⟩;have e2:=pZ.o;rw[e2]at bT;obtain rfl:=aBm bT;rw[mJ.o];have HB:=hid (fD.o.trans (hb.mono fD.o.size));have IT:=hid (eQ.o w1 HB.o);clear hb bT e2 Hf eQ
   go_wp2_with fail
   refine IT.o.mono ?_;rintro r w2 ⟨rfl,bI⟩;exact ⟨rfl,eO.err rfl (su (HB.o.trans (bI.mono HB.o.size))) ⟨⟨kd,nm,[],[],⟨#[]⟩,[],⟨#[]⟩,dl⟩,_,_,_,((HB.o.trans (bI.mono HB.o.size)).block _ kO.o).trans jF.o⟩⟩
  |ok s=>
   rw[fL]at eQ;simp only at eQ |-;have TS:s.size<=1048576:=by rw[pd fL];exact Htx.o
   clear fL;obtain ⟨s2,D8⟩:=ex (Iu s);rw[yK];rw[<-D8];obtain ⟨X,hX⟩:=ex (gV (nds ms) false m.nd);rw[<-hX];have HX:=hid hX;clear hX;have Hfo:=hid (fun w1=>Ph w1 s TS);rw[<-D8]at Hfo;clear TS D8;go_enter Tryz.func49,Tryz.ntmps49
   go_wp2_with fail
   refine (Hf.o _ fD.o).mono ?_;rintro r w1 ⟨⟨BC,bT,rfl⟩,hb⟩;have e2:=pZ.o;rw[e2]at bT;obtain rfl:=aBm bT;rw[mJ.o];have HB:=hid (fD.o.trans (hb.mono fD.o.size));have XQ:=hid ((hb.block _ (af HK.o)).trans HK.o);have IT:=hid (eQ.o w1 HB.o);clear hb bT e2 Hf eQ HK
   go_wp2_with fail
   refine IT.o.mono ?_;rintro r w2 ⟨rfl,bI⟩;have lq:=hid (HB.o.trans (bI.mono HB.o.size));have LR:=hid ((bI.block _ (af XQ.o)).trans XQ.o);clear bI IT HB XQ
   go_wp2_with fail
   refine (Hfo.o _).mono ?_;rintro r w3 ⟨rfl,aV⟩;have HB3:=hid (lq.o.trans (aV.mono lq.o.size));have HK3:=hid ((aV.block _ (af LR.o)).trans LR.o);clear aV Hfo lq LR;have lq:=HB3;have LR:=HK3;clear HB3 HK3;have lV:=(lq.o.block _ kO.o).trans jF.o;have q1:=aa lV 4;have q2:=ah lV 4;simp at q1;have zp:=kO.o;have On:=aI lV 4 (.string s2)
   have AO:Mod (fun k=>k=rb) w3 (w3.setCell ⟨rb,4,none⟩ (.string s2)):=(Mod.refl _ _).setCell _ _ (fun _=>rfl);have ZP:=AO.heap LR.o (by intro e;omega);obtain ⟨x0,x1,x2,x3,x4,x5⟩:=cB6 ZP;simp at x0 x1 x2 x3 x4 x5;have HR:=hid (Hr.o _ ((HD.o.later lq.o).step AO (fun e=>hne e.symm) (fun k e=>by rw[e];exact hrb)) s2 On);have HM:=hid ((su (rb:=rb) lq.o).trans AO);clear ZP AO On lV LR zp Hr
   go_wp2_with fail
   refine HR.o.mono ?_;intro r w5 hp;have CU:=xH hp HM.o;rw[<-HX.o]at CU;clear hp HX HR HM lq q1 q2 x0 x1 x2 x3 x4 x5
   revert CU
   cases X with
   |error e=>
    rintro ⟨⟨rfl,WH⟩,hm⟩;exact ⟨rfl,eO.err rfl hm WH⟩
   |ok out=>
    rintro ⟨⟨rfl,hv⟩,hm⟩;have HE:=hid (And.intro hv hm);clear hv hm;go_wp2
    first|go_end0|refine bodyPost_ret (results_none rfl _ _ _) rfl ?_
    exact ⟨⟨rfl,HE.o.1⟩,HE.o.2⟩
theorem Nh (w0 w:World) (db b o cap:Nat) (ms:List NdM) (h:DocB w0 w db b o cap ms) (m:NdM) (hm:m∈ms) (rb:Nat) (hrb:w0.heap.size<=rb) (hne:rb≠db) (kd:Int) (nm:ByteArray) (dl:Bool)
 (bg:w.heap[rb]? =some (.cells #[.int .i64 kd,.string nm,.slice none 0 0,.slice none 0 0,.string ⟨#[]⟩,.slice none 0 0,.string ⟨#[]⟩,.bool dl] 49 (0,0))):
 Calls Tryz.prog 50 #[.pointer (some ⟨db,0,none⟩),m.v,.pointer (some ⟨rb,0,none⟩)] w (eO w rb (eV (nds ms) m.nd ⟨kd,nm,[],[],⟨#[]⟩,[],⟨#[]⟩,dl⟩)):=by
 have hM:=h.toM;have hok:=hM.ok hm;obtain ⟨kp,c2,cI,_,_⟩:=aL hok.kids;obtain ⟨q,hq⟩:=ex (m.nd.kids.length);rw[<-hq]at cI;have Hf:=hid (fun w1 (bG:Below w.heap.size w w1)=>kS w1 db b o cap ms (hM.later bG) m hm eK);have Hr:=hid (fun w1 (h1:DocB w0 w1 db b o cap ms) s2 hb=>GK true w0 w1 db b o cap ms h1 m hm rb hrb hne kd nm ⟨#[]⟩ s2 (.slice none 0 0) (.slice none 0 0) dl hb)
 have ZM:jr true=⟨#[97,99,116,105,111,110]⟩:=rfl;rw[bA cI,ZM]at Hr;rw[bA cI]at Hf |-;have fD:=hid ((aBi w.heap.size w).alloc (aBh _) (.cells #[.int .i64 m.nd.kind,.string m.nd.key,.string m.nd.text,.bool m.nd.quoted,.int .i64 m.nd.line,.slice kp q c2] 55));have HD:=hid h;have jF:=hid bg;have aN:=af bg;have kO:=hid aN;have iC:eK=⟨#[114,111,117,116,101]⟩:=rfl
 have hK:=Qe (w:=w) (m:=m) cI;have HK:=hid hK;cases eh:bH (nds ms) m.nd eK with
 |none=>
  have hx:eV (nds ms) m.nd ⟨kd,nm,[],[],⟨#[]⟩,[],⟨#[]⟩,dl⟩= .error (m.nd.line,122):=by unfold eV;rw[eA eh]
  rw[hx];rw[eh]at Hf;simp only at Hf;rw[iC]at Hf;clear hM hok hm cI hq bg h eh hx iC Hr HK hK aN;go_enter Tryz.func50,Tryz.ntmps50
  go_wp2_with fail
  refine (Hf.o _ fD.o).mono ?_;rintro r w1 ⟨rfl,hb⟩;exact ⟨rfl,eO.err rfl (su (fD.o.trans (hb.mono fD.o.size))) ⟨⟨kd,nm,[],[],⟨#[]⟩,[],⟨#[]⟩,dl⟩,_,_,_,((fD.o.trans (hb.mono fD.o.size)).block _ kO.o).trans jF.o⟩⟩
 |some k=>
  obtain ⟨mk,cN,ed,fh,j7,IM,c3,gO⟩:=cC hM hm eh;have hx:eV (nds ms) m.nd ⟨kd,nm,[],[],⟨#[]⟩,[],⟨#[]⟩,dl⟩=match aO mk.nd aD with| .error e=> .error e| .ok s=>gG (nds ms) true m.nd ⟨kd,nm,[],[],⟨#[]⟩,[],s,dl⟩:=by
   unfold eV;rw[ez eh,fh];rfl
  rw[hx];rw[eh]at Hf;simp only at Hf;rw[iC]at Hf;have pZ:=hid cN;have mJ:=hid (bA gO);have eQ:=hid (fun w3 (aV:Below w.heap.size w w3)=>lr w3 mk (j7.later aV));rw[bA gO]at eQ;have Htx:=hid j7.text;clear hM hok hm cI hq bg h eh hx iC hK aN cN ed fh j7 gO;cases fL:aO mk.nd aD with
  |error e=>
   rw[fL]at eQ;simp only at eQ |-;clear fL Hr HK;go_enter Tryz.func50,Tryz.ntmps50
   go_wp2_with fail
   refine (Hf.o _ fD.o).mono ?_;rintro r w1 ⟨⟨BC,bT,rfl⟩,hb⟩;have e2:=pZ.o;rw[e2]at bT;obtain rfl:=aBm bT;rw[mJ.o];have HB:=hid (fD.o.trans (hb.mono fD.o.size));have IT:=hid (eQ.o w1 HB.o);clear hb bT e2 Hf eQ
   go_wp2_with fail
   refine IT.o.mono ?_;rintro r w2 ⟨rfl,bI⟩;exact ⟨rfl,eO.err rfl (su (HB.o.trans (bI.mono HB.o.size))) ⟨⟨kd,nm,[],[],⟨#[]⟩,[],⟨#[]⟩,dl⟩,_,_,_,((HB.o.trans (bI.mono HB.o.size)).block _ kO.o).trans jF.o⟩⟩
  |ok s=>
   rw[fL]at eQ;simp only at eQ |-;have TS:s.size<=1048576:=by rw[pd fL];exact Htx.o
   clear fL;obtain ⟨s2,D8⟩:=ex (s);rw[yK];rw[<-D8];obtain ⟨X,hX⟩:=ex (gV (nds ms) true m.nd);rw[<-hX];have HX:=hid hX;clear hX;obtain rfl:=D8;clear TS;go_enter Tryz.func50,Tryz.ntmps50
   go_wp2_with fail
   refine (Hf.o _ fD.o).mono ?_;rintro r w1 ⟨⟨BC,bT,rfl⟩,hb⟩;have e2:=pZ.o;rw[e2]at bT;obtain rfl:=aBm bT;rw[mJ.o];have HB:=hid (fD.o.trans (hb.mono fD.o.size));have XQ:=hid ((hb.block _ (af HK.o)).trans HK.o);have IT:=hid (eQ.o w1 HB.o);clear hb bT e2 Hf eQ HK
   go_wp2_with fail
   refine IT.o.mono ?_;rintro r w2 ⟨rfl,bI⟩;have lq:=hid (HB.o.trans (bI.mono HB.o.size));have LR:=hid ((bI.block _ (af XQ.o)).trans XQ.o);clear bI IT HB XQ;have lV:=(lq.o.block _ kO.o).trans jF.o;have q1:=aa lV 6;have q2:=ah lV 6;simp at q1;have zp:=kO.o;have On:=aI lV 6 (.string s2);have AO:Mod (fun k=>k=rb) w2 (w2.setCell ⟨rb,6,none⟩ (.string s2)):=(Mod.refl _ _).setCell _ _ (fun _=>rfl)
   have ZP:=AO.heap LR.o (by intro e;omega);obtain ⟨x0,x1,x2,x3,x4,x5⟩:=cB6 ZP;simp at x0 x1 x2 x3 x4 x5;have HR:=hid (Hr.o _ ((HD.o.later lq.o).step AO (fun e=>hne e.symm) (fun k e=>by rw[e];exact hrb)) s2 On);have HM:=hid ((su (rb:=rb) lq.o).trans AO);clear ZP AO On lV LR zp Hr
   go_wp2_with fail
   refine HR.o.mono ?_;intro r w5 hp;have CU:=xH hp HM.o;rw[<-HX.o]at CU;clear hp HX HR HM lq q1 q2 x0 x1 x2 x3 x4 x5
   revert CU
   cases X with
   |error e=>
    rintro ⟨⟨rfl,WH⟩,hm⟩;exact ⟨rfl,eO.err rfl hm WH⟩
   |ok out=>
    rintro ⟨⟨rfl,hv⟩,hm⟩;have HE:=hid (And.intro hv hm);clear hv hm;go_wp2
    first|go_end0|refine bodyPost_ret (results_none rfl _ _ _) rfl ?_
    exact ⟨⟨rfl,HE.o.1⟩,HE.o.2⟩
def oV:Array Value:=#[.string ⟨#[]⟩,.string iN,.string sq,.string sr,.string ow]
theorem EP {w:World} {b:Nat} {arr:Array Value} {T:TypeId} (hb:w.heap[b]? =some (.cells arr T (0,0))):∀(j:Nat) (v:Value),arr.toList[j]? =some v->w.cell? ⟨b,0+j,none⟩=some v:=by
 intro j v hv;rw[Nat.zero_add,aa hb j,<-Array.getElem?_toList];exact hv
theorem xY {fn:Func} {w:World} {b t:Nat} {tmps:Array Value} (h:fn.results=#[.cell t 82]) (h2:tmps[t]? =some (.pointer (some ⟨b,0,none⟩))) (hb:w.heap[b]? =some (.cells oV 82 (0,0))):
 (results fn tmps).run Tryz.prog w= .ok (.agg oV) w:=by
 have hl:=run_loadVar_mid (P:= Tryz.prog) w b 0 82 oV.toList _ (EP hb) Tryz.underlying82 rfl (show (Tryz.prog.info? 82).map (·.size)=some 5 by kernel_rfl);rw[Array.getElem?_eq_some_iff]at h2;obtain ⟨l2,e2⟩:=h2;simp[results,h,asAddr,Array.getD,l2,e2,hl]
theorem G9 (w:World):Calls Tryz.prog 38 #[] w fun r w'=>r= .returned (.agg oV)/\Below w.heap.size w w':=by
 have Hb:=hid (fun o=>(aBi w.heap.size w).alloc (aBh _) o);go_enter Tryz.func38,Tryz.ntmps38;go_wp2;refine bodyPost_ret (xY (b:=w.heap.size) rfl rfl (ag _)) rfl ?_;exact ⟨rfl,Hb.o _⟩
theorem ML {w W:World} (l:List ByteArray) (z:Array Value) (c:Nat) (hW:Below w.heap.size w W) (g:Nat) (hg:g=W.heap.size) (hl:l.length<=1000):
 SlR ((W.alloc (.cells ((l.map Value.string).toArray++z) 9)).drew) (.slice (some ⟨g,0,none⟩) l.length c) 1 l bc/\Below w.heap.size w ((W.alloc (.cells ((l.map Value.string).toArray++z) 9)).drew):=by
 subst hg;refine ⟨⟨_,_,rfl,by omega,fun h0=>⟨W.heap.size,0,rfl,?_,fun i x hi j u hu=> ?_⟩⟩,bdH (hW.alloc hW.size _) 1⟩
 ·exact af (ag (w:=W) (.cells ((l.map Value.string).toArray++z) 9))
 ·cases j with
  |zero=>
   injection hu with hu
   subst hu;have Yc:=(aBo hi).1;have h2:=aa (ag (w:=W) (.cells ((l.map Value.string).toArray++z) 9)) (0+i*1+0);refine Eq.trans h2 ?_;have e:(0+i*1+0)=i:=by omega
   rw[e,Array.getElem?_append_left (by simp;exact Yc)];simp[hi]
  |succ j=>cases hu
theorem ql {w W:World} {l:List ByteArray} {z arr:Array Value} {c g:Nat} {V:Value} (hV:V= .slice (some ⟨g,0,none⟩) l.length c) (hW:Below w.heap.size w W) (hg:g=W.heap.size) (hl:l.length<=1000) (eC:arr=(l.map Value.string).toArray++z):
 (∃v,Ending.returned V= .returned v/\SlR ((W.alloc (.cells arr 9)).drew) v 1 l bc)/\Below w.heap.size w ((W.alloc (.cells arr 9)).drew):=by
 subst hV;subst eC;have h:=ML l z c hW g hg hl;exact ⟨⟨_,rfl,h.1⟩,h.2⟩
theorem Ps (w:World):Calls Tryz.prog 46 #[.int .i64 1] w fun r w'=>(∃v,r= .returned v/\SlR w' v 1 [kKind,bJ,bd] bc)/\Below w.heap.size w w':=by
 have Hb:=hid (fun o1 o2 o3 o4 o5 o6=>show Below w.heap.size w ((((((w.alloc o1).alloc o2).alloc o3).alloc o4).alloc o5).alloc o6) from by
  have h0:=aBi w.heap.size w;have h1:=h0.alloc h0.size o1;have h2:=h1.alloc h1.size o2;have h3:=h2.alloc h2.size o3;have h4:=h3.alloc h3.size o4;have h5:=h4.alloc h4.size o5;exact h5.alloc h5.size o6)
 go_enter Tryz.func46,Tryz.ntmps46;go_wp2;go_ret;exact ql (l:=[kKind,bJ,bd]) rfl (Hb.o _ _ _ _ _ _) (by simp) (by decide) rfl
theorem Pr (w:World):Calls Tryz.prog 46 #[.int .i64 2] w fun r w'=>(∃v,r= .returned v/\SlR w' v 1 [kKind,bJ,cD] bc)/\Below w.heap.size w w':=by
 have Hb:=hid (fun o1 o2 o3 o4 o5 o6=>show Below w.heap.size w ((((((w.alloc o1).alloc o2).alloc o3).alloc o4).alloc o5).alloc o6) from by
  have h0:=aBi w.heap.size w;have h1:=h0.alloc h0.size o1;have h2:=h1.alloc h1.size o2;have h3:=h2.alloc h2.size o3;have h4:=h3.alloc h3.size o4;have h5:=h4.alloc h4.size o5;exact h5.alloc h5.size o6)
 go_enter Tryz.func46,Tryz.ntmps46;go_wp2;go_ret;exact ql (l:=[kKind,bJ,cD]) rfl (Hb.o _ _ _ _ _ _) (by simp) (by decide) rfl
theorem Pq (w:World):Calls Tryz.prog 46 #[.int .i64 3] w fun r w'=>(∃v,r= .returned v/\SlR w' v 1 [kKind,bJ,gL,bZ] bc)/\Below w.heap.size w w':=by
 have Hb:=hid (fun o1 o2 o3 o4 o5 o6=>show Below w.heap.size w ((((((w.alloc o1).alloc o2).alloc o3).alloc o4).alloc o5).alloc o6) from by
  have h0:=aBi w.heap.size w;have h1:=h0.alloc h0.size o1;have h2:=h1.alloc h1.size o2;have h3:=h2.alloc h2.size o3;have h4:=h3.alloc h3.size o4;have h5:=h4.alloc h4.size o5;exact h5.alloc h5.size o6)
 go_enter Tryz.func46,Tryz.ntmps46;go_wp2;go_ret;exact ql (l:=[kKind,bJ,gL,bZ]) rfl (Hb.o _ _ _ _ _ _) (by simp) (by decide) Array.append_assoc.symm
theorem Pp (w:World):Calls Tryz.prog 46 #[.int .i64 4] w fun r w'=>(∃v,r= .returned v/\SlR w' v 1 [kKind,bJ,eK,bZ] bc)/\Below w.heap.size w w':=by
 have Hb:=hid (fun o1 o2 o3 o4 o5 o6=>show Below w.heap.size w ((((((w.alloc o1).alloc o2).alloc o3).alloc o4).alloc o5).alloc o6) from by
  have h0:=aBi w.heap.size w;have h1:=h0.alloc h0.size o1;have h2:=h1.alloc h1.size o2;have h3:=h2.alloc h2.size o3;have h4:=h3.alloc h3.size o4;have h5:=h4.alloc h4.size o5;exact h5.alloc h5.size o6)
 go_enter Tryz.func46,Tryz.ntmps46;go_wp2;go_ret;exact ql (l:=[kKind,bJ,eK,bZ]) rfl (Hb.o _ _ _ _ _ _) (by simp) (by decide) Array.append_assoc.symm
theorem De (w:World) (k:Nat) (h1:1<=k) (h4:k<=4):Calls Tryz.prog 46 #[.int .i64 (k:Int)] w fun r w'=>(∃v,r= .returned v/\SlR w' v 1 (kKind::bJ::oM k) bc)/\Below w.heap.size w w':=by
 match k,h1,h4 with
 |1,_,_=>exact Ps w
 |2,_,_=>exact Pr w
 |3,_,_=>exact Pq w
 |4,_,_=>exact Pp w
theorem Ez (v:Value) (w:World):(Instr.typeAssert (.iface 76 v) 20 76 true).run Tryz.prog w= .ok (.tuple #[v,.bool true]) w:=by
 simp[Instr.typeAssert,go_sem,Tryz.underlying76]
def EH:List Value:=[.int .i64 0,.string ⟨#[]⟩,.slice none 0 0,.slice none 0 0,.string ⟨#[]⟩,.slice none 0 0,.string ⟨#[]⟩,.bool false]
theorem MV (rb lb eb:Nat) (w:World):
 CallsD Tryz.prog 35 #[.pointer (some ⟨rb,0,none⟩),.pointer (some ⟨lb,0,none⟩),.pointer (some ⟨eb,0,none⟩)] .returning w fun e u' w'=>e= .returned (.tuple #[])/\u'= .returning/\w'=w:=by
 refine callsD_of_wpS Tryz.func35 rfl fun c₀ cs hu=> ?_;apply wpS_seq;apply wpS_region;simp[wpOpsS,go_sem,recoverD,hu,Tryz.ntmps35,Exit.thenS];refine wpS_of_wp ?_;go_wp2;cases c₀
 simp_all[bodyPostS,results,Tryz.results35]
theorem iD (w:World) (k:Nat):w.drew.heap[k]? =w.heap[k]? :=rfl
theorem JE {w:World} {x0 x1 x2 x3 x4 x5 x6 x7 lv ev:Value} {T1 T2 T3:TypeId} (n:Nat) (e:fx) (ob:Obj) (hr:w.heap[n]? =some (.cells #[x0,x1,x2,x3,x4,x5,x6,x7] T1 (0,0))) (hl:w.heap[n+1]? =some (.cells #[lv] T2 (0,0))) (he:w.heap[n+1+1]? =some (.cells #[ev] T3 (0,0))):
 ∀W,W=(((((((((((w.alloc ob).setCell ⟨n,0,none⟩ (.int .i64 0)).setCell ⟨n,1,none⟩ (.string ⟨#[]⟩)).setCell ⟨n,2,none⟩ (.slice none 0 0)).setCell ⟨n,3,none⟩ (.slice none 0 0)).setCell ⟨n,4,none⟩ (.string ⟨#[]⟩)).setCell ⟨n,5,none⟩ (.slice none 0 0)).setCell ⟨n,6,none⟩ (.string ⟨#[]⟩)).setCell ⟨n,7,none⟩ (.bool false)).setCell ⟨n+1,0,none⟩ (.int .i64 e.1)).setCell ⟨n+1+1,0,none⟩ (.int .i64 e.2)).drew->
  Mod (fun k=>k=n\/k=n+1\/k=n+1+1) w W/\W.heap[n]? =some (.cells EH.toArray T1 (0,0))/\W.heap[n+1]? =some (.cells #[.int .i64 e.1] T2 (0,0))/\W.heap[n+1+1]? =some (.cells #[.int .i64 e.2] T3 (0,0)):=by
 rintro W rfl;have ha:=(ai ob (af hr)).trans hr;have hb:=(ai ob (af hl)).trans hl;have hc:=(ai ob (af he)).trans he;have hm:Mod (fun k=>k=n\/k=n+1\/k=n+1+1) w (w.alloc ob):=(Mod.refl _ _).trans' (Mod.ofBelow (F:=fun _=>False) ((aBi w.heap.size w).alloc (aBh _) ob) (fun k hk mQ=>by omega)) (fun _ _ q=>q.elim);generalize w.alloc ob=V at*;have m1:=((((((((((hm.setCell ⟨n,0,none⟩ (.int .i64 0) (fun _=> .inl rfl)).setCell ⟨n,1,none⟩ (.string ⟨#[]⟩) (fun _=> .inl rfl)).setCell ⟨n,2,none⟩ (.slice none 0 0) (fun _=> .inl rfl)).setCell ⟨n,3,none⟩ (.slice none 0 0) (fun _=> .inl rfl)).setCell ⟨n,4,none⟩ (.string ⟨#[]⟩) (fun _=> .inl rfl)).setCell ⟨n,5,none⟩ (.slice none 0 0) (fun _=> .inl rfl)).setCell ⟨n,6,none⟩ (.string ⟨#[]⟩) (fun _=> .inl rfl)).setCell ⟨n,7,none⟩ (.bool false) (fun _=> .inl rfl)).setCell ⟨n+1,0,none⟩ (.int .i64 e.1) (fun _=> .inr (.inl rfl))).setCell ⟨n+1+1,0,none⟩ (.int .i64 e.2) (fun _=> .inr (.inr rfl)))
 refine ⟨m1.drew,?_,?_,?_⟩
 ·have g0:=aI ha 0 (.int .i64 0);have g1:=aI g0 1 (.string ⟨#[]⟩);have g2:=aI g1 2 (.slice none 0 0);have g3:=aI g2 3 (.slice none 0 0);have g4:=aI g3 4 (.string ⟨#[]⟩);have g5:=aI g4 5 (.slice none 0 0);have g6:=aI g5 6 (.string ⟨#[]⟩);have h1:=aI g6 7 (.bool false);rw[iD];refine (aW _ _ (by show ¬n=n+1+1;omega)).trans ?_;refine (aW _ _ (by show ¬n=n+1;omega)).trans ?_
  refine h1.trans ?_;rfl
 ·have h1:∀(U:World) j v,(U.setCell ⟨n,j,none⟩ v).heap[n+1]? =U.heap[n+1]? :=fun U j v=>aW _ _ (by show ¬n+1=n;omega);rw[iD];refine (aW _ _ (by show ¬n+1=n+1+1;omega)).trans (aI (c:=#[lv]) ?_ 0 (.int .i64 e.1));rw[h1,h1,h1,h1,h1,h1,h1,h1];exact hb
 ·have h1:∀(U:World) j v,(U.setCell ⟨n,j,none⟩ v).heap[n+1+1]? =U.heap[n+1+1]? :=fun U j v=>aW _ _ (by show ¬n+1+1=n;omega);rw[iD];refine aI (c:=#[ev]) ?_ 0 (.int .i64 e.2);refine (aW _ _ (by show ¬n+1+1=n+1;omega)).trans ?_;rw[h1,h1,h1,h1,h1,h1,h1,h1];exact hc
theorem MU (n:Nat) (e:fx) (Cw:List PanicEntry) (w:World) (x0 x1 x2 x3 x4 x5 x6 x7 lv ev:Value) (T1 T2 T3:TypeId) (hr:w.heap[n]? =some (.cells #[x0,x1,x2,x3,x4,x5,x6,x7] T1 (0,0))) (hl:w.heap[n+1]? =some (.cells #[lv] T2 (0,0))) (he:w.heap[n+1+1]? =some (.cells #[ev] T3 (0,0))):
 CallsD Tryz.prog 35 #[.pointer (some ⟨n,0,none⟩),.pointer (some ⟨n+1,0,none⟩),.pointer (some ⟨n+1+1,0,none⟩)] (.panicking ({v:= .iface 76 (.agg #[.int .i64 e.1,.int .i64 e.2]),recovered:=false}::Cw)) w fun r u' w'=>r= .returned (.tuple #[])/\u'= .panicking ({v:= .iface 76 (.agg #[.int .i64 e.1,.int .i64 e.2]),recovered:=true}::Cw)/\
  Mod (fun k=>k=n\/k=n+1\/k=n+1+1) w w'/\w'.heap[n]? =some (.cells EH.toArray T1 (0,0))/\w'.heap[n+1]? =some (.cells #[.int .i64 e.1] T2 (0,0))/\w'.heap[n+1+1]? =some (.cells #[.int .i64 e.2] T3 (0,0)):=by
 have HE:=hid (fun ob=>JE (w:=w) n e ob hr hl he);refine callsD_of_wpS Tryz.func35 rfl fun c₀ cs hu=> ?_;apply wpS_seq;apply wpS_region;simp[wpOpsS,go_sem,recoverD,hu,Tryz.ntmps35,Exit.thenS];refine wpS_of_wp ?_
 show Code.wp _ _ _ {tmps:=#[.pointer (some ⟨n,0,none⟩),.pointer (some ⟨n+1,0,none⟩),.pointer (some ⟨n+1+1,0,none⟩),undef,undef,undef,.iface 76 (.agg #[.int .i64 e.1,.int .i64 e.2]),undef,undef,undef,undef,undef,undef,undef,undef,undef,undef],defers:=[]} _
 have hta:∀(v:Value) (w:World),(Instr.typeAssert (.iface 76 v) 20 76 true).run Tryz.prog w= .ok (.tuple #[v,.bool true]) w:=Ez;have f1:=fun ob j=>ah ((ai ob (af hr)).trans hr) j;have f2:=fun ob=>ah ((ai ob (af hl)).trans hl) 0;have f3:=fun ob=>ah ((ai ob (af he)).trans he) 0
 have c2:=fun ob=>aa ((ai ob (af hl)).trans hl) 0;have c3:=fun ob=>aa ((ai ob (af he)).trans he) 0;have c1:=fun ob j=>aa ((ai ob (af hr)).trans hr) j;have y0:=fun ob=>c1 ob 0;have y1:=fun ob=>c1 ob 1;have y2:=fun ob=>c1 ob 2;have y3:=fun ob=>c1 ob 3;have y4:=fun ob=>c1 ob 4;have y5:=fun ob=>c1 ob 5;have y6:=fun ob=>c1 ob 6;have y7:=fun ob=>c1 ob 7
 simp at c2 c3 y0 y1 y2 y3 y4 y5 y6 y7;clear c1;have hq:=af he;have n1:¬n=w.heap.size:=by omega
 have n2:¬w.heap.size=n:=by omega
 have n3:¬n+1=w.heap.size:=by omega
 have n4:¬w.heap.size=n+1:=by omega
 have n5:¬n+1+1=w.heap.size:=by omega
 have n6:¬w.heap.size=n+1+1:=by omega
 clear hq hr hl he;go_wp2
 go_region
 all_goals go_wp2
 all_goals
  cases c₀;simp only at hu;subst hu;exact ⟨rfl,_,rfl,.tuple #[],results_none rfl _ _ _,rfl,rfl,HE.o _ _ rfl⟩
