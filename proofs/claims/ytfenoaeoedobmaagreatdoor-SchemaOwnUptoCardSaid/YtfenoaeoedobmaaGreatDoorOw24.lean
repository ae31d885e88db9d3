/-
Parts of a proof.
-/
import Derived.Defers
import Derived.Recover
import Derived.Test.YtfenoaeoedobmaaGreatDoorOw23
set_option linter.unusedVariables false
set_option linter.unusedSimpArgs false
set_option maxHeartbeats 4000000
set_option maxRecDepth 20000
namespace Go.Proofs.YtfenoaeoedobmaaGreatDoor
open Go Go.RowKit
def bJ (r:Res) (ev tv rv:Value):Array Value:=#[.int .i64 r.kind,.string r.name,ev,tv,.string r.host,rv,.string r.route,.bool r.del]
structure ResL (w:World) (r:Res) (ev tv rv:Value):Prop where
 e:SlR w ev 1 r.endps aR
 t:SlR w tv 3 r.targets bN
 r:SlR w rv 4 r.rules bE
theorem aG {w w2:World} {b e z n:Nat} {v:Value} {xs:List Value} {F:Nat->Prop} (h:w.ownsRow b e z v n xs) (hm:Mod F w w2) (hF:∀g,v.ownBlock=some g->¬F g):w2.ownsRow b e z v n xs:=
 cL h fun g hg=>hm.block g (h.lt g hg).2 (hF g hg)
structure ResN (w:World) (lo:Nat) (r:Res) (ev tv rv:Value):Prop where
 e:w.ownsRow 0 9 1 ev r.endps.length (r.endps.flatMap aR)
 t:w.ownsRow 0 58 3 tv r.targets.length (r.targets.flatMap bN)
 u:w.ownsRow 0 60 4 rv r.rules.length (r.rules.flatMap bE)
 fe:∀g,ev.ownBlock=some g->lo<=g
 ft:∀g,tv.ownBlock=some g->lo<=g
 fu:∀g,rv.ownBlock=some g->lo<=g
 le:r.endps.length<=1000/\r.targets.length<=1000/\r.rules.length<=1000
theorem ResN.toL {w:World} {lo:Nat} {r:Res} {ev tv rv:Value} (h:ResN w lo r ev tv rv):ResL w r ev tv rv:=
 ⟨SlR.ofRow h.e rfl (fun _=>rfl) (by have:=h.le;omega) (by decide),SlR.ofRow h.t rfl (fun _=>rfl) (by have:=h.le;omega) (by decide),SlR.ofRow h.u rfl (fun _=>rfl) (by have:=h.le;omega) (by decide)⟩
theorem ResN.down {w:World} {lo lo':Nat} {r:Res} {ev tv rv:Value} (h:ResN w lo r ev tv rv) (hl:lo'<=lo):ResN w lo' r ev tv rv:=
 ⟨h.e,h.t,h.u,fun g hg=>aAe hl (h.fe g hg),fun g hg=>aAe hl (h.ft g hg),fun g hg=>aAe hl (h.fu g hg),h.le⟩
theorem ResN.mod {w w2:World} {lo:Nat} {r:Res} {ev tv rv:Value} {F:Nat->Prop} (h:ResN w lo r ev tv rv) (hm:Mod F w w2) (h1:∀g,ev.ownBlock=some g->¬F g) (h2:∀g,tv.ownBlock=some g->¬F g) (h3:∀g,rv.ownBlock=some g->¬F g):ResN w2 lo r ev tv rv:=
 ⟨aG h.e hm h1,aG h.t hm h2,aG h.u hm h3,h.fe,h.ft,h.fu,h.le⟩
def DS (w:World) (lo rb:Nat) (r:Res):Prop:=
 ∃ev tv rv,w.heap[rb]? =some (.cells (bJ r ev tv rv) 49 (0,0))/\ResN w lo r ev tv rv
def dr (w:World) (rb:Nat) (x:R Res) (r:Ending) (w':World):Prop:=
 (match x with| .ok rs=>r= .returned (.tuple #[])/\DS w' w.heap.size rb rs| .error e=>r=Pan e/\∃r2 ev tv rv,w'.heap[rb]? =some (.cells (bJ r2 ev tv rv) 49 (0,0)))/\Mod (fun k=>k=rb) w w'
theorem dr.err {w w':World} {rb:Nat} {x:R Res} {e:Stop} (hx:x= .error e) (h:Mod (fun k=>k=rb) w w') (hb:∃r2 ev tv rv,w'.heap[rb]? =some (.cells (bJ r2 ev tv rv) 49 (0,0))):dr w rb x (Pan e) w':=by
 subst hx;exact ⟨⟨rfl,hb⟩,h⟩
theorem mm {w w':World} {rb:Nat} (h:Below w.heap.size w w'):Mod (fun k=>k=rb) w w':=(Mod.refl _ _).trans' (Mod.ofBelow (F:=fun _=>False) h (fun k hk hge=>by omega)) (fun _ _ q=>q.elim)
theorem SlR.nil {α:Type} {w:World} {sz:Nat} {cells:α->List Value}:SlR w (.slice none 0 0) sz [] cells:=⟨none,0,rfl,Nat.zero_le _,fun h=>absurd h (Nat.lt_irrefl _)⟩
theorem uy:∀(L:List Nd) (out out':List ByteArray),dS L out= .ok out'->out'.length=out.length+L.length
 |[],out,out',h=>by
  rw[dS]at h;injection h with h
  rw[h];rfl
 |k::r,out,out',h=>by
  cases hw:aS k isName with
  |error e=>rw[uB hw]at h;cases h
  |ok s=>
   by_cases hs:s∈out
   ·rw[ux hw hs]at h;cases h
   ·rw[ym hw hs]at h;have:=uy r _ _ h;rw[aAc]at this;simp only[aAd,List.length_nil]at this |-;omega
theorem xw {ns:List Nd}:∀(L:List Nd) (out out':List Tgt),bg ns L out= .ok out'->out'.length=out.length+L.length
 |[],out,out',h=>by
  rw[bg]at h;injection h with h
  rw[h];rfl
 |k::r,out,out',h=>by
  cases hw:dz ns k with
  |error e=>rw[mP hw]at h;cases h
  |ok s=>
   rw[om hw]at h;have:=xw r _ _ h;rw[aAc]at this;simp only[aAd,List.length_nil]at this |-;omega
theorem xI {ns:List Nd} {act:Bool}:∀(L:List Nd) (out out':List Rul),cj ns act L out= .ok out'->out'.length=out.length+L.length
 |[],out,out',h=>by
  rw[cj]at h;injection h with h
  rw[h];rfl
 |k::r,out,out',h=>by
  cases hw:fk ns act k with
  |error e=>rw[qB hw]at h;cases h
  |ok s=>
   rw[tr hw]at h;have:=xI r _ _ h;rw[aAc]at this;simp only[aAd,List.length_nil]at this |-;omega
theorem ru {ns:List Nd} {m:Nd} {out:List ByteArray} (h:dY ns m= .ok out):out.length<=16:=by
 unfold dY at h;cases hf:bC ns m bn with
 |none=>rw[hf]at h;injection h with h;rw[<-h];exact Nat.zero_le _
 |some n=>
  rw[hf]at h;simp only at h;cases hl:cn ns n 0 16 with
  |error e=>rw[hl]at h;cases h
  |ok l=>
   rw[hl]at h;simp only at h;obtain ⟨h1,_,h3⟩:=iJ hl;have:=uy _ _ _ h;rw[h1,List.length_map]at this;simp only[List.length_nil]at this;omega
theorem vB {ns:List Nd} {m:Nd} {out:List Tgt} (h:gJ ns m= .ok out):out.length<=8:=by
 unfold gJ at h;cases hf:bH ns m cq with
 |error e=>rw[hf]at h;cases h
 |ok n=>
  rw[hf]at h;simp only at h;cases hl:cn ns n 1 8 with
  |error e=>rw[hl]at h;cases h
  |ok l=>
   rw[hl]at h;simp only at h;obtain ⟨h1,_,h3⟩:=iJ hl;have:=xw _ _ _ h;rw[h1,List.length_map]at this;simp only[List.length_nil]at this;omega
theorem vJ {ns:List Nd} {act:Bool} {m:Nd} {out:List Rul} (h:e8 ns act m= .ok out):out.length<=16:=by
 unfold e8 at h;cases hf:bH ns m bX with
 |error e=>rw[hf]at h;cases h
 |ok n=>
  rw[hf]at h;simp only at h;cases hl:cn ns n 1 16 with
  |error e=>rw[hl]at h;cases h
  |ok l=>
   rw[hl]at h;simp only at h;obtain ⟨h1,_,h3⟩:=iJ hl;have:=xI _ _ _ h;rw[h1,List.length_map]at this;simp only[List.length_nil]at this;omega
theorem sq {w w':World} {rb:Nat} {ns:List Nd} {m:Nd} {kd:Int} {nm:ByteArray} {dl:Bool} {r:Ending} (h:cf w rb 2 (fun v=>#[.int .i64 kd,.string nm,v,.slice none 0 0,.string ⟨#[]⟩,.slice none 0 0,.string ⟨#[]⟩,.bool dl]) 9 1 aR (dY ns m) r w'):
 dr w rb (fG ns m ⟨kd,nm,[],[],⟨#[]⟩,[],⟨#[]⟩,dl⟩) r w':=by
 rw[sX _ _ _ rfl];cases hx:dY ns m with
 |error e=>
  rw[hx]at h;obtain ⟨⟨hr,v,hb⟩,hm⟩:=h;exact ⟨⟨hr,⟨kd,nm,[],[],⟨#[]⟩,[],⟨#[]⟩,dl⟩,v,_,_,hb⟩,hm⟩
 |ok out=>
  have hl:=ru hx;rw[hx]at h;obtain ⟨⟨hr,v,hf⟩,hm⟩:=h;exact ⟨⟨hr,v,_,_,hf.blk,⟨hf.row,World.ownsRow_nil _ _ _ _,World.ownsRow_nil _ _ _ _,hf.new,nofun,nofun,by simp only[List.length_nil];omega⟩⟩,hm⟩
theorem xn {w w':World} {rb:Nat} {ns:List Nd} {m:Nd} {kd:Int} {nm:ByteArray} {dl:Bool} {r:Ending} (h:cf w rb 3 (fun v=>#[.int .i64 kd,.string nm,.slice none 0 0,v,.string ⟨#[]⟩,.slice none 0 0,.string ⟨#[]⟩,.bool dl]) 58 3 bN (gJ ns m) r w'):
 dr w rb (jq ns m ⟨kd,nm,[],[],⟨#[]⟩,[],⟨#[]⟩,dl⟩) r w':=by
 rw[y9];cases hx:gJ ns m with
 |error e=>
  rw[hx]at h;obtain ⟨⟨hr,v,hb⟩,hm⟩:=h;exact ⟨⟨hr,⟨kd,nm,[],[],⟨#[]⟩,[],⟨#[]⟩,dl⟩,_,v,_,hb⟩,hm⟩
 |ok out=>
  have hl:=vB hx;rw[hx]at h;obtain ⟨⟨hr,v,hf⟩,hm⟩:=h;exact ⟨⟨hr,_,v,_,hf.blk,⟨World.ownsRow_nil _ _ _ _,hf.row,World.ownsRow_nil _ _ _ _,nofun,hf.new,nofun,by simp only[List.length_nil];omega⟩⟩,hm⟩
theorem pF {w w1 w':World} {rb:Nat} {ns:List Nd} {act:Bool} {m:Nd} {kd:Int} {nm ht rt:ByteArray} {dl:Bool} {r:Ending} (h:cf w rb 5 (fun v=>#[.int .i64 kd,.string nm,.slice none 0 0,.slice none 0 0,.string ht,v,.string rt,.bool dl]) 60 4 bE (e8 ns act m) r w') (hw:Mod (fun k=>k=rb) w1 w):
 (match e8 ns act m with| .ok out=>r= .returned (.tuple #[])/\DS w' w1.heap.size rb ⟨kd,nm,[],[],ht,out,rt,dl⟩| .error e=>r=Pan e/\∃r2 ev tv rv,w'.heap[rb]? =some (.cells (bJ r2 ev tv rv) 49 (0,0)))/\Mod (fun k=>k=rb) w1 w':=by
 cases hx:e8 ns act m with
 |error e=>
  rw[hx]at h;obtain ⟨⟨hr,v,hb⟩,hm⟩:=h;exact ⟨⟨hr,⟨kd,nm,[],[],ht,[],rt,dl⟩,_,_,v,hb⟩,hw.trans hm⟩
 |ok out=>
  have hl:=vJ hx;rw[hx]at h;obtain ⟨⟨hr,v,hf⟩,hm⟩:=h;exact ⟨⟨hr,_,_,v,hf.blk,⟨World.ownsRow_nil _ _ _ _,World.ownsRow_nil _ _ _ _,hf.row,nofun,nofun,fun g hg=>aAe hw.size (hf.new g hg),by simp only[List.length_nil];omega⟩⟩,hw.trans hm⟩
theorem DV {w:World} {m:NdM} {ao:Option Addr} {q c:Nat} (hkv:m.kv= .slice ao q c):(w.alloc (.cells #[.int .i64 m.nd.kind,.string m.nd.key,.string m.nd.text,.bool m.nd.quoted,.int .i64 m.nd.line,.slice ao q c] 55)).heap[w.heap.size]? =some (.cells #[.int .i64 m.nd.kind,.string m.nd.key,.string m.nd.text,.bool m.nd.quoted,.int .i64 m.nd.line,.slice ao q c] 55 (0,0)):=ah _
theorem EN (w0 w:World) (db b o cap:Nat) (ms:List NdM) (h:DocB w0 w db b o cap ms) (m:NdM) (hm:m∈ms) (rb:Nat) (hrb:w0.heap.size<=rb) (hne:rb≠db) (kd:Int) (nm:ByteArray) (dl:Bool)
 (hblk:w.heap[rb]? =some (.cells #[.int .i64 kd,.string nm,.slice none 0 0,.slice none 0 0,.string ⟨#[]⟩,.slice none 0 0,.string ⟨#[]⟩,.bool dl] 49 (0,0))):
 Calls Tryz.prog 49 #[.pointer (some ⟨db,0,none⟩),m.v,.pointer (some ⟨rb,0,none⟩)] w (dr w rb (ig (nds ms) m.nd ⟨kd,nm,[],[],⟨#[]⟩,[],⟨#[]⟩,dl⟩)):=by
 have hM:=h.toM;have hok:=hM.ok hm;obtain ⟨ao2,c2,hkv,_,_⟩:=aF hok.kids;obtain ⟨q,hq⟩:=ex (m.nd.kids.length);rw[<-hq]at hkv;have Hf:=hid (fun w1 (hb1:Below w.heap.size w w1)=>il w1 db b o cap ms (hM.later hb1) m hm fM);have Hr:=hid (fun w1 (h1:DocB w0 w1 db b o cap ms) s2 hb=>xH false w0 w1 db b o cap ms h1 m hm rb hrb hne kd nm s2 ⟨#[]⟩ (.slice none 0 0) (.slice none 0 0) dl hb)
 have hlk:gj false=⟨#[115,112,108,105,116]⟩:=rfl;rw[aZ hkv,hlk]at Hr;rw[aZ hkv]at Hf |-;have Hbn:=hid ((aAb w.heap.size w).alloc (aAa _) (.cells #[.int .i64 m.nd.kind,.string m.nd.key,.string m.nd.text,.bool m.nd.quoted,.int .i64 m.nd.line,.slice ao2 q c2] 55));have HD:=hid h;have Hblk:=hid hblk;have hlt:=ag hblk;have Hlt:=hid hlt;have hkx:fM=⟨#[104,111,115,116]⟩:=rfl
 have hK:=DV (w:=w) (m:=m) hkv;have HK:=hid hK;cases hfn:bz (nds ms) m.nd fM with
 |none=>
  have hx:ig (nds ms) m.nd ⟨kd,nm,[],[],⟨#[]⟩,[],⟨#[]⟩,dl⟩= .error (m.nd.line,122):=by unfold ig;rw[cY hfn]
  rw[hx];rw[hfn]at Hf;simp only at Hf;rw[hkx]at Hf;clear hM hok hm hkv hq hblk h hfn hx hkx Hr HK hK hlt;go_enter Tryz.func49,Tryz.ntmps49
  go_wp2_with fail
  refine (Hf.o _ Hbn.o).mono ?_;rintro r w1 ⟨rfl,hb⟩;exact ⟨rfl,dr.err rfl (mm (Hbn.o.trans (hb.mono Hbn.o.size))) ⟨⟨kd,nm,[],[],⟨#[]⟩,[],⟨#[]⟩,dl⟩,_,_,_,((Hbn.o.trans (hb.mono Hbn.o.size)).block _ Hlt.o).trans Hblk.o⟩⟩
 |some k=>
  obtain ⟨mk,hmk,hmem,hnd,hokk,ao3,c3,hkv3⟩:=bS hM hm hfn;have hx:ig (nds ms) m.nd ⟨kd,nm,[],[],⟨#[]⟩,[],⟨#[]⟩,dl⟩=match aS mk.nd iL with| .error e=> .error e| .ok s=>ie (nds ms) false m.nd ⟨kd,nm,[],[],yj s,[],⟨#[]⟩,dl⟩:=by
   unfold ig;rw[cX hfn,hnd];rfl
  rw[hx];rw[hfn]at Hf;simp only at Hf;rw[hkx]at Hf;have Hmk:=hid hmk;have Hmv:=hid (aZ hkv3);have Hwt:=hid (fun w3 (hb3:Below w.heap.size w w3)=>yG w3 mk (hokk.later hb3));rw[aZ hkv3]at Hwt;have Htx:=hid hokk.text;clear hM hok hm hkv hq hblk h hfn hx hkx hK hlt hmk hmem hnd hokk hkv3;cases hwp:aS mk.nd iL with
  |error e=>
   rw[hwp]at Hwt;simp only at Hwt |-;clear hwp Hr HK;go_enter Tryz.func49,Tryz.ntmps49
   go_wp2_with fail
   refine (Hf.o _ Hbn.o).mono ?_;rintro r w1 ⟨⟨mk2,hmk2,rfl⟩,hb⟩;have e2:=Hmk.o;rw[e2]at hmk2;obtain rfl:=aAf hmk2;rw[Hmv.o];have HB:=hid (Hbn.o.trans (hb.mono Hbn.o.size));have Hw1:=hid (Hwt.o w1 HB.o);clear hb hmk2 e2 Hf Hwt
   go_wp2_with fail
   refine Hw1.o.mono ?_;rintro r w2 ⟨rfl,hb2⟩;exact ⟨rfl,dr.err rfl (mm (HB.o.trans (hb2.mono HB.o.size))) ⟨⟨kd,nm,[],[],⟨#[]⟩,[],⟨#[]⟩,dl⟩,_,_,_,((HB.o.trans (hb2.mono HB.o.size)).block _ Hlt.o).trans Hblk.o⟩⟩
  |ok s=>
   rw[hwp]at Hwt;simp only at Hwt |-;have hss:s.size<=1048576:=by rw[kr hwp];exact Htx.o
   clear hwp;obtain ⟨s2,hs2⟩:=ex (yj s);rw[qC];rw[<-hs2];obtain ⟨X,hX⟩:=ex (e8 (nds ms) false m.nd);rw[<-hX];have HX:=hid hX;clear hX;have Hfo:=hid (fun w1=>C8 w1 s hss);rw[<-hs2]at Hfo;clear hss hs2;go_enter Tryz.func49,Tryz.ntmps49
   go_wp2_with fail
   refine (Hf.o _ Hbn.o).mono ?_;rintro r w1 ⟨⟨mk2,hmk2,rfl⟩,hb⟩;have e2:=Hmk.o;rw[e2]at hmk2;obtain rfl:=aAf hmk2;rw[Hmv.o];have HB:=hid (Hbn.o.trans (hb.mono Hbn.o.size));have HK1:=hid ((hb.block _ (ag HK.o)).trans HK.o);have Hw1:=hid (Hwt.o w1 HB.o);clear hb hmk2 e2 Hf Hwt HK
   go_wp2_with fail
   refine Hw1.o.mono ?_;rintro r w2 ⟨rfl,hb2⟩;have HB2:=hid (HB.o.trans (hb2.mono HB.o.size));have HK2:=hid ((hb2.block _ (ag HK1.o)).trans HK1.o);clear hb2 Hw1 HB HK1
   go_wp2_with fail
   refine (Hfo.o _).mono ?_;rintro r w3 ⟨rfl,hb3⟩;have HB3:=hid (HB2.o.trans (hb3.mono HB2.o.size));have HK3:=hid ((hb3.block _ (ag HK2.o)).trans HK2.o);clear hb3 Hfo HB2 HK2;have HB2:=HB3;have HK2:=HK3;clear HB3 HK3;have hb5:=(HB2.o.block _ Hlt.o).trans Hblk.o;have q1:=af hb5 4;have q2:=ai hb5 4;simp at q1;have hlo:=Hlt.o;have hset:=aE hb5 4 (.string s2)
   have hmod:Mod (fun k=>k=rb) w3 (w3.setCell ⟨rb,4,none⟩ (.string s2)):=(Mod.refl _ _).setCell _ _ (fun _=>rfl);have hk9:=hmod.heap HK2.o (by intro e;omega);obtain ⟨x0,x1,x2,x3,x4,x5⟩:=cB6 hk9;simp at x0 x1 x2 x3 x4 x5;have HR:=hid (Hr.o _ ((HD.o.later HB2.o).step hmod (fun e=>hne e.symm) (fun k e=>by rw[e];exact hrb)) s2 hset);have HM:=hid ((mm (rb:=rb) HB2.o).trans hmod);clear hk9 hmod hset hb5 HK2 hlo Hr
   go_wp2_with fail
   refine HR.o.mono ?_;intro r w5 hp;have hp2:=pF hp HM.o;rw[<-HX.o]at hp2;clear hp HX HR HM HB2 q1 q2 x0 x1 x2 x3 x4 x5
   revert hp2
   cases X with
   |error e=>
    rintro ⟨⟨rfl,hb9⟩,hm⟩;exact ⟨rfl,dr.err rfl hm hb9⟩
   |ok out=>
    rintro ⟨⟨rfl,hv⟩,hm⟩;have HE:=hid (And.intro hv hm);clear hv hm;go_wp2
    first|go_end0|refine bodyPost_ret (results_none rfl _ _ _) rfl ?_
    exact ⟨⟨rfl,HE.o.1⟩,HE.o.2⟩
theorem B5 (w0 w:World) (db b o cap:Nat) (ms:List NdM) (h:DocB w0 w db b o cap ms) (m:NdM) (hm:m∈ms) (rb:Nat) (hrb:w0.heap.size<=rb) (hne:rb≠db) (kd:Int) (nm:ByteArray) (dl:Bool)
 (hblk:w.heap[rb]? =some (.cells #[.int .i64 kd,.string nm,.slice none 0 0,.slice none 0 0,.string ⟨#[]⟩,.slice none 0 0,.string ⟨#[]⟩,.bool dl] 49 (0,0))):
 Calls Tryz.prog 50 #[.pointer (some ⟨db,0,none⟩),m.v,.pointer (some ⟨rb,0,none⟩)] w (dr w rb (fA (nds ms) m.nd ⟨kd,nm,[],[],⟨#[]⟩,[],⟨#[]⟩,dl⟩)):=by
 have hM:=h.toM;have hok:=hM.ok hm;obtain ⟨ao2,c2,hkv,_,_⟩:=aF hok.kids;obtain ⟨q,hq⟩:=ex (m.nd.kids.length);rw[<-hq]at hkv;have Hf:=hid (fun w1 (hb1:Below w.heap.size w w1)=>il w1 db b o cap ms (hM.later hb1) m hm ed);have Hr:=hid (fun w1 (h1:DocB w0 w1 db b o cap ms) s2 hb=>xH true w0 w1 db b o cap ms h1 m hm rb hrb hne kd nm ⟨#[]⟩ s2 (.slice none 0 0) (.slice none 0 0) dl hb)
 have hlk:gj true=⟨#[97,99,116,105,111,110]⟩:=rfl;rw[aZ hkv,hlk]at Hr;rw[aZ hkv]at Hf |-;have Hbn:=hid ((aAb w.heap.size w).alloc (aAa _) (.cells #[.int .i64 m.nd.kind,.string m.nd.key,.string m.nd.text,.bool m.nd.quoted,.int .i64 m.nd.line,.slice ao2 q c2] 55));have HD:=hid h;have Hblk:=hid hblk;have hlt:=ag hblk;have Hlt:=hid hlt;have hkx:ed=⟨#[114,111,117,116,101]⟩:=rfl
 have hK:=DV (w:=w) (m:=m) hkv;have HK:=hid hK;cases hfn:bz (nds ms) m.nd ed with
 |none=>
  have hx:fA (nds ms) m.nd ⟨kd,nm,[],[],⟨#[]⟩,[],⟨#[]⟩,dl⟩= .error (m.nd.line,122):=by unfold fA;rw[cY hfn]
  rw[hx];rw[hfn]at Hf;simp only at Hf;rw[hkx]at Hf;clear hM hok hm hkv hq hblk h hfn hx hkx Hr HK hK hlt;go_enter Tryz.func50,Tryz.ntmps50
  go_wp2_with fail
  refine (Hf.o _ Hbn.o).mono ?_;rintro r w1 ⟨rfl,hb⟩;exact ⟨rfl,dr.err rfl (mm (Hbn.o.trans (hb.mono Hbn.o.size))) ⟨⟨kd,nm,[],[],⟨#[]⟩,[],⟨#[]⟩,dl⟩,_,_,_,((Hbn.o.trans (hb.mono Hbn.o.size)).block _ Hlt.o).trans Hblk.o⟩⟩
 |some k=>
  obtain ⟨mk,hmk,hmem,hnd,hokk,ao3,c3,hkv3⟩:=bS hM hm hfn;have hx:fA (nds ms) m.nd ⟨kd,nm,[],[],⟨#[]⟩,[],⟨#[]⟩,dl⟩=match aS mk.nd isName with| .error e=> .error e| .ok s=>ie (nds ms) true m.nd ⟨kd,nm,[],[],⟨#[]⟩,[],s,dl⟩:=by
   unfold fA;rw[cX hfn,hnd];rfl
  rw[hx];rw[hfn]at Hf;simp only at Hf;rw[hkx]at Hf;have Hmk:=hid hmk;have Hmv:=hid (aZ hkv3);have Hwt:=hid (fun w3 (hb3:Below w.heap.size w w3)=>iv w3 mk (hokk.later hb3));rw[aZ hkv3]at Hwt;have Htx:=hid hokk.text;clear hM hok hm hkv hq hblk h hfn hx hkx hK hlt hmk hmem hnd hokk hkv3;cases hwp:aS mk.nd isName with
  |error e=>
   rw[hwp]at Hwt;simp only at Hwt |-;clear hwp Hr HK;go_enter Tryz.func50,Tryz.ntmps50
   go_wp2_with fail
   refine (Hf.o _ Hbn.o).mono ?_;rintro r w1 ⟨⟨mk2,hmk2,rfl⟩,hb⟩;have e2:=Hmk.o;rw[e2]at hmk2;obtain rfl:=aAf hmk2;rw[Hmv.o];have HB:=hid (Hbn.o.trans (hb.mono Hbn.o.size));have Hw1:=hid (Hwt.o w1 HB.o);clear hb hmk2 e2 Hf Hwt
   go_wp2_with fail
   refine Hw1.o.mono ?_;rintro r w2 ⟨rfl,hb2⟩;exact ⟨rfl,dr.err rfl (mm (HB.o.trans (hb2.mono HB.o.size))) ⟨⟨kd,nm,[],[],⟨#[]⟩,[],⟨#[]⟩,dl⟩,_,_,_,((HB.o.trans (hb2.mono HB.o.size)).block _ Hlt.o).trans Hblk.o⟩⟩
  |ok s=>
   rw[hwp]at Hwt;simp only at Hwt |-;have hss:s.size<=1048576:=by rw[kr hwp];exact Htx.o
   clear hwp;obtain ⟨s2,hs2⟩:=ex (s);rw[qC];rw[<-hs2];obtain ⟨X,hX⟩:=ex (e8 (nds ms) true m.nd);rw[<-hX];have HX:=hid hX;clear hX;obtain rfl:=hs2;clear hss;go_enter Tryz.func50,Tryz.ntmps50
   go_wp2_with fail
   refine (Hf.o _ Hbn.o).mono ?_;rintro r w1 ⟨⟨mk2,hmk2,rfl⟩,hb⟩;have e2:=Hmk.o;rw[e2]at hmk2;obtain rfl:=aAf hmk2;rw[Hmv.o];have HB:=hid (Hbn.o.trans (hb.mono Hbn.o.size));have HK1:=hid ((hb.block _ (ag HK.o)).trans HK.o);have Hw1:=hid (Hwt.o w1 HB.o);clear hb hmk2 e2 Hf Hwt HK
   go_wp2_with fail
   refine Hw1.o.mono ?_;rintro r w2 ⟨rfl,hb2⟩;have HB2:=hid (HB.o.trans (hb2.mono HB.o.size));have HK2:=hid ((hb2.block _ (ag HK1.o)).trans HK1.o);clear hb2 Hw1 HB HK1;have hb5:=(HB2.o.block _ Hlt.o).trans Hblk.o;have q1:=af hb5 6;have q2:=ai hb5 6;simp at q1;have hlo:=Hlt.o;have hset:=aE hb5 6 (.string s2);have hmod:Mod (fun k=>k=rb) w2 (w2.setCell ⟨rb,6,none⟩ (.string s2)):=(Mod.refl _ _).setCell _ _ (fun _=>rfl)
   have hk9:=hmod.heap HK2.o (by intro e;omega);obtain ⟨x0,x1,x2,x3,x4,x5⟩:=cB6 hk9;simp at x0 x1 x2 x3 x4 x5;have HR:=hid (Hr.o _ ((HD.o.later HB2.o).step hmod (fun e=>hne e.symm) (fun k e=>by rw[e];exact hrb)) s2 hset);have HM:=hid ((mm (rb:=rb) HB2.o).trans hmod);clear hk9 hmod hset hb5 HK2 hlo Hr
   go_wp2_with fail
   refine HR.o.mono ?_;intro r w5 hp;have hp2:=pF hp HM.o;rw[<-HX.o]at hp2;clear hp HX HR HM HB2 q1 q2 x0 x1 x2 x3 x4 x5
   revert hp2
   cases X with
   |error e=>
    rintro ⟨⟨rfl,hb9⟩,hm⟩;exact ⟨rfl,dr.err rfl hm hb9⟩
   |ok out=>
    rintro ⟨⟨rfl,hv⟩,hm⟩;have HE:=hid (And.intro hv hm);clear hv hm;go_wp2
    first|go_end0|refine bodyPost_ret (results_none rfl _ _ _) rfl ?_
    exact ⟨⟨rfl,HE.o.1⟩,HE.o.2⟩
def kh:Array Value:=#[.string ⟨#[]⟩,.string fK,.string mj,.string ml,.string jW]
theorem vS {w:World} {b:Nat} {arr:Array Value} {T:TypeId} (hb:w.heap[b]? =some (.cells arr T (0,0))):∀(j:Nat) (v:Value),arr.toList[j]? =some v->w.cell? ⟨b,0+j,none⟩=some v:=by
 intro j v hv;rw[Nat.zero_add,af hb j,<-Array.getElem?_toList];exact hv
theorem pW {fn:Func} {w:World} {b t:Nat} {tmps:Array Value} (h:fn.results=#[.cell t 82]) (h2:tmps[t]? =some (.pointer (some ⟨b,0,none⟩))) (hb:w.heap[b]? =some (.cells kh 82 (0,0))):
 (results fn tmps).run Tryz.prog w= .ok (.agg kh) w:=by
 have hl:=run_loadVar_mid (P:= Tryz.prog) w b 0 82 kh.toList _ (vS hb) Tryz.underlying82 rfl (show (Tryz.prog.info? 82).map (·.size)=some 5 by kernel_rfl);rw[Array.getElem?_eq_some_iff]at h2;obtain ⟨l2,e2⟩:=h2;simp[results,h,asAddr,Array.getD,l2,e2,hl]
theorem yb (w:World):Calls Tryz.prog 38 #[] w fun r w'=>r= .returned (.agg kh)/\Below w.heap.size w w':=by
 have Hb:=hid (fun o=>(aAb w.heap.size w).alloc (aAa _) o);go_enter Tryz.func38,Tryz.ntmps38;go_wp2;refine bodyPost_ret (pW (b:=w.heap.size) rfl rfl (ah _)) rfl ?_;exact ⟨rfl,Hb.o _⟩
theorem BC {w W:World} (l:List ByteArray) (z:Array Value) (c:Nat) (hW:Below w.heap.size w W) (g:Nat) (hg:g=W.heap.size) (hl:l.length<=1000):
 SlR ((W.alloc (.cells ((l.map Value.string).toArray++z) 9)).drew) (.slice (some ⟨g,0,none⟩) l.length c) 1 l aR/\Below w.heap.size w ((W.alloc (.cells ((l.map Value.string).toArray++z) 9)).drew):=by
 subst hg;refine ⟨⟨_,_,rfl,by omega,fun h0=>⟨W.heap.size,0,rfl,?_,fun i x hi j u hu=> ?_⟩⟩,bdH (hW.alloc hW.size _) 1⟩
 ·exact ag (ah (w:=W) (.cells ((l.map Value.string).toArray++z) 9))
 ·cases j with
  |zero=>
   injection hu with hu
   subst hu;have hil:=(aAh hi).1;have h2:=af (ah (w:=W) (.cells ((l.map Value.string).toArray++z) 9)) (0+i*1+0);refine Eq.trans h2 ?_;have e:(0+i*1+0)=i:=by omega
   rw[e,Array.getElem?_append_left (by simp;exact hil)];simp[hi]
  |succ j=>cases hu
theorem k9 {w W:World} {l:List ByteArray} {z arr:Array Value} {c g:Nat} {V:Value} (hV:V= .slice (some ⟨g,0,none⟩) l.length c) (hW:Below w.heap.size w W) (hg:g=W.heap.size) (hl:l.length<=1000) (harr:arr=(l.map Value.string).toArray++z):
 (∃v,Ending.returned V= .returned v/\SlR ((W.alloc (.cells arr 9)).drew) v 1 l aR)/\Below w.heap.size w ((W.alloc (.cells arr 9)).drew):=by
 subst hV;subst harr;have h:=BC l z c hW g hg hl;exact ⟨⟨_,rfl,h.1⟩,h.2⟩
theorem Dh (w:World):Calls Tryz.prog 46 #[.int .i64 1] w fun r w'=>(∃v,r= .returned v/\SlR w' v 1 [kKind,bB,bn] aR)/\Below w.heap.size w w':=by
 have Hb:=hid (fun o1 o2 o3 o4 o5 o6=>show Below w.heap.size w ((((((w.alloc o1).alloc o2).alloc o3).alloc o4).alloc o5).alloc o6) from by
  have h0:=aAb w.heap.size w;have h1:=h0.alloc h0.size o1;have h2:=h1.alloc h1.size o2;have h3:=h2.alloc h2.size o3;have h4:=h3.alloc h3.size o4;have h5:=h4.alloc h4.size o5;exact h5.alloc h5.size o6)
 go_enter Tryz.func46,Tryz.ntmps46;go_wp2;go_ret;exact k9 (l:=[kKind,bB,bn]) rfl (Hb.o _ _ _ _ _ _) (by simp) (by decide) rfl
theorem Dg (w:World):Calls Tryz.prog 46 #[.int .i64 2] w fun r w'=>(∃v,r= .returned v/\SlR w' v 1 [kKind,bB,cq] aR)/\Below w.heap.size w w':=by
 have Hb:=hid (fun o1 o2 o3 o4 o5 o6=>show Below w.heap.size w ((((((w.alloc o1).alloc o2).alloc o3).alloc o4).alloc o5).alloc o6) from by
  have h0:=aAb w.heap.size w;have h1:=h0.alloc h0.size o1;have h2:=h1.alloc h1.size o2;have h3:=h2.alloc h2.size o3;have h4:=h3.alloc h3.size o4;have h5:=h4.alloc h4.size o5;exact h5.alloc h5.size o6)
 go_enter Tryz.func46,Tryz.ntmps46;go_wp2;go_ret;exact k9 (l:=[kKind,bB,cq]) rfl (Hb.o _ _ _ _ _ _) (by simp) (by decide) rfl
theorem Df (w:World):Calls Tryz.prog 46 #[.int .i64 3] w fun r w'=>(∃v,r= .returned v/\SlR w' v 1 [kKind,bB,fM,bX] aR)/\Below w.heap.size w w':=by
 have Hb:=hid (fun o1 o2 o3 o4 o5 o6=>show Below w.heap.size w ((((((w.alloc o1).alloc o2).alloc o3).alloc o4).alloc o5).alloc o6) from by
  have h0:=aAb w.heap.size w;have h1:=h0.alloc h0.size o1;have h2:=h1.alloc h1.size o2;have h3:=h2.alloc h2.size o3;have h4:=h3.alloc h3.size o4;have h5:=h4.alloc h4.size o5;exact h5.alloc h5.size o6)
 go_enter Tryz.func46,Tryz.ntmps46;go_wp2;go_ret;exact k9 (l:=[kKind,bB,fM,bX]) rfl (Hb.o _ _ _ _ _ _) (by simp) (by decide) Array.append_assoc.symm
theorem De (w:World):Calls Tryz.prog 46 #[.int .i64 4] w fun r w'=>(∃v,r= .returned v/\SlR w' v 1 [kKind,bB,ed,bX] aR)/\Below w.heap.size w w':=by
 have Hb:=hid (fun o1 o2 o3 o4 o5 o6=>show Below w.heap.size w ((((((w.alloc o1).alloc o2).alloc o3).alloc o4).alloc o5).alloc o6) from by
  have h0:=aAb w.heap.size w;have h1:=h0.alloc h0.size o1;have h2:=h1.alloc h1.size o2;have h3:=h2.alloc h2.size o3;have h4:=h3.alloc h3.size o4;have h5:=h4.alloc h4.size o5;exact h5.alloc h5.size o6)
 go_enter Tryz.func46,Tryz.ntmps46;go_wp2;go_ret;exact k9 (l:=[kKind,bB,ed,bX]) rfl (Hb.o _ _ _ _ _ _) (by simp) (by decide) Array.append_assoc.symm
theorem uq (w:World) (k:Nat) (h1:1<=k) (h4:k<=4):Calls Tryz.prog 46 #[.int .i64 (k:Int)] w fun r w'=>(∃v,r= .returned v/\SlR w' v 1 (kKind::bB::p7 k) aR)/\Below w.heap.size w w':=by
 match k,h1,h4 with
 |1,_,_=>exact Dh w
 |2,_,_=>exact Dg w
 |3,_,_=>exact Df w
 |4,_,_=>exact De w
theorem vI (v:Value) (w:World):(Instr.typeAssert (.iface 76 v) 20 76 true).run Tryz.prog w= .ok (.tuple #[v,.bool true]) w:=by
 simp[Instr.typeAssert,go_sem,Tryz.underlying76]
def tC:List Value:=[.int .i64 0,.string ⟨#[]⟩,.slice none 0 0,.slice none 0 0,.string ⟨#[]⟩,.slice none 0 0,.string ⟨#[]⟩,.bool false]
theorem BJ (rb lb eb:Nat) (w:World):
 CallsD Tryz.prog 35 #[.pointer (some ⟨rb,0,none⟩),.pointer (some ⟨lb,0,none⟩),.pointer (some ⟨eb,0,none⟩)] .returning w fun e u' w'=>e= .returned (.tuple #[])/\u'= .returning/\w'=w:=by
 refine callsD_of_wpS Tryz.func35 rfl fun c₀ cs hu=> ?_;apply wpS_seq;apply wpS_region;simp[wpOpsS,go_sem,recoverD,hu,Tryz.ntmps35,Exit.thenS];refine wpS_of_wp ?_;go_wp2;cases c₀
 simp_all[bodyPostS,results,Tryz.results35]
theorem fw (w:World) (k:Nat):w.drew.heap[k]? =w.heap[k]? :=rfl
theorem zp {w:World} {x0 x1 x2 x3 x4 x5 x6 x7 lv ev:Value} {T1 T2 T3:TypeId} (n:Nat) (e:Stop) (ob:Obj) (hr:w.heap[n]? =some (.cells #[x0,x1,x2,x3,x4,x5,x6,x7] T1 (0,0))) (hl:w.heap[n+1]? =some (.cells #[lv] T2 (0,0))) (he:w.heap[n+1+1]? =some (.cells #[ev] T3 (0,0))):
 ∀W,W=(((((((((((w.alloc ob).setCell ⟨n,0,none⟩ (.int .i64 0)).setCell ⟨n,1,none⟩ (.string ⟨#[]⟩)).setCell ⟨n,2,none⟩ (.slice none 0 0)).setCell ⟨n,3,none⟩ (.slice none 0 0)).setCell ⟨n,4,none⟩ (.string ⟨#[]⟩)).setCell ⟨n,5,none⟩ (.slice none 0 0)).setCell ⟨n,6,none⟩ (.string ⟨#[]⟩)).setCell ⟨n,7,none⟩ (.bool false)).setCell ⟨n+1,0,none⟩ (.int .i64 e.1)).setCell ⟨n+1+1,0,none⟩ (.int .i64 e.2)).drew->
  Mod (fun k=>k=n\/k=n+1\/k=n+1+1) w W/\W.heap[n]? =some (.cells tC.toArray T1 (0,0))/\W.heap[n+1]? =some (.cells #[.int .i64 e.1] T2 (0,0))/\W.heap[n+1+1]? =some (.cells #[.int .i64 e.2] T3 (0,0)):=by
 rintro W rfl;have ha:=(aj ob (ag hr)).trans hr;have hb:=(aj ob (ag hl)).trans hl;have hc:=(aj ob (ag he)).trans he;have hm:Mod (fun k=>k=n\/k=n+1\/k=n+1+1) w (w.alloc ob):=(Mod.refl _ _).trans' (Mod.ofBelow (F:=fun _=>False) ((aAb w.heap.size w).alloc (aAa _) ob) (fun k hk hge=>by omega)) (fun _ _ q=>q.elim);generalize w.alloc ob=V at*;have m1:=((((((((((hm.setCell ⟨n,0,none⟩ (.int .i64 0) (fun _=> .inl rfl)).setCell ⟨n,1,none⟩ (.string ⟨#[]⟩) (fun _=> .inl rfl)).setCell ⟨n,2,none⟩ (.slice none 0 0) (fun _=> .inl rfl)).setCell ⟨n,3,none⟩ (.slice none 0 0) (fun _=> .inl rfl)).setCell ⟨n,4,none⟩ (.string ⟨#[]⟩) (fun _=> .inl rfl)).setCell ⟨n,5,none⟩ (.slice none 0 0) (fun _=> .inl rfl)).setCell ⟨n,6,none⟩ (.string ⟨#[]⟩) (fun _=> .inl rfl)).setCell ⟨n,7,none⟩ (.bool false) (fun _=> .inl rfl)).setCell ⟨n+1,0,none⟩ (.int .i64 e.1) (fun _=> .inr (.inl rfl))).setCell ⟨n+1+1,0,none⟩ (.int .i64 e.2) (fun _=> .inr (.inr rfl)))
 refine ⟨m1.drew,?_,?_,?_⟩
 ·have g0:=aE ha 0 (.int .i64 0);have g1:=aE g0 1 (.string ⟨#[]⟩);have g2:=aE g1 2 (.slice none 0 0);have g3:=aE g2 3 (.slice none 0 0);have g4:=aE g3 4 (.string ⟨#[]⟩);have g5:=aE g4 5 (.slice none 0 0);have g6:=aE g5 6 (.string ⟨#[]⟩);have h1:=aE g6 7 (.bool false);rw[fw];refine (aO _ _ (by show ¬n=n+1+1;omega)).trans ?_;refine (aO _ _ (by show ¬n=n+1;omega)).trans ?_
  refine h1.trans ?_;rfl
 ·have h1:∀(U:World) j v,(U.setCell ⟨n,j,none⟩ v).heap[n+1]? =U.heap[n+1]? :=fun U j v=>aO _ _ (by show ¬n+1=n;omega);rw[fw];refine (aO _ _ (by show ¬n+1=n+1+1;omega)).trans (aE (c:=#[lv]) ?_ 0 (.int .i64 e.1));rw[h1,h1,h1,h1,h1,h1,h1,h1];exact hb
 ·have h1:∀(U:World) j v,(U.setCell ⟨n,j,none⟩ v).heap[n+1+1]? =U.heap[n+1+1]? :=fun U j v=>aO _ _ (by show ¬n+1+1=n;omega);rw[fw];refine aE (c:=#[ev]) ?_ 0 (.int .i64 e.2);refine (aO _ _ (by show ¬n+1+1=n+1;omega)).trans ?_;rw[h1,h1,h1,h1,h1,h1,h1,h1];exact hc
theorem BI (n:Nat) (e:Stop) (older:List PanicEntry) (w:World) (x0 x1 x2 x3 x4 x5 x6 x7 lv ev:Value) (T1 T2 T3:TypeId) (hr:w.heap[n]? =some (.cells #[x0,x1,x2,x3,x4,x5,x6,x7] T1 (0,0))) (hl:w.heap[n+1]? =some (.cells #[lv] T2 (0,0))) (he:w.heap[n+1+1]? =some (.cells #[ev] T3 (0,0))):
 CallsD Tryz.prog 35 #[.pointer (some ⟨n,0,none⟩),.pointer (some ⟨n+1,0,none⟩),.pointer (some ⟨n+1+1,0,none⟩)] (.panicking ({v:= .iface 76 (.agg #[.int .i64 e.1,.int .i64 e.2]),recovered:=false}::older)) w fun r u' w'=>r= .returned (.tuple #[])/\u'= .panicking ({v:= .iface 76 (.agg #[.int .i64 e.1,.int .i64 e.2]),recovered:=true}::older)/\
  Mod (fun k=>k=n\/k=n+1\/k=n+1+1) w w'/\w'.heap[n]? =some (.cells tC.toArray T1 (0,0))/\w'.heap[n+1]? =some (.cells #[.int .i64 e.1] T2 (0,0))/\w'.heap[n+1+1]? =some (.cells #[.int .i64 e.2] T3 (0,0)):=by
 have HE:=hid (fun ob=>zp (w:=w) n e ob hr hl he);refine callsD_of_wpS Tryz.func35 rfl fun c₀ cs hu=> ?_;apply wpS_seq;apply wpS_region;simp[wpOpsS,go_sem,recoverD,hu,Tryz.ntmps35,Exit.thenS];refine wpS_of_wp ?_
 show Code.wp _ _ _ {tmps:=#[.pointer (some ⟨n,0,none⟩),.pointer (some ⟨n+1,0,none⟩),.pointer (some ⟨n+1+1,0,none⟩),undef,undef,undef,.iface 76 (.agg #[.int .i64 e.1,.int .i64 e.2]),undef,undef,undef,undef,undef,undef,undef,undef,undef,undef],defers:=[]} _
 have hta:∀(v:Value) (w:World),(Instr.typeAssert (.iface 76 v) 20 76 true).run Tryz.prog w= .ok (.tuple #[v,.bool true]) w:=vI;have f1:=fun ob j=>ai ((aj ob (ag hr)).trans hr) j;have f2:=fun ob=>ai ((aj ob (ag hl)).trans hl) 0;have f3:=fun ob=>ai ((aj ob (ag he)).trans he) 0
 have c2:=fun ob=>af ((aj ob (ag hl)).trans hl) 0;have c3:=fun ob=>af ((aj ob (ag he)).trans he) 0;have c1:=fun ob j=>af ((aj ob (ag hr)).trans hr) j;have y0:=fun ob=>c1 ob 0;have y1:=fun ob=>c1 ob 1;have y2:=fun ob=>c1 ob 2;have y3:=fun ob=>c1 ob 3;have y4:=fun ob=>c1 ob 4;have y5:=fun ob=>c1 ob 5;have y6:=fun ob=>c1 ob 6;have y7:=fun ob=>c1 ob 7
 simp at c2 c3 y0 y1 y2 y3 y4 y5 y6 y7;clear c1;have hq:=ag he;have n1:¬n=w.heap.size:=by omega
 have n2:¬w.heap.size=n:=by omega
 have n3:¬n+1=w.heap.size:=by omega
 have n4:¬w.heap.size=n+1:=by omega
 have n5:¬n+1+1=w.heap.size:=by omega
 have n6:¬w.heap.size=n+1+1:=by omega
 clear hq hr hl he;go_wp2
 go_region
 all_goals go_wp2
 all_goals
  cases c₀;simp only at hu;subst hu;exact ⟨rfl,_,rfl,.tuple #[],results_none rfl _ _ _,rfl,rfl,HE.o _ _ rfl⟩
