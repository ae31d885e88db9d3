/-
Parts of a proof.
-/
import Derived.Test.YtfenoaeoedobmaaGreatDoorOn23
set_option linter.unusedVariables false
set_option linter.unusedSimpArgs false
set_option maxHeartbeats 8000000
set_option maxRecDepth 20000
namespace Go.Proofs.YtfenoaeoedobmaaGreatDoor
open Go Go.RowKit
theorem Xg {l:List UInt8} {p:UInt8->Bool} (h:∀(j:Nat) (c:UInt8),j<l.length->l[j]? =some c->p c=true):l.all p=true:=by
 rw[List.all_eq_true];intro c hc;obtain ⟨j,hj,e⟩:=List.getElem_of_mem hc;exact h j c hj (by rw[aBn hj,e])
theorem Xh {l:List UInt8} {p:UInt8->Bool} {k:Nat} {c:UInt8} (hc:l[k]? =some c) (h:p c=false):l.all p=false:=by
 rw[List.all_eq_false];exact ⟨c,List.mem_of_getElem? hc,by rw[h];decide⟩
theorem CC {s:ByteArray} {k:Nat} {c:UInt8} (hc:s.data.toList[k]? =some c) (h:xW c=false):jo s.data.toList=false:=by
 unfold jo;rw[Xh hc h];rfl
theorem y9 {s:ByteArray} (h:s.data.toList.all xW=true) (h2:¬(0<s.size/\s.size<=64)):jo s.data.toList=false:=by
 unfold jo;rw[h,aq,dF h2];rfl
theorem NL {s:ByteArray} (h:s.data.toList.all xW=true) (h2:0<s.size/\s.size<=64):jo s.data.toList=true:=by
 unfold jo;rw[h,aq,dT h2];rfl
theorem VV (w:World) (s:ByteArray) (hs:s.size<=1048576):
 Calls Tryz.prog 159 #[.string s] w fun r w'=>r= .returned (.bool (jo s.data.toList))/\w'=w:=by
 obtain ⟨n,hn⟩:=ex (s.size);have Hn:=hid hn;obtain ⟨l,hl⟩:=ex (s.data.toList);have Hl:=hid hl;have Hs:=hid hs;clear hn hl hs;go_enter Tryz.func159,Tryz.ntmps159;go_wp2
 go_loop [6] (fun v=>∃k:Nat,v= .int .i64 (k:Int)/\Hid (k<=n/\∀(j:Nat) (c:UInt8),j<k->l[j]? =some c->xW c=true)) (fun v=>n-(intOf v).toNat)
 case atStart=>exact ⟨0,rfl,hid ⟨Nat.zero_le _,fun j c h=>absurd h (Nat.not_lt_zero _)⟩⟩
 case round=>
  obtain ⟨k,rfl,H⟩:=hrel;have hn:n=s.size:=Hn.o;have hl:l=s.data.toList:=Hl.o;have hs:=Hs.o;by_cases cg:k<n
  ·obtain ⟨c,hc⟩:=fi (s:=s) (by rw[<-hn];exact cg);have ib:=aU (s:=s) (k:Int) rfl hc;have b3:(k:Int)<(s.size:Int):=by omega
   have wk:=bK (z:=(k:Int)+1) (by omega) (by omega);have cY:=hid (eJ cg wk);have df:=hid (g8 wk);by_cases h1:c.toNat<65
   ·have ui:xW c=false:=dF (by omega);have g0:(c.toNat:Int)<65:=by omega
    have He:=hid (show false=jo s.data.toList from (CC hc ui).symm);clear hn hl hs cg hc H wk ui h1;go_wp2;go_ret;exact ⟨fV He.o,rfl⟩
   have g0:(65:Int)<=(c.toNat:Int):=by omega
   by_cases h2:90<c.toNat
   ·have ui:xW c=false:=dF (by omega);have g1:(90:Int)<(c.toNat:Int):=by omega
    have He:=hid (show false=jo s.data.toList from (CC hc ui).symm);clear hn hl hs cg hc H wk ui h1 h2;go_wp2;go_ret;exact ⟨fV He.o,rfl⟩
   have g1:(c.toNat:Int)<=90:=by omega
   have ui:xW c=true:=dT (by omega);have He:=hid (show k+1<=n/\∀(j:Nat) (c:UInt8),j<k+1->l[j]? =some c->xW c=true from ⟨cg,fun j d hj hd=>by
    by_cases e:j=k
    ·subst e;rw[hl,hc]at hd;obtain rfl:=aBm hd;exact ui
    ·exact H.o.2 j d (by omega) hd⟩)
   clear hn hl hs cg hc H wk ui h1 h2;go_wp2;go_round
   case rel=>exact ⟨k+1,df.o,He⟩
   case measure=>exact cY.o
  ·have b3:(s.size:Int)<=(k:Int):=by omega
   have hall:s.data.toList.all xW=true:=Xg fun j c hj hc=>H.o.2 j c (by rw[aq]at hj;omega) (by rw[hl];exact hc);rcases Nat.eq_zero_or_pos s.size with h0|h0
   ·have q2:(s.size:Int)<=0:=by omega
    have q3:(s.size:Int)<1:=by omega
    have He:=hid (show false=jo s.data.toList from (y9 hall (by omega)).symm);clear hn hl hs cg H hall h0;go_wp2;go_ret;exact ⟨fV He.o,rfl⟩
   ·have q2:(0:Int)<(s.size:Int):=by omega
    have q3:(1:Int)<=(s.size:Int):=by omega
    by_cases sL:s.size<=64
    ·have b4:(s.size:Int)<=64:=by omega
     have He:=hid (show true=jo s.data.toList from (NL hall (by omega)).symm);clear hn hl hs cg H hall h0 sL;go_wp2;go_ret;exact ⟨fV He.o,rfl⟩
    ·have b4:decide ((s.size:Int)<=64)=false:=dF (by omega);have b5:(64:Int)<(s.size:Int):=by omega
     have He:=hid (show false=jo s.data.toList from (y9 hall (by omega)).symm);clear hn hl hs cg H hall h0 sL;go_wp2;go_ret;exact ⟨fV He.o,rfl⟩
theorem JN (w:World) (s:ByteArray) (hs:s.size<=1048576):
 Calls Tryz.prog 122 #[.string s] w fun r w'=>r= .returned (.bool (gK s))/\w'=w:=by
 have Hm:=hid (VV w s hs);have hv:gK s=((s.toList==[42])||jo s.data.toList):=rfl;rw[hv];clear hs hv;cases h:(s.toList==[42]) with
 |true=>
  clear Hm;go_enter Tryz.func122,Tryz.ntmps122;go_wp2;go_ret;exact ⟨rfl,rfl⟩
 |false=>
  generalize jo s.data.toList=m at*;go_enter Tryz.func122,Tryz.ntmps122
  go_wp2_with fail
  refine Hm.o.mono ?_;rintro r w1 ⟨rfl,rfl⟩;clear Hm;go_wp2;go_ret;exact ⟨rfl,rfl⟩
theorem RE (w:World) (s:ByteArray):
 Calls Tryz.prog 83 #[.string s] w fun r w'=>r= .returned (.bool (kJ s))/\Below w.heap.size w w':=by
 have Hh:=hid (Wf w s);unfold fk at Hh;have hv:kJ s=decide ((nI s).1≠3):=rfl;rw[hv];clear hv;obtain ⟨z,hz⟩:=ex ((nI s).1);rw[<-hz]at Hh |-;clear hz;by_cases h3:z=3
 ·have t1:(z==3)=true:=by rw[beq_iff_eq];exact h3
  have He:=hid (show false=decide (z≠3) from (dF (fun q=>q h3)).symm);have p3:z=3:=h3;clear h3;go_enter Tryz.func83,Tryz.ntmps83
  go_wp2_with fail
  refine Hh.o.mono ?_;rintro r w1 ⟨rfl,hb⟩;have Hb:=hid hb;have HE:=hid p3;clear hb Hh p3;go_wp2;go_ret;exact ⟨fV (by rw[<-He.o];first|rfl|(rw[HE.o];rfl)|simp[HE.o]),Hb.o⟩
 ·have t1:(z==3)=false:=by rw[beq_eq_false_iff_ne];exact h3
  have He:=hid (show true=decide (z≠3) from (dT h3).symm);clear h3;go_enter Tryz.func83,Tryz.ntmps83
  go_wp2_with fail
  refine Hh.o.mono ?_;rintro r w1 ⟨rfl,hb⟩;have Hb:=hid hb;clear hb Hh;go_wp2;go_ret;exact ⟨fV (by rw[<-He.o];first|rfl|(simp;exact beq_eq_false_iff_ne.1 t1)),Hb.o⟩
theorem Ph (w:World) (s:ByteArray) (hs:s.size<=1048576):Calls Tryz.prog 82 #[.string s] w fun r w'=>r= .returned (.string (Iu s))/\Below w.heap.size w w':=by
 have BF:=Lib.run_convert_string_bytes (P:= Tryz.prog) w 9 42 5 s Tryz.underlying9 Tryz.underlying42 Tryz.underlying5;obtain ⟨cap,iQ⟩:=ex (grownCap w s.size 0 5);obtain ⟨w1,gP⟩:=ex (Lib.bytesWorld w 5 s);have H0:=hid (FB.first w s);rw[<-iQ,<-gP]at BF;rw[<-gP]at H0;obtain ⟨n,hn⟩:=ex (s.size);have Hn:=hid hn;obtain ⟨l,hl⟩:=ex (s.data.toList)
 have Hl:=hid hl;have Hs:=hid (show n<=1048576 by omega);have hv:Iu s=⟨(s.data.toList.map cq).toArray⟩:=rfl;rw[hv];have b3:(0:Int)<=(s.size:Int):=by omega
 clear iQ gP hn hl hs hv;go_enter Tryz.func82,Tryz.ntmps82;go_wp2
 go_loopw [10] (fun v wr=>∃k:Nat,v= .int .i64 (k:Int)/\Hid (k<=n/\FB w wr (cur l k))) (fun v _=>n-(intOf v).toNat)
 case atStart=>exact ⟨0,rfl,hid ⟨Nat.zero_le _,by rw[show cur l 0=l from rfl,Hl.o];exact H0.o⟩⟩
 case round=>
  obtain ⟨k,rfl,H⟩:=hrel;have hn:n=s.size:=Hn.o;have hl:l=s.data.toList:=Hl.o;clear H0;by_cases cg:k<n
  ·obtain ⟨c,hc⟩:∃c,l[k]? =some c:=⟨l[k]'(by rw[hl,aj];omega),aBn _⟩;have hlen:k<(cur l k).length:=by rw[II,hl,aj];omega
   have x0:wr.cell? ⟨w.heap.size,k,none⟩=some (.int .u8 (c.toNat:Int)):=H.o.2.cell k c (Gd hc);have f0:wr.frozen? ⟨w.heap.size,k,none⟩=false:=H.o.2.free k hlen;have b4:(k:Int)<(s.size:Int):=by omega
   obtain ⟨cY,df⟩:=bL (k:=k) (n:=n) cg (by have:=Hs.o;omega);have kr:=c.toNat_lt;by_cases h1:65<=c.toNat/\c.toNat<=90
   ·have p0:(65:Int)<=(c.toNat:Int):=by omega
    have p1:(c.toNat:Int)<=90:=by omega
    have wu:IntKind.u8.wrap ((c.toNat:Int)+97)=(c.toNat:Int)+97:=by rw[IntKind.wrap_u8];omega
    have wv:IntKind.u8.wrap ((c.toNat:Int)+97-65)=(c.toNat:Int)+97-65:=by rw[IntKind.wrap_u8];omega
    have Ie:=Dc (c:=c) h1.1 h1.2;have aX:=hid (show k+1<=n/\FB w (wr.setCell ⟨w.heap.size,k,none⟩ (.int .u8 ((c.toNat:Int)+97-65))) (cur l (k+1)) from ⟨cg,by
     rw[xy hc,show (c.toNat:Int)+97-65=((cq c).toNat:Int) by rw[Ie];omega];exact H.o.2.set k _ hlen⟩)
    clear hn hl hc hlen H cg kr h1 Ie;go_wp2;go_roundw
    case rel=>exact ⟨k+1,df.o,aX⟩
    case measure=>exact cY.o
   ·have aX:=hid (show k+1<=n/\FB w wr (cur l (k+1)) from ⟨cg,by rw[DF hc (ki h1)];exact H.o.2⟩);by_cases h2:65<=c.toNat
    ·have p0:(65:Int)<=(c.toNat:Int):=by omega
     have p1:decide ((c.toNat:Int)<=90)=false:=dF (by omega);clear hn hl hc hlen H cg kr h1 h2;go_wp2;go_roundw
     case rel=>exact ⟨k+1,df.o,aX⟩
     case measure=>exact cY.o
    ·have p0:(c.toNat:Int)<65:=by omega
     clear hn hl hc hlen H cg kr h1 h2;go_wp2;go_roundw
     case rel=>exact ⟨k+1,df.o,aX⟩
     case measure=>exact cY.o
  ·have hk:k=n:=by have:=H.o.1;omega
   subst hk;have b4:(s.size:Int)<=(k:Int):=by omega
   have ZK:l.length=s.size:=by rw[hl,aj]
   have OY:cur l k=l.map cq:=by rw[<-IJ l,ZK,<-hn]
   have oC:=H.o.2;rw[OY,hl]at oC;have Yd:=run_convert_bytes_back (P:= Tryz.prog) wr 42 9 5 ⟨w.heap.size,0,none⟩ cap (s.data.toList.map cq) Tryz.underlying42 Tryz.underlying5 Tryz.underlying9 (fun j hj=>by
    rw[Addr.add_mid,Nat.zero_add];exact oC.cell j _ (aBn hj))
   rw[List.length_map,aj]at Yd;have Hb:=hid oC.below;clear H cg OY oC ZK hn hl;go_wp2;go_ret;exact ⟨rfl,Hb.o⟩
structure DocB (w0 w:World) (db b o cap:Nat) (ms:List NdM):Prop where
 nod:Nds w0 (.slice (some ⟨b,o,none⟩) ms.length cap) ms
 blt:b<w0.heap.size
 below:Below w0.heap.size w0 w
 dlo:w0.heap.size<=db
 doc:w.heap[db]? =some (.cells #[.slice (some ⟨b,o,none⟩) ms.length cap] 79 (0,0))
 tree:dj (nds ms)=true
 glob:Glob w0
theorem DocB.toM {w0 w:World} {db b o cap:Nat} {ms:List NdM} (h:DocB w0 w db b o cap ms):DocM w db b o cap ms:=
 ⟨h.nod.later h.below,Nat.lt_of_lt_of_le h.blt h.below.size,h.doc,h.tree⟩
theorem DocB.step {w0 w w2:World} {db b o cap:Nat} {ms:List NdM} {F:Nat->Prop} (h:DocB w0 w db b o cap ms) (hm:Mod F w w2) (h1:¬F db) (h2:∀k,F k->w0.heap.size<=k):DocB w0 w2 db b o cap ms:=
 ⟨h.nod,h.blt,h.below.trans (hm.below h.below.size h2),h.dlo,hm.heap h.doc h1,h.tree,h.glob⟩
theorem DocB.later {w0 w w2:World} {db b o cap:Nat} {ms:List NdM} (h:DocB w0 w db b o cap ms) (hb:Below w.heap.size w w2):DocB w0 w2 db b o cap ms:=
 h.step (F:=fun _=>False) (Mod.ofBelow hb (fun k hk mQ=>by omega)) id (fun _ f=>f.elim)
theorem DocB.g {w0 w:World} {db b o cap:Nat} {ms:List NdM} (h:DocB w0 w db b o cap ms):Glob w:=h.glob.later h.below
structure RF (w wr:World) (rb T f:Nat) (pre:Value->Array Value) (e sz:Nat) (v:Value) (n:Nat) (xs:List Value):Prop where
 mod:Mod (fun k=>k=rb) w wr
 rlt:rb<w.heap.size
 blk:wr.heap[rb]? =some (.cells (pre v) T (0,0))
 row:wr.ownsRow 0 e sz v n xs
 new:∀g,v.ownBlock=some g->w.heap.size<=g
 set:∀v v',(pre v).setIfInBounds f v'=pre v'
theorem RF.first {w:World} {rb T f:Nat} {pre:Value->Array Value} {e sz:Nat} (hb:w.heap[rb]? =some (.cells (pre (.slice none 0 0)) T (0,0))) (hs:∀v v',(pre v).setIfInBounds f v'=pre v'):RF w w rb T f pre e sz (.slice none 0 0) 0 []:=
 ⟨Mod.refl _ _,af hb,hb,World.ownsRow_nil _ _ _ _,nofun,hs⟩
theorem RF.later {w wr w2:World} {rb T f:Nat} {pre:Value->Array Value} {e sz n:Nat} {v:Value} {xs:List Value} (h:RF w wr rb T f pre e sz v n xs) (hb:Below wr.heap.size wr w2):RF w w2 rb T f pre e sz v n xs:=
 ⟨h.mod.trans' (Mod.ofBelow (F:=fun _=>False) hb (fun k hk mQ=>by omega)) (fun _ _ q=>q.elim),h.rlt,(hb.block _ (af h.blk)).trans h.blk,oq h.row hb,h.new,h.set⟩
theorem RF.put {w wr w2:World} {rb T f:Nat} {pre:Value->Array Value} {e sz n m:Nat} {v v':Value} {xs ys:List Value} (h:RF w wr rb T f pre e sz v n xs) (aB:w2.ownsRow 0 e sz v' m ys) (bC:wr.grownBy w2 v.ownBlock)
 (aA:∀g,v'.ownBlock=some g->v.ownBlock=some g\/wr.heap.size<=g):RF w (w2.setCell ⟨rb,f,none⟩ v') rb T f pre e sz v' m ys:=by
 have gQ:=h.mod.size;have hm:Mod (fun k=>v.ownBlock=some k) wr w2:=(Mod.refl _ _).grown bC (fun k e _=>e);have hb:=hm.heap h.blk (fun e=>by have:=h.new rb e;have:=h.rlt;omega);have ku:∀g,v'.ownBlock=some g->w.heap.size<=g:=fun g hg=>by
  rcases aA g hg with q|q
  ·exact h.new g q
  ·omega
 refine ⟨?_,h.rlt,by rw[aI hb,h.set],dE aB fun g hg=>aW _ _ (fun e=>by have h1:=ku g hg;have h2:=h.rlt;have e2:g=rb:=e;omega),ku,h.set⟩;refine (h.mod.trans' hm (fun i hi q=>by have:=h.new i q;omega)).setCell _ _ (fun _=>rfl)
theorem RF.cells {w wr:World} {rb T f:Nat} {pre:Value->Array Value} {e sz n:Nat} {v:Value} {xs:List Value} (h:RF w wr rb T f pre e sz v n xs) (j:Nat):wr.cell? ⟨rb,j,none⟩=(pre v)[j]? /\wr.frozen? ⟨rb,j,none⟩=false:=⟨aa h.blk j,ah h.blk j⟩
theorem SlR.mod {α:Type} {w w2:World} {v:Value} {sz:Nat} {xs:List α} {cells:α->List Value} {F:Nat->Prop} (h:SlR w v sz xs cells) (hm:Mod F w w2) (hF:∀b,v.ownBlock=some b->¬F b):SlR w2 v sz xs cells:=by
 obtain ⟨ao,cap,hv,hl,h⟩:=h;refine ⟨ao,cap,hv,hl,fun h0=> ?_⟩;obtain ⟨b,o,ha,aN,hc⟩:=h h0;have hb:=hF b (by rw[hv,ha];rfl);exact ⟨b,o,ha,Nat.lt_of_lt_of_le aN hm.size,fun i x hi j u hu=>hm.cell (hc i x hi j u hu) hb⟩
theorem RF.base {w w1 wr:World} {rb T f:Nat} {pre:Value->Array Value} {e sz n:Nat} {v:Value} {xs:List Value} (h:RF w1 wr rb T f pre e sz v n xs) (hb:Below w.heap.size w w1) (aN:rb<w.heap.size):RF w wr rb T f pre e sz v n xs:=
 ⟨(Mod.ofBelow (F:=fun k=>k=rb) hb (fun k hk mQ=>by omega)).trans h.mod,aN,h.blk,h.row,fun g hg=>aBl hb.size (h.new g hg),h.set⟩
def cR {α:Type} (w:World) (rb f:Nat) (pre:Value->Array Value) (e sz:Nat) (cells:α->List Value) (x:R (List α)) (r:Ending) (w':World):Prop:=
 (match x with| .ok out=>r= .returned (.tuple #[])/\∃v,RF w w' rb 49 f pre e sz v out.length (out.flatMap cells)| .error e=>r=Pan e/\∃v,w'.heap[rb]? =some (.cells (pre v) 49 (0,0)))/\Mod (fun k=>k=rb) w w'
theorem cR.ok {α:Type} {w w':World} {rb f:Nat} {pre:Value->Array Value} {e sz:Nat} {cells:α->List Value} {x:R (List α)} {out:List α} {v:Value} (hx:x= .ok out) (h:RF w w' rb 49 f pre e sz v out.length (out.flatMap cells)):cR w rb f pre e sz cells x (.returned (.tuple #[])) w':=by
 subst hx;exact ⟨⟨rfl,v,h⟩,h.mod⟩
theorem cR.err {α:Type} {w w':World} {rb f:Nat} {pre:Value->Array Value} {e sz:Nat} {cells:α->List Value} {x:R (List α)} {st:fx} {v:Value} {n:Nat} {xs:List Value} (hx:x= .error st) (h:RF w w' rb 49 f pre e sz v n xs):cR w rb f pre e sz cells x (Pan st) w':=by
 subst hx;exact ⟨⟨rfl,v,h.blk⟩,h.mod⟩
theorem wY {w:World} {db b o cap:Nat} {ms:List NdM} (h:DocM w db b o cap ms) {m:NdM} (hm:m∈ms):(fg ms m).map (·.nd)=m.nd.kids.map fun k=>(nds ms)[k.toNat]! :=by
 unfold fg;rw[List.map_map];refine List.map_congr_left fun x hx=> ?_;obtain ⟨k,mk,rfl,hk,_⟩:=h.kid hm hx
 show (ms[((k:Int)).toNat]!).nd=(nds ms)[((k:Int)).toNat]!
 rw[Int.toNat_natCast,gI hk,List.getElem!_eq_getElem?_getD,hk];rfl
theorem sD {w:World} {db b o cap:Nat} {ms:List NdM} (h:DocM w db b o cap ms) {m:NdM} (hm:m∈ms) {mk:NdM} (hk:mk∈fg ms m):mk∈ms:=by
 unfold fg at hk;obtain ⟨x,hx,rfl⟩:=List.mem_map.1 hk;obtain ⟨k,mk,rfl,hk,ed⟩:=h.kid hm hx
 show ms[((k:Int)).toNat]! ∈ms
 rw[Int.toNat_natCast,List.getElem!_eq_getElem?_getD,hk];exact ed
def fI (ns:List Nd) (m:Nd):R (List ByteArray):=
 match aY ns m bd with
 |none=> .ok []
 |some n=>
  match cp ns n 0 16 with
  | .error e=> .error e
  | .ok l=>dQ l []
theorem B5 (ns:List Nd) (m:Nd) (r:Res) (h:r.endps=[]):dX ns m r=match fI ns m with| .ok out=> .ok {r with endps:=out}| .error e=> .error e:=by
 unfold dX fI;cases aY ns m bd with
 |none=>simp only;rw[<-h]
 |some n=>
  simp only;cases cp ns n 0 16 with
  |error e=>rfl
  |ok l=>
   simp only;cases dQ l []<;>rfl
theorem Za:pX 42 :=jO Tryz.func42 (by kernel_rfl) (by kernel_rfl)
theorem lr (w:World) (m:NdM) (hm:m.Ok w):
 Calls Tryz.prog 41 #[m.v,.func (.func 42) #[] #[]] w fun r w'=>(match aO m.nd aD with| .ok s=>r= .returned (.string s)| .error e=>r=Pan e)/\Below w.heap.size w w':=
 vD w m hm _ Za aD fun w1 _=>(Rf w1 m.nd.text hm.text).mono (by
  rintro r w' ⟨hr,rfl⟩;exact ⟨hr,aBi _ _⟩)
theorem Dk {k:Nd} {r:List Nd} {out:List ByteArray} {e:fx} (h:aO k aD= .error e):dQ (k::r) out= .error e:=by rw[dQ,h]
theorem Dh {k:Nd} {r:List Nd} {out:List ByteArray} {s:ByteArray} (h:aO k aD= .ok s) (h2:s∈out):dQ (k::r) out= .error (k.line,91):=by rw[dQ,h];simp only;rw[if_pos h2]
theorem Iy {k:Nd} {r:List Nd} {out:List ByteArray} {s:ByteArray} (h:aO k aD= .ok s) (h2:¬s∈out):dQ (k::r) out=dQ r (out++[s]):=by rw[dQ,h];simp only;rw[if_neg h2]
theorem vM:(Tryz.prog.info? 9).map (fun i=>(i.zero,i.size,i.bytes))=some (some (.string ⟨#[]⟩),1,16):=by kernel_rfl
theorem pd {n:Nd} {so:ByteArray->Bool} {s:ByteArray} (h:aO n so= .ok s):s=n.text:=by
 unfold aO at h
 split at h
 ·cases h
 ·injection h with h
  exact h.symm
theorem Jp (w0 w:World) (db b o cap:Nat) (ms:List NdM) (h:DocB w0 w db b o cap ms) (m:NdM) (hm:m∈ms) (rb:Nat) (hrb:w0.heap.size<=rb) (hne:rb≠db) (kd:Int) (nm ht rt:ByteArray) (tv rv:Value) (dl:Bool)
 (bg:w.heap[rb]? =some (.cells #[.int .i64 kd,.string nm,.slice none 0 0,tv,.string ht,rv,.string rt,.bool dl] 49 (0,0))):
 Calls Tryz.prog 47 #[.pointer (some ⟨db,0,none⟩),m.v,.pointer (some ⟨rb,0,none⟩)] w (cR w rb 2 (fun v=>#[.int .i64 kd,.string nm,v,tv,.string ht,rv,.string rt,.bool dl]) 9 1 bc (fI (nds ms) m.nd)):=by
 have hM:=h.toM;have hok:=hM.ok hm;obtain ⟨kp,c2,cI,_,_⟩:=aL hok.kids;obtain ⟨q,hq⟩:=ex (m.nd.kids.length);rw[<-hq]at cI;have Hf:=hid (fun w1 (bG:Below w.heap.size w w1)=>oD w1 db b o cap ms (hM.later bG) m hm bd);rw[bA cI]at Hf |-;have fD:=hid (fun o=>(aBi w.heap.size w).alloc (aBh _) o);have Pb:RF w w rb 49 2 (fun v=>#[.int .i64 kd,.string nm,v,tv,.string ht,rv,.string rt,.bool dl]) 9 1 (.slice none 0 0) 0 []:=RF.first bg (fun _ _=>rfl)
 have tu:=hid Pb;have HD:=hid h;cases eh:bH (nds ms) m.nd bd with
 |none=>
  have hx:fI (nds ms) m.nd= .ok []:=by unfold fI aY;rw[eh];rfl
  rw[hx];rw[eh]at Hf;have C1:fO b o none= .pointer none:=rfl;rw[C1]at Hf;unfold bd at Hf;clear hM hok hm cI hq bg Pb h eh hx C1;go_enter Tryz.func47,Tryz.ntmps47
  go_wp2_with fail
  refine (Hf.o _ (fD.o _)).mono ?_;rintro r w1 ⟨rfl,hb⟩;have cK:=fD.o (.cells #[.int .i64 m.nd.kind,.string m.nd.key,.string m.nd.text,.bool m.nd.quoted,.int .i64 m.nd.line,.slice kp q c2] 55);have HE:=hid (tu.o.later (cK.trans (hb.mono cK.size)));clear hb Hf tu cK;go_wp2
  first|go_end0|refine bodyPost_ret (results_none rfl _ _ _) rfl ?_
  exact cR.ok (out:=[]) rfl HE.o
 |some k=>
  obtain ⟨mk,cN⟩:∃mk,ms[k]? =some mk:=by
   obtain ⟨z,hz,e,_⟩:=nP eh;obtain ⟨k',mk,e2,Sy,_⟩:=hM.kid hm hz;exact ⟨mk,by rw[<-e,e2];simpa using Sy⟩
  have ed:=List.mem_of_getElem? cN;have gu:=gI cN;have hx:fI (nds ms) m.nd=match cp (nds ms) mk.nd 0 16 with| .error e=> .error e| .ok l=>dQ l []:=by
   unfold fI aY;rw[eh];simp only[Option.map_some,gu]
  rw[hx];rw[eh]at Hf;have C1:fO b o (some k)= .pointer (some ⟨b,o+k*6,none⟩):=rfl;rw[C1]at Hf;unfold bd at Hf;have c:=(hM.at cN).1;have j7:=(hM.at cN).2;obtain ⟨IM,c3,gO,_,_⟩:=aL j7.kids;obtain ⟨q3,CT⟩:=ex (mk.nd.kids.length);rw[<-CT]at gO;have x0:∀w1,Below w.heap.size w w1->w1.cell? ⟨b,o+k*6,none⟩=some (.int .i64 mk.nd.kind):=fun w1 hb=>(hb.cell hM.blt).trans c.c0
  have x1:∀w1,Below w.heap.size w w1->w1.cell? ⟨b,o+k*6+1,none⟩=some (.string mk.nd.key):=fun w1 hb=>(hb.cell hM.blt).trans c.c1;have x2:∀w1,Below w.heap.size w w1->w1.cell? ⟨b,o+k*6+2,none⟩=some (.string mk.nd.text):=fun w1 hb=>(hb.cell hM.blt).trans c.c2;have x3:∀w1,Below w.heap.size w w1->w1.cell? ⟨b,o+k*6+3,none⟩=some (.bool mk.nd.quoted):=fun w1 hb=>(hb.cell hM.blt).trans c.c3;have x4:∀w1,Below w.heap.size w w1->w1.cell? ⟨b,o+k*6+4,none⟩=some (.int .i64 mk.nd.line):=fun w1 hb=>(hb.cell hM.blt).trans c.c4
  have x5:∀w1,Below w.heap.size w w1->w1.cell? ⟨b,o+k*6+5,none⟩=some (.slice IM q3 c3):=fun w1 hb=>(hb.cell hM.blt).trans (by rw[<-gO];exact c.c5);have X:=hid (And.intro x0 (And.intro x1 (And.intro x2 (And.intro x3 (And.intro x4 x5)))));have Hl:=hid (fun w1 (bG:Below w.heap.size w w1)=>show Calls Tryz.prog 80 #[.pointer (some ⟨db,0,none⟩),mk.v,.int .i64 0,.int .i64 16] w1 fun r w'=>
   (match cp (nds ms) mk.nd 0 16 with| .ok _=>∃v,r= .returned v/\SlR w' v 6 (fg ms mk) NdM.cells/\(∀g,v.ownBlock=some g->w1.heap.size<=g)| .error e=>r=Pan e)/\Below w1.heap.size w1 w' from
   Fm w1 db b o cap ms (hM.later bG) mk ed 0 16 (by decide) (by decide))
  rw[bA gO]at Hl;have zL:=hid (wY hM ed);have Hkm:=hid (fun y (hy:y∈fg ms mk)=>sD hM ed hy);clear eh hx gu C1 c j7 gO CT cN x0 x1 x2 x3 x4 x5 hok cI hq bg Pb hM h hm;cases qR:cp (nds ms) mk.nd 0 16 with
  |error e=>
   rw[qR]at Hl;simp only at Hl |-;clear qR;go_enter Tryz.func47,Tryz.ntmps47
   go_wp2_with fail
   refine (Hf.o _ (fD.o _)).mono ?_;rintro r w1 ⟨rfl,hb⟩;have cK:=fD.o (.cells #[.int .i64 m.nd.kind,.string m.nd.key,.string m.nd.text,.bool m.nd.quoted,.int .i64 m.nd.line,.slice kp q c2] 55);have bG:=cK.trans (hb.mono cK.size);have HB:=hid bG;have IV:=hid (Hl.o w1 bG);have y0:=X.o.1 w1 bG;have y1:=X.o.2.1 w1 bG;have y2:=X.o.2.2.1 w1 bG;have y3:=X.o.2.2.2.1 w1 bG
   have y4:=X.o.2.2.2.2.1 w1 bG;have y5:=X.o.2.2.2.2.2 w1 bG;clear hb Hf cK bG Hl X
   go_wp2_with fail
   refine IV.o.mono ?_;rintro r w2 ⟨rfl,bI⟩;have HE:=hid (tu.o.later (HB.o.trans (bI.mono HB.o.size)));exact ⟨rfl,cR.err rfl HE.o⟩
  |ok L=>
   rw[qR]at Hl;simp only at Hl |-;have hL:L=(fg ms mk).map (·.nd):=by
    rw[zL.o];unfold cp at qR
    split at qR
    ·cases qR
    ·split at qR
     ·cases qR
     ·injection qR with qR
      exact qR.symm
   have hLl:(fg ms mk).length<=16:=by
    rw[lF];unfold cp at qR
    split at qR
    ·cases qR
    ·split at qR
     ·cases qR
     ·omega
   have HLl:=hid hLl;have HL:=hid hL;clear qR hL hLl;go_enter Tryz.func47,Tryz.ntmps47
   go_wp2_with fail
   refine (Hf.o _ (fD.o _)).mono ?_;rintro r w1 ⟨rfl,hb⟩;have cK:=fD.o (.cells #[.int .i64 m.nd.kind,.string m.nd.key,.string m.nd.text,.bool m.nd.quoted,.int .i64 m.nd.line,.slice kp q c2] 55);have bG:=cK.trans (hb.mono cK.size);have HB:=hid bG;have IV:=hid (Hl.o w1 bG);have y0:=X.o.1 w1 bG;have y1:=X.o.2.1 w1 bG;have y2:=X.o.2.2.1 w1 bG;have y3:=X.o.2.2.2.1 w1 bG
   have y4:=X.o.2.2.2.2.1 w1 bG;have y5:=X.o.2.2.2.2.2 w1 bG;clear hb Hf cK bG Hl X
   go_wp2_with fail
   refine IV.o.mono ?_;rintro r w2 ⟨⟨lv,rfl,jg,ud⟩,bI⟩;clear y0 y1 y2 y3 y4 y5;have jL:Below w.heap.size w w2:=HB.o.trans (bI.mono HB.o.size);obtain ⟨la,lc,OH,ZL,AR⟩:=jg;have Hlnew:=hid (fun g hg=>aBl HB.o.size (ud g hg));have hlv2:=OH;obtain ⟨nL,Ik⟩:=ex ((fg ms mk).length);rw[<-Ik]at OH AR;have QI:=hid Ik;have mr:=hid AR;have lq:=hid jL;subst OH;have HF2:=hid (RF.first (w:=w2) (rb:=rb) (T:= 49) (f:=2) (pre:=fun v=>#[.int .i64 kd,.string nm,v,tv,.string ht,rv,.string rt,.bool dl]) (e:= 9) (sz:=1) ((jL.block _ tu.o.rlt).trans tu.o.blk) (fun _ _=>rfl))
   have HD2:=hid (HD.o.later jL);clear IV bI HB ud hlv2 Ik AR ZL jL;go_wp2
   go_loopw [21] (fun vi wr=>∃(j:Nat) (v2:Value) (out:List ByteArray),vi= .int .i64 (j:Int)/\Hid (j<=nL/\out.length=j/\RF w2 wr rb 49 2 (fun v=>#[.int .i64 kd,.string nm,v,tv,.string ht,rv,.string rt,.bool dl]) 9 1 v2 out.length (out.flatMap bc)/\dQ L []=dQ (L.drop j) out)) (fun vi _=>nL-(intOf vi).toNat)
   case atStart=>exact ⟨0,_,[],rfl,hid ⟨Nat.zero_le _,rfl,HF2.o,rfl⟩⟩
   case round=>
    clear HF2;obtain ⟨j,v2,out,rfl,H⟩:=hrel;obtain ⟨QA,Ij,vg,cw⟩:=H.o;have Ed:=hid vg;have rP:=vg.mod;by_cases hj:j<nL
    ·have tj:decide (j<nL)=true:=dT hj;have bj:(j:Int)<(nL:Int):=by omega
     obtain ⟨y,hy⟩:∃y,(fg ms mk)[j]? =some y:=aF (by rw[<-QI.o];exact hj);have hyk:=Hkm.o y (List.mem_of_getElem? hy);obtain ⟨lb,lo,rfl,KJ,hlc⟩:=mr.o (by omega);have hlr:lb≠rb:=fun e=>by have:=Hlnew.o lb rfl;have:=tu.o.rlt;omega
     have hD:DocB w0 wr db b o cap ms:=HD2.o.step rP (fun e=>hne e.symm) (fun k e=>by rw[e];exact hrb);have gn:=hD.toM.ok hyk;obtain ⟨ay,cy,cT,_,_⟩:=aL gn.kids;obtain ⟨qy,fM⟩:=ex (y.nd.kids.length);rw[<-fM]at cT;have z0:wr.cell? ⟨lb,lo+j*6,none⟩=some (.int .i64 y.nd.kind):=rP.cell (hlc j y hy 0 _ rfl) hlr;have z1:wr.cell? ⟨lb,lo+j*6+1,none⟩=some (.string y.nd.key):=rP.cell (hlc j y hy 1 _ rfl) hlr
     have z2:wr.cell? ⟨lb,lo+j*6+2,none⟩=some (.string y.nd.text):=rP.cell (hlc j y hy 2 _ rfl) hlr;have z3:wr.cell? ⟨lb,lo+j*6+3,none⟩=some (.bool y.nd.quoted):=rP.cell (hlc j y hy 3 _ rfl) hlr;have z4:wr.cell? ⟨lb,lo+j*6+4,none⟩=some (.int .i64 y.nd.line):=rP.cell (hlc j y hy 4 _ rfl) hlr;have z5:wr.cell? ⟨lb,lo+j*6+5,none⟩=some (y.kv):=rP.cell (hlc j y hy 5 _ rfl) hlr;rw[cT]at z5;have Uf:L[j]? =some y.nd:=by rw[HL.o,List.getElem?_map,hy];rfl
     rw[iI Uf]at cw;have Hw:=hid (fun w3 (aV:Below wr.heap.size wr w3)=>lr w3 y (gn.later aV));rw[bA cT]at Hw;have jQ:=hid cw;have Hms0:=hid rP;obtain ⟨cY,df⟩:=bL (k:=j) (n:=nL) hj (by have:=HLl.o;have:=QI.o;omega);have Hj:=hid (show j+1<=nL/\out.length=j/\j<=16 from ⟨hj,Ij,by have:=HLl.o;have:=QI.o;omega⟩);have my:=hid (fun o=>(aBi wr.heap.size wr).alloc (aBh _) o)
     have hys:y.nd.text.size<=1048576:=gn.text;have Hys:=hid hys;clear H QA Ij vg cw rP hy hyk KJ hlc hlr hD gn fM cT Uf hj hys;cases fL:aO y.nd aD with
     |error e=>
      rw[fL]at Hw;have He:=hid (jQ.o.trans (Dk fL));clear fL jQ
      go_wp2_with fail
      refine (Hw.o _ (my.o _)).mono ?_;rintro r w3 ⟨rfl,aV⟩;have cK:=my.o (.cells #[.int .i64 y.nd.kind,.string y.nd.key,.string y.nd.text,.bool y.nd.quoted,.int .i64 y.nd.line,.slice ay qy cy] 55);exact ⟨rfl,cR.err He.o ((Ed.o.base lq.o tu.o.rlt).later (cK.trans (aV.mono cK.size)))⟩
     |ok s=>
      rw[fL]at Hw;have Zs:=pd fL;have Hwp:=hid fL;have TS:s.size<=1048576:=by rw[Zs];exact Hys.o
      clear fL Zs
      go_wp2_with fail
      have cK:=my.o (.cells #[.int .i64 y.nd.kind,.string y.nd.key,.string y.nd.text,.bool y.nd.quoted,.int .i64 y.nd.line,.slice ay qy cy] 55);refine (Hw.o _ cK).mono ?_;rintro r w3 ⟨rfl,aV⟩;have jL:=cK.trans (aV.mono cK.size);have ue:w3.cell? ⟨wr.heap.size,4,none⟩=some (.int .i64 y.nd.line):=(aV.cell (p:=⟨wr.heap.size,4,none⟩) (by simp)).trans (aa (ag _) 4)
      have Ov:=Ed.o.later jL;have xT:=(Ov.cells 2).1;obtain ⟨vA,c4,Zo⟩:∃ao c,v2= .slice ao out.length c:=by
       rcases Ov.row.2 with ⟨hv,hn⟩|⟨g,cap,cur,hv,_⟩
       ·exact ⟨none,0,by rw[hv,hn]⟩
       ·exact ⟨_,_,hv⟩
      subst Zo;simp at xT;have Hc:=hid (xA (w:=w3) (kv:= .slice vA out.length c4) (keys:=out) (SlR.ofRow Ov.row rfl (fun _=>rfl) (by have:=Hj.o;omega) (by decide)) s);have D1:=hid Ov;clear cK aV jL Ov Hw Ed z0 z1 z2 z3 z4 z5;by_cases Im:s∈out
      ·rw[dT Im]at Hc;have He:=hid (jQ.o.trans (Dh Hwp.o Im));have Ls:=hid (fun w1=>lg w1 y.nd.line 91);clear Im
       go_wp2_with fail
       refine Hc.o.mono ?_;rintro r w4 ⟨rfl,xS⟩;obtain rfl:=xS.symm;clear xS
       go_wp2_with fail
       refine (Ls.o _).mono ?_;rintro r w4 ⟨rfl,rfl⟩;exact ⟨rfl,cR.err He.o (D1.o.base lq.o tu.o.rlt)⟩
      ·rw[dF Im]at Hc;have Hst2:=hid (jQ.o.trans (Iy Hwp.o Im));have b9:=hid (fun o=>D1.o.row.alloc o);have Ec:=hid (show 0<1 by decide);have Lu:=hid (show 16<=1000 by decide);have nX:=hid (show ∀u∈[Value.string s],u.oneCell'=true from fun u hu=>by simp at hu;subst hu;rfl);have Tp:=hid (show out.length<=1000000 by have:=Hj.o;omega);have aX:=hid (fun o v' (w5:World) a1 a2 a3=>show j+1<=nL/\(out++[s]).length=j+1/\RF w2 (w5.setCell ⟨rb,2,none⟩ v') rb 49 2 (fun v=>#[.int .i64 kd,.string nm,v,tv,.string ht,rv,.string rt,.bool dl]) 9 1 v' (out++[s]).length ((out++[s]).flatMap bc)/\dQ L []=dQ (L.drop (j+1)) (out++[s]) from
        ⟨Hj.o.1,by rw[aBj,Hj.o.2.1];rfl,by
         have:=RF.put (w2:=w5) (v':=v') (m:=out.length+1) (ys:=out.flatMap bc++[.string s]) (D1.o.later ((aBi w3.heap.size w3).alloc (aBh _) o)) a1 a2 a3;rw[aBj,List.flatMap_append];exact this,Hst2.o⟩)
       have jF:=hid (fun o w5 (a2:(w3.alloc o).grownBy w5 (Value.slice vA out.length c4).ownBlock)=>show w5.heap[rb]? =some (.cells #[.int .i64 kd,.string nm,.slice vA out.length c4,tv,.string ht,rv,.string rt,.bool dl] 49 (0,0)) from
        ((Mod.refl (fun k=>(Value.slice vA out.length c4).ownBlock=some k) (w3.alloc o)).grown a2 (fun k e _=>e)).heap ((ai o (af D1.o.blk)).trans D1.o.blk) (fun e=>by have:=D1.o.new rb e;have:=D1.o.rlt;omega))
       have Zx:∀ob,(w3.alloc ob).cell? ⟨rb,2,none⟩=some (.slice vA out.length c4):=fun ob=>(World.cell?_of_block (ai ob (af D1.o.blk))).trans xT;clear Im jQ Hwp
       go_wp2_with fail
       refine Hc.o.mono ?_;rintro r w4 ⟨rfl,xS⟩;obtain rfl:=xS.symm;clear xS Hc
       go_wp2_with (at_builtin;refine yO 9 45 (.string ⟨#[]⟩) 1 16 Tryz.underlying45 vM rfl Ec.o Lu.o rfl _ _ rfl (.slice vA out.length c4) out.length (out.flatMap bc) rfl (b9.o _) w3.heap.size #[.string s] [.string s] rfl (ag _) rfl rfl nX.o Tp.o (out.length+1) rfl ?_;intro gd c5 w5 aB bC aA;have HE:=hid (aX.o _ _ _ aB bC aA);have q1:=aa (jF.o _ w5 bC) 2;have q2:=ah (jF.o _ w5 bC) 2;simp at q1;clear aB bC aA)
       go_roundw
       case rel=>exact ⟨j+1,_,_,df.o,HE⟩
       case measure=>exact cY.o
    ·have tj:decide (j<nL)=false:=dF hj;have He:=hid (show dQ L []= .ok out from by
      rw[cw,List.drop_eq_nil_of_le (by rw[HL.o,List.length_map,<-QI.o];omega)];rfl)
     clear H QA Ij vg cw rP hj mr;go_wp2
     first|go_end0|refine bodyPost_ret (results_none rfl _ _ _) rfl ?_
     exact cR.ok He.o (Ed.o.base lq.o tu.o.rlt)
