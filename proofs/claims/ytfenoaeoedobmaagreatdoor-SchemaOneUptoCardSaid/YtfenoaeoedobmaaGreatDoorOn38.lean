/-
Parts of a proof.
-/
import Derived.RangeFuncNested
import Derived.RangeFuncBound
import Derived.RangeFuncCalls
import Derived.RangeFuncLeaves
import Derived.Shelf.Abstract
import Derived.Shelf.RegionOpen
import Derived.OwnWalkIn
import Derived.TacticsInMore
import Derived.LoopNIn
import Derived.LoopIn
import Derived.Maps.AppendAt
import Derived.Test.YtfenoaeoedobmaaGreatDoorOn37
set_option linter.unusedVariables false
set_option linter.unusedSimpArgs false
set_option maxHeartbeats 8000000
set_option maxRecDepth 100000
namespace Go.Proofs.YtfenoaeoedobmaaGreatDoor
open Go Go.RowKit
def dz (c:UInt8):List Value:=[.int .u8 (c.toNat:Int)]
def ScF (B:Nat) (W:World) (k:Nat):Prop:=k=B\/(∃v,W.cell? ⟨B,0,none⟩=some v/\v.ownBlock=some k)\/∃o,W.heap[k]? =some o/\o.isCells=false
def ScO (B:Nat) (W:World):Prop:=∀v k,W.cell? ⟨B,0,none⟩=some v->v.ownBlock=some k->k<W.heap.size
structure ScK (B:Nat) (W W':World):Prop where
 mod:Mod (ScF B W) W W'
 back:∀k,k<W.heap.size->ScF B W' k->ScF B W k
 own:ScO B W->ScO B W'
theorem ScK.trans {B:Nat} {a b c:World} (h:ScK B a b) (k:ScK B b c):ScK B a c:=
 ⟨h.mod.trans' k.mod (fun i hi hF=>h.back i hi hF),fun i hi hF=>h.back i hi (k.back i (Nat.lt_of_lt_of_le hi h.mod.size) hF),fun ho=>k.own (h.own ho)⟩
theorem ScF.later {B:Nat} {W W2:World} {k:Nat} (hB:B<W.heap.size) (hb:Below W.heap.size W W2) (hk:k<W.heap.size) (h:ScF B W2 k):ScF B W k:=by
 rcases h with h|⟨v,h1,h2⟩|⟨o,h1,h2⟩
 ·exact .inl h
 ·exact .inr (.inl ⟨v,(hb.cell (p:=⟨B,0,none⟩) hB).symm.trans h1,h2⟩)
 ·exact .inr (.inr ⟨o,(hb.block k hk).symm.trans h1,h2⟩)
theorem ScO.later {B:Nat} {W W2:World} (hB:B<W.heap.size) (hb:Below W.heap.size W W2) (h:ScO B W):ScO B W2:=fun v k h1 h2=>
 Nat.lt_of_lt_of_le (h v k ((hb.cell (p:=⟨B,0,none⟩) hB).symm.trans h1) h2) hb.size
theorem ScK.below {B:Nat} {W W2:World} (hB:B<W.heap.size) (hb:Below W.heap.size W W2):ScK B W W2:=
 ⟨(fS hb).mono (fun _ _ q=>q.elim),fun k hk h=>ScF.later hB hb hk h,ScO.later hB hb⟩
theorem ScK.refl {B:Nat} {W:World} (hB:B<W.heap.size):ScK B W W:=ScK.below hB (aBi _ _)
theorem ScF.new {B:Nat} {W W2:World} {k:Nat} (hB:B<W.heap.size) (hO:ScO B W) (hb:Below W.heap.size W W2) (hk:W.heap.size<=k) {o:Obj} (ho:W2.heap[k]? =some o) (hc:o.isCells=true):¬ScF B W2 k:=by
 rintro (h|⟨v,h1,h2⟩|⟨o',h1,h2⟩)
 ·omega
 ·have:=hO v k ((hb.cell (p:=⟨B,0,none⟩) hB).symm.trans h1) h2;omega
 ·rw[ho]at h1;cases h1;rw[hc]at h2;cases h2
theorem ScK.put {B:Nat} {W:World} {l:Nat} {o:Obj} (o':Obj) (hB:B<W.heap.size) (hne:B≠l) (hl:W.heap[l]? =some o) (ho:o.isCells=false):ScK B W (W.putObj l o'):=by
 have hg:=grownBy_putObj' W l o';have TT:∀k,k<W.heap.size->k≠l->(W.putObj l o').heap[k]? =W.heap[k]? :=fun k hk h=>hg.block k hk (fun e=>h (aBm e));have fY:(W.putObj l o').cell? ⟨B,0,none⟩=W.cell? ⟨B,0,none⟩:=World.cell?_of_block (TT B hB hne);refine ⟨(Mod.refl _ _).grown hg (fun k e hk=> ?_),fun k hk h=> ?_,fun h v k h1 h2=> ?_⟩
 ·obtain rfl:=aBm e;exact .inr (.inr ⟨o,hl,ho⟩)
 ·rcases h with h|⟨v,h1,h2⟩|⟨o2,h1,h2⟩
  ·exact .inl h
  ·exact .inr (.inl ⟨v,fY.symm.trans h1,h2⟩)
  ·by_cases lT:k=l
   ·subst lT;exact .inr (.inr ⟨o,hl,ho⟩)
   ·exact .inr (.inr ⟨o2,(TT k hk lT).symm.trans h1,h2⟩)
 ·exact Nat.lt_of_lt_of_le (h v k (fY.symm.trans h1) h2) hg.size
structure SlN {α:Type} (B:Nat) (W:World) (v:Value) (sz:Nat) (xs:List α) (cells:α->List Value):Prop where
 sl:SlR W v sz xs cells
 nf:∀b o n c,v= .slice (some ⟨b,o,none⟩) n c->0<xs.length->¬ScF B W b
theorem SlN.to {α:Type} {B:Nat} {W W2:World} {v:Value} {sz:Nat} {xs:List α} {cells:α->List Value} (h:SlN B W v sz xs cells) (k:ScK B W W2):SlN B W2 v sz xs cells:=by
 obtain ⟨⟨ao,cap,hv,hl,bN⟩,hnf⟩:=h;have key:0<xs.length->∃b o,ao=some ⟨b,o,none⟩/\b<W.heap.size/\W2.heap[b]? =W.heap[b]? /\¬ScF B W2 b:=fun h0=>by
  obtain ⟨b,o,ha,hb,-⟩:=bN h0;have h1:=hnf b o _ _ (by rw[hv,ha]) h0;exact ⟨b,o,ha,hb,k.mod.block b hb h1,fun q=>h1 (k.back b hb q)⟩
 refine ⟨⟨ao,cap,hv,hl,fun h0=> ?_⟩,fun b o n c e h0=> ?_⟩
 ·obtain ⟨b,o,ha,hb,hc⟩:=bN h0;obtain ⟨b',o',Uc,QD,he,-⟩:=key h0;rw[ha]at Uc;cases Uc;exact ⟨b,o,ha,Nat.lt_of_lt_of_le hb k.mod.size,fun i x hi j u hu=>(World.cell?_of_block he).trans (hc i x hi j u hu)⟩
 ·obtain ⟨b',o',Uc,QD,he,hn⟩:=key h0;rw[hv,Uc]at e;cases e;exact hn
structure ScI (B:Nat) (W:World):Prop where
 lt:B<W.heap.size
 own:ScO B W
 gl:Glob W
 g1:¬ScF B W 1
 g2:¬ScF B W 4
theorem ScI.to {B:Nat} {W W2:World} (h:ScI B W) (k:ScK B W W2):ScI B W2:=by
 obtain ⟨⟨m,c0⟩,⟨ev,c1,c2⟩⟩:=h.gl;have l0:=World.block_lt_of_cell? _ _ c0;have l1:=World.block_lt_of_cell? _ _ c1;exact ⟨Nat.lt_of_lt_of_le h.lt k.mod.size,k.own h.own,⟨⟨m,k.mod.cell c0 h.g1⟩,⟨ev,k.mod.cell c1 h.g2,c2⟩⟩,fun q=>h.g1 (k.back _ l0 q),fun q=>h.g2 (k.back _ l1 q)⟩
theorem ScI.later {B:Nat} {W W2:World} (h:ScI B W) (hb:Below W.heap.size W W2):ScI B W2:=h.to (ScK.below h.lt hb)
theorem Mp {α:Type} {B:Nat} {w:World} {ao:Option Addr} {cap sz m n:Nat} {xs:List α} {cells:α->List Value} (h:SlN B w (.slice ao n cap) sz xs cells) (hm:m<=n):SlN B w (.slice ao m cap) sz (xs.take m) cells:=by
 refine ⟨z9 h.sl hm,fun b o n' c e h0=> ?_⟩;cases e;exact h.nf b o _ _ rfl (by rw[List.length_take]at h0;omega)
theorem Mq {α:Type} {B:Nat} {w:World} {ao fj:Option Addr} {cap sz m n:Nat} {xs:List α} {cells:α->List Value} (h:SlN B w (.slice ao n cap) sz xs cells) (hm:m<=n) (hn:n<=cap) (ha:fj=(if cap=m then ao else ao.map (·.add (m*sz)))):SlN B w (.slice fj (n-m) (cap-m)) sz (xs.drop m) cells:=by
 refine ⟨uT h.sl hm hn ha,fun b o n' c e h0=> ?_⟩;have hx:0<xs.length:=by rw[List.length_drop]at h0;omega
 cases e;cases ao with
 |none=>split at ha<;>cases ha
 |some a=>
  obtain ⟨b0,o0,s0⟩:=a;have hs:s0=none:=by
   obtain ⟨kp,cap2,e2,-,bN⟩:=h.sl;injection e2 with e2 _ _
   obtain ⟨b,o,ha2,-⟩:=bN hx;rw[<-e2]at ha2;cases ha2;rfl
  subst hs;have hb:b=b0:=by
   split at ha
   ·cases ha;rfl
   ·have ha:=aBm ha;unfold Addr.add at ha;simp only at ha
    split at ha<;>cases ha<;>rfl
  subst hb;exact h.nf b o0 _ _ rfl hx
theorem GD {α:Type} {B:Nat} {w:World} {sz:Nat} {cells:α->List Value}:SlN B w (.slice none 0 0) sz ([]:List α) cells:=
 ⟨⟨none,0,rfl,Nat.zero_le _,fun h=>absurd h (Nat.lt_irrefl 0)⟩,fun b o n c e=>by cases e⟩
theorem S9 {w:World} {v:Value} {bs:List UInt8} (h:SlR w v 1 bs dz):(convert 42 9 v).run Tryz.prog w= .ok (.string ⟨bs.toArray⟩) w:=by
 obtain ⟨ao,cap,rfl,hl,bN⟩:=h;by_cases h0:0<bs.length
 ·obtain ⟨b,o,rfl,hb,hc⟩:=bN h0;refine run_convert_bytes_back (P:= Tryz.prog) w 42 9 5 ⟨b,o,none⟩ cap bs Tryz.underlying42 Tryz.underlying5 Tryz.underlying9 (fun j hj=> ?_);have:=hc j bs[j] (aBn hj) 0 (.int .u8 (bs[j].toNat:Int)) rfl;rw[Nat.mul_one,Nat.add_zero]at this;rw[Addr.add_lit];exact this
 ·obtain rfl:bs=[]:=List.eq_nil_of_length_eq_zero (by omega);have:=run_convert_bytes_string (P:= Tryz.prog) w 42 9 5 ao 0 cap Tryz.underlying42 Tryz.underlying5 Tryz.underlying9;rw[show (([]:List UInt8).length)=0 from rfl,this];cases ao<;>simp[Conv.bytesToString,loadCells]
  all_goals rfl
theorem cut_c (w:World) (ao:Option Addr) (cap g:Nat) (bs:List UInt8) (hT:SlR w (.slice ao bs.length cap) 1 bs dz) (h0:0<bs.length) (iQ:bs.length<=cap) (hg:w.cell? ⟨g,0,none⟩=some (.int .u8 10)):
 Calls Tryz.prog 104 #[.slice ao bs.length cap,.slice (some ⟨g,0,none⟩) 1 1] w fun e w'=>(∃v1 v2 fd kp n2 c2,e= .returned (.tuple #[v1,v2,.bool fd])/\SlR w v1 1 (dd bs).1 dz/\v2= .slice kp n2 c2/\n2<=c2/\n2=(dd bs).2.length/\SlR w v2 1 (dd bs).2 dz/\
  ∀B,SlN B w (.slice ao bs.length cap) 1 bs dz->SlN B w v1 1 (dd bs).1 dz/\SlN B w v2 1 (dd bs).2 dz)/\∃q,w'=w.drewN q:=by
 have hT2:=hT;obtain ⟨fj,mn,e1,hl,bN⟩:=hT;injection e1 with e1 e2 e3
 subst e1 e3;obtain ⟨b,o,rfl,hb,hc⟩:=bN h0;have hx:(bs.map fun c=>(c.toNat:Int)).length=bs.length:=List.length_map ..;have hbo:Lib.bytesOf (bs.map fun c=>(c.toNat:Int))=bs:=by
  unfold Lib.bytesOf;rw[List.map_map]
  conv=>rhs;rw[<-List.map_id bs]
  refine List.map_congr_left fun c _=> ?_;simp
 have ib:= Tryz.bytes_Index_one_at ⟨b,o,none⟩ bs.length cap g 0 1 (bs.map fun c=>(c.toNat:Int)) 10 w hx (fun i hi=>by
  rw[Addr.add_lit];have:=hc i bs[i] (aBn hi) 0 (.int .u8 (bs[i].toNat:Int)) rfl;rw[Nat.mul_one,Nat.add_zero]at this;rw[this,List.getD_eq_getElem?_getD,List.getElem?_map,aBn hi];rfl) hg
 rw[hbo,show (10:Int).toNat.toUInt8=10 from rfl]at ib;have hcut:= Tryz.bytes_Cut_of (some ⟨b,o,none⟩) (some ⟨g,0,none⟩) bs.length cap 1 1 (Lib.indexByte bs 10) w iQ (by
  rcases vy bs with ⟨j,h,_,_⟩|⟨h,_⟩<;>omega) (fun h=>by
  rcases vy bs with ⟨j,h1,h2,_⟩|⟨h1,_⟩<;>omega) (by omega) (ib.mono fun e w' h=>⟨h.1,0,h.2⟩)
 refine hcut.mono fun e w' ⟨he,hw⟩=>⟨?_,hw⟩;rw[he];unfold Lib.cutV;rcases vy bs with ⟨j,h1,h2,h3⟩|⟨h1,h3⟩
 ·rw[h1,if_pos (by omega),h3];have Z0:Lib.fromV (some ⟨b,o,none⟩) bs.length cap ((j:Int).toNat+1)= .slice (if cap=j+1 then some ⟨b,o,none⟩ else (some (⟨b,o,none⟩:Addr)).map (·.add ((j+1)*1))) (bs.length-(j+1)) (cap-(j+1)):=by
   unfold Lib.fromV;rw[Int.toNat_natCast,Nat.mul_one]
  rw[Z0];refine ⟨_,_,_,_,_,_,rfl,by rw[Int.toNat_natCast];exact z9 hT2 (by omega),rfl,by omega,by rw[List.length_drop],uT hT2 (by omega) iQ rfl,fun B hN=>⟨?_,?_⟩⟩
  ·rw[Int.toNat_natCast];exact Mp hN (by omega)
  ·exact Mq hN (by omega) iQ rfl
 ·rw[h1,if_neg (by omega),h3];exact ⟨_,_,_,_,_,_,rfl,hT2,rfl,aBh _,rfl,GD (B:=0).sl,fun B hN=>⟨hN,GD⟩⟩
attribute [local go_sem] Oper.semAt_some
def WZ (x:Yl):Array Value:=#[.agg #[.int .i64 x.1.kind,.int .i64 x.1.line,.int .i64 x.1.col,.string ⟨x.1.text.toArray⟩,.bool x.1.quoted],.agg #[.int .i64 x.2.1,.int .i64 x.2.2.1,.int .i64 x.2.2.2]]
structure EaS (B:Nat) (wr:World) (bs rest:List UInt8) (ao:Option Addr) (cap k n:Nat) (pre:List Yl):Prop where
 i:ScI B wr
 t:SlN B wr (.slice ao rest.length cap) 1 rest dz
 c:rest.length<=cap
 kn:k<=n/\n+rest.length<=65536
 y:iK bs=pre++yE (dt rest.length rest k n)
structure EaT (B:Nat) (wr:World) (bs rest:List UInt8) (ao:Option Addr) (cap n:Nat) (vt:Value) (ts us:List Tok) (k:Nat) (pre:List Yl):Prop where
 i:ScI B wr
 t:SlN B wr (.slice ao rest.length cap) 1 rest dz
 c:rest.length<=cap
 kn:k+cU us<=n+1/\n+1+rest.length<=65536
 s:SlN B wr vt 5 ts Tok.cells
 y:iK bs=pre++(us.map yTok++yE (dt rest.length rest (k+cU us) (n+1)))
theorem SU {rest:List UInt8} {k n:Nat} {ts:List Tok} (h0:0<rest.length) (h:cM (dd rest).1 ((n+1:Nat):Int)= .ok ts):yE (dt rest.length rest k n)=ts.map yTok++yE (dt (dd rest).2.length (dd rest).2 (k+cU ts) (n+1)):=by
 have hne:rest≠[]:=List.length_pos_iff.1 h0;have hc:=lM rest hne;obtain ⟨f,hf⟩:∃f,rest.length=f+1:=⟨rest.length-1,by omega⟩;rw[hf]
 conv=>lhs;unfold dt
 rw[if_neg hne,h];simp only;rw[po f (dd rest).2.length (dd rest).2 (k+cU ts) (n+1) (by omega) (aBh _)];unfold yE;simp
theorem W8 {rest:List UInt8} {k n:Nat} {c:Int} (h0:0<rest.length) (h:cM (dd rest).1 ((n+1:Nat):Int)= .error c):yE (dt rest.length rest k n)=[zO (k,n+1,c)]:=by
 have hne:rest≠[]:=List.length_pos_iff.1 h0;obtain ⟨f,hf⟩:∃f,rest.length=f+1:=⟨rest.length-1,by omega⟩;rw[hf];unfold dt;rw[if_neg hne,h];rfl
theorem W7 {rest:List UInt8} {k n:Nat} (h0:rest=[]):yE (dt rest.length rest k n)=[]:=by
 subst h0;rfl
theorem wM (t:Tok) (us:List Tok):cU (t::us)=(if t.kind==1 then 1 else 0)+cU us:=by
 unfold cU;rw[List.filter_cons]
 split
 ·rw[aBk];omega
 ·omega
theorem ET {bs:List UInt8} {pre r:List Yl} {x:Yl} (h:iK bs=pre++(x::r)):pre++[x] <+:iK bs/\pre.length<(iK bs).length:=by
 rw[h];exact ⟨⟨r,by simp⟩,by simp⟩
theorem SS (l Bn B:Nat) (bs:List UInt8) (ao:Option Addr) (cap:Nat) (J Jx:List Yl->World->Prop) (W:World) (m:Nat) (hI:ScI B W) (hBn:W.cell? ⟨Bn,0,none⟩=some (.slice ao bs.length cap)) (hT:SlN B W (.slice ao bs.length cap) 1 bs dz) (iQ:bs.length<=cap)
 (hJ:∀pre w1 w2,J pre w1->Below w1.heap.size w1 w2->J pre w2)
 (hY:∀pre x W1,J pre W1->pre.length<(iK bs).length->YieldAt Fence.wide m Tryz.prog l (WZ x) W1 fun e W'=>(e= .returned (.bool true)/\J (pre++[x]) W'/\ScK B W1 W')\/(e= .returned (.bool false)/\Jx (pre++[x]) W'))
 (h0:J [] W):
 Calls Tryz.prog 103 #[.func (.yield l) #[] #[],.pointer (some ⟨Bn,0,none⟩)] W fun e W'=>(∃v,e= .returned v)/\((∃ys,ys=iK bs/\J ys W')\/∃pre,pre <+:iK bs/\Jx pre W'):=by
 by_cases xg:65536<bs.length
 ·have hy:iK bs=[]++(zO (0,0,3)::[]):=by unfold iK;rw[if_pos xg];rfl
  have hp:=ET hy;obtain ⟨fn,tmps,assign,body,Oh,hR⟩:=hY [] (zO (0,0,3)) W h0 hp.2;have hy2:(Instr.yield l #[.agg #[.int .i64 0,.int .i64 0,.int .i64 0,.string ⟨#[]⟩,.bool false],.agg #[.int .i64 0,.int .i64 0,.int .i64 3]]).run Tryz.prog W= .ok (.round l fn tmps assign body) W:=Oh;have Hp:=hid hp;have Hy:=hid hy;have HR:=hid hR;obtain ⟨N,hN⟩:=ex (bs.length);rw[<-hN]at xg hBn;have tl:decide (65536<N)=true:=dT xg
  have bl:(65536:Int)<(N:Int):=by omega
  clear hI hT iQ hJ hY h0 hy hp Oh hR hN xg;go_enter Tryz.func103,Tryz.ntmps103;go_upto_region 1 with (fail)
  refine (wpIn_wide (n:=m+1)).1 ?_
  gi_wp2
  refine HR.o.mono ?_;rintro e W' (⟨rfl,KT,-⟩|⟨rfl,LI⟩)
  ·have Gs:=hid KT;clear KT HR hy2
   gi_wp2
   go_wp2;refine bodyPost_ret (results_none rfl _ _ _) rfl ?_;exact ⟨⟨_,rfl⟩,.inl ⟨_,Hy.o.symm,Gs.o⟩⟩
  ·have Gs:=hid LI;clear LI HR hy2
   gi_wp2
   go_wp2;refine bodyPost_ret (results_none rfl _ _ _) rfl ?_;exact ⟨⟨_,rfl⟩,.inr ⟨_,Hp.o.1,Gs.o⟩⟩
 ·have H0:=hid (show EaS B W bs bs ao cap 0 0 []/\J [] W from ⟨⟨hI,hT,iQ,⟨aBh _,by omega⟩,by unfold iK;rw[if_neg xg];rfl⟩,h0⟩);have HJ:=hid hJ;have HY:=hid hY;have tl:decide (65536<bs.length)=false:=dF xg;have bl:¬(65536:Int)<(bs.length:Int):=by omega
  obtain ⟨N,hN⟩:=ex (bs.length);rw[<-hN]at hBn tl bl;have HN:=hid hN;clear hI hT iQ hJ hY h0 xg hN;go_enter Tryz.func103,Tryz.ntmps103;go_wp2
  go_loopw [3,4,5] (fun v3 v4 v5 wr=>∃(pre:List Yl) (k n q:Nat) (rest:List UInt8) (ao:Option Addr) (cap:Nat),v3= .int .i64 (k:Int)/\v4= .int .i64 (n:Int)/\v5= .slice ao q cap/\Hid (q=rest.length/\EaS B wr bs rest ao cap k n pre/\J pre wr)) (fun _ _ v5 _=>slN v5)
  case atStart=>exact ⟨[],0,0,N,bs,ao,cap,rfl,rfl,rfl,hid ⟨HN.o,H0.o⟩⟩
  case round=>
   clear H0 tl bl hBn;obtain ⟨pre,k,n,q,rest,ao,cap,rfl,rfl,rfl,H⟩:=hrel;by_cases hq:0<q
   ·obtain ⟨kI,hS,hJp⟩:=H.o;have tq:decide (0<q)=true:=dT hq;have bq:(0:Int)<(q:Int):=by omega
    have cg:=hS.kn;have wn:wrap64 ((n:Int)+1)=(n:Int)+1:=bK (by omega) (by omega);have XE:=hid (fun (w1:World) (hb:Below wr.heap.size wr w1) (g:Nat) (hg:w1.cell? ⟨g,0,none⟩=some (.int .u8 10))=>cut_c w1 ao cap g rest (hS.t.sl.later hb) (by omega) hS.c hg);rw[<-kI]at XE;have HS:=hid hS;have Hq:=hid kI;have HJp:=hid hJp;have pW:=hid (show rest.length<=65536 by omega);clear H kI hS hJp cg hq
    go_wp2_with fail
    refine (XE.o _ ((aBi _ _).alloc (aBh _) _) _ (aa (ag _) 0)).mono ?_;rintro r w2 ⟨⟨v1,v2,fd,kp,n2,c2,rfl,h1,rfl,h2,h3,h4,h5⟩,dq,Qs⟩;have bG:∀ob,Below wr.heap.size wr (wr.alloc ob):=fun ob=>(aBi _ _).alloc (aBh _) ob;have bI:Below wr.heap.size wr w2:=by rw[Qs];exact bdH (bG _) dq
    have hI2:=HS.o.i.later bI;rw[Hq.o]at h5;obtain ⟨t1,t2⟩:=h5 B (HS.o.t.to (ScK.below HS.o.i.lt (bG _)));have Sx:=ScK.below (B:=B) (Nat.lt_of_lt_of_le HS.o.i.lt (bG _).size) (show Below _ _ w2 by rw[Qs];exact bdH (aBi _ _) dq);have T1:=hid (t1.to Sx);have T2:=hid (t2.to Sx);have BF:=S9 (t1.to Sx).sl;have ie:=hid bI;have HI2:=hid hI2;obtain ⟨X,hX⟩:∃X,X=cM (dd rest).1 ((n+1:Nat):Int):=⟨_,rfl⟩
    have gQ:(⟨(dd rest).1.toArray⟩:ByteArray).size<=1048576:=by
     have:=ri rest;have:=pW.o;rw[<-aq]
     show (dd rest).1.toArray.toList.length<=_
     rw[List.toList_toArray];omega
    have HL:=hid (show Calls Tryz.prog 105 #[.string ⟨(dd rest).1.toArray⟩,.int .i64 ((n:Int)+1)] w2 (iT w2 121 X) from by
     have:=NT w2 ⟨(dd rest).1.toArray⟩ ((n+1:Nat):Int) gQ hI2.gl;rw[show (⟨(dd rest).1.toArray⟩:ByteArray).data.toList=(dd rest).1 from List.toList_toArray ..,<-hX]at this;exact this)
    have HX:=hid hX;have H2:=hid (And.intro h2 h3);clear XE Qs h1 h2 h3 h4 h5 bG bI hI2 t1 t2 Sx hX gQ
    go_wp2_with fail
    refine HL.o.mono ?_;intro r w3 hr;clear HL BF;cases X with
    |error c=>
     obtain ⟨aV,rfl⟩:=hr;have hI3:=HI2.o.later aV;have AU:=ie.o.trans (aV.mono ie.o.size);have hJ3:=HJ.o _ _ _ HJp.o AU;have hy:=HS.o.y;rw[W8 (by have:=Hq.o;omega) HX.o.symm]at hy;have hp:=ET hy;obtain ⟨fn,tmps,assign,body,Oh,hR⟩:=HY.o pre (zO (k,n+1,c)) w3 hJ3 hp.2;have hy2:(Instr.yield l #[.agg #[.int .i64 0,.int .i64 0,.int .i64 0,.string ⟨#[]⟩,.bool false],.agg #[.int .i64 (k:Int),.int .i64 ((n:Int)+1),.int .i64 c]]).run Tryz.prog w3= .ok (.round l fn tmps assign body) w3:=Oh
     have tc:(c != 0)=true:=by rw[bne_iff_ne];exact tQ HX.o.symm
     have HR:=hid hR;have Hp:=hid hp;have Hy:=hid hy;clear aV hI3 AU hJ3 hy hp Oh hR;go_upto_region 11 with (fail)
     refine (wpIn_wide (n:=m+1)).1 ?_
     gi_wp2
     refine HR.o.mono ?_;rintro e W' (⟨rfl,KT,-⟩|⟨rfl,LI⟩)
     ·have Gs:=hid KT;clear KT HR hy2
      gi_wp2
      go_wp2;refine bodyPost_ret (results_none rfl _ _ _) rfl ?_;exact ⟨⟨_,rfl⟩,.inl ⟨_,Hy.o.symm,Gs.o⟩⟩
     ·have Gs:=hid LI;clear LI HR hy2
      gi_wp2
      go_wp2;refine bodyPost_ret (results_none rfl _ _ _) rfl ?_;exact ⟨⟨_,rfl⟩,.inr ⟨_,Hp.o.1,Gs.o⟩⟩
    |ok ts=>
     obtain ⟨vt,QE,rfl⟩:=hr;have FE:∀t y m,dZ t=some (y,m)->y.length<=t.length:=fun t y m h=>by have:=np h;omega
     obtain ⟨-,Sm⟩:=oy FE HX.o.symm;have kr:=ri rest;have hcl2:=lM rest (List.length_pos_iff.1 (by have:=Hq.o;omega));have hmf:=J8 FE HX.o.symm;have cg:=HS.o.kn;have hlr:=pW.o;have Htl:=hid (show ts.length<=1000000 by omega);have jg:=SlR.ofRow QE.row rfl (fun _=>rfl) (by omega) (by decide);obtain ⟨ta,tcp,rfl⟩:∃a c,vt= .slice a ts.length c:=eI QE.row
     have X5:SlN B w3 (.slice ta ts.length tcp) 5 ts Tok.cells:=⟨jg,fun b o n' c' e h0=>by
      cases e;rcases QE.row.2 with ⟨hv,hn⟩|⟨g,mn,cur,hv,-,hh,-⟩
      ·omega
      ·cases hv;exact ScF.new HI2.o.lt HI2.o.own QE.below (QE.new b rfl) hh rfl⟩
     have aV:=QE.below;have AU:=ie.o.trans (aV.mono ie.o.size);have hy:=HS.o.y;rw[SU (by have:=Hq.o;omega) HX.o.symm]at hy;have H0i:=hid (show EaT B w3 bs (dd rest).2 kp c2 n (.slice ta ts.length tcp) ts ts k pre/\J pre w3 from
      ⟨⟨HI2.o.later aV,by have:=T2.o.to (ScK.below HI2.o.lt aV);rw[H2.o.2]at this;exact this,by have:=H2.o;omega,⟨by omega,by omega⟩,X5,hy⟩,HJ.o _ _ _ HJp.o AU⟩)
     have Hkn0:=hid cg;clear QE FE Sm kr hcl2 hmf cg hlr jg X5 aV AU hy;go_wp2
     go_loopw [3,52] (fun v3 v52 wr=>∃(k' j:Nat) (Cq:List Yl) (us:List Tok),v3= .int .i64 (k':Int)/\v52= .int .i64 (j:Int)/\Hid (j+us.length=ts.length/\ts.drop j=us/\EaT B wr bs (dd rest).2 kp c2 n (.slice ta ts.length tcp) ts us k' Cq/\J Cq wr)) (fun _ v52 _=>ts.length-(intOf v52).toNat)
     case atStart=>exact ⟨k,0,pre,ts,rfl,rfl,hid ⟨Nat.zero_add _,rfl,H0i.o⟩⟩
     case round=>
      clear H0i;obtain ⟨k',j,Cq,us,rfl,rfl,Lp⟩:=hrel;obtain ⟨hj,rT,hE,Pa⟩:=Lp.o;have Sm:=Htl.o;cases us with
      |nil=>
       have tj:decide (j<ts.length)=false:=dF (by simp at hj;omega);have bj:¬(j:Int)<(ts.length:Int):=by simp at hj;omega
       have HE:=hid hE;have XR:=hid Pa;have Hj:=hid hj;clear Lp hj rT hE Pa Sm;go_wp2;go_roundw
       case rel=>
        have hE:=HE.o;have cN:k'+cU ([]:List Tok)=k':=rfl;exact ⟨Cq,k',n+1,n2,(dd rest).2,kp,c2,rfl,by rw[Int.natCast_add];rfl,rfl,hid ⟨H2.o.2,⟨hE.i,hE.t,hE.c,⟨by have:=hE.kn.1;rw[cN]at this;exact this,hE.kn.2⟩,by have:=hE.y;rw[cN]at this;exact this⟩,XR.o⟩⟩
       case measure=>
        show n2<q
        have h1:=lM rest (List.length_pos_iff.1 (by have:=Hq.o;have:=tq;simp at this;omega));have h2:=H2.o.2;have h3:=Hq.o;omega
      |cons t XZ=>
      have aN:j<ts.length:=by simp only[aBk]at hj;omega
      have tj:decide (j<ts.length)=true:=dT aN;have bj:(j:Int)<(ts.length:Int):=by omega
      have ht:ts[j]? =some t:=by
       have:=congrArg List.head? rT;rw[List.head?_drop]at this;exact this
      obtain ⟨ta',tcp',e1,-,bN⟩:=hE.s.sl;injection e1 with e1 e2 e3
      subst e1;obtain ⟨b,o,hta,hb,hc⟩:=bN (by omega);have c0:=hc j t ht 0 _ rfl;have c1:=hc j t ht 1 _ rfl;have c2':=hc j t ht 2 _ rfl;have c3:=hc j t ht 3 _ rfl;have c4:=hc j t ht 4 _ rfl;simp only[Nat.add_zero]at c0;have HE:=hid hE;have XR:=hid Pa;have Hj:=hid hj;have Hdr:=hid rT;subst hta;have kO:=hid aN;obtain ⟨W5,hW5⟩:=ex (wr.alloc (.cells #[.int .i64 t.kind,.int .i64 t.line,.int .i64 t.col,.string ⟨t.text.toArray⟩,.bool t.quoted] 121))
      have lV:Below wr.heap.size wr W5:=by rw[hW5];exact (aBi _ _).alloc (aBh _) _
      have Ss:W5.heap[wr.heap.size]? =some (.cells #[.int .i64 t.kind,.int .i64 t.line,.int .i64 t.col,.string ⟨t.text.toArray⟩,.bool t.quoted] 121 (0,0)):=by rw[hW5];exact ag _
      have hK5:=ScK.below (B:=B) hE.i.lt lV;have hp:=ET (show iK bs=Cq++(yTok t::_) from hE.y);obtain ⟨fn,tmps,assign,body,Oh,hR⟩:=HY.o Cq (yTok t) W5 (HJ.o _ _ _ Pa lV) hp.2;have hy2:(Instr.yield l #[.agg #[.int .i64 t.kind,.int .i64 t.line,.int .i64 t.col,.string ⟨t.text.toArray⟩,.bool t.quoted],.agg #[.int .i64 0,.int .i64 0,.int .i64 0]]).run Tryz.prog W5= .ok (.round l fn tmps assign body) W5:=Oh
      have HR:=hid hR;have Hp:=hid hp;have HI5:=hid (hE.i.to hK5);have HT5:=hid (hE.t.to hK5);have HS5:=hid (hE.s.to hK5);have HC:=hid hE.c;have zL:=hid hE.kn;have Hy:=hid hE.y;obtain ⟨d0,d1,d2,d3,d4⟩:=cB5 Ss;simp at d0 d1 d2 d3 d4;have Hnt:=hid hE.kn;clear Lp hj rT hE Pa Sm bN hc hb aN ht e2 e3 lV Ss hK5 hp Oh hR HE XR;go_upto_region 15 with (fail)
      rw[<-hW5];clear hW5 c0 c1 c2' c3 c4;cases eP:(t.kind==1) with
      |true=>
       have Uv:=hid eP;have cN:cU (t::XZ)=1+cU XZ:=by rw[wM,eP];simp
       have O3:=zL.o;rw[cN]at O3;have wk:wrap64 ((k':Int)+1)=(k':Int)+1:=bK (by omega) (by omega);clear O3;go_upto_region 17 with (fail)
       refine (wpIn_wide (n:=m+1)).1 ?_
       gi_wp2
       refine HR.o.mono ?_;rintro e W' (⟨rfl,KT,hk⟩|⟨rfl,LI⟩)
       ·have Gs:=hid KT;have Hk:=hid hk;clear KT hk HR hy2
        gi_wp2
        go_wp2;go_roundw
        case rel=>
         have hk:=Hk.o;exact ⟨k'+1,j+1,Cq++[yTok t],XZ,by rw[Int.natCast_add];rfl,g8 (bK (by omega) (by have:=Htl.o;have:=kO.o;omega)),hid ⟨by have:=Hj.o;simp only[aBk]at this;omega,by rw[<-List.drop_drop,Hdr.o];rfl,⟨HI5.o.to hk,HT5.o.to hk,HC.o,⟨by have:=zL.o.1;rw[cN]at this;omega,zL.o.2⟩,HS5.o.to hk,by rw[Hy.o,cN];simp[Nat.add_assoc]⟩,Gs.o⟩⟩
        case measure=>
         have:=Hj.o;simp only[aBk]at this;exact eJ (n:=ts.length) (k:=j) (by omega) (bK (by omega) (by have:=Htl.o;omega))
       ·have Gs:=hid LI;clear LI HR hy2
        gi_wp2
        go_wp2;refine bodyPost_ret (results_none rfl _ _ _) rfl ?_;exact ⟨⟨_,rfl⟩,.inr ⟨_,Hp.o.1,Gs.o⟩⟩
      |false=>
       have Uv:=hid eP;have cN:cU (t::XZ)=cU XZ:=by rw[wM,eP];simp
       have O3:=zL.o;rw[cN]at O3;clear O3;go_upto_region 17 with (fail)
       refine (wpIn_wide (n:=m+1)).1 ?_
       gi_wp2
       refine HR.o.mono ?_;rintro e W' (⟨rfl,KT,hk⟩|⟨rfl,LI⟩)
       ·have Gs:=hid KT;have Hk:=hid hk;clear KT hk HR hy2
        gi_wp2
        go_wp2;go_roundw
        case rel=>
         have hk:=Hk.o;exact ⟨k',j+1,Cq++[yTok t],XZ,rfl,g8 (bK (by omega) (by have:=Htl.o;have:=kO.o;omega)),hid ⟨by have:=Hj.o;simp only[aBk]at this;omega,by rw[<-List.drop_drop,Hdr.o];rfl,⟨HI5.o.to hk,HT5.o.to hk,HC.o,⟨by have:=zL.o.1;rw[cN]at this;omega,zL.o.2⟩,HS5.o.to hk,by rw[Hy.o,cN];simp⟩,Gs.o⟩⟩
        case measure=>
         have:=Hj.o;simp only[aBk]at this;exact eJ (n:=ts.length) (k:=j) (by omega) (bK (by omega) (by have:=Htl.o;omega))
       ·have Gs:=hid LI;clear LI HR hy2
        gi_wp2
        go_wp2;refine bodyPost_ret (results_none rfl _ _ _) rfl ?_;exact ⟨⟨_,rfl⟩,.inr ⟨_,Hp.o.1,Gs.o⟩⟩
   ·obtain ⟨kI,hS,hJp⟩:=H.o;obtain rfl:q=0:=by omega
    have tq:decide (0<0)=false:=rfl;have hy:=hS.y;rw[W7 (List.eq_nil_of_length_eq_zero kI.symm),List.append_nil]at hy;have Hy:=hid hy;have HJp:=hid hJp;clear H kI hS hJp hy hq;go_wp2
    go_end0
    exact ⟨⟨_,rfl⟩,.inl ⟨_,Hy.o.symm,HJp.o⟩⟩
