/-
Parts of a proof.
-/
import Derived.Maps.StringElems
import Derived.Test.YtfenoaeoedobmaaGreatDoorOw34
set_option linter.unusedVariables false
set_option linter.unusedSimpArgs false
set_option maxHeartbeats 4000000
set_option maxRecDepth 20000
namespace Go.Proofs.YtfenoaeoedobmaaGreatDoor
open Go Go.RowKit
theorem I9:Maps.Keyed Tryz.prog 4 :=Maps.bool_keyed Tryz.underlying4
theorem JR (w:World):(zeroValue 9).run Tryz.prog w= .ok (.string ⟨#[]⟩) w:=by
 kernel_rfl
theorem uj {w w':World} {b:Nat} (h:(w.alloc (.map #[] 0)).grownBy w' (some b)) (hb:b=w.heap.size):Below w.heap.size w w':=
 ⟨h.os,h.tape,h.output,aAe (by simp) h.size,fun i hi=>(h.block i (by simp;omega) (fun e=>by have:=aAf e;omega)).trans (aj _ hi)⟩
theorem Gb (w:World) (b:Bool):∃wa wb,(Instr.mapUpdate 131 (.map (some w.heap.size)) (.bool true) (.string kAllow)).run Tryz.prog (w.alloc (.map #[] 0))= .ok () wa/\
 (Instr.mapUpdate 131 (.map (some w.heap.size)) (.bool false) (.string kDeny)).run Tryz.prog wa= .ok () wb/\
 (Instr.lookup 131 (.map (some w.heap.size)) (.bool b) false).run Tryz.prog wb= .ok (.string (if b=true then kAllow else kDeny)) wb/\Below w.heap.size w wb:=by
 have h0:=World.ownsMap_made (H:=Unit) w Tryz.prog 4 (plainElem Tryz.prog 9);obtain ⟨wa,ra,oa,ga⟩:=h0.update I9 Tryz.underlying131 (by decide) (key:= .bool true) (val:= .string kAllow) (Maps.keyOf_bool_mk Tryz.underlying4 true) (plainElem_string Tryz.underlying9 (s:=kAllow) (by decide));obtain ⟨wb,rb,ob,gb⟩:=oa.update I9 Tryz.underlying131 (by decide) (key:= .bool false) (val:= .string kDeny) (Maps.keyOf_bool_mk Tryz.underlying4 false) (plainElem_string Tryz.underlying9 (s:=kDeny) (by decide))
 obtain ⟨v,ps,rl,hv⟩:=ob.lookup I9 Tryz.underlying131 (JR wb) (plainElem_string Tryz.underlying9 (s:=⟨#[]⟩) (by decide)) (key:= .bool b) (Maps.keyOf_bool_mk Tryz.underlying4 b);obtain ⟨s,rfl,hs,_⟩:=plainElem_string_inv Tryz.underlying9 hv;have hb1:=uj (ga.trans gb) rfl;refine ⟨wa,wb,ra,rb,?_,hb1⟩;rw[rl];have e:s=if b=true then kAllow else kDeny:=by
  simp only[Prod.mk.injEq]at hs;have h1:=hs.1;cases b with
  |true=>
   rw[Maps.atKey_put_other (by simp),Maps.atKey_put_same h0.isMap (show WideAt.IsKeyLit (.bool true) from trivial)]at h1;simp only[DataW.lit.injEq,Lit.string.injEq]at h1;exact (j5 h1).symm
  |false=>
   rw[Maps.atKey_put_same oa.isMap (show WideAt.IsKeyLit (.bool false) from trivial)]at h1;simp only[DataW.lit.injEq,Lit.string.injEq]at h1;exact (j5 h1).symm
 rw[e]
section
variable {w1 w:World} {Q:Exit->Act->World->Prop} {a:Act} {r:Res} {ev tv rv lw:Value} {ns:List Nd} {bb wb lv n j tb k k0:Nat} {sx:ByteArray}
theorem GK (X:Code) {u:Rul} (hT:TrS w1 w r ev tv rv bb wb (some (tb,lN u)) ns) (hl:ns.length<1048576) (hp:k<ns.length) (hk:r.kind=4) (hf:TwUk a bb wb lv lw n j tb k)
 (ok:∀a' w',TwUk a' bb wb lv lw n j tb k->TrS w1 w' r ev tv rv bb wb (some (tb,lN u)) (aI ns k (aJ cm (if u.allow=true then kAllow else kDeny) .nil))->X.wp Tryz.prog Q a' w'):(Code.seq yR X).wp Tryz.prog Q a w:=by
 obtain ⟨c0,c1,c2,c3,c4,c5,c6,c7⟩:=hT.cells;obtain ⟨d0,d1,d2,d3⟩:=gN hT.held;rw[hk]at c0;have hmm:= @run_makeMap Tryz.prog;obtain ⟨wa,wb2,ra,rb,rl,hb⟩:=Gb w u.allow;obtain ⟨q0,q1,q2,q3⟩:=gN (hT.later hb).held;have HC:=hid (eu (hT.later hb) hl k hp cm (by decide) (if u.allow=true then kAllow else kDeny) (by split<;>decide));have Hok:=hid ok;obtain ⟨vv,rfl,eE⟩:=hf.shape
 simp only[bW,eE];clear eE;generalize (if u.allow=true then kAllow else kDeny)=aw at*;unfold cm at HC;unfold kAllow at ra;unfold kDeny at rb;clear hf ok hT hl hp hb d0 d1 d2 d3;dsimp only[yR,eP,cD,b9,aH,aD,ncb,nce,ncl,nco,ncr,nct,ncx,Tryz.f29]
 go_wp2_with fail
 refine HC.o.mono ?_;rintro x w2 ⟨⟨v,rfl⟩,h2⟩;have H2:=hid h2;clear h2 HC;go_wp2;refine Hok.o _ _ ?_ H2.o;exact ⟨rfl,rfl,rfl,rfl,rfl,rfl,rfl,rfl,rfl,rfl⟩
theorem wS (w:World) (k:Int) (h1:1<=k) (h4:k<=4):(Instr.index 82 (.agg kh) (.int .i64 k)).run Tryz.prog w= .ok (.string (kf k)) w:=by
 rcases (show k=1\/k=2\/k=3\/k=4 by omega) with rfl|rfl|rfl|rfl<;>kernel_rfl
theorem tw_c (X:Code) (hT:TrS w1 w r ev tv rv bb wb none ns) (hl:ns.length<1048576) (hp:k0<ns.length) (h1:1<=r.kind) (h4:r.kind<=4) (hf:TwP a bb wb k0)
 (ok:∀a' w',TwP a' bb wb k0->TrS w1 w' r ev tv rv bb wb none (aI ns k0 (aJ kKind (kf r.kind) .nil))->X.wp Tryz.prog Q a' w'):(Code.seq twC X).wp Tryz.prog Q a w:=by
 obtain ⟨c0,c1,c2,c3,c4,c5,c6,c7⟩:=hT.cells;have HK:=hid (yb w.drew);have HC:=hid (fun w2 (hb:Below w.heap.size w w2)=>eu (hT.later hb) hl k0 hp kKind (by decide) (kf r.kind) (by unfold kf;split;decide;split;decide;split<;>decide));have hix:=fun w'=>wS w' r.kind h1 h4;have Hok:=hid ok;have Hc:=hid (fun w2 (hb:Below w.heap.size w w2)=>(hT.later hb).cells.1);obtain ⟨vv,rfl,eE⟩:=hf.shape
 simp only[bW,eE];clear eE;generalize kf r.kind=kw at*;generalize r.kind=kd at*;unfold kKind at HC;clear hf ok hT hl hp c1 c2 c3 c4 c5 c6 c7;dsimp only[twC,aD,ncl,ncr,ncx,Tryz.f29];refine wp_seq ?_;refine gE ?_;refine dW (fun w'=>w'.cell? ⟨bb,0,none⟩=some (.int .i64 kd)) (fun i=>decide (i<6)) (by kernel_rfl) ?_;have hS:w.drew.cell? ⟨bb,0,none⟩=some (.int .i64 kd):=c0
 refine wL (i:=0) (v:= ?_) rfl ?_ hS ?_;rotate_left
 ·intro w' hSw;go_simp
  try with_reducible rfl
 simp only[Act.put,sA,sZ,sS];refine wL (i:=1) (v:= ?_) rfl ?_ hS ?_;rotate_left
 ·intro w' hSw;go_simp
  try with_reducible rfl
 simp only[Act.put,sA,sZ,sS];refine wL (i:=3) (v:= ?_) rfl ?_ hS ?_;rotate_left
 ·intro w' hSw;go_simp
  try with_reducible rfl
 simp only[Act.put,sA,sZ,sS];refine wL (i:=4) (v:= ?_) rfl ?_ hS ?_;rotate_left
 ·intro w' hSw;go_simp
  try with_reducible rfl
 simp only[Act.put,sA,sZ,sS];refine aK (i:=2) (by kernel_rfl) rfl (fun K hK=> ?_);go_simp
 go_at_call 38
 refine HK.o.mono ?_;rintro x w2 ⟨rfl,hb⟩;have hb2:Below w.heap.size w w2:=(bdH (aAb w.heap.size w) 1).trans hb;have hS2:=Hc.o w2 hb2;have HC2:=hid (HC.o w2 hb2);clear HC HK hb Hc hb2;refine hK.out _ _ (fun _=>hS2) ?_;clear hK K
 try simp only[Act.put,sA,sZ,sS]
 refine aK (i:=5) (by kernel_rfl) rfl (fun K hK=> ?_);have hi2:=hix w2;go_simp;refine hK.out _ _ (fun _=>hS2) ?_;clear hK K hi2
 try simp only[Act.put,sA,sZ,sS]
 refine aK (i:=6) (by kernel_rfl) rfl (fun K hK=> ?_);go_simp
 go_at_call 71
 refine HC2.o.mono ?_;rintro x w3 ⟨⟨v,rfl⟩,h2⟩;have H2:=hid h2;clear HC2 h2;refine hK.out _ _ (fun h=>absurd h (by decide)) ?_;clear hK K;refine dX (by kernel_rfl) ?_ _;refine Hok.o _ _ ?_ H2.o;exact ⟨rfl,rfl,rfl,rfl,rfl⟩
end
theorem TwEs.toE {a:Act} {bb wb lv n j:Nat} {ev:Value} {sx:ByteArray} (h:TwEs a bb wb lv ev n j sx):TwE a bb wb lv ev n j:=⟨h.size,h.dfr,h.s1,h.s3,h.s5,h.s60,h.s61,h.s62⟩
theorem TwTk.toT {a:Act} {bb wb lv n j tb k:Nat} {ev:Value} (h:TwTk a bb wb lv ev n j tb k):TwT a bb wb lv ev n j:=⟨h.size,h.dfr,h.s1,h.s3,h.s8,h.s79,h.s80,h.s81⟩
theorem TwUk.toU {a:Act} {bb wb lv n j tb k:Nat} {ev:Value} (h:TwUk a bb wb lv ev n j tb k):TwU a bb wb lv ev n j:=⟨h.size,h.dfr,h.s1,h.s3,h.s12,h.s129,h.s130,h.s131⟩
theorem TwE.toO {a:Act} {bb wb lv n j:Nat} {ev:Value} (h:TwE a bb wb lv ev n j):TwO a bb wb:=⟨h.size,h.dfr,h.s1,h.s3⟩
theorem TwT.toO {a:Act} {bb wb lv n j:Nat} {ev:Value} (h:TwT a bb wb lv ev n j):TwO a bb wb:=⟨h.size,h.dfr,h.s1,h.s3⟩
theorem TwU.toO {a:Act} {bb wb lv n j:Nat} {ev:Value} (h:TwU a bb wb lv ev n j):TwO a bb wb:=⟨h.size,h.dfr,h.s1,h.s3⟩
theorem TwP.toO {a:Act} {bb wb k0:Nat} (h:TwP a bb wb k0):TwO a bb wb:=⟨h.size,h.dfr,h.s1,h.s3⟩
theorem jR {α:Type} {l:List α} {j:Nat} {x:α} (h:l[j]? =some x):l.take (j+1)=l.take j++[x]:=by
 rw[List.take_add_one,h];rfl
def pO {α:Type} (w:World) (lw:Value) (n sz:Nat) (l:List α) (cells:α->List Value):Prop:=
 ∀j x,l[j]? =some x->∃lb lo lc,lw= .slice (some ⟨lb,lo,none⟩) n lc/\lb<w.heap.size/\∀i v,(cells x)[i]? =some v->w.cell? ⟨lb,lo+j*sz+i,none⟩=some v
theorem jX {α:Type} {w:World} {lw:Value} {sz:Nat} {l:List α} {cells:α->List Value} (h:SlR w lw sz l cells):pO w lw l.length sz l cells:=by
 obtain ⟨ao,cap,hv,hc,hat⟩:=h;intro j x hx;have hj:=(aAh hx).1;obtain ⟨lb,lo,rfl,hlb,hlc⟩:=hat (by omega);exact ⟨lb,lo,cap,hv,hlb,fun i v hi=>hlc j x hx i v hi⟩
section
variable {w1 w:World} {Q:Exit->Act->World->Prop} {a:Act} {r:Res} {ev tv rv lw:Value} {ns:List Nd} {bb wb lv n:Nat}
theorem A3 {l:List ByteArray} (hn:l.length=n) (hl:ns.length+1*n<1048576) (hp:lv<ns.length) (hs:∀x∈l,x.size<=1048576) (hc:pO w1 lw n 1 l aR) (hT:TrS w1 w r ev tv rv bb wb none ns) (hf:TwE a bb wb lv lw n 0)
 (ok:∀a' w',TwO a' bb wb->TrS w1 w' r ev tv rv bb wb none (aI ns lv (dR l))->Q (.exit 1) a' w'):J9.wp Tryz.prog Q a w:=by
 show (Code.loop (Code.seq G8 (Code.seq G7 (Code.seq (Code.block 2 J7) J8)))).wp Tryz.prog Q a w
 refine wp_loop (fun a' w'=>∃(j:Nat),j<=n/\TwE a' bb wb lv lw n j/\TrS w1 w' r ev tv rv bb wb none (aI ns lv (dR (l.take j)))) (fun a' _=>n-(intOf (a'.tmps.getD 62 undef)).toNat) ⟨0,Nat.zero_le _,hf,hT.eq (iP ns lv).symm⟩ ?_;clear hf hT;rintro a1 w2 ⟨j,hj,hf1,hT1⟩;by_cases hjq:j<n
 ·obtain ⟨y,hy⟩:∃y,l[j]? =some y:=au (by omega);have hym:=List.mem_of_getElem? hy;have HR:∀(Q':Exit->Act->World->Prop) (a':Act),TwE a' bb wb lv lw n j->
   (∀a2 w',TwE a2 bb wb lv lw n j->TrS w1 w' r ev tv rv bb wb none (aI ns lv (dR (l.take (j+1))))->Q' .normal a2 w')->J7.wp Tryz.prog Q' a' w2:=by
   intro Q' a' hf' ok';rw[jR hy]at ok';obtain ⟨lb,lo,lc,rfl,hlb,hat⟩:=hc j y hy;have hz:=fun i v (hi:(aR y)[i]? =some v)=>(hT1.below.cell (p:=⟨lb,lo+j*1+i,none⟩) hlb).trans (hat i v hi);have hlen:(aI ns lv (dR (l.take j))).length=ns.length+1*j:=by rw[aY,z9,List.length_take,Nat.min_eq_left (by omega)];omega
   have hjl:1*(j+1)<=1*n:=Nat.mul_le_mul_left _ hjq;rw[Nat.mul_one]at hz;rw[tY,<-cE hp]at ok'
   show (Code.seq H5 G9).wp Tryz.prog Q' a' w2
   refine J1 _ hjq (hz 0 _ rfl) hf' (fun a2 f2=> ?_);exact J0 hT1 (by rw[hlen];omega) (by rw[hlen];omega) (hs y hym) f2 (fun a3 w3 f3 h3=>ok' a3 w3 f3.toE h3)
  obtain ⟨Hms,Hgo⟩:=aM (k:=j) (n:=n) hjq (by omega);have HR2:=hid HR;have Hj:=hid hjq;have tj:decide (j<n)=true:=dT hjq;have wj:wrap64 ((j:Int)+1)=(j:Int)+1:=aW (by omega) (by omega);obtain ⟨vv,rfl,eE⟩:=hf1.shape;simp only[bW,eE];clear eE;clear hf1 hy hym hjq hj hT1 ok HR hn hl hp hc;dsimp only[G8,G7,fi,aH,aD,ncb,nce,ncl,nco,ncr,nct,ncx,Tryz.f29]
  go_wp2
  rename_i Q1 K1 hK1
  have Hnext:∀(a2:Act) (w':World),TwE a2 bb wb lv lw n j->TrS w1 w' r ev tv rv bb wb none (aI ns lv (dR (l.take (j+1))))->K1 a2 w':=by
   intro a2 w' f2 r2;refine hK1 _ _ ?_;have HE:=hid r2;obtain ⟨vv2,rfl,eE⟩:=f2.shape;simp only[bW,eE];clear eE;clear f2 r2 HR2;dsimp only[J8,fi,aH,aD,ncb,nce,ncl,nco,ncr,nct,ncx,Tryz.f29];go_wp2;exact ⟨⟨j+1,Hj.o,⟨rfl,rfl,rfl,rfl,rfl,rfl,rfl,congrArg some Hgo.o⟩,HE.o⟩,Hms.o⟩
  exact HR2.o _ _ ⟨rfl,rfl,rfl,rfl,rfl,rfl,rfl,rfl⟩ (fun a2 w' f2 r2=>Hnext a2 w' f2 r2)
 ·have ej:j=n:=by omega
  subst ej;rw[List.take_of_length_le (by omega)]at hT1;have HO:=hid (fun a' hd=>ok a' w2 hd hT1);have ti:decide (j<j)=false:=dF (Nat.lt_irrefl j);obtain ⟨vv,rfl,eE⟩:=hf1.shape;simp only[bW,eE];clear eE;clear hf1 hj hjq hT1 ok hn hl hp hc;dsimp only[G8,G7,fi,aH,aD,ncb,nce,ncl,nco,ncr,nct,ncx,Tryz.f29];go_wp2;exact HO.o _ ⟨rfl,rfl,rfl,rfl⟩
theorem AX {l:List Tgt} (hn:l.length=n) (hl:ns.length+3*n<1048576) (hp:lv<ns.length) (hs:∀x∈l,x.service.size<=1048576/\x.split.size<=1048576/\x.weight<18446744073709551616) (hc:pO w1 lw n 3 l bN) (hT:TrS w1 w r ev tv rv bb wb none ns) (hf:TwT a bb wb lv lw n 0)
 (ok:∀a' w',TwO a' bb wb->TrS w1 w' r ev tv rv bb wb none (aI ns lv (gF wtF l))->Q (.exit 3) a' w'):J6.wp Tryz.prog Q a w:=by
 show (Code.loop (Code.seq G0 (Code.seq GZ (Code.seq (Code.block 4 J4) J5)))).wp Tryz.prog Q a w
 refine wp_loop (fun a' w'=>∃(j:Nat),j<=n/\TwT a' bb wb lv lw n j/\TrS w1 w' r ev tv rv bb wb none (aI ns lv (gF wtF (l.take j)))) (fun a' _=>n-(intOf (a'.tmps.getD 81 undef)).toNat) ⟨0,Nat.zero_le _,hf,hT.eq (iP ns lv).symm⟩ ?_;clear hf hT;rintro a1 w2 ⟨j,hj,hf1,hT1⟩;by_cases hjq:j<n
 ·obtain ⟨y,hy⟩:∃y,l[j]? =some y:=au (by omega);have hym:=List.mem_of_getElem? hy;have HR:∀(Q':Exit->Act->World->Prop) (a':Act),TwT a' bb wb lv lw n j->
   (∀a2 w',TwT a2 bb wb lv lw n j->TrS w1 w' r ev tv rv bb wb none (aI ns lv (gF wtF (l.take (j+1))))->Q' .normal a2 w')->J4.wp Tryz.prog Q' a' w2:=by
   intro Q' a' hf' ok';rw[jR hy]at ok';obtain ⟨lb,lo,lc,rfl,hlb,hat⟩:=hc j y hy;have hz:=fun i v (hi:(bN y)[i]? =some v)=>(hT1.below.cell (p:=⟨lb,lo+j*3+i,none⟩) hlb).trans (hat i v hi);have hlen:(aI ns lv (gF wtF (l.take j))).length=ns.length+3*j:=by rw[aY,Ek,List.length_take,Nat.min_eq_left (by omega)]
   have hjl:3*(j+1)<=3*n:=Nat.mul_le_mul_left _ hjq;rw[yW,<-cE hp,<-gX (by rw[hlen];omega)]at ok'
   show (Code.seq G4 (Code.seq G3 (Code.seq A4 G1))).wp Tryz.prog Q' a' w2
   generalize hG:aI ns lv (gF wtF (l.take j))=G at*;obtain ⟨s1,s2,s3⟩:=hs y hym;refine JW (t:=y) _ hT1 hjq (hz 0 _ rfl) (hz 1 _ rfl) (hz 2 _ rfl) hf' (fun a2 w3 tb f2 h2=> ?_);refine JV _ h2 (by omega) (by omega) f2 (fun a3 w4 f3 h3=> ?_);have hl3:(aI G lv (.br 2 ⟨#[]⟩ .nil .nil)).length=G.length+1:=by rw[aY,Fo.size_br,Fo.size_nil]
   generalize hG2:aI G lv (.br 2 ⟨#[]⟩ .nil .nil)=G2 at*;by_cases hsv:y.service=⟨#[]⟩
   ·have e:pU wtF y=(aJ aU y.split .nil).app (aJ bD (wtF y.weight) .nil):=by unfold pU;rw[if_neg (by simpa using hsv)];rfl
    rw[e,<-cE (by omega)]at ok';refine GP _ h3 (by omega) (by omega) hsv s2 f3 (fun a4 w5 f4 h4=> ?_);have hl4:(aI G2 G.length (aJ aU y.split .nil)).length=G2.length+1:=by rw[aY];unfold aJ;rw[Fo.size_sc,Fo.size_nil]
    refine Gr h4 (by omega) (by omega) s3 f4 (fun a5 w6 f5 h5=>ok' a5 w6 f5.toT h5.drop)
   ·have e:pU wtF y=(aJ bd y.service .nil).app (aJ bD (wtF y.weight) .nil):=by unfold pU;rw[if_pos hsv];rfl
    rw[e,<-cE (by omega)]at ok';refine GO _ h3 (by omega) (by omega) hsv s1 f3 (fun a4 w5 f4 h4=> ?_);have hl4:(aI G2 G.length (aJ bd y.service .nil)).length=G2.length+1:=by rw[aY];unfold aJ;rw[Fo.size_sc,Fo.size_nil]
    refine Gr h4 (by omega) (by omega) s3 f4 (fun a5 w6 f5 h5=>ok' a5 w6 f5.toT h5.drop)
  obtain ⟨Hms,Hgo⟩:=aM (k:=j) (n:=n) hjq (by omega);have HR2:=hid HR;have Hj:=hid hjq;have tj:decide (j<n)=true:=dT hjq;have wj:wrap64 ((j:Int)+1)=(j:Int)+1:=aW (by omega) (by omega);obtain ⟨vv,rfl,eE⟩:=hf1.shape;simp only[bW,eE];clear eE;clear hf1 hy hym hjq hj hT1 ok HR hn hl hp hc;dsimp only[G0,GZ,c9,aH,aD,ncb,nce,ncl,nco,ncr,nct,ncx,Tryz.f29]
  go_wp2
  rename_i Q1 K1 hK1
  have Hnext:∀(a2:Act) (w':World),TwT a2 bb wb lv lw n j->TrS w1 w' r ev tv rv bb wb none (aI ns lv (gF wtF (l.take (j+1))))->K1 a2 w':=by
   intro a2 w' f2 r2;refine hK1 _ _ ?_;have HE:=hid r2;obtain ⟨vv2,rfl,eE⟩:=f2.shape;simp only[bW,eE];clear eE;clear f2 r2 HR2;dsimp only[J5,c9,aH,aD,ncb,nce,ncl,nco,ncr,nct,ncx,Tryz.f29];go_wp2;exact ⟨⟨j+1,Hj.o,⟨rfl,rfl,rfl,rfl,rfl,rfl,rfl,congrArg some Hgo.o⟩,HE.o⟩,Hms.o⟩
  exact HR2.o _ _ ⟨rfl,rfl,rfl,rfl,rfl,rfl,rfl,rfl⟩ (fun a2 w' f2 r2=>Hnext a2 w' f2 r2)
 ·have ej:j=n:=by omega
  subst ej;rw[List.take_of_length_le (by omega)]at hT1;have HO:=hid (fun a' hd=>ok a' w2 hd hT1);have ti:decide (j<j)=false:=dF (Nat.lt_irrefl j);obtain ⟨vv,rfl,eE⟩:=hf1.shape;simp only[bW,eE];clear eE;clear hf1 hj hjq hT1 ok hn hl hp hc;dsimp only[G0,GZ,c9,aH,aD,ncb,nce,ncl,nco,ncr,nct,ncx,Tryz.f29];go_wp2;exact HO.o _ ⟨rfl,rfl,rfl,rfl⟩
theorem yN {l:List Rul} (hn:l.length=n) (hl:ns.length+4*n<1048576) (hp:lv<ns.length) (hk:r.kind=3) (hs:∀x∈l,x.path.size<=1048576/\x.method.size<=1048576/\x.split.size<=1048576) (hc:pO w1 lw n 4 l bE) (hT:TrS w1 w r ev tv rv bb wb none ns) (hf:TwU a bb wb lv lw n 0)
 (ok:∀a' w',TwO a' bb wb->TrS w1 w' r ev tv rv bb wb none (aI ns lv (cZ false l))->Q (.exit 5) a' w'):D9.wp Tryz.prog Q a w:=by
 show (Code.loop (Code.seq yP (Code.seq yO (Code.seq (Code.block 6 D7) D8)))).wp Tryz.prog Q a w
 refine wp_loop (fun a' w'=>∃(j:Nat),j<=n/\TwU a' bb wb lv lw n j/\TrS w1 w' r ev tv rv bb wb none (aI ns lv (cZ false (l.take j)))) (fun a' _=>n-(intOf (a'.tmps.getD 131 undef)).toNat) ⟨0,Nat.zero_le _,hf,hT.eq (iP ns lv).symm⟩ ?_;clear hf hT;rintro a1 w2 ⟨j,hj,hf1,hT1⟩;by_cases hjq:j<n
 ·obtain ⟨y,hy⟩:∃y,l[j]? =some y:=au (by omega);have hym:=List.mem_of_getElem? hy;have HR:∀(Q':Exit->Act->World->Prop) (a':Act),TwU a' bb wb lv lw n j->
   (∀a2 w',TwU a2 bb wb lv lw n j->TrS w1 w' r ev tv rv bb wb none (aI ns lv (cZ false (l.take (j+1))))->Q' .normal a2 w')->D7.wp Tryz.prog Q' a' w2:=by
   intro Q' a' hf' ok';rw[jR hy]at ok';obtain ⟨lb,lo,lc,rfl,hlb,hat⟩:=hc j y hy;have hz:=fun i v (hi:(bE y)[i]? =some v)=>(hT1.below.cell (p:=⟨lb,lo+j*4+i,none⟩) hlb).trans (hat i v hi);have hlen:(aI ns lv (cZ false (l.take j))).length=ns.length+4*j:=by rw[aY,xG,List.length_take,Nat.min_eq_left (by omega)]
   have hjl:4*(j+1)<=4*n:=Nat.mul_le_mul_left _ hjq;rw[qw,<-cE hp,<-gX (by rw[hlen];omega)]at ok'
   show (Code.seq Ed (Code.seq Ec (Code.seq yR (Code.seq Eb (Code.seq Ea yQ))))).wp Tryz.prog Q' a' w2
   generalize hG:aI ns lv (cZ false (l.take j))=G at*;obtain ⟨s1,s2,s3⟩:=hs y hym;refine Gn (u:=y) _ hT1 hjq (hz 0 _ rfl) (hz 1 _ rfl) (hz 2 _ rfl) (hz 3 _ rfl) hf' (fun a2 w3 tb f2 h2=> ?_);refine Gm _ h2 (by omega) (by omega) f2 (fun a3 w4 f3 h3=> ?_);have hl3:(aI G lv (.br 2 ⟨#[]⟩ .nil .nil)).length=G.length+1:=by rw[aY,Fo.size_br,Fo.size_nil]
   generalize hG2:aI G lv (.br 2 ⟨#[]⟩ .nil .nil)=G2 at*;have e:pV false y=(aJ bV y.path .nil).app ((aJ bA y.method .nil).app (aJ aU y.split .nil)):=by unfold pV;rw[if_neg (by decide)];rfl
   rw[e,<-cE (by omega),<-cE (by rw[aY];omega)]at ok';refine GL _ h3 hk f3 (fun a4 f4=> ?_);refine Gl _ h3 (by omega) (by omega) s1 f4 (fun a5 w6 f5 h5=> ?_);have hl5:(aI G2 G.length (aJ bV y.path .nil)).length=G2.length+1:=by rw[aY];unfold aJ;rw[Fo.size_sc,Fo.size_nil]
   refine Gk _ h5 (by omega) (by omega) s2 f5 (fun a6 w7 f6 h6=> ?_);have hl6:(aI (aI G2 G.length (aJ bV y.path .nil)) G.length (aJ bA y.method .nil)).length=G2.length+2:=by rw[aY,hl5];unfold aJ;rw[Fo.size_sc,Fo.size_nil]
   exact GI h6 (by omega) (by omega) hk s3 f6 (fun a7 w8 f7 h7=>ok' a7 w8 f7.toU h7.drop)
  obtain ⟨Hms,Hgo⟩:=aM (k:=j) (n:=n) hjq (by omega);have HR2:=hid HR;have Hj:=hid hjq;have tj:decide (j<n)=true:=dT hjq;have wj:wrap64 ((j:Int)+1)=(j:Int)+1:=aW (by omega) (by omega);obtain ⟨vv,rfl,eE⟩:=hf1.shape;simp only[bW,eE];clear eE;clear hf1 hy hym hjq hj hT1 ok HR hn hl hp hc;dsimp only[yP,yO,cD,b9,aH,aD,ncb,nce,ncl,nco,ncr,nct,ncx,Tryz.f29]
  go_wp2
  rename_i Q1 K1 hK1
  have Hnext:∀(a2:Act) (w':World),TwU a2 bb wb lv lw n j->TrS w1 w' r ev tv rv bb wb none (aI ns lv (cZ false (l.take (j+1))))->K1 a2 w':=by
   intro a2 w' f2 r2;refine hK1 _ _ ?_;have HE:=hid r2;obtain ⟨vv2,rfl,eE⟩:=f2.shape;simp only[bW,eE];clear eE;clear f2 r2 HR2;dsimp only[D8,cD,b9,aH,aD,ncb,nce,ncl,nco,ncr,nct,ncx,Tryz.f29];go_wp2;exact ⟨⟨j+1,Hj.o,⟨rfl,rfl,rfl,rfl,rfl,rfl,rfl,congrArg some Hgo.o⟩,HE.o⟩,Hms.o⟩
  exact HR2.o _ _ ⟨rfl,rfl,rfl,rfl,rfl,rfl,rfl,rfl⟩ (fun a2 w' f2 r2=>Hnext a2 w' f2 r2)
 ·have ej:j=n:=by omega
  subst ej;rw[List.take_of_length_le (by omega)]at hT1;have HO:=hid (fun a' hd=>ok a' w2 hd hT1);have ti:decide (j<j)=false:=dF (Nat.lt_irrefl j);obtain ⟨vv,rfl,eE⟩:=hf1.shape;simp only[bW,eE];clear eE;clear hf1 hj hjq hT1 ok hn hl hp hc;dsimp only[yP,yO,cD,b9,aH,aD,ncb,nce,ncl,nco,ncr,nct,ncx,Tryz.f29];go_wp2;exact HO.o _ ⟨rfl,rfl,rfl,rfl⟩
theorem yM {l:List Rul} (hn:l.length=n) (hl:ns.length+4*n<1048576) (hp:lv<ns.length) (hk:r.kind=4) (hs:∀x∈l,x.path.size<=1048576/\x.method.size<=1048576/\x.split.size<=1048576) (hc:pO w1 lw n 4 l bE) (hT:TrS w1 w r ev tv rv bb wb none ns) (hf:TwU a bb wb lv lw n 0)
 (ok:∀a' w',TwO a' bb wb->TrS w1 w' r ev tv rv bb wb none (aI ns lv (cZ true l))->Q (.exit 5) a' w'):D9.wp Tryz.prog Q a w:=by
 show (Code.loop (Code.seq yP (Code.seq yO (Code.seq (Code.block 6 D7) D8)))).wp Tryz.prog Q a w
 refine wp_loop (fun a' w'=>∃(j:Nat),j<=n/\TwU a' bb wb lv lw n j/\TrS w1 w' r ev tv rv bb wb none (aI ns lv (cZ true (l.take j)))) (fun a' _=>n-(intOf (a'.tmps.getD 131 undef)).toNat) ⟨0,Nat.zero_le _,hf,hT.eq (iP ns lv).symm⟩ ?_;clear hf hT;rintro a1 w2 ⟨j,hj,hf1,hT1⟩;by_cases hjq:j<n
 ·obtain ⟨y,hy⟩:∃y,l[j]? =some y:=au (by omega);have hym:=List.mem_of_getElem? hy;have HR:∀(Q':Exit->Act->World->Prop) (a':Act),TwU a' bb wb lv lw n j->
   (∀a2 w',TwU a2 bb wb lv lw n j->TrS w1 w' r ev tv rv bb wb none (aI ns lv (cZ true (l.take (j+1))))->Q' .normal a2 w')->D7.wp Tryz.prog Q' a' w2:=by
   intro Q' a' hf' ok';rw[jR hy]at ok';obtain ⟨lb,lo,lc,rfl,hlb,hat⟩:=hc j y hy;have hz:=fun i v (hi:(bE y)[i]? =some v)=>(hT1.below.cell (p:=⟨lb,lo+j*4+i,none⟩) hlb).trans (hat i v hi);have hlen:(aI ns lv (cZ true (l.take j))).length=ns.length+4*j:=by rw[aY,xG,List.length_take,Nat.min_eq_left (by omega)]
   have hjl:4*(j+1)<=4*n:=Nat.mul_le_mul_left _ hjq;rw[qw,<-cE hp,<-gX (by rw[hlen];omega)]at ok'
   show (Code.seq Ed (Code.seq Ec (Code.seq yR (Code.seq Eb (Code.seq Ea yQ))))).wp Tryz.prog Q' a' w2
   generalize hG:aI ns lv (cZ true (l.take j))=G at*;obtain ⟨s1,s2,s3⟩:=hs y hym;refine Gn (u:=y) _ hT1 hjq (hz 0 _ rfl) (hz 1 _ rfl) (hz 2 _ rfl) (hz 3 _ rfl) hf' (fun a2 w3 tb f2 h2=> ?_);refine Gm _ h2 (by omega) (by omega) f2 (fun a3 w4 f3 h3=> ?_);have hl3:(aI G lv (.br 2 ⟨#[]⟩ .nil .nil)).length=G.length+1:=by rw[aY,Fo.size_br,Fo.size_nil]
   generalize hG2:aI G lv (.br 2 ⟨#[]⟩ .nil .nil)=G2 at*;have e:pV true y=(aJ cm (if y.allow=true then kAllow else kDeny) .nil).app ((aJ bV y.path .nil).app (aJ bA y.method .nil)):=by unfold pV;rw[if_pos rfl];rfl
   rw[e,<-cE (by omega),<-cE (by rw[aY];omega)]at ok';refine GK _ h3 (by omega) (by omega) hk f3 (fun a4 w5 f4 h4=> ?_);have hl4:(aI G2 G.length (aJ cm (if y.allow=true then kAllow else kDeny) .nil)).length=G2.length+1:=by rw[aY];unfold aJ;rw[Fo.size_sc,Fo.size_nil]
   refine Gl _ h4 (by omega) (by omega) s1 f4 (fun a5 w6 f5 h5=> ?_);have hl5:(aI (aI G2 G.length (aJ cm (if y.allow=true then kAllow else kDeny) .nil)) G.length (aJ bV y.path .nil)).length=G2.length+2:=by rw[aY,hl4];unfold aJ;rw[Fo.size_sc,Fo.size_nil]
   refine Gk _ h5 (by omega) (by omega) s2 f5 (fun a6 w7 f6 h6=> ?_);exact GJ h6 hk f6 (fun a7 f7=>ok' a7 w7 f7.toU h6.drop)
  obtain ⟨Hms,Hgo⟩:=aM (k:=j) (n:=n) hjq (by omega);have HR2:=hid HR;have Hj:=hid hjq;have tj:decide (j<n)=true:=dT hjq;have wj:wrap64 ((j:Int)+1)=(j:Int)+1:=aW (by omega) (by omega);obtain ⟨vv,rfl,eE⟩:=hf1.shape;simp only[bW,eE];clear eE;clear hf1 hy hym hjq hj hT1 ok HR hn hl hp hc;dsimp only[yP,yO,cD,b9,aH,aD,ncb,nce,ncl,nco,ncr,nct,ncx,Tryz.f29]
  go_wp2
  rename_i Q1 K1 hK1
  have Hnext:∀(a2:Act) (w':World),TwU a2 bb wb lv lw n j->TrS w1 w' r ev tv rv bb wb none (aI ns lv (cZ true (l.take (j+1))))->K1 a2 w':=by
   intro a2 w' f2 r2;refine hK1 _ _ ?_;have HE:=hid r2;obtain ⟨vv2,rfl,eE⟩:=f2.shape;simp only[bW,eE];clear eE;clear f2 r2 HR2;dsimp only[D8,cD,b9,aH,aD,ncb,nce,ncl,nco,ncr,nct,ncx,Tryz.f29];go_wp2;exact ⟨⟨j+1,Hj.o,⟨rfl,rfl,rfl,rfl,rfl,rfl,rfl,congrArg some Hgo.o⟩,HE.o⟩,Hms.o⟩
  exact HR2.o _ _ ⟨rfl,rfl,rfl,rfl,rfl,rfl,rfl,rfl⟩ (fun a2 w' f2 r2=>Hnext a2 w' f2 r2)
 ·have ej:j=n:=by omega
  subst ej;rw[List.take_of_length_le (by omega)]at hT1;have HO:=hid (fun a' hd=>ok a' w2 hd hT1);have ti:decide (j<j)=false:=dF (Nat.lt_irrefl j);obtain ⟨vv,rfl,eE⟩:=hf1.shape;simp only[bW,eE];clear eE;clear hf1 hj hjq hT1 ok hn hl hp hc;dsimp only[yP,yO,cD,b9,aH,aD,ncb,nce,ncl,nco,ncr,nct,ncx,Tryz.f29];go_wp2;exact HO.o _ ⟨rfl,rfl,rfl,rfl⟩
end
noncomputable def eC:Code:=(ncb (ncl (ncr (ncr (ncr (ncr (ncr (ncr (ncx Tryz.f29.body)))))))))
noncomputable def kS:Code:=(ncl eC)
noncomputable def sM:Code:=(nce (ncr eC))
noncomputable def vw:Code:=(nct (ncr (nce (ncr eC))))
noncomputable def sN:Code:=(nce (ncr (nce (ncr eC))))
noncomputable def yT:Code:=(nct (ncr (nce (ncr (nce (ncr eC))))))
noncomputable def xu:Code:=(nce (ncr (nce (ncr (nce (ncr eC))))))
noncomputable def vu:Code:=(nct (ncr (nce (ncr (nce (ncr (nce (ncr eC))))))))
section
variable {w1 w:World} {Q:Exit->Act->World->Prop} {a:Act} {r:Res} {ev tv rv lw:Value} {ns:List Nd} {bb wb k0:Nat}
theorem iA {α:Type} {w:World} {v:Value} {sz:Nat} {xs:List α} {cells:α->List Value} (h:SlR w v sz xs cells) {n:Nat} (hn:xs.length=n):∃a c,v= .slice a n c:=by
 obtain ⟨ao,cap,hv,_⟩:=h;rw[hn]at hv;exact ⟨ao,cap,hv⟩
theorem JZ (hT:TrS w1 w r ev tv rv bb wb none ns) (hz:ResZ r) (hp:k0<ns.length) (hl:ns.length<=4) (hf:TwP a bb wb k0)
 (ok:∀a' w',TwO a' bb wb->TrS w1 w' r ev tv rv bb wb none (aI ns k0 (.br 3 bn (dR r.endps) .nil))->Q .normal a' w'):vw.wp Tryz.prog Q a w:=by
 show (Code.seq H9 (Code.seq H6 (Code.block 1 J9))).wp Tryz.prog Q a w
 rw[<-gX hp]at ok;have hn:=hz.n;refine J3 _ hT (by omega) hp hf (fun a2 w2 f2 h2=> ?_);obtain ⟨ao,cap,rfl⟩:=iA hT.lists.e rfl;refine J2 _ h2 f2 (fun a3 f3=> ?_);have hl2:(aI ns k0 (.br 3 bn .nil .nil)).length=ns.length+1:=by rw[aY,Fo.size_br,Fo.size_nil]
 refine wp_block (A3 rfl (by omega) (by omega) hz.e (jX hT.lists.e) h2 f3 (fun a4 w4 f4 h4=>jU (ok a4 w4 f4 h4)))
theorem JU (hT:TrS w1 w r ev tv rv bb wb none ns) (hz:ResZ r) (hp:k0<ns.length) (hl:ns.length<=4) (hf:TwP a bb wb k0)
 (ok:∀a' w',TwO a' bb wb->TrS w1 w' r ev tv rv bb wb none (aI ns k0 (.br 3 cq (gF wtF r.targets) .nil))->Q .normal a' w'):yT.wp Tryz.prog Q a w:=by
 show (Code.seq G6 (Code.seq G5 (Code.block 3 J6))).wp Tryz.prog Q a w
 rw[<-gX hp]at ok;have hn:=hz.n;refine JY _ hT (by omega) hp hf (fun a2 w2 f2 h2=> ?_);obtain ⟨ao,cap,rfl⟩:=iA hT.lists.t rfl;refine JX _ h2 f2 (fun a3 f3=> ?_);have hl2:(aI ns k0 (.br 3 cq .nil .nil)).length=ns.length+1:=by rw[aY,Fo.size_br,Fo.size_nil]
 refine wp_block (AX rfl (by omega) (by omega) hz.t (jX hT.lists.t) h2 f3 (fun a4 w4 f4 h4=>jU (ok a4 w4 f4 h4)))
theorem GH (hT:TrS w1 w r ev tv rv bb wb none ns) (hz:ResZ r) (hk:r.kind=3) (hp:k0<ns.length) (hl:ns.length<=4) (hf:TwP a bb wb k0)
 (ok:∀a' w',TwO a' bb wb->TrS w1 w' r ev tv rv bb wb none (aI ns k0 (aJ fM r.host (.br 3 bX (cZ false r.rules) .nil)))->Q .normal a' w'):vu.wp Tryz.prog Q a w:=by
 show (Code.seq yS (Code.seq Ef (Code.seq Ee (Code.block 5 D9)))).wp Tryz.prog Q a w
 rw[show aJ fM r.host (.br 3 bX (cZ false r.rules) .nil)=(aJ fM r.host .nil).app (.br 3 bX (cZ false r.rules) .nil) from rfl,<-cE hp,<-gX (by rw[aY];omega)]at ok;have hn:=hz.n;refine GN _ hT (by omega) hp hk hz.host hf (fun a1 w2 f1 h1=> ?_);have hl1:(aI ns k0 (aJ fM r.host .nil)).length=ns.length+1:=by rw[aY];unfold aJ;rw[Fo.size_sc,Fo.size_nil]
 refine Gq _ h1 (by omega) (by omega) f1 (fun a2 w3 f2 h2=> ?_);obtain ⟨ao,cap,rfl⟩:=iA hT.lists.r rfl;refine Gp _ h2 f2 (fun a3 f3=> ?_);have hl2:(aI (aI ns k0 (aJ fM r.host .nil)) k0 (.br 3 bX .nil .nil)).length=ns.length+2:=by rw[aY,Fo.size_br,Fo.size_nil,hl1]
 refine wp_block (yN rfl (by omega) (by omega) hk hz.u (jX hT.lists.r) h2 f3 (fun a4 w4 f4 h4=>jU (ok a4 w4 f4 h4)))
theorem GG (hT:TrS w1 w r ev tv rv bb wb none ns) (hz:ResZ r) (hk:r.kind=4) (hp:k0<ns.length) (hl:ns.length<=4) (hf:TwP a bb wb k0)
 (ok:∀a' w',TwO a' bb wb->TrS w1 w' r ev tv rv bb wb none (aI ns k0 (aJ ed r.route (.br 3 bX (cZ true r.rules) .nil)))->Q .normal a' w'):vu.wp Tryz.prog Q a w:=by
 show (Code.seq yS (Code.seq Ef (Code.seq Ee (Code.block 5 D9)))).wp Tryz.prog Q a w
 rw[show aJ ed r.route (.br 3 bX (cZ true r.rules) .nil)=(aJ ed r.route .nil).app (.br 3 bX (cZ true r.rules) .nil) from rfl,<-cE hp,<-gX (by rw[aY];omega)]at ok;have hn:=hz.n;refine GM _ hT (by omega) hp hk hz.route hf (fun a1 w2 f1 h1=> ?_);have hl1:(aI ns k0 (aJ ed r.route .nil)).length=ns.length+1:=by rw[aY];unfold aJ;rw[Fo.size_sc,Fo.size_nil]
 refine Gq _ h1 (by omega) (by omega) f1 (fun a2 w3 f2 h2=> ?_);obtain ⟨ao,cap,rfl⟩:=iA hT.lists.r rfl;refine Gp _ h2 f2 (fun a3 f3=> ?_);have hl2:(aI (aI ns k0 (aJ ed r.route .nil)) k0 (.br 3 bX .nil .nil)).length=ns.length+2:=by rw[aY,Fo.size_br,Fo.size_nil,hl1]
 refine wp_block (yM rfl (by omega) (by omega) hk hz.u (jX hT.lists.r) h2 f3 (fun a4 w4 f4 h4=>jU (ok a4 w4 f4 h4)))
theorem AZ (hT:TrS w1 w r ev tv rv bb wb none ns) (hd:r.del=true) (hf:TwP a bb wb k0)
 (ok:∀a',TwP a' bb wb k0->jm.wp Tryz.prog Q a' w):(Code.seq kS (Code.cond (.tmp 40) jm sM)).wp Tryz.prog Q a w:=by
 obtain ⟨c0,c1,c2,c3,c4,c5,c6,c7⟩:=hT.cells;rw[hd]at c7;have Hok:=hid ok;obtain ⟨vv,rfl,eE⟩:=hf.shape;simp only[bW,eE];clear eE;clear hf ok hT;dsimp only[kS,eC,ncb,ncl,ncr,ncx,Tryz.f29];go_wp2;exact Hok.o _ ⟨rfl,rfl,rfl,rfl,rfl⟩
theorem GR (hT:TrS w1 w r ev tv rv bb wb none ns) (hd:r.del=false) (hk:r.kind=1) (hne:r.endps≠[]) (hf:TwP a bb wb k0)
 (ok:∀a',TwP a' bb wb k0->vw.wp Tryz.prog Q a' w):(Code.seq kS (Code.cond (.tmp 40) jm sM)).wp Tryz.prog Q a w:=by
 obtain ⟨c0,c1,c2,c3,c4,c5,c6,c7⟩:=hT.cells;rw[hd]at c7;rw[hk]at c0;have hn0:0<r.endps.length:=List.length_pos_iff.2 hne;obtain ⟨n,hn⟩:=ex (r.endps.length);obtain ⟨ao,cap,rfl⟩:=iA hT.lists.e hn.symm;rw[<-hn]at hn0;have t1:decide (0<n)=true:=dT hn0;clear hn;have Hok:=hid ok;obtain ⟨vv,rfl,eE⟩:=hf.shape;simp only[bW,eE];clear eE;clear hf ok hT;dsimp only[kS,eC,ncb,ncl,ncr,ncx,Tryz.f29]
 go_wp2
 show (Code.seq pT (Code.cond (.tmp 46) vw sN)).wp Tryz.prog Q _ _
 dsimp only[pT,aD,ncb,nce,ncl,ncr,ncx,Tryz.f29];go_wp2;exact Hok.o _ ⟨rfl,rfl,rfl,rfl,rfl⟩
theorem GQ (hT:TrS w1 w r ev tv rv bb wb none ns) (hd:r.del=false) (hk:r.kind=1) (hne:r.endps=[]) (hf:TwP a bb wb k0)
 (ok:∀a',TwP a' bb wb k0->Q .normal a' w):(Code.seq kS (Code.cond (.tmp 40) jm sM)).wp Tryz.prog Q a w:=by
 obtain ⟨c0,c1,c2,c3,c4,c5,c6,c7⟩:=hT.cells;rw[hd]at c7;rw[hk]at c0;have hn0:r.endps.length=0:=by rw[hne];rfl
 obtain ⟨ao,cap,rfl⟩:=iA hT.lists.e hn0;have Hok:=hid ok;obtain ⟨vv,rfl,eE⟩:=hf.shape;simp only[bW,eE];clear eE;clear hf ok hT;dsimp only[kS,eC,ncb,ncl,ncr,ncx,Tryz.f29];go_wp2
 show (Code.seq pT (Code.cond (.tmp 46) vw sN)).wp Tryz.prog Q _ _
 dsimp only[pT,aD,ncb,nce,ncl,ncr,ncx,Tryz.f29];go_wp2
 show (Code.seq mN (Code.cond (.tmp 71) yT xu)).wp Tryz.prog Q _ _
 dsimp only[mN,aH,aD,ncb,nce,ncl,ncr,ncx,Tryz.f29];go_wp2
 show (Code.seq qk (Code.cond (.tmp 108) vu .skip)).wp Tryz.prog Q _ _
 dsimp only[qk,aH,aD,ncb,nce,ncl,ncr,ncx,Tryz.f29];go_wp2;exact Hok.o _ ⟨rfl,rfl,rfl,rfl,rfl⟩
theorem GV (hT:TrS w1 w r ev tv rv bb wb none ns) (hd:r.del=false) (hk:r.kind=2) (hf:TwP a bb wb k0)
 (ok:∀a',TwP a' bb wb k0->yT.wp Tryz.prog Q a' w):(Code.seq kS (Code.cond (.tmp 40) jm sM)).wp Tryz.prog Q a w:=by
 obtain ⟨c0,c1,c2,c3,c4,c5,c6,c7⟩:=hT.cells;rw[hd]at c7;rw[hk]at c0;have Hok:=hid ok;obtain ⟨vv,rfl,eE⟩:=hf.shape;simp only[bW,eE];clear eE;clear hf ok hT;dsimp only[kS,eC,ncb,ncl,ncr,ncx,Tryz.f29];go_wp2
 show (Code.seq pT (Code.cond (.tmp 46) vw sN)).wp Tryz.prog Q _ _
 dsimp only[pT,aD,ncb,nce,ncl,ncr,ncx,Tryz.f29];go_wp2
 show (Code.seq mN (Code.cond (.tmp 71) yT xu)).wp Tryz.prog Q _ _
 dsimp only[mN,aH,aD,ncb,nce,ncl,ncr,ncx,Tryz.f29];go_wp2;exact Hok.o _ ⟨rfl,rfl,rfl,rfl,rfl⟩
theorem GU (hT:TrS w1 w r ev tv rv bb wb none ns) (hd:r.del=false) (hk:r.kind=3) (hf:TwP a bb wb k0)
 (ok:∀a',TwP a' bb wb k0->vu.wp Tryz.prog Q a' w):(Code.seq kS (Code.cond (.tmp 40) jm sM)).wp Tryz.prog Q a w:=by
 obtain ⟨c0,c1,c2,c3,c4,c5,c6,c7⟩:=hT.cells;rw[hd]at c7;rw[hk]at c0;have Hok:=hid ok;obtain ⟨vv,rfl,eE⟩:=hf.shape;simp only[bW,eE];clear eE;clear hf ok hT;dsimp only[kS,eC,ncb,ncl,ncr,ncx,Tryz.f29];go_wp2
 show (Code.seq pT (Code.cond (.tmp 46) vw sN)).wp Tryz.prog Q _ _
 dsimp only[pT,aD,ncb,nce,ncl,ncr,ncx,Tryz.f29];go_wp2
 show (Code.seq mN (Code.cond (.tmp 71) yT xu)).wp Tryz.prog Q _ _
 dsimp only[mN,aH,aD,ncb,nce,ncl,ncr,ncx,Tryz.f29];go_wp2
 show (Code.seq qk (Code.cond (.tmp 108) vu .skip)).wp Tryz.prog Q _ _
 dsimp only[qk,aH,aD,ncb,nce,ncl,ncr,ncx,Tryz.f29];go_wp2;exact Hok.o _ ⟨rfl,rfl,rfl,rfl,rfl⟩
theorem GS (hT:TrS w1 w r ev tv rv bb wb none ns) (hd:r.del=false) (hk:r.kind=4) (hf:TwP a bb wb k0)
 (ok:∀a',TwP a' bb wb k0->vu.wp Tryz.prog Q a' w):(Code.seq kS (Code.cond (.tmp 40) jm sM)).wp Tryz.prog Q a w:=by
 obtain ⟨c0,c1,c2,c3,c4,c5,c6,c7⟩:=hT.cells;rw[hd]at c7;rw[hk]at c0;have Hok:=hid ok;obtain ⟨vv,rfl,eE⟩:=hf.shape;simp only[bW,eE];clear eE;clear hf ok hT;dsimp only[kS,eC,ncb,ncl,ncr,ncx,Tryz.f29];go_wp2
 show (Code.seq pT (Code.cond (.tmp 46) vw sN)).wp Tryz.prog Q _ _
 dsimp only[pT,aD,ncb,nce,ncl,ncr,ncx,Tryz.f29];go_wp2
 show (Code.seq mN (Code.cond (.tmp 71) yT xu)).wp Tryz.prog Q _ _
 dsimp only[mN,aH,aD,ncb,nce,ncl,ncr,ncx,Tryz.f29];go_wp2
 show (Code.seq qk (Code.cond (.tmp 108) vu .skip)).wp Tryz.prog Q _ _
 dsimp only[qk,aH,aD,ncb,nce,ncl,ncr,ncx,Tryz.f29];go_wp2;exact Hok.o _ ⟨rfl,rfl,rfl,rfl,rfl⟩
theorem GX (hT:TrS w1 w r ev tv rv bb wb none ns) (hz:ResZ r) (h1:1<=r.kind) (h4:r.kind<=4) (hp:k0<ns.length) (hl:ns.length<=4) (hf:TwP a bb wb k0)
 (ok:∀a' w',TwO a' bb wb->TrS w1 w' r ev tv rv bb wb none (aI ns k0 (ij wtF r))->Q .normal a' w'):(Code.seq kS (Code.cond (.tmp 40) jm sM)).wp Tryz.prog Q a w:=by
 have hn:=hz.n;cases hd:r.del with
 |true=>
  rw[show ij wtF r=aJ bu kTrue .nil by unfold ij;rw[if_pos hd]]at ok;exact AZ hT hd hf (fun a2 f2=>GW hT (by omega) hp (by decide) f2 (fun a3 w3 f3 h3=>ok a3 w3 f3.toO h3))
 |false=>
  have hnd:¬r.del=true:=by rw[hd];decide
  rcases (show r.kind=1\/r.kind=2\/r.kind=3\/r.kind=4 by omega) with hk|hk|hk|hk
  ·by_cases hne:r.endps=[]
   ·rw[show ij wtF r= .nil by unfold ij;rw[if_neg hnd,if_pos hk,if_pos hne],iP]at ok;exact GQ hT hd hk hne hf (fun a2 f2=>ok a2 w f2.toO hT)
   ·rw[show ij wtF r= .br 3 bn (dR r.endps) .nil by unfold ij;rw[if_neg hnd,if_pos hk,if_neg hne]]at ok;exact GR hT hd hk hne hf (fun a2 f2=>JZ hT hz hp hl f2 ok)
  ·rw[show ij wtF r= .br 3 cq (gF wtF r.targets) .nil by unfold ij;rw[if_neg hnd,if_neg (by omega),if_pos hk]]at ok;exact GV hT hd hk hf (fun a2 f2=>JU hT hz hp hl f2 ok)
  ·rw[show ij wtF r=aJ fM r.host (.br 3 bX (cZ false r.rules) .nil) by unfold ij;rw[if_neg hnd,if_neg (by omega),if_neg (by omega),if_pos hk]]at ok;exact GU hT hd hk hf (fun a2 f2=>GH hT hz hk hp hl f2 ok)
  ·rw[show ij wtF r=aJ ed r.route (.br 3 bX (cZ true r.rules) .nil) by unfold ij;rw[if_neg hnd,if_neg (by omega),if_neg (by omega),if_neg (by omega)]]at ok;exact GS hT hd hk hf (fun a2 f2=>GG hT hz hk hp hl f2 ok)
end
