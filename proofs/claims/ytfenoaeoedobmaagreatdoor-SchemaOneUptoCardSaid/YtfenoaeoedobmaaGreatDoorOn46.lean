/-
Parts of a proof.
-/
import Derived.Maps.StringElems
import Derived.Test.YtfenoaeoedobmaaGreatDoorOn45
set_option linter.unusedVariables false
set_option linter.unusedSimpArgs false
set_option maxHeartbeats 4000000
set_option maxRecDepth 20000
namespace Go.Proofs.YtfenoaeoedobmaaGreatDoor
open Go Go.RowKit
theorem V4:Maps.Keyed Tryz.prog 4 :=Maps.bool_keyed Tryz.underlying4
theorem Yr (w:World):(zeroValue 9).run Tryz.prog w= .ok (.string ⟨#[]⟩) w:=by
 kernel_rfl
theorem Da {w w':World} {b:Nat} (h:(w.alloc (.map #[] 0)).grownBy w' (some b)) (hb:b=w.heap.size):Below w.heap.size w w':=
 ⟨h.os,h.tape,h.output,aBl (by simp) h.size,fun i hi=>(h.block i (by simp;omega) (fun e=>by have:=aBm e;omega)).trans (ai _ hi)⟩
theorem Tf (w:World) (b:Bool):∃wa wb,(Instr.mapUpdate 131 (.map (some w.heap.size)) (.bool true) (.string kAllow)).run Tryz.prog (w.alloc (.map #[] 0))= .ok () wa/\
 (Instr.mapUpdate 131 (.map (some w.heap.size)) (.bool false) (.string kDeny)).run Tryz.prog wa= .ok () wb/\
 (Instr.lookup 131 (.map (some w.heap.size)) (.bool b) false).run Tryz.prog wb= .ok (.string (if b=true then kAllow else kDeny)) wb/\Below w.heap.size w wb:=by
 have h0:=World.ownsMap_made (H:=Unit) w Tryz.prog 4 (plainElem Tryz.prog 9);obtain ⟨wa,ra,oa,ga⟩:=h0.update V4 Tryz.underlying131 (by decide) (key:= .bool true) (val:= .string kAllow) (Maps.keyOf_bool_mk Tryz.underlying4 true) (plainElem_string Tryz.underlying9 (s:=kAllow) (by decide));obtain ⟨wb,rb,ob,gb⟩:=oa.update V4 Tryz.underlying131 (by decide) (key:= .bool false) (val:= .string kDeny) (Maps.keyOf_bool_mk Tryz.underlying4 false) (plainElem_string Tryz.underlying9 (s:=kDeny) (by decide))
 obtain ⟨v,ps,rl,hv⟩:=ob.lookup V4 Tryz.underlying131 (Yr wb) (plainElem_string Tryz.underlying9 (s:=⟨#[]⟩) (by decide)) (key:= .bool b) (Maps.keyOf_bool_mk Tryz.underlying4 b);obtain ⟨s,rfl,hs,_⟩:=plainElem_string_inv Tryz.underlying9 hv;have bG:=Da (ga.trans gb) rfl;refine ⟨wa,wb,ra,rb,?_,bG⟩;rw[rl];have e:s=if b=true then kAllow else kDeny:=by
  simp only[Prod.mk.injEq]at hs;have h1:=hs.1;cases b with
  |true=>
   rw[Maps.atKey_put_other (by simp),Maps.atKey_put_same h0.isMap (show WideAt.IsKeyLit (.bool true) from trivial)]at h1;simp only[DataW.lit.injEq,Lit.string.injEq]at h1;exact (oH h1).symm
  |false=>
   rw[Maps.atKey_put_same oa.isMap (show WideAt.IsKeyLit (.bool false) from trivial)]at h1;simp only[DataW.lit.injEq,Lit.string.injEq]at h1;exact (oH h1).symm
 rw[e]
section
variable {w1 w:World} {Q:Exit->Act->World->Prop} {a:Act} {r:Res} {ev tv rv lw:Value} {ns:List Nd} {bb wb lv n j tb k k0:Nat} {sx:ByteArray}
theorem UJ (X:Code) {u:Rul} (hT:TrS w1 w r ev tv rv bb wb (some (tb,rF u)) ns) (hl:ns.length<1048576) (hp:k<ns.length) (hk:r.kind=4) (hf:TwUk a bb wb lv lw n j tb k)
 (ok:∀a' w',TwUk a' bb wb lv lw n j tb k->TrS w1 w' r ev tv rv bb wb (some (tb,rF u)) (aK ns k (an ca (if u.allow=true then kAllow else kDeny) .nil))->X.wp Tryz.prog Q a' w'):(Code.seq Ja X).wp Tryz.prog Q a w:=by
 obtain ⟨c0,c1,c2,c3,c4,c5,c6,c7⟩:=hT.cells;obtain ⟨d0,d1,d2,d3⟩:=j0 hT.held;rw[hk]at c0;have pG:= @run_makeMap Tryz.prog;obtain ⟨wa,wb2,ra,rb,rl,hb⟩:=Tf w u.allow;obtain ⟨q0,q1,q2,q3⟩:=j0 (hT.later hb).held;have HC:=hid (fQ (hT.later hb) hl k hp ca (by decide) (if u.allow=true then kAllow else kDeny) (by split<;>decide));have bh:=hid ok;obtain ⟨vv,rfl,eE⟩:=hf.shape
 simp only[cJ,eE];clear eE;generalize (if u.allow=true then kAllow else kDeny)=aw at*;unfold ca at HC;unfold kAllow at ra;unfold kDeny at rb;clear hf ok hT hl hp hb d0 d1 d2 d3;dsimp only[Ja,gF,dm,cP,aJ,aE,ncb,nce,ncl,nco,ncr,nct,ncx,Tryz.f29]
 go_wp2_with fail
 refine HC.o.mono ?_;rintro x w2 ⟨⟨v,rfl⟩,h2⟩;have H2:=hid h2;clear h2 HC;go_wp2;refine bh.o _ _ ?_ H2.o;exact ⟨rfl,rfl,rfl,rfl,rfl,rfl,rfl,rfl,rfl,rfl⟩
theorem Fz (w:World) (k:Int) (h1:1<=k) (h4:k<=4):(Instr.index 82 (.agg oV) (.int .i64 k)).run Tryz.prog w= .ok (.string (oT k)) w:=by
 rcases (show k=1\/k=2\/k=3\/k=4 by omega) with rfl|rfl|rfl|rfl<;>kernel_rfl
theorem tw_c (X:Code) (hT:TrS w1 w r ev tv rv bb wb none ns) (hl:ns.length<1048576) (hp:k0<ns.length) (h1:1<=r.kind) (h4:r.kind<=4) (hf:TwP a bb wb k0)
 (ok:∀a' w',TwP a' bb wb k0->TrS w1 w' r ev tv rv bb wb none (aK ns k0 (an kKind (oT r.kind) .nil))->X.wp Tryz.prog Q a' w'):(Code.seq twC X).wp Tryz.prog Q a w:=by
 obtain ⟨c0,c1,c2,c3,c4,c5,c6,c7⟩:=hT.cells;have HK:=hid (G9 w.drew);have HC:=hid (fun w2 (hb:Below w.heap.size w w2)=>fQ (hT.later hb) hl k0 hp kKind (by decide) (oT r.kind) (by unfold oT;split;decide;split;decide;split<;>decide));have Il:=fun w'=>Fz w' r.kind h1 h4;have bh:=hid ok;have Hc:=hid (fun w2 (hb:Below w.heap.size w w2)=>(hT.later hb).cells.1);obtain ⟨vv,rfl,eE⟩:=hf.shape
 simp only[cJ,eE];clear eE;generalize oT r.kind=kw at*;generalize r.kind=kd at*;unfold kKind at HC;clear hf ok hT hl hp c1 c2 c3 c4 c5 c6 c7;dsimp only[twC,aE,ncl,ncr,ncx,Tryz.f29];refine wp_seq ?_;refine jR ?_;refine fF (fun w'=>w'.cell? ⟨bb,0,none⟩=some (.int .i64 kd)) (fun i=>decide (i<6)) (by kernel_rfl) ?_;have hS:w.drew.cell? ⟨bb,0,none⟩=some (.int .i64 kd):=c0
 refine wL (i:=0) (v:= ?_) rfl ?_ hS ?_;rotate_left
 ·intro w' cf;go_simp
  try with_reducible rfl
 simp only[Act.put,sA,sZ,sS];refine wL (i:=1) (v:= ?_) rfl ?_ hS ?_;rotate_left
 ·intro w' cf;go_simp
  try with_reducible rfl
 simp only[Act.put,sA,sZ,sS];refine wL (i:=3) (v:= ?_) rfl ?_ hS ?_;rotate_left
 ·intro w' cf;go_simp
  try with_reducible rfl
 simp only[Act.put,sA,sZ,sS];refine wL (i:=4) (v:= ?_) rfl ?_ hS ?_;rotate_left
 ·intro w' cf;go_simp
  try with_reducible rfl
 simp only[Act.put,sA,sZ,sS];refine aM (i:=2) (by kernel_rfl) rfl (fun K hK=> ?_);go_simp
 go_at_call 38
 refine HK.o.mono ?_;rintro x w2 ⟨rfl,hb⟩;have bI:Below w.heap.size w w2:=(bdH (aBi w.heap.size w) 1).trans hb;have LG:=Hc.o w2 bI;have HC2:=hid (HC.o w2 bI);clear HC HK hb Hc bI;refine hK.out _ _ (fun _=>LG) ?_;clear hK K
 try simp only[Act.put,sA,sZ,sS]
 refine aM (i:=5) (by kernel_rfl) rfl (fun K hK=> ?_);have vl:=Il w2;go_simp;refine hK.out _ _ (fun _=>LG) ?_;clear hK K vl
 try simp only[Act.put,sA,sZ,sS]
 refine aM (i:=6) (by kernel_rfl) rfl (fun K hK=> ?_);go_simp
 go_at_call 71
 refine HC2.o.mono ?_;rintro x w3 ⟨⟨v,rfl⟩,h2⟩;have H2:=hid h2;clear HC2 h2;refine hK.out _ _ (fun h=>absurd h (by decide)) ?_;clear hK K;refine fG (by kernel_rfl) ?_ _;refine bh.o _ _ ?_ H2.o;exact ⟨rfl,rfl,rfl,rfl,rfl⟩
end
theorem TwEs.toE {a:Act} {bb wb lv n j:Nat} {ev:Value} {sx:ByteArray} (h:TwEs a bb wb lv ev n j sx):TwE a bb wb lv ev n j:=⟨h.size,h.dfr,h.s1,h.s3,h.s5,h.s60,h.s61,h.s62⟩
theorem TwTk.toT {a:Act} {bb wb lv n j tb k:Nat} {ev:Value} (h:TwTk a bb wb lv ev n j tb k):TwT a bb wb lv ev n j:=⟨h.size,h.dfr,h.s1,h.s3,h.s8,h.s79,h.s80,h.s81⟩
theorem TwUk.toU {a:Act} {bb wb lv n j tb k:Nat} {ev:Value} (h:TwUk a bb wb lv ev n j tb k):TwU a bb wb lv ev n j:=⟨h.size,h.dfr,h.s1,h.s3,h.s12,h.s129,h.s130,h.s131⟩
theorem TwE.toO {a:Act} {bb wb lv n j:Nat} {ev:Value} (h:TwE a bb wb lv ev n j):TwO a bb wb:=⟨h.size,h.dfr,h.s1,h.s3⟩
theorem TwT.toO {a:Act} {bb wb lv n j:Nat} {ev:Value} (h:TwT a bb wb lv ev n j):TwO a bb wb:=⟨h.size,h.dfr,h.s1,h.s3⟩
theorem TwU.toO {a:Act} {bb wb lv n j:Nat} {ev:Value} (h:TwU a bb wb lv ev n j):TwO a bb wb:=⟨h.size,h.dfr,h.s1,h.s3⟩
theorem TwP.toO {a:Act} {bb wb k0:Nat} (h:TwP a bb wb k0):TwO a bb wb:=⟨h.size,h.dfr,h.s1,h.s3⟩
theorem oh {α:Type} {l:List α} {j:Nat} {x:α} (h:l[j]? =some x):l.take (j+1)=l.take j++[x]:=by
 rw[List.take_add_one,h];rfl
def xM {α:Type} (w:World) (lw:Value) (n sz:Nat) (l:List α) (cells:α->List Value):Prop:=
 ∀j x,l[j]? =some x->∃lb lo lc,lw= .slice (some ⟨lb,lo,none⟩) n lc/\lb<w.heap.size/\∀i v,(cells x)[i]? =some v->w.cell? ⟨lb,lo+j*sz+i,none⟩=some v
theorem ox {α:Type} {w:World} {lw:Value} {sz:Nat} {l:List α} {cells:α->List Value} (h:SlR w lw sz l cells):xM w lw l.length sz l cells:=by
 obtain ⟨ao,cap,hv,hc,bN⟩:=h;intro j x hx;have hj:=(aBo hx).1;obtain ⟨lb,lo,rfl,KJ,hlc⟩:=bN (by omega);exact ⟨lb,lo,cap,hv,KJ,fun i v hi=>hlc j x hx i v hi⟩
section
variable {w1 w:World} {Q:Exit->Act->World->Prop} {a:Act} {r:Res} {ev tv rv lw:Value} {ns:List Nd} {bb wb lv n:Nat}
theorem L7 {l:List ByteArray} (hn:l.length=n) (hl:ns.length+1*n<1048576) (hp:lv<ns.length) (hs:∀x∈l,x.size<=1048576) (hc:xM w1 lw n 1 l bc) (hT:TrS w1 w r ev tv rv bb wb none ns) (hf:TwE a bb wb lv lw n 0)
 (ok:∀a' w',TwO a' bb wb->TrS w1 w' r ev tv rv bb wb none (aK ns lv (bQ l))->Q (.exit 1) a' w'):YK.wp Tryz.prog Q a w:=by
 show (Code.loop (Code.seq U6 (Code.seq U5 (Code.seq (Code.block 2 YI) YJ)))).wp Tryz.prog Q a w
 refine wp_loop (fun a' w'=>∃(j:Nat),j<=n/\TwE a' bb wb lv lw n j/\TrS w1 w' r ev tv rv bb wb none (aK ns lv (bQ (l.take j)))) (fun a' _=>n-(intOf (a'.tmps.getD 62 undef)).toNat) ⟨0,Nat.zero_le _,hf,hT.eq (lO ns lv).symm⟩ ?_;clear hf hT;rintro a1 w2 ⟨j,hj,gJ,sK⟩;by_cases g7:j<n
 ·obtain ⟨y,hy⟩:∃y,l[j]? =some y:=aF (by omega);have vd:=List.mem_of_getElem? hy;have HR:∀(Q':Exit->Act->World->Prop) (a':Act),TwE a' bb wb lv lw n j->
   (∀a2 w',TwE a2 bb wb lv lw n j->TrS w1 w' r ev tv rv bb wb none (aK ns lv (bQ (l.take (j+1))))->Q' .normal a2 w')->YI.wp Tryz.prog Q' a' w2:=by
   intro Q' a' im uZ;rw[oh hy]at uZ;obtain ⟨lb,lo,lc,rfl,KJ,bN⟩:=hc j y hy;have hz:=fun i v (hi:(bc y)[i]? =some v)=>(sK.below.cell (p:=⟨lb,lo+j*1+i,none⟩) KJ).trans (bN i v hi);have hlen:(aK ns lv (bQ (l.take j))).length=ns.length+1*j:=by rw[bz,Kl,List.length_take,Nat.min_eq_left (by omega)];omega
   have OO:1*(j+1)<=1*n:=Nat.mul_le_mul_left _ g7;rw[Nat.mul_one]at hz;rw[CH,<-dn hp]at uZ
   show (Code.seq U8 U7).wp Tryz.prog Q' a' w2
   refine YC _ g7 (hz 0 _ rfl) im (fun a2 f2=> ?_);exact YB sK (by rw[hlen];omega) (by rw[hlen];omega) (hs y vd) f2 (fun a3 w3 f3 h3=>uZ a3 w3 f3.toE h3)
  obtain ⟨cY,df⟩:=bL (k:=j) (n:=n) g7 (by omega);have mX:=hid HR;have Hj:=hid g7;have tj:decide (j<n)=true:=dT g7;have wj:wrap64 ((j:Int)+1)=(j:Int)+1:=bK (by omega) (by omega);obtain ⟨vv,rfl,eE⟩:=gJ.shape;simp only[cJ,eE];clear eE;clear gJ hy vd g7 hj sK ok HR hn hl hp hc;dsimp only[U6,U5,g9,aJ,aE,ncb,nce,ncl,nco,ncr,nct,ncx,Tryz.f29]
  go_wp2
  rename_i Q1 K1 AV
  have iV:∀(a2:Act) (w':World),TwE a2 bb wb lv lw n j->TrS w1 w' r ev tv rv bb wb none (aK ns lv (bQ (l.take (j+1))))->K1 a2 w':=by
   intro a2 w' f2 r2;refine AV _ _ ?_;have HE:=hid r2;obtain ⟨Yt,rfl,eE⟩:=f2.shape;simp only[cJ,eE];clear eE;clear f2 r2 mX;dsimp only[YJ,g9,aJ,aE,ncb,nce,ncl,nco,ncr,nct,ncx,Tryz.f29];go_wp2;exact ⟨⟨j+1,Hj.o,⟨rfl,rfl,rfl,rfl,rfl,rfl,rfl,congrArg some df.o⟩,HE.o⟩,cY.o⟩
  exact mX.o _ _ ⟨rfl,rfl,rfl,rfl,rfl,rfl,rfl,rfl⟩ (fun a2 w' f2 r2=>iV a2 w' f2 r2)
 ·have ej:j=n:=by omega
  subst ej;rw[List.take_of_length_le (by omega)]at sK;have HO:=hid (fun a' hd=>ok a' w2 hd sK);have ti:decide (j<j)=false:=dF (Nat.lt_irrefl j);obtain ⟨vv,rfl,eE⟩:=gJ.shape;simp only[cJ,eE];clear eE;clear gJ hj g7 sK ok hn hl hp hc;dsimp only[U6,U5,g9,aJ,aE,ncb,nce,ncl,nco,ncr,nct,ncx,Tryz.f29];go_wp2;exact HO.o _ ⟨rfl,rfl,rfl,rfl⟩
theorem L4 {l:List Tgt} (hn:l.length=n) (hl:ns.length+3*n<1048576) (hp:lv<ns.length) (hs:∀x∈l,x.service.size<=1048576/\x.split.size<=1048576/\x.weight<18446744073709551616) (hc:xM w1 lw n 3 l cn) (hT:TrS w1 w r ev tv rv bb wb none ns) (hf:TwT a bb wb lv lw n 0)
 (ok:∀a' w',TwO a' bb wb->TrS w1 w' r ev tv rv bb wb none (aK ns lv (dI wtF l))->Q (.exit 3) a' w'):YH.wp Tryz.prog Q a w:=by
 show (Code.loop (Code.seq UZ (Code.seq UY (Code.seq (Code.block 4 YF) YG)))).wp Tryz.prog Q a w
 refine wp_loop (fun a' w'=>∃(j:Nat),j<=n/\TwT a' bb wb lv lw n j/\TrS w1 w' r ev tv rv bb wb none (aK ns lv (dI wtF (l.take j)))) (fun a' _=>n-(intOf (a'.tmps.getD 81 undef)).toNat) ⟨0,Nat.zero_le _,hf,hT.eq (lO ns lv).symm⟩ ?_;clear hf hT;rintro a1 w2 ⟨j,hj,gJ,sK⟩;by_cases g7:j<n
 ·obtain ⟨y,hy⟩:∃y,l[j]? =some y:=aF (by omega);have vd:=List.mem_of_getElem? hy;have HR:∀(Q':Exit->Act->World->Prop) (a':Act),TwT a' bb wb lv lw n j->
   (∀a2 w',TwT a2 bb wb lv lw n j->TrS w1 w' r ev tv rv bb wb none (aK ns lv (dI wtF (l.take (j+1))))->Q' .normal a2 w')->YF.wp Tryz.prog Q' a' w2:=by
   intro Q' a' im uZ;rw[oh hy]at uZ;obtain ⟨lb,lo,lc,rfl,KJ,bN⟩:=hc j y hy;have hz:=fun i v (hi:(cn y)[i]? =some v)=>(sK.below.cell (p:=⟨lb,lo+j*3+i,none⟩) KJ).trans (bN i v hi);have hlen:(aK ns lv (dI wtF (l.take j))).length=ns.length+3*j:=by rw[bz,Q6,List.length_take,Nat.min_eq_left (by omega)]
   have OO:3*(j+1)<=3*n:=Nat.mul_le_mul_left _ g7;rw[Jf,<-dn hp,<-kq (by rw[hlen];omega)]at uZ
   show (Code.seq U2 (Code.seq U1 (Code.seq L8 U0))).wp Tryz.prog Q' a' w2
   generalize hG:aK ns lv (dI wtF (l.take j))=G at*;obtain ⟨s1,s2,s3⟩:=hs y vd;refine Yx (t:=y) _ sK g7 (hz 0 _ rfl) (hz 1 _ rfl) (hz 2 _ rfl) im (fun a2 w3 tb f2 h2=> ?_);refine Yw _ h2 (by omega) (by omega) f2 (fun a3 w4 f3 h3=> ?_);have hl3:(aK G lv (.br 2 ⟨#[]⟩ .nil .nil)).length=G.length+1:=by rw[bz,Fo.size_br,Fo.size_nil]
   generalize hG2:aK G lv (.br 2 ⟨#[]⟩ .nil .nil)=G2 at*;by_cases Wb:y.service=⟨#[]⟩
   ·have e:jt wtF y=(an aH y.split .nil).app (an aR (wtF y.weight) .nil):=by unfold jt;rw[if_neg (by simpa using Wb)];rfl
    rw[e,<-dn (by omega)]at uZ;refine UO _ h3 (by omega) (by omega) Wb s2 f3 (fun a4 w5 f4 h4=> ?_);have Wq:(aK G2 G.length (an aH y.split .nil)).length=G2.length+1:=by rw[bz];unfold an;rw[Fo.size_sc,Fo.size_nil]
    refine TD h4 (by omega) (by omega) s3 f4 (fun a5 w6 f5 h5=>uZ a5 w6 f5.toT h5.drop)
   ·have e:jt wtF y=(an aT y.service .nil).app (an aR (wtF y.weight) .nil):=by unfold jt;rw[if_pos Wb];rfl
    rw[e,<-dn (by omega)]at uZ;refine UN _ h3 (by omega) (by omega) Wb s1 f3 (fun a4 w5 f4 h4=> ?_);have Wq:(aK G2 G.length (an aT y.service .nil)).length=G2.length+1:=by rw[bz];unfold an;rw[Fo.size_sc,Fo.size_nil]
    refine TD h4 (by omega) (by omega) s3 f4 (fun a5 w6 f5 h5=>uZ a5 w6 f5.toT h5.drop)
  obtain ⟨cY,df⟩:=bL (k:=j) (n:=n) g7 (by omega);have mX:=hid HR;have Hj:=hid g7;have tj:decide (j<n)=true:=dT g7;have wj:wrap64 ((j:Int)+1)=(j:Int)+1:=bK (by omega) (by omega);obtain ⟨vv,rfl,eE⟩:=gJ.shape;simp only[cJ,eE];clear eE;clear gJ hy vd g7 hj sK ok HR hn hl hp hc;dsimp only[UZ,UY,eG,aJ,aE,ncb,nce,ncl,nco,ncr,nct,ncx,Tryz.f29]
  go_wp2
  rename_i Q1 K1 AV
  have iV:∀(a2:Act) (w':World),TwT a2 bb wb lv lw n j->TrS w1 w' r ev tv rv bb wb none (aK ns lv (dI wtF (l.take (j+1))))->K1 a2 w':=by
   intro a2 w' f2 r2;refine AV _ _ ?_;have HE:=hid r2;obtain ⟨Yt,rfl,eE⟩:=f2.shape;simp only[cJ,eE];clear eE;clear f2 r2 mX;dsimp only[YG,eG,aJ,aE,ncb,nce,ncl,nco,ncr,nct,ncx,Tryz.f29];go_wp2;exact ⟨⟨j+1,Hj.o,⟨rfl,rfl,rfl,rfl,rfl,rfl,rfl,congrArg some df.o⟩,HE.o⟩,cY.o⟩
  exact mX.o _ _ ⟨rfl,rfl,rfl,rfl,rfl,rfl,rfl,rfl⟩ (fun a2 w' f2 r2=>iV a2 w' f2 r2)
 ·have ej:j=n:=by omega
  subst ej;rw[List.take_of_length_le (by omega)]at sK;have HO:=hid (fun a' hd=>ok a' w2 hd sK);have ti:decide (j<j)=false:=dF (Nat.lt_irrefl j);obtain ⟨vv,rfl,eE⟩:=gJ.shape;simp only[cJ,eE];clear eE;clear gJ hj g7 sK ok hn hl hp hc;dsimp only[UZ,UY,eG,aJ,aE,ncb,nce,ncl,nco,ncr,nct,ncx,Tryz.f29];go_wp2;exact HO.o _ ⟨rfl,rfl,rfl,rfl⟩
theorem I6 {l:List Rul} (hn:l.length=n) (hl:ns.length+4*n<1048576) (hp:lv<ns.length) (hk:r.kind=3) (hs:∀x∈l,x.path.size<=1048576/\x.method.size<=1048576/\x.split.size<=1048576) (hc:xM w1 lw n 4 l bU) (hT:TrS w1 w r ev tv rv bb wb none ns) (hf:TwU a bb wb lv lw n 0)
 (ok:∀a' w',TwO a' bb wb->TrS w1 w' r ev tv rv bb wb none (aK ns lv (b7 false l))->Q (.exit 5) a' w'):QT.wp Tryz.prog Q a w:=by
 show (Code.loop (Code.seq I8 (Code.seq I7 (Code.seq (Code.block 6 QR) QS)))).wp Tryz.prog Q a w
 refine wp_loop (fun a' w'=>∃(j:Nat),j<=n/\TwU a' bb wb lv lw n j/\TrS w1 w' r ev tv rv bb wb none (aK ns lv (b7 false (l.take j)))) (fun a' _=>n-(intOf (a'.tmps.getD 131 undef)).toNat) ⟨0,Nat.zero_le _,hf,hT.eq (lO ns lv).symm⟩ ?_;clear hf hT;rintro a1 w2 ⟨j,hj,gJ,sK⟩;by_cases g7:j<n
 ·obtain ⟨y,hy⟩:∃y,l[j]? =some y:=aF (by omega);have vd:=List.mem_of_getElem? hy;have HR:∀(Q':Exit->Act->World->Prop) (a':Act),TwU a' bb wb lv lw n j->
   (∀a2 w',TwU a2 bb wb lv lw n j->TrS w1 w' r ev tv rv bb wb none (aK ns lv (b7 false (l.take (j+1))))->Q' .normal a2 w')->QR.wp Tryz.prog Q' a' w2:=by
   intro Q' a' im uZ;rw[oh hy]at uZ;obtain ⟨lb,lo,lc,rfl,KJ,bN⟩:=hc j y hy;have hz:=fun i v (hi:(bU y)[i]? =some v)=>(sK.below.cell (p:=⟨lb,lo+j*4+i,none⟩) KJ).trans (bN i v hi);have hlen:(aK ns lv (b7 false (l.take j))).length=ns.length+4*j:=by rw[bz,GJ,List.length_take,Nat.min_eq_left (by omega)]
   have OO:4*(j+1)<=4*n:=Nat.mul_le_mul_left _ g7;rw[yH,<-dn hp,<-kq (by rw[hlen];omega)]at uZ
   show (Code.seq QY (Code.seq QX (Code.seq Ja (Code.seq QV (Code.seq QU I9))))).wp Tryz.prog Q' a' w2
   generalize hG:aK ns lv (b7 false (l.take j))=G at*;obtain ⟨s1,s2,s3⟩:=hs y vd;refine TA (u:=y) _ sK g7 (hz 0 _ rfl) (hz 1 _ rfl) (hz 2 _ rfl) (hz 3 _ rfl) im (fun a2 w3 tb f2 h2=> ?_);refine Tz _ h2 (by omega) (by omega) f2 (fun a3 w4 f3 h3=> ?_);have hl3:(aK G lv (.br 2 ⟨#[]⟩ .nil .nil)).length=G.length+1:=by rw[bz,Fo.size_br,Fo.size_nil]
   generalize hG2:aK G lv (.br 2 ⟨#[]⟩ .nil .nil)=G2 at*;have e:ju false y=(an bS y.path .nil).app ((an a9 y.method .nil).app (an aH y.split .nil)):=by unfold ju;rw[if_neg (by decide)];rfl
   rw[e,<-dn (by omega),<-dn (by rw[bz];omega)]at uZ;refine UK _ h3 hk f3 (fun a4 f4=> ?_);refine Ty _ h3 (by omega) (by omega) s1 f4 (fun a5 w6 f5 h5=> ?_);have hl5:(aK G2 G.length (an bS y.path .nil)).length=G2.length+1:=by rw[bz];unfold an;rw[Fo.size_sc,Fo.size_nil]
   refine Tx _ h5 (by omega) (by omega) s2 f5 (fun a6 w7 f6 h6=> ?_);have hl6:(aK (aK G2 G.length (an bS y.path .nil)) G.length (an a9 y.method .nil)).length=G2.length+2:=by rw[bz,hl5];unfold an;rw[Fo.size_sc,Fo.size_nil]
   exact UH h6 (by omega) (by omega) hk s3 f6 (fun a7 w8 f7 h7=>uZ a7 w8 f7.toU h7.drop)
  obtain ⟨cY,df⟩:=bL (k:=j) (n:=n) g7 (by omega);have mX:=hid HR;have Hj:=hid g7;have tj:decide (j<n)=true:=dT g7;have wj:wrap64 ((j:Int)+1)=(j:Int)+1:=bK (by omega) (by omega);obtain ⟨vv,rfl,eE⟩:=gJ.shape;simp only[cJ,eE];clear eE;clear gJ hy vd g7 hj sK ok HR hn hl hp hc;dsimp only[I8,I7,dm,cP,aJ,aE,ncb,nce,ncl,nco,ncr,nct,ncx,Tryz.f29]
  go_wp2
  rename_i Q1 K1 AV
  have iV:∀(a2:Act) (w':World),TwU a2 bb wb lv lw n j->TrS w1 w' r ev tv rv bb wb none (aK ns lv (b7 false (l.take (j+1))))->K1 a2 w':=by
   intro a2 w' f2 r2;refine AV _ _ ?_;have HE:=hid r2;obtain ⟨Yt,rfl,eE⟩:=f2.shape;simp only[cJ,eE];clear eE;clear f2 r2 mX;dsimp only[QS,dm,cP,aJ,aE,ncb,nce,ncl,nco,ncr,nct,ncx,Tryz.f29];go_wp2;exact ⟨⟨j+1,Hj.o,⟨rfl,rfl,rfl,rfl,rfl,rfl,rfl,congrArg some df.o⟩,HE.o⟩,cY.o⟩
  exact mX.o _ _ ⟨rfl,rfl,rfl,rfl,rfl,rfl,rfl,rfl⟩ (fun a2 w' f2 r2=>iV a2 w' f2 r2)
 ·have ej:j=n:=by omega
  subst ej;rw[List.take_of_length_le (by omega)]at sK;have HO:=hid (fun a' hd=>ok a' w2 hd sK);have ti:decide (j<j)=false:=dF (Nat.lt_irrefl j);obtain ⟨vv,rfl,eE⟩:=gJ.shape;simp only[cJ,eE];clear eE;clear gJ hj g7 sK ok hn hl hp hc;dsimp only[I8,I7,dm,cP,aJ,aE,ncb,nce,ncl,nco,ncr,nct,ncx,Tryz.f29];go_wp2;exact HO.o _ ⟨rfl,rfl,rfl,rfl⟩
theorem I5 {l:List Rul} (hn:l.length=n) (hl:ns.length+4*n<1048576) (hp:lv<ns.length) (hk:r.kind=4) (hs:∀x∈l,x.path.size<=1048576/\x.method.size<=1048576/\x.split.size<=1048576) (hc:xM w1 lw n 4 l bU) (hT:TrS w1 w r ev tv rv bb wb none ns) (hf:TwU a bb wb lv lw n 0)
 (ok:∀a' w',TwO a' bb wb->TrS w1 w' r ev tv rv bb wb none (aK ns lv (b7 true l))->Q (.exit 5) a' w'):QT.wp Tryz.prog Q a w:=by
 show (Code.loop (Code.seq I8 (Code.seq I7 (Code.seq (Code.block 6 QR) QS)))).wp Tryz.prog Q a w
 refine wp_loop (fun a' w'=>∃(j:Nat),j<=n/\TwU a' bb wb lv lw n j/\TrS w1 w' r ev tv rv bb wb none (aK ns lv (b7 true (l.take j)))) (fun a' _=>n-(intOf (a'.tmps.getD 131 undef)).toNat) ⟨0,Nat.zero_le _,hf,hT.eq (lO ns lv).symm⟩ ?_;clear hf hT;rintro a1 w2 ⟨j,hj,gJ,sK⟩;by_cases g7:j<n
 ·obtain ⟨y,hy⟩:∃y,l[j]? =some y:=aF (by omega);have vd:=List.mem_of_getElem? hy;have HR:∀(Q':Exit->Act->World->Prop) (a':Act),TwU a' bb wb lv lw n j->
   (∀a2 w',TwU a2 bb wb lv lw n j->TrS w1 w' r ev tv rv bb wb none (aK ns lv (b7 true (l.take (j+1))))->Q' .normal a2 w')->QR.wp Tryz.prog Q' a' w2:=by
   intro Q' a' im uZ;rw[oh hy]at uZ;obtain ⟨lb,lo,lc,rfl,KJ,bN⟩:=hc j y hy;have hz:=fun i v (hi:(bU y)[i]? =some v)=>(sK.below.cell (p:=⟨lb,lo+j*4+i,none⟩) KJ).trans (bN i v hi);have hlen:(aK ns lv (b7 true (l.take j))).length=ns.length+4*j:=by rw[bz,GJ,List.length_take,Nat.min_eq_left (by omega)]
   have OO:4*(j+1)<=4*n:=Nat.mul_le_mul_left _ g7;rw[yH,<-dn hp,<-kq (by rw[hlen];omega)]at uZ
   show (Code.seq QY (Code.seq QX (Code.seq Ja (Code.seq QV (Code.seq QU I9))))).wp Tryz.prog Q' a' w2
   generalize hG:aK ns lv (b7 true (l.take j))=G at*;obtain ⟨s1,s2,s3⟩:=hs y vd;refine TA (u:=y) _ sK g7 (hz 0 _ rfl) (hz 1 _ rfl) (hz 2 _ rfl) (hz 3 _ rfl) im (fun a2 w3 tb f2 h2=> ?_);refine Tz _ h2 (by omega) (by omega) f2 (fun a3 w4 f3 h3=> ?_);have hl3:(aK G lv (.br 2 ⟨#[]⟩ .nil .nil)).length=G.length+1:=by rw[bz,Fo.size_br,Fo.size_nil]
   generalize hG2:aK G lv (.br 2 ⟨#[]⟩ .nil .nil)=G2 at*;have e:ju true y=(an ca (if y.allow=true then kAllow else kDeny) .nil).app ((an bS y.path .nil).app (an a9 y.method .nil)):=by unfold ju;rw[if_pos rfl];rfl
   rw[e,<-dn (by omega),<-dn (by rw[bz];omega)]at uZ;refine UJ _ h3 (by omega) (by omega) hk f3 (fun a4 w5 f4 h4=> ?_);have Wq:(aK G2 G.length (an ca (if y.allow=true then kAllow else kDeny) .nil)).length=G2.length+1:=by rw[bz];unfold an;rw[Fo.size_sc,Fo.size_nil]
   refine Ty _ h4 (by omega) (by omega) s1 f4 (fun a5 w6 f5 h5=> ?_);have hl5:(aK (aK G2 G.length (an ca (if y.allow=true then kAllow else kDeny) .nil)) G.length (an bS y.path .nil)).length=G2.length+2:=by rw[bz,Wq];unfold an;rw[Fo.size_sc,Fo.size_nil]
   refine Tx _ h5 (by omega) (by omega) s2 f5 (fun a6 w7 f6 h6=> ?_);exact UI h6 hk f6 (fun a7 f7=>uZ a7 w7 f7.toU h6.drop)
  obtain ⟨cY,df⟩:=bL (k:=j) (n:=n) g7 (by omega);have mX:=hid HR;have Hj:=hid g7;have tj:decide (j<n)=true:=dT g7;have wj:wrap64 ((j:Int)+1)=(j:Int)+1:=bK (by omega) (by omega);obtain ⟨vv,rfl,eE⟩:=gJ.shape;simp only[cJ,eE];clear eE;clear gJ hy vd g7 hj sK ok HR hn hl hp hc;dsimp only[I8,I7,dm,cP,aJ,aE,ncb,nce,ncl,nco,ncr,nct,ncx,Tryz.f29]
  go_wp2
  rename_i Q1 K1 AV
  have iV:∀(a2:Act) (w':World),TwU a2 bb wb lv lw n j->TrS w1 w' r ev tv rv bb wb none (aK ns lv (b7 true (l.take (j+1))))->K1 a2 w':=by
   intro a2 w' f2 r2;refine AV _ _ ?_;have HE:=hid r2;obtain ⟨Yt,rfl,eE⟩:=f2.shape;simp only[cJ,eE];clear eE;clear f2 r2 mX;dsimp only[QS,dm,cP,aJ,aE,ncb,nce,ncl,nco,ncr,nct,ncx,Tryz.f29];go_wp2;exact ⟨⟨j+1,Hj.o,⟨rfl,rfl,rfl,rfl,rfl,rfl,rfl,congrArg some df.o⟩,HE.o⟩,cY.o⟩
  exact mX.o _ _ ⟨rfl,rfl,rfl,rfl,rfl,rfl,rfl,rfl⟩ (fun a2 w' f2 r2=>iV a2 w' f2 r2)
 ·have ej:j=n:=by omega
  subst ej;rw[List.take_of_length_le (by omega)]at sK;have HO:=hid (fun a' hd=>ok a' w2 hd sK);have ti:decide (j<j)=false:=dF (Nat.lt_irrefl j);obtain ⟨vv,rfl,eE⟩:=gJ.shape;simp only[cJ,eE];clear eE;clear gJ hj g7 sK ok hn hl hp hc;dsimp only[I8,I7,dm,cP,aJ,aE,ncb,nce,ncl,nco,ncr,nct,ncx,Tryz.f29];go_wp2;exact HO.o _ ⟨rfl,rfl,rfl,rfl⟩
end
noncomputable def fU:Code:=(ncb (ncl (ncr (ncr (ncr (ncr (ncr (ncr (ncx Tryz.f29.body)))))))))
noncomputable def qd:Code:=(ncl fU)
noncomputable def BR:Code:=(nce (ncr fU))
noncomputable def Ej:Code:=(nct (ncr (nce (ncr fU))))
noncomputable def BS:Code:=(nce (ncr (nce (ncr fU))))
noncomputable def Jc:Code:=(nct (ncr (nce (ncr (nce (ncr fU))))))
noncomputable def Gz:Code:=(nce (ncr (nce (ncr (nce (ncr fU))))))
noncomputable def Ei:Code:=(nct (ncr (nce (ncr (nce (ncr (nce (ncr fU))))))))
section
variable {w1 w:World} {Q:Exit->Act->World->Prop} {a:Act} {r:Res} {ev tv rv lw:Value} {ns:List Nd} {bb wb k0:Nat}
theorem ly {α:Type} {w:World} {v:Value} {sz:Nat} {xs:List α} {cells:α->List Value} (h:SlR w v sz xs cells) {n:Nat} (hn:xs.length=n):∃a c,v= .slice a n c:=by
 obtain ⟨ao,cap,hv,_⟩:=h;rw[hn]at hv;exact ⟨ao,cap,hv⟩
theorem YA (hT:TrS w1 w r ev tv rv bb wb none ns) (hz:ResZ r) (hp:k0<ns.length) (hl:ns.length<=4) (hf:TwP a bb wb k0)
 (ok:∀a' w',TwO a' bb wb->TrS w1 w' r ev tv rv bb wb none (aK ns k0 (.br 3 bd (bQ r.endps) .nil))->Q .normal a' w'):Ej.wp Tryz.prog Q a w:=by
 show (Code.seq Va (Code.seq U9 (Code.block 1 YK))).wp Tryz.prog Q a w
 rw[<-kq hp]at ok;have hn:=hz.n;refine YE _ hT (by omega) hp hf (fun a2 w2 f2 h2=> ?_);obtain ⟨ao,cap,rfl⟩:=ly hT.lists.e rfl;refine YD _ h2 f2 (fun a3 f3=> ?_);have mF:(aK ns k0 (.br 3 bd .nil .nil)).length=ns.length+1:=by rw[bz,Fo.size_br,Fo.size_nil]
 refine wp_block (L7 rfl (by omega) (by omega) hz.e (ox hT.lists.e) h2 f3 (fun a4 w4 f4 h4=>uY (ok a4 w4 f4 h4)))
theorem Yv (hT:TrS w1 w r ev tv rv bb wb none ns) (hz:ResZ r) (hp:k0<ns.length) (hl:ns.length<=4) (hf:TwP a bb wb k0)
 (ok:∀a' w',TwO a' bb wb->TrS w1 w' r ev tv rv bb wb none (aK ns k0 (.br 3 cD (dI wtF r.targets) .nil))->Q .normal a' w'):Jc.wp Tryz.prog Q a w:=by
 show (Code.seq U4 (Code.seq U3 (Code.block 3 YH))).wp Tryz.prog Q a w
 rw[<-kq hp]at ok;have hn:=hz.n;refine Yz _ hT (by omega) hp hf (fun a2 w2 f2 h2=> ?_);obtain ⟨ao,cap,rfl⟩:=ly hT.lists.t rfl;refine Yy _ h2 f2 (fun a3 f3=> ?_);have mF:(aK ns k0 (.br 3 cD .nil .nil)).length=ns.length+1:=by rw[bz,Fo.size_br,Fo.size_nil]
 refine wp_block (L4 rfl (by omega) (by omega) hz.t (ox hT.lists.t) h2 f3 (fun a4 w4 f4 h4=>uY (ok a4 w4 f4 h4)))
theorem UG (hT:TrS w1 w r ev tv rv bb wb none ns) (hz:ResZ r) (hk:r.kind=3) (hp:k0<ns.length) (hl:ns.length<=4) (hf:TwP a bb wb k0)
 (ok:∀a' w',TwO a' bb wb->TrS w1 w' r ev tv rv bb wb none (aK ns k0 (an gL r.host (.br 3 bZ (b7 false r.rules) .nil)))->Q .normal a' w'):Ei.wp Tryz.prog Q a w:=by
 show (Code.seq Jb (Code.seq Q2 (Code.seq QZ (Code.block 5 QT)))).wp Tryz.prog Q a w
 rw[show an gL r.host (.br 3 bZ (b7 false r.rules) .nil)=(an gL r.host .nil).app (.br 3 bZ (b7 false r.rules) .nil) from rfl,<-dn hp,<-kq (by rw[bz];omega)]at ok;have hn:=hz.n;refine UM _ hT (by omega) hp hk hz.host hf (fun a1 w2 f1 h1=> ?_);have vj:(aK ns k0 (an gL r.host .nil)).length=ns.length+1:=by rw[bz];unfold an;rw[Fo.size_sc,Fo.size_nil]
 refine TC _ h1 (by omega) (by omega) f1 (fun a2 w3 f2 h2=> ?_);obtain ⟨ao,cap,rfl⟩:=ly hT.lists.r rfl;refine TB _ h2 f2 (fun a3 f3=> ?_);have mF:(aK (aK ns k0 (an gL r.host .nil)) k0 (.br 3 bZ .nil .nil)).length=ns.length+2:=by rw[bz,Fo.size_br,Fo.size_nil,vj]
 refine wp_block (I6 rfl (by omega) (by omega) hk hz.u (ox hT.lists.r) h2 f3 (fun a4 w4 f4 h4=>uY (ok a4 w4 f4 h4)))
theorem UF (hT:TrS w1 w r ev tv rv bb wb none ns) (hz:ResZ r) (hk:r.kind=4) (hp:k0<ns.length) (hl:ns.length<=4) (hf:TwP a bb wb k0)
 (ok:∀a' w',TwO a' bb wb->TrS w1 w' r ev tv rv bb wb none (aK ns k0 (an eK r.route (.br 3 bZ (b7 true r.rules) .nil)))->Q .normal a' w'):Ei.wp Tryz.prog Q a w:=by
 show (Code.seq Jb (Code.seq Q2 (Code.seq QZ (Code.block 5 QT)))).wp Tryz.prog Q a w
 rw[show an eK r.route (.br 3 bZ (b7 true r.rules) .nil)=(an eK r.route .nil).app (.br 3 bZ (b7 true r.rules) .nil) from rfl,<-dn hp,<-kq (by rw[bz];omega)]at ok;have hn:=hz.n;refine UL _ hT (by omega) hp hk hz.route hf (fun a1 w2 f1 h1=> ?_);have vj:(aK ns k0 (an eK r.route .nil)).length=ns.length+1:=by rw[bz];unfold an;rw[Fo.size_sc,Fo.size_nil]
 refine TC _ h1 (by omega) (by omega) f1 (fun a2 w3 f2 h2=> ?_);obtain ⟨ao,cap,rfl⟩:=ly hT.lists.r rfl;refine TB _ h2 f2 (fun a3 f3=> ?_);have mF:(aK (aK ns k0 (an eK r.route .nil)) k0 (.br 3 bZ .nil .nil)).length=ns.length+2:=by rw[bz,Fo.size_br,Fo.size_nil,vj]
 refine wp_block (I5 rfl (by omega) (by omega) hk hz.u (ox hT.lists.r) h2 f3 (fun a4 w4 f4 h4=>uY (ok a4 w4 f4 h4)))
theorem L6 (hT:TrS w1 w r ev tv rv bb wb none ns) (hd:r.del=true) (hf:TwP a bb wb k0)
 (ok:∀a',TwP a' bb wb k0->m7.wp Tryz.prog Q a' w):(Code.seq qd (Code.cond (.tmp 40) m7 BR)).wp Tryz.prog Q a w:=by
 obtain ⟨c0,c1,c2,c3,c4,c5,c6,c7⟩:=hT.cells;rw[hd]at c7;have bh:=hid ok;obtain ⟨vv,rfl,eE⟩:=hf.shape;simp only[cJ,eE];clear eE;clear hf ok hT;dsimp only[qd,fU,ncb,ncl,ncr,ncx,Tryz.f29];go_wp2;exact bh.o _ ⟨rfl,rfl,rfl,rfl,rfl⟩
theorem UQ (hT:TrS w1 w r ev tv rv bb wb none ns) (hd:r.del=false) (hk:r.kind=1) (hne:r.endps≠[]) (hf:TwP a bb wb k0)
 (ok:∀a',TwP a' bb wb k0->Ej.wp Tryz.prog Q a' w):(Code.seq qd (Code.cond (.tmp 40) m7 BR)).wp Tryz.prog Q a w:=by
 obtain ⟨c0,c1,c2,c3,c4,c5,c6,c7⟩:=hT.cells;rw[hd]at c7;rw[hk]at c0;have j8:0<r.endps.length:=List.length_pos_iff.2 hne;obtain ⟨n,hn⟩:=ex (r.endps.length);obtain ⟨ao,cap,rfl⟩:=ly hT.lists.e hn.symm;rw[<-hn]at j8;have t1:decide (0<n)=true:=dT j8;clear hn;have bh:=hid ok;obtain ⟨vv,rfl,eE⟩:=hf.shape;simp only[cJ,eE];clear eE;clear hf ok hT;dsimp only[qd,fU,ncb,ncl,ncr,ncx,Tryz.f29]
 go_wp2
 show (Code.seq xX (Code.cond (.tmp 46) Ej BS)).wp Tryz.prog Q _ _
 dsimp only[xX,aE,ncb,nce,ncl,ncr,ncx,Tryz.f29];go_wp2;exact bh.o _ ⟨rfl,rfl,rfl,rfl,rfl⟩
theorem UP (hT:TrS w1 w r ev tv rv bb wb none ns) (hd:r.del=false) (hk:r.kind=1) (hne:r.endps=[]) (hf:TwP a bb wb k0)
 (ok:∀a',TwP a' bb wb k0->Q .normal a' w):(Code.seq qd (Code.cond (.tmp 40) m7 BR)).wp Tryz.prog Q a w:=by
 obtain ⟨c0,c1,c2,c3,c4,c5,c6,c7⟩:=hT.cells;rw[hd]at c7;rw[hk]at c0;have j8:r.endps.length=0:=by rw[hne];rfl
 obtain ⟨ao,cap,rfl⟩:=ly hT.lists.e j8;have bh:=hid ok;obtain ⟨vv,rfl,eE⟩:=hf.shape;simp only[cJ,eE];clear eE;clear hf ok hT;dsimp only[qd,fU,ncb,ncl,ncr,ncx,Tryz.f29];go_wp2
 show (Code.seq xX (Code.cond (.tmp 46) Ej BS)).wp Tryz.prog Q _ _
 dsimp only[xX,aE,ncb,nce,ncl,ncr,ncx,Tryz.f29];go_wp2
 show (Code.seq tA (Code.cond (.tmp 71) Jc Gz)).wp Tryz.prog Q _ _
 dsimp only[tA,aJ,aE,ncb,nce,ncl,ncr,ncx,Tryz.f29];go_wp2
 show (Code.seq yv (Code.cond (.tmp 108) Ei .skip)).wp Tryz.prog Q _ _
 dsimp only[yv,aJ,aE,ncb,nce,ncl,ncr,ncx,Tryz.f29];go_wp2;exact bh.o _ ⟨rfl,rfl,rfl,rfl,rfl⟩
theorem UT (hT:TrS w1 w r ev tv rv bb wb none ns) (hd:r.del=false) (hk:r.kind=2) (hf:TwP a bb wb k0)
 (ok:∀a',TwP a' bb wb k0->Jc.wp Tryz.prog Q a' w):(Code.seq qd (Code.cond (.tmp 40) m7 BR)).wp Tryz.prog Q a w:=by
 obtain ⟨c0,c1,c2,c3,c4,c5,c6,c7⟩:=hT.cells;rw[hd]at c7;rw[hk]at c0;have bh:=hid ok;obtain ⟨vv,rfl,eE⟩:=hf.shape;simp only[cJ,eE];clear eE;clear hf ok hT;dsimp only[qd,fU,ncb,ncl,ncr,ncx,Tryz.f29];go_wp2
 show (Code.seq xX (Code.cond (.tmp 46) Ej BS)).wp Tryz.prog Q _ _
 dsimp only[xX,aE,ncb,nce,ncl,ncr,ncx,Tryz.f29];go_wp2
 show (Code.seq tA (Code.cond (.tmp 71) Jc Gz)).wp Tryz.prog Q _ _
 dsimp only[tA,aJ,aE,ncb,nce,ncl,ncr,ncx,Tryz.f29];go_wp2;exact bh.o _ ⟨rfl,rfl,rfl,rfl,rfl⟩
theorem US (hT:TrS w1 w r ev tv rv bb wb none ns) (hd:r.del=false) (hk:r.kind=3) (hf:TwP a bb wb k0)
 (ok:∀a',TwP a' bb wb k0->Ei.wp Tryz.prog Q a' w):(Code.seq qd (Code.cond (.tmp 40) m7 BR)).wp Tryz.prog Q a w:=by
 obtain ⟨c0,c1,c2,c3,c4,c5,c6,c7⟩:=hT.cells;rw[hd]at c7;rw[hk]at c0;have bh:=hid ok;obtain ⟨vv,rfl,eE⟩:=hf.shape;simp only[cJ,eE];clear eE;clear hf ok hT;dsimp only[qd,fU,ncb,ncl,ncr,ncx,Tryz.f29];go_wp2
 show (Code.seq xX (Code.cond (.tmp 46) Ej BS)).wp Tryz.prog Q _ _
 dsimp only[xX,aE,ncb,nce,ncl,ncr,ncx,Tryz.f29];go_wp2
 show (Code.seq tA (Code.cond (.tmp 71) Jc Gz)).wp Tryz.prog Q _ _
 dsimp only[tA,aJ,aE,ncb,nce,ncl,ncr,ncx,Tryz.f29];go_wp2
 show (Code.seq yv (Code.cond (.tmp 108) Ei .skip)).wp Tryz.prog Q _ _
 dsimp only[yv,aJ,aE,ncb,nce,ncl,ncr,ncx,Tryz.f29];go_wp2;exact bh.o _ ⟨rfl,rfl,rfl,rfl,rfl⟩
theorem UR (hT:TrS w1 w r ev tv rv bb wb none ns) (hd:r.del=false) (hk:r.kind=4) (hf:TwP a bb wb k0)
 (ok:∀a',TwP a' bb wb k0->Ei.wp Tryz.prog Q a' w):(Code.seq qd (Code.cond (.tmp 40) m7 BR)).wp Tryz.prog Q a w:=by
 obtain ⟨c0,c1,c2,c3,c4,c5,c6,c7⟩:=hT.cells;rw[hd]at c7;rw[hk]at c0;have bh:=hid ok;obtain ⟨vv,rfl,eE⟩:=hf.shape;simp only[cJ,eE];clear eE;clear hf ok hT;dsimp only[qd,fU,ncb,ncl,ncr,ncx,Tryz.f29];go_wp2
 show (Code.seq xX (Code.cond (.tmp 46) Ej BS)).wp Tryz.prog Q _ _
 dsimp only[xX,aE,ncb,nce,ncl,ncr,ncx,Tryz.f29];go_wp2
 show (Code.seq tA (Code.cond (.tmp 71) Jc Gz)).wp Tryz.prog Q _ _
 dsimp only[tA,aJ,aE,ncb,nce,ncl,ncr,ncx,Tryz.f29];go_wp2
 show (Code.seq yv (Code.cond (.tmp 108) Ei .skip)).wp Tryz.prog Q _ _
 dsimp only[yv,aJ,aE,ncb,nce,ncl,ncr,ncx,Tryz.f29];go_wp2;exact bh.o _ ⟨rfl,rfl,rfl,rfl,rfl⟩
theorem UW (hT:TrS w1 w r ev tv rv bb wb none ns) (hz:ResZ r) (h1:1<=r.kind) (h4:r.kind<=4) (hp:k0<ns.length) (hl:ns.length<=4) (hf:TwP a bb wb k0)
 (ok:∀a' w',TwO a' bb wb->TrS w1 w' r ev tv rv bb wb none (aK ns k0 (gg wtF r))->Q .normal a' w'):(Code.seq qd (Code.cond (.tmp 40) m7 BR)).wp Tryz.prog Q a w:=by
 have hn:=hz.n;cases hd:r.del with
 |true=>
  rw[show gg wtF r=an bu kTrue .nil by unfold gg;rw[if_pos hd]]at ok;exact L6 hT hd hf (fun a2 f2=>UU hT (by omega) hp (by decide) f2 (fun a3 w3 f3 h3=>ok a3 w3 f3.toO h3))
 |false=>
  have fh:¬r.del=true:=by rw[hd];decide
  rcases (show r.kind=1\/r.kind=2\/r.kind=3\/r.kind=4 by omega) with hk|hk|hk|hk
  ·by_cases hne:r.endps=[]
   ·rw[show gg wtF r= .nil by unfold gg;rw[if_neg fh,if_pos hk,if_pos hne],lO]at ok;exact UP hT hd hk hne hf (fun a2 f2=>ok a2 w f2.toO hT)
   ·rw[show gg wtF r= .br 3 bd (bQ r.endps) .nil by unfold gg;rw[if_neg fh,if_pos hk,if_neg hne]]at ok;exact UQ hT hd hk hne hf (fun a2 f2=>YA hT hz hp hl f2 ok)
  ·rw[show gg wtF r= .br 3 cD (dI wtF r.targets) .nil by unfold gg;rw[if_neg fh,if_neg (by omega),if_pos hk]]at ok;exact UT hT hd hk hf (fun a2 f2=>Yv hT hz hp hl f2 ok)
  ·rw[show gg wtF r=an gL r.host (.br 3 bZ (b7 false r.rules) .nil) by unfold gg;rw[if_neg fh,if_neg (by omega),if_neg (by omega),if_pos hk]]at ok;exact US hT hd hk hf (fun a2 f2=>UG hT hz hk hp hl f2 ok)
  ·rw[show gg wtF r=an eK r.route (.br 3 bZ (b7 true r.rules) .nil) by unfold gg;rw[if_neg fh,if_neg (by omega),if_neg (by omega),if_neg (by omega)]]at ok;exact UR hT hd hk hf (fun a2 f2=>UF hT hz hk hp hl f2 ok)
end
