/-
Parts of a proof.
-/
import Derived.Test.YtfenoaeoedobmaaGreatDoorOn46
set_option linter.unusedVariables false
set_option linter.unusedSimpArgs false
set_option maxHeartbeats 4000000
set_option maxRecDepth 20000
namespace Go.Proofs.YtfenoaeoedobmaaGreatDoor
open Go Go.RowKit
def DU (w:World) (r:Res) (x:Ending) (w':World):Prop:=
 ∃v ms,x= .returned v/\DocP w' w.heap.size ⟨v,ms⟩/\nds ms=dC wtF r/\Below w.heap.size w w'
theorem Mb {w w1 w':World} {r:Res} {ev tv rv:Value} {bb wb:Nat} {F:Fo} (hb:Below w.heap.size w w1) (h:TrS w1 w' r ev tv rv bb wb none F.doc):
 ∃nv,w'.cell? ⟨wb,0,none⟩=some nv/\∃ms,DocP w' w.heap.size ⟨nv,ms⟩/\nds ms=F.doc/\Below w.heap.size w w'/\w'.heap[wb]? =some (.cells #[nv] 127 (0,0))/\∃ao n c,nv= .slice ao n c:=by
 obtain ⟨nv,ms,hw,e,_⟩:=h.wr;obtain ⟨ao,c,hv⟩:=hw.nr.form;exact ⟨nv,aa hw.blk 0,ms,⟨hw.nr.row,fun g hg=>aBl hb.size (hw.nr.new g hg).1,fun m hm=>NdE.down (x:=m) (hw.nr.each m hm) hb.size,hw.nr.len⟩,e,hb.trans (hw.below.mono hb.size),hw.blk,ao,_,c,hv⟩
section
variable {w1 w:World} {Q:Exit->Act->World->Prop} {a:Act} {r:Res} {ev tv rv lw:Value} {ns:List Nd} {bb wb k0:Nat}
theorem tw_b (X:Code) (hT:TrS w1 w r ev tv rv bb wb none []) (hf:TwO a bb wb)
 (ok:∀a' w',TwP a' bb wb 0->TrS w1 w' r ev tv rv bb wb none [⟨2,⟨#[]⟩,⟨#[]⟩,false,0,[]⟩]->X.wp Tryz.prog Q a' w'):(Code.seq twB X).wp Tryz.prog Q a w:=by
 obtain ⟨nv,ms,hw,e,ht⟩:=hT.wr;have mP:ms=[]:=by cases ms with|nil=>rfl|cons x l=>cases e
 subst mP;have hC:=Gu hw none (fun i hi=>by cases hi) 2 (by decide) ⟨#[]⟩ (by decide) (by decide);have HC:Hid (Calls Tryz.prog 70 #[.pointer (some ⟨wb,0,none⟩),.int .i64 (-1),.int .i64 2,.string ⟨#[]⟩] w
  fun x w'=>x= .returned (.int .i64 ((0:Nat):Int))/\TrS w1 w' r ev tv rv bb wb none [⟨2,⟨#[]⟩,⟨#[]⟩,false,0,[]⟩]):=hid (by
  refine hC.mono ?_;rintro x w' ⟨hx,hp⟩;exact ⟨hx,hT.put (fun y hy=>by rw[List.mem_singleton.1 hy];exact Nat.zero_le _) (fun tb ob q=>by cases q) hp⟩)
 have bh:=hid ok;obtain ⟨vv,rfl,eE⟩:=hf.shape;simp only[cJ,eE];clear eE;clear hf ok hT hC hw e ht;dsimp only[twB,ncl,ncr,ncx,Tryz.f29]
 go_wp2_with fail
 refine HC.o.mono ?_;rintro x w2 ⟨rfl,h2⟩;have H2:=hid h2;clear h2 HC;go_wp2;exact bh.o _ _ ⟨rfl,rfl,rfl,rfl,rfl⟩ H2.o
theorem tw_z {w0:World} {F:Fo} (hb:Below w0.heap.size w0 w1) (hT:TrS w1 w r ev tv rv bb wb none F.doc) (hF:F.doc=dC wtF r) (hf:TwO a bb wb):
 twZ.wp Tryz.prog (bodyPost Tryz.prog Tryz.f29 (DU w0 r)) a w:=by
 obtain ⟨nv,z0,ms,hD,he,jL,bg,ao,n,c,rfl⟩:=Mb hb hT;have HE:=hid (show DU w0 r (.returned (.slice ao n c)) w from ⟨_,ms,rfl,hD,he.trans hF,jL⟩);obtain ⟨vv,rfl,eE⟩:=hf.shape;simp only[cJ,eE];clear eE;clear hf hT hD he hb jL hF;dsimp only[twZ,aE,ncr,ncx,Tryz.f29];go_wp2;refine bodyPost_ret (results_tmp (t:=2) rfl _ _ _) rfl HE.o
end
noncomputable def L9:Code:=(ncr (ncr (ncr (ncx Tryz.f29.body))))
theorem QL (w:World) (r:Res) (ev tv rv:Value) (hz:ResZ r) (hL:ResL w r ev tv rv) (hg:GlobT w):
 Calls Tryz.prog 29 #[.agg (bV r ev tv rv)] w (DU w r):=by
 by_cases hk:1<=r.kind/\r.kind<=4
 ·obtain ⟨h1,h4⟩:=hk;have hn:=hz.n;have HK:Hid (∀a,TwO a w.heap.size (w.heap.size+1)->L9.wp Tryz.prog (bodyPost Tryz.prog Tryz.f29 (DU w r)) a ((w.alloc (.cells (bV r ev tv rv) 49)).alloc (.cells #[.slice none 0 0] 127))):=hid (by
   intro a hf;have bG:Below w.heap.size w (w.alloc (.cells (bV r ev tv rv) 49)):=(aBi _ _).alloc (aBh _) _;have AM:(w.alloc (.cells (bV r ev tv rv) 49)).heap.size=w.heap.size+1:=by simp
   have hT:TrS (w.alloc (.cells (bV r ev tv rv) 49)) ((w.alloc (.cells (bV r ev tv rv) 49)).alloc (.cells #[.slice none 0 0] 127)) r ev tv rv w.heap.size (w.heap.size+1) none []:=by
    refine ⟨by rw[AM];omega,ag _,⟨hL.e.later bG,hL.t.later bG,hL.r.later bG⟩,hg.later bG,nofun,.slice none 0 0,[],⟨(aBi _ _).alloc (aBh _) _,by rw[AM];exact aBh _,?_,NRowM.first _ _ _⟩,rfl,nofun⟩;have h:=ag (w:=w.alloc (.cells (bV r ev tv rv) 49)) (.cells #[.slice none 0 0] 127)
    rwa [AM]at h
   generalize (w.alloc (.cells (bV r ev tv rv) 49)).alloc (.cells #[.slice none 0 0] 127)=w2 at*
   show (Code.seq twB (Code.seq twC (Code.seq twD (Code.seq (Code.block 0 (Code.seq qd (Code.cond (.tmp 40) m7 BR))) twZ)))).wp Tryz.prog _ a w2
   refine tw_b _ hT hf (fun a2 w3 f2 h2=> ?_);refine tw_c _ h2 (by decide) (by decide) h1 h4 f2 (fun a3 w4 f3 h3=> ?_);rw[mo]at h3;have e1:(an kKind (oT r.kind) .nil).doc.length=2:=by rw[<-mo,bz];unfold an;rw[Fo.size_sc,Fo.size_nil];rfl
   refine tw_d _ h3 (by omega) (by omega) hz.name f3 (fun a4 w5 f4 h4'=> ?_);rw[<-mo,dn (by decide)]at h4';refine wp_seq (wp_block (UW h4' hz h1 h4 (by rw[bz];exact Nat.lt_of_lt_of_le (by decide) (Nat.le_add_right _ _)) (by rw[bz,Fo.app_size];unfold an;rw[Fo.size_sc,Fo.size_sc,Fo.size_nil];decide) f4 (fun a5 w6 f5 h5=> ?_)));rw[dn (by decide),mo]at h5
   refine tw_z bG h5 ?_ f5;unfold dC;rw[if_neg (by omega)];rfl)
  have t1:decide (r.kind<1)=false:=dF (by omega);have t2:decide (4<r.kind)=false:=dF (by omega);clear hz hL hg h1 h4 hn;unfold bV at HK |-;generalize r.kind=kd at*;go_enter Tryz.func29,Tryz.ntmps29;change (Code.seq (ncl (ncx Tryz.f29.body)) (Code.seq (ncl (ncr (ncx Tryz.f29.body))) (Code.seq twA L9))).wp _ _ _ _
  dsimp only[twA,ncl,ncr,ncx,Tryz.f29];go_wp2;exact HK.o _ ⟨rfl,rfl,rfl,rfl⟩
 ·have ht:dC wtF r=[]:=by unfold dC;rw[if_pos (by omega)]
  have HE:=hid (show ∀w',Below w.heap.size w w'->DU w r (.returned (.slice none 0 0)) w' from fun w' hb=>⟨_,[],rfl,⟨World.ownsRow_nil _ _ _ _,nofun,nofun,Nat.zero_le _⟩,ht.symm,hb⟩);have fD:=hid (fun o=>(aBi w.heap.size w).alloc (aBh _) o);have Hk:=hid hk;clear hz hL hg hk ht;unfold bV;generalize r.kind=kd at*;by_cases h1:kd<1
  ·have t1:decide (kd<1)=true:=dT h1;clear h1;go_enter Tryz.func29,Tryz.ntmps29;go_wp2;refine bodyPost_ret (results_tmp (t:=2) rfl _ _ _) rfl (HE.o _ (fD.o _))
  ·have t1:decide (kd<1)=false:=dF h1;have t2:decide (4<kd)=true:=dT (by have:=Hk.o;omega);clear h1;go_enter Tryz.func29,Tryz.ntmps29;go_wp2;refine bodyPost_ret (results_tmp (t:=2) rfl _ _ _) rfl (HE.o _ (fD.o _))
theorem Ep {α:Type} {w:World} {v v':Value} {sz:Nat} {xs:List α} {cells:α->List Value} (h:SlR w v sz xs cells) (h':SlR w v' sz xs cells):∃n ao cap fj mn,n=xs.length/\v= .slice ao n cap/\v'= .slice fj n mn/\n<=1048576/\
 (∀i,i<n->∃x b o b' o',xs[i]? =some x/\ao=some ⟨b,o,none⟩/\fj=some ⟨b',o',none⟩/\b<w.heap.size/\b'<w.heap.size/\(∀j u,(cells x)[j]? =some u->w.cell? ⟨b,o+i*sz+j,none⟩=some u)/\(∀j u,(cells x)[j]? =some u->w.cell? ⟨b',o'+i*sz+j,none⟩=some u)):=by
 obtain ⟨ao,cap,hv,hl,bN⟩:=h;obtain ⟨fj,mn,Oj,_,oP⟩:=h';refine ⟨_,ao,cap,fj,mn,rfl,hv,Oj,hl,fun i hi=> ?_⟩;obtain ⟨b,o,ha,hb,hc⟩:=bN (by omega);obtain ⟨b',o',Uc,QD,FO⟩:=oP (by omega);obtain ⟨x,hx⟩:=aF hi;exact ⟨x,b,o,b',o',hx,ha,Uc,hb,QD,hc i x hx,FO i x hx⟩
theorem blk2 {w w2:World} {a1 a2:Array Value} {T:TypeId} (hb:Below (w.heap.size+2) ((w.alloc (.cells a1 T)).alloc (.cells a2 T)) w2):w2.heap[w.heap.size]? =some (.cells a1 T (0,0))/\w2.heap[w.heap.size+1]? =some (.cells a2 T (0,0)):=by
 have h1:((w.alloc (.cells a1 T)).alloc (.cells a2 T)).heap[w.heap.size]? =some (.cells a1 T (0,0)):=(ai _ (by simp)).trans (ag _);have h2:((w.alloc (.cells a1 T)).alloc (.cells a2 T)).heap[w.heap.size+1]? =some (.cells a2 T (0,0)):=by
  have:=ag (w:=w.alloc (.cells a1 T)) (.cells a2 T)
  simpa using this
 exact ⟨(hb.block _ (by omega)).trans h1,(hb.block _ (by omega)).trans h2⟩
theorem od (w:World) (o1 o2:Obj):Below w.heap.size w ((w.alloc o1).alloc o2):=((aBi _ _).alloc (aBh _) o1).alloc (by simp) o2
theorem V7 (w:World) (r:Res) (ev tv rv D9 D6 D7:Value) (T:TypeId) (hT:T= 49)
 (he:∃a n c,ev= .slice a n c) (ht:∃a n c,tv= .slice a n c) (hr:∃a n c,rv= .slice a n c) (he':∃a n c,D9= .slice a n c) (Zr:∃a n c,D6= .slice a n c) (Qv:∃a n c,D7= .slice a n c):
 Calls Tryz.prog 28 #[.agg (bV r ev tv rv),.agg (bV r D9 D6 D7)] w fun e w'=>e= .returned (.bool true)/\Below w.heap.size w w':=by
 obtain ⟨a1,n1,c1,rfl⟩:=he;obtain ⟨a2,n2,c2,rfl⟩:=ht;obtain ⟨a3,n3,c3,rfl⟩:=hr;obtain ⟨a4,n4,c4,rfl⟩:=he';obtain ⟨a5,n5,c5,rfl⟩:=Zr;obtain ⟨a6,n6,c6,rfl⟩:=Qv;unfold bV;go_enter Tryz.func28,Tryz.ntmps28;go_wp2;go_ret;exact ⟨rfl,od _ _ _⟩
theorem bO {α:Type} {w:World} {v:Value} {sz:Nat} {xs:List α} {cells:α->List Value} (h:SlR w v sz xs cells):∃a n c,v= .slice a n c:=by
 obtain ⟨a,c,e,_⟩:=h;exact ⟨a,_,c,e⟩
theorem _root_.Go.RowKit.Below.keeps {w w':World} {p:Addr} {v:Value} (h:Below w.heap.size w w') (hp:w.cell? p=some v):w'.cell? p=some v:=(h.cell (World.block_lt_of_cell? _ _ hp)).trans hp
theorem Pz (t:Rul) (w:World):(Op.equalIn 10000 60 (.agg #[.string t.path,.string t.method,.string t.split,.bool t.allow]) (.agg #[.string t.path,.string t.method,.string t.split,.bool t.allow])).run Tryz.prog w= .ok true w:=by
 rw[run_equalIn_agg w 9999 _ _ _ (by kernel_rfl) (by kernel_rfl)];have e: Tryz.prog.fieldsOf 60 =(match Tryz.prog.underlying 60 with|some (.struct fs)=>fs|_=>#[]):=rfl;rw[Tryz.underlying60]at e;rw[e];simp[Op.eqFields,part,Tryz.isAgg4,Tryz.isAgg9,run_equalIn_bool' w 9998 _ _ _ Tryz.underlying4,run_equalIn_string w 9998 _ _ _ Tryz.underlying9]
theorem RQ (t:Rul) (w:World):(binOp .neq 60 (.agg #[.string t.path,.string t.method,.string t.split,.bool t.allow]) (.agg #[.string t.path,.string t.method,.string t.split,.bool t.allow])).run Tryz.prog w= .ok (.bool false) w:=by
 rw[run_neq_struct,Pz];rfl
theorem ur {B:Nat} {a w:World} (h:Below B a w) (n:Nat):Below B a (w.drewN n):=⟨h.os,h.tape,h.output,h.size,h.block⟩
theorem Rt (w:World) (r:Res) (ev tv rv D9 D6 D7:Value) (h:ResL w r ev tv rv) (h':ResL w r D9 D6 D7):
 Calls Tryz.prog 17 #[.agg (bV r ev tv rv),.agg (bV r D9 D6 D7)] w fun e w'=>e= .returned (.bool true)/\Below w.heap.size w w':=by
 obtain ⟨W,hW⟩:=ex ((w.alloc (.cells (bV r ev tv rv) 49)).alloc (.cells (bV r D9 D6 D7) 49));have mU:Below w.heap.size w W:=by rw[hW];exact od _ _ _
 have bg:∀w2,Below (w.heap.size+2) W w2->w2.heap[w.heap.size]? =some (.cells (bV r ev tv rv) 49 (0,0))/\w2.heap[w.heap.size+1]? =some (.cells (bV r D9 D6 D7) 49 (0,0)):=fun w2 hb=>by rw[hW]at hb;exact blk2 hb
 have yq:=hid (V7 W r ev tv rv D9 D6 D7 _ rfl (bO h.e) (bO h.t) (bO h.r) (bO h'.e) (bO h'.t) (bO h'.r));obtain ⟨ne,ea,ec,ea',ec',hne,rfl,rfl,hle,he⟩:=Ep (h.e.later mU) (h'.e.later mU);obtain ⟨nt,ta,tc,ta',tc',hnt,rfl,rfl,aN,ht⟩:=Ep (h.t.later mU) (h'.t.later mU);obtain ⟨nr,ra,rc,ra',rc',FF,rfl,rfl,hlr,hr⟩:=Ep (h.r.later mU) (h'.r.later mU)
 have gQ:W.heap.size=w.heap.size+2:=by rw[hW];simp
 obtain ⟨b,hb⟩:=ex (w.heap.size);unfold bV at bg hW yq |-;have jF:=hid bg;have HbW:=hid mU;have He:=hid (And.intro hle he);have Ht:=hid (And.intro aN ht);have Hr:=hid (And.intro hlr hr);have Qg:=hid gQ;clear h h' bg mU hle he aN ht hlr hr hne hnt FF gQ;go_enter Tryz.func17,Tryz.ntmps17
 go_wp2_with fail
 rw[<-hW,<-hb];clear hW;refine yq.o.mono ?_;rintro x w1 ⟨rfl,bG⟩;have kQ:=hid (bG.mono (Nat.le_of_eq Qg.o.symm));obtain ⟨f1,f2⟩:=jF.o w1 kQ.o;rw[<-hb]at f1 f2;obtain ⟨y0,y1,y2,y3,y4,y5,y6,y7⟩:=cB8 f1;obtain ⟨z0,z1,z2,z3,z4,z5,z6,z7⟩:=cB8 f2;simp at y0 y1 y2 y3 y4 y5 y6 y7 z0 z1 z2 z3 z4 z5 z6 z7;have HB:=hid hb;clear f1 f2 bG yq hb;go_wp2;clear y0 y1 y2 y3 y4 y5 y6 y7 z0 z1 z2 z3 z4 z5 z6 z7
 go_loopw [5] (fun vi wr=>∃j:Nat,vi= .int .i64 (j:Int)/\Hid (j<=ne/\Below (w.heap.size+2) W wr)) (fun vi _=>ne-(intOf vi).toNat)
 case atStart=>exact ⟨0,rfl,hid ⟨Nat.zero_le _,kQ.o⟩⟩
 case round=>
  clear kQ;obtain ⟨j,rfl,H⟩:=hrel;obtain ⟨f1,f2⟩:=jF.o wr H.o.2;rw[<-HB.o]at f1 f2;by_cases hj:j<ne
  ·have tj:decide (j<ne)=true:=dT hj;have bj:(j:Int)<(ne:Int):=by omega
   have y2:=aa f1 2;have z2:=aa f2 2;simp at y2 z2;obtain ⟨s,b1,o1,b2,o2,hs,rfl,rfl,l1,l2,q1,q2⟩:=He.o.2 j hj;have q3:=(H.o.2.cell (p:=⟨b1,_,none⟩) (by rw[<-Qg.o];exact l1)).trans (q1 0 _ rfl);have q4:=(H.o.2.cell (p:=⟨b2,_,none⟩) (by rw[<-Qg.o];exact l2)).trans (q2 0 _ rfl);simp only[Nat.mul_one,Nat.add_zero]at q3 q4;have HH:=hid (fun k=>show j+1<=ne/\Below (w.heap.size+2) W (wr.drewN k) from ⟨hj,ur H.o.2 k⟩)
   obtain ⟨cY,df⟩:=bL (k:=j) (n:=ne) hj (by have:=He.o.1;omega);clear f1 f2 q1 q2 hs H hj l1 l2;go_wp2;go_quiet (fail);go_wp2;go_roundw
   case rel=>exact ⟨j+1,df.o,hid (HH.o _)⟩
   case measure=>exact cY.o
  ·have tj:decide (j<ne)=false:=dF hj;have y2:=aa f1 2;simp at y2;have kQ:=hid H.o.2;clear f1 f2 H hj;go_wp2;clear y2
   go_loopw [6,7,8] (fun vi v7 v8 wr=>∃j:Nat,vi= .int .i64 (j:Int)/\Hid (j<=nt/\Below (w.heap.size+2) W wr)) (fun vi _ _ _=>nt-(intOf vi).toNat)
   case atStart=>exact ⟨0,rfl,hid ⟨Nat.zero_le _,kQ.o⟩⟩
   case round=>
    clear kQ;obtain ⟨j,rfl,H⟩:=hrel;obtain ⟨f1,f2⟩:=jF.o wr H.o.2;rw[<-HB.o]at f1 f2;by_cases hj:j<nt
    ·have tj:decide (j<nt)=true:=dT hj;have bj:(j:Int)<(nt:Int):=by omega
     have y3:=aa f1 3;have z3:=aa f2 3;simp at y3 z3;obtain ⟨s,b1,o1,b2,o2,hs,rfl,rfl,l1,l2,q1,q2⟩:=Ht.o.2 j hj;have e1:=fun k=>(H.o.2.cell (p:=⟨b1,o1+j*3+k,none⟩) (by rw[<-Qg.o];exact l1));have e2:=fun k=>(H.o.2.cell (p:=⟨b2,o2+j*3+k,none⟩) (by rw[<-Qg.o];exact l2));have c0:=(e1 0).trans (q1 0 _ rfl);have c1:=(e1 1).trans (q1 1 _ rfl);have c2:=(e1 2).trans (q1 2 _ rfl);have d0:=(e2 0).trans (q2 0 _ rfl)
     have d1:=(e2 1).trans (q2 1 _ rfl);have d2:=(e2 2).trans (q2 2 _ rfl);simp only[Nat.add_zero]at c0 d0;obtain ⟨cY,df⟩:=bL (k:=j) (n:=nt) hj (by have:=Ht.o.1;omega);have hsf:∀(W:World) (a:Addr) (r:Nat),(store a (.float .f64 r)).run Tryz.prog W=stored Tryz.prog W a (.float .f64 r) .plain:=fun W a r=>run_store _ W a _ _ rfl;have HE:=hid (fun o1' o2'=>show j+1<=nt/\Below (w.heap.size+2) W ((wr.alloc o1').alloc o2').drew from ⟨hj,(H.o.2.trans ((od wr o1' o2').mono (aBl (Nat.le_of_eq Qg.o.symm) H.o.2.size))).drew⟩)
     have gJ:(FloatKind.f64.format.order s.weight s.weight != some .eq)= !(FloatKind.f64.format.order s.weight s.weight==some .eq):=rfl;cases mG:(FloatKind.f64.format.order s.weight s.weight==some .eq)
     all_goals rw[mG]at gJ
     all_goals simp only[Bool.not_true,Bool.not_false]at gJ
     clear f1 f2 q1 q2 hs l1 l2 e1 e2 H hj
     all_goals
      have HS:=hid (fun w' (hw:Below wr.heap.size wr w')=>show w'.cell? ⟨b,3,none⟩=some (.slice (some ⟨b1,o1,none⟩) nt tc)/\w'.cell? ⟨b+1,3,none⟩=some (.slice (some ⟨b2,o2,none⟩) nt tc')/\w'.cell? ⟨b1,o1+j*3,none⟩=some (.string s.service)/\w'.cell? ⟨b1,o1+j*3+1,none⟩=some (.string s.split)/\w'.cell? ⟨b1,o1+j*3+2,none⟩=some (.float .f64 s.weight)/\w'.cell? ⟨b2,o2+j*3,none⟩=some (.string s.service)/\w'.cell? ⟨b2,o2+j*3+1,none⟩=some (.string s.split)/\w'.cell? ⟨b2,o2+j*3+2,none⟩=some (.float .f64 s.weight) from
       ⟨hw.keeps y3,hw.keeps z3,hw.keeps c0,hw.keeps c1,hw.keeps c2,hw.keeps d0,hw.keeps d1,hw.keeps d2⟩)
      go_wp2
      go_region_held3 (fun w'=>w'.cell? ⟨b,3,none⟩=some (.slice (some ⟨b1,o1,none⟩) nt tc)/\w'.cell? ⟨b+1,3,none⟩=some (.slice (some ⟨b2,o2,none⟩) nt tc')/\w'.cell? ⟨b1,o1+j*3,none⟩=some (.string s.service)/\w'.cell? ⟨b1,o1+j*3+1,none⟩=some (.string s.split)/\w'.cell? ⟨b1,o1+j*3+2,none⟩=some (.float .f64 s.weight)/\w'.cell? ⟨b2,o2+j*3,none⟩=some (.string s.service)/\w'.cell? ⟨b2,o2+j*3+1,none⟩=some (.string s.split)/\w'.cell? ⟨b2,o2+j*3+2,none⟩=some (.float .f64 s.weight)) (first|exact ⟨y3,z3,c0,c1,c2,d0,d1,d2⟩|(refine HS.o _ ?_;repeat' (first|exact aBi _ _|exact aBh _|refine Below.drew ?_|refine Below.alloc ?_ ?_ _|refine Below.setCell ?_ ?_ _|(simp;done)))) (fail)
     all_goals go_wp2
     all_goals go_roundw
     all_goals first|exact ⟨j+1,df.o,hid (HE.o _ _)⟩|exact cY.o
    ·have tj:decide (j<nt)=false:=dF hj;have y3:=aa f1 3;simp at y3;have kQ:=hid H.o.2;clear f1 f2 H hj;go_wp2;clear y3
     go_loopw [9] (fun vi wr=>∃j:Nat,vi= .int .i64 (j:Int)/\Hid (j<=nr/\Below (w.heap.size+2) W wr)) (fun vi _=>nr-(intOf vi).toNat)
     case atStart=>exact ⟨0,rfl,hid ⟨Nat.zero_le _,kQ.o⟩⟩
     case round=>
      clear kQ;obtain ⟨j,rfl,H⟩:=hrel;obtain ⟨f1,f2⟩:=jF.o wr H.o.2;rw[<-HB.o]at f1 f2;by_cases hj:j<nr
      ·have tj:decide (j<nr)=true:=dT hj;have bj:(j:Int)<(nr:Int):=by omega
       have y5:=aa f1 5;have z5:=aa f2 5;simp at y5 z5;obtain ⟨s,b1,o1,b2,o2,hs,rfl,rfl,l1,l2,q1,q2⟩:=Hr.o.2 j hj;have e1:=fun k=>(H.o.2.cell (p:=⟨b1,o1+j*4+k,none⟩) (by rw[<-Qg.o];exact l1));have e2:=fun k=>(H.o.2.cell (p:=⟨b2,o2+j*4+k,none⟩) (by rw[<-Qg.o];exact l2));have c0:=(e1 0).trans (q1 0 _ rfl);have c1:=(e1 1).trans (q1 1 _ rfl);have c2:=(e1 2).trans (q1 2 _ rfl);have c3:=(e1 3).trans (q1 3 _ rfl)
       have d0:=(e2 0).trans (q2 0 _ rfl);have d1:=(e2 1).trans (q2 1 _ rfl);have d2:=(e2 2).trans (q2 2 _ rfl);have d3:=(e2 3).trans (q2 3 _ rfl);simp only[Nat.add_zero]at c0 d0;have k1:=fun w=>RQ s w;have HH:=hid (fun k=>show j+1<=nr/\Below (w.heap.size+2) W (wr.drewN k) from ⟨hj,ur H.o.2 k⟩);obtain ⟨cY,df⟩:=bL (k:=j) (n:=nr) hj (by have:=Hr.o.1;omega);clear f1 f2 q1 q2 hs H hj l1 l2 e1 e2
       go_wp2;go_quiet (fail);go_wp2;go_roundw
       case rel=>exact ⟨j+1,df.o,hid (HH.o _)⟩
       case measure=>exact cY.o
      ·have tj:decide (j<nr)=false:=dF hj;have y5:=aa f1 5;simp at y5;have HE:=hid (HbW.o.trans (H.o.2.mono (show w.heap.size<=w.heap.size+2 by omega)));clear f1 f2 H hj;go_wp2;go_ret;exact ⟨rfl,HE.o⟩
def eqW (x y:Nat):Bool:=FloatKind.f64.format.order x y==some .eq
def oJ (a b:Tgt):Bool:=(a.service.toList==b.service.toList)&&(a.split.toList==b.split.toList)&&eqW a.weight b.weight
def pr (a b:Rul):Bool:=(a.path.toList==b.path.toList)&&(a.method.toList==b.method.toList)&&(a.split.toList==b.split.toList)&&(a.allow==b.allow)
def jj {α:Type} (f:α->α->Bool):List α->List α->Bool
 |[],[]=>true
 |a::l,b::m=>f a b&&jj f l m
 |_,_=>false
theorem xJ {α:Type} {f:α->α->Bool}:∀{l m:List α},l.length≠m.length->jj f l m=false
 |[],[],h=>absurd rfl h
 |[],_::_,_=>rfl
 |_::_,[],_=>rfl
 |a::l,b::m,h=>by
  unfold jj;rw[xJ (l:=l) (m:=m) (by simpa using h),Bool.and_false]
theorem Bq {α:Type} {f:α->α->Bool}:∀{l m:List α} {j:Nat} {a b:α},l[j]? =some a->m[j]? =some b->f a b=false->jj f l m=false
 |[],_,j,_,_,h,_,_=>by simp at h
 |_::_,[],j,_,_,_,h,_=>by simp at h
 |x::l,y::m,0,a,b,h1,h2,h=>by
  simp at h1 h2;subst h1;subst h2;unfold jj;rw[h,Bool.false_and]
 |x::l,y::m,j+1,a,b,h1,h2,h=>by
  unfold jj;rw[Bq (l:=l) (m:=m) (j:=j) (by simpa using h1) (by simpa using h2) h,Bool.and_false]
theorem rB {α:Type} {f:α->α->Bool}:∀{l m:List α},l.length=m.length->(∀(j:Nat) (a b:α),l[j]? =some a->m[j]? =some b->f a b=true)->jj f l m=true
 |[],[],_,_=>rfl
 |[],_::_,h,_=>by simp at h
 |_::_,[],h,_=>by simp at h
 |x::l,y::m,h,H=>by
  unfold jj;rw[H 0 x y rfl rfl,rB (l:=l) (m:=m) (by simpa using h) (fun j a b h1 h2=>H (j+1) a b (by simpa using h1) (by simpa using h2)),Bool.true_and]
theorem qk {P:Program} (w:World) (d:Nat) (t:TypeId) (a b:Nat) (h:P.underlying t=some (.float .f64)):(Op.equalIn (d+1) t (.float .f64 a) (.float .f64 b)).run P w= .ok (eqW a b) w:=by
 simp[Op.equalIn,run_underlying h,Op.floatEq,eqW]
theorem K2 (s t:Tgt) (w:World):(Op.equalIn 10000 58 (.agg #[.string s.service,.string s.split,.float .f64 s.weight]) (.agg #[.string t.service,.string t.split,.float .f64 t.weight])).run Tryz.prog w= .ok (oJ s t) w:=by
 rw[run_equalIn_agg w 9999 _ _ _ (by kernel_rfl) (by kernel_rfl)];have e: Tryz.prog.fieldsOf 58 =(match Tryz.prog.underlying 58 with|some (.struct fs)=>fs|_=>#[]):=rfl;rw[Tryz.underlying58]at e;rw[e];unfold oJ;cases h1:(s.service.toList==t.service.toList)<;>cases h2:(s.split.toList==t.split.toList)<;>cases h3:eqW s.weight t.weight<;>
  simp[Op.eqFields,part,Tryz.isAgg56,Tryz.isAgg9,qk w 9998 _ _ _ Tryz.underlying56,run_equalIn_string w 9998 _ _ _ Tryz.underlying9,h1,h2,h3]
theorem Nz (s t:Tgt) (w:World):(binOp .neq 58 (.agg #[.string s.service,.string s.split,.float .f64 s.weight]) (.agg #[.string t.service,.string t.split,.float .f64 t.weight])).run Tryz.prog w= .ok (.bool (!(oJ s t))) w:=by
 rw[run_neq_struct,K2];rfl
theorem K3 (s t:Rul) (w:World):(Op.equalIn 10000 60 (.agg #[.string s.path,.string s.method,.string s.split,.bool s.allow]) (.agg #[.string t.path,.string t.method,.string t.split,.bool t.allow])).run Tryz.prog w= .ok (pr s t) w:=by
 rw[run_equalIn_agg w 9999 _ _ _ (by kernel_rfl) (by kernel_rfl)];have e: Tryz.prog.fieldsOf 60 =(match Tryz.prog.underlying 60 with|some (.struct fs)=>fs|_=>#[]):=rfl;rw[Tryz.underlying60]at e;rw[e];unfold pr;cases h1:(s.path.toList==t.path.toList)<;>cases h2:(s.method.toList==t.method.toList)<;>cases h3:(s.split.toList==t.split.toList)<;>cases h4:(s.allow==t.allow)<;>
  simp[Op.eqFields,part,Tryz.isAgg4,Tryz.isAgg9,run_equalIn_bool' w 9998 _ _ _ Tryz.underlying4,run_equalIn_string w 9998 _ _ _ Tryz.underlying9,h1,h2,h3,h4]
theorem NA (s t:Rul) (w:World):(binOp .neq 60 (.agg #[.string s.path,.string s.method,.string s.split,.bool s.allow]) (.agg #[.string t.path,.string t.method,.string t.split,.bool t.allow])).run Tryz.prog w= .ok (.bool (!(pr s t))) w:=by
 rw[run_neq_struct,K3];rfl
theorem YL (w:World) (v v':Value) (l l':List Tgt) (h:SlR w v 3 l cn) (h':SlR w v' 3 l' cn):
 Calls Tryz.prog 74 #[v,v'] w fun x w'=>x= .returned (.bool (jj oJ l l'))/\∃k,w'=w.drewN k:=by
 obtain ⟨ao,cap,hv,hl,bN⟩:=h;obtain ⟨fj,mn,Oj,Qz,oP⟩:=h';obtain ⟨n,hn⟩:=ex (l.length);obtain ⟨n',OD⟩:=ex (l'.length);rw[<-hn]at hv hl bN;rw[<-OD]at Oj Qz oP;subst hv;subst Oj;by_cases ll:n=n'
 ·subst ll;have oQ:=hid (And.intro bN oP);have Hn:=hid (And.intro hn OD);have Hl:=hid hl;have hN:=fun s t w=>Nz s t w;clear bN oP hn OD hl Qz;go_enter Tryz.func74,Tryz.ntmps74;go_wp2
  go_loopw [5,13] (fun v5 vi wr=>∃j:Nat,vi= .int .i64 (j:Int)/\Hid (j<=n/\(∃k,wr=w.drewN k)/\∀(i:Nat) (a b:Tgt),i<j->l[i]? =some a->l'[i]? =some b->oJ a b=true)) (fun _ vi _=>n-(intOf vi).toNat)
  case atStart=>exact ⟨0,rfl,hid ⟨Nat.zero_le _,⟨0,rfl⟩,fun i a b hi=>absurd hi (Nat.not_lt_zero _)⟩⟩
  case round=>
   obtain ⟨j,rfl,H⟩:=hrel;obtain ⟨QA,⟨kw,rfl⟩,hall⟩:=H.o;by_cases hj:j<n
   ·have tj:decide (j<n)=true:=dT hj;have bj:(j:Int)<(n:Int):=by omega
    obtain ⟨s,hs⟩:∃s,l[j]? =some s:=aF (by rw[<-Hn.o.1];exact hj);obtain ⟨t,ht⟩:∃t,l'[j]? =some t:=aF (by rw[<-Hn.o.2];exact hj);obtain ⟨b1,o1,rfl,l1,q1⟩:=oQ.o.1 (by omega);obtain ⟨b2,o2,rfl,l2,q2⟩:=oQ.o.2 (by omega);have q1:=q1 j s hs;have q2:=q2 j t ht;have c0:(w.drewN kw).cell? ⟨b1,o1+j*3,none⟩=_:=q1 0 _ rfl;have d0:(w.drewN kw).cell? ⟨b2,o2+j*3,none⟩=_:=q2 0 _ rfl;have c1:(w.drewN kw).cell? ⟨b1,o1+j*3+1,none⟩=_:=q1 1 _ rfl
    have d1:(w.drewN kw).cell? ⟨b2,o2+j*3+1,none⟩=_:=q2 1 _ rfl;have c2:(w.drewN kw).cell? ⟨b1,o1+j*3+2,none⟩=_:=q1 2 _ rfl;have d2:(w.drewN kw).cell? ⟨b2,o2+j*3+2,none⟩=_:=q2 2 _ rfl;have SH:=fun W=>hN s t W;obtain ⟨cY,df⟩:=bL (k:=j) (n:=n) hj (by have:=Hl.o;omega);cases hb:oJ s t with
    |true=>
     rw[hb]at SH;simp only[Bool.not_true]at SH;have HH:=hid (fun k=>show j+1<=n/\(∃k',(w.drewN kw).drewN k=w.drewN k')/\∀(i:Nat) (a b:Tgt),i<j+1->l[i]? =some a->l'[i]? =some b->oJ a b=true from
      ⟨hj,⟨kw+k,dG _ _ _⟩,fun i a b hi h1 h2=>by
       rcases Nat.lt_succ_iff_lt_or_eq.1 hi with q|rfl
       ·exact hall i a b q h1 h2
       ·rw[hs]at h1;rw[ht]at h2;obtain rfl:=aBm h1;obtain rfl:=aBm h2;exact hb⟩)
     clear hN hall H q1 q2 hs ht hj QA l1 l2 hb oQ Hn;go_wp2
     go_region_held3 (fun w'=>w'.cell? ⟨b1,o1+j*3,none⟩=some (.string s.service)/\w'.cell? ⟨b1,o1+j*3+1,none⟩=some (.string s.split)/\w'.cell? ⟨b1,o1+j*3+2,none⟩=some (.float .f64 s.weight)/\w'.cell? ⟨b2,o2+j*3,none⟩=some (.string t.service)/\w'.cell? ⟨b2,o2+j*3+1,none⟩=some (.string t.split)/\w'.cell? ⟨b2,o2+j*3+2,none⟩=some (.float .f64 t.weight)) (first|exact ⟨c0,c1,c2,d0,d1,d2⟩) (fail)
     all_goals go_wp2
     all_goals go_roundw
     all_goals first|exact ⟨j+1,df.o,hid (HH.o 1)⟩|exact cY.o
    |false=>
     rw[hb]at SH;simp only[Bool.not_false]at SH;have HH:=hid (fun k=>show jj oJ l l'=false/\∃k',(w.drewN kw).drewN k=w.drewN k' from ⟨Bq hs ht hb,kw+k,dG _ _ _⟩);clear hN hall H q1 q2 hs ht hj QA l1 l2 hb oQ Hn;go_wp2
     go_region_held3 (fun w'=>w'.cell? ⟨b1,o1+j*3,none⟩=some (.string s.service)/\w'.cell? ⟨b1,o1+j*3+1,none⟩=some (.string s.split)/\w'.cell? ⟨b1,o1+j*3+2,none⟩=some (.float .f64 s.weight)/\w'.cell? ⟨b2,o2+j*3,none⟩=some (.string t.service)/\w'.cell? ⟨b2,o2+j*3+1,none⟩=some (.string t.split)/\w'.cell? ⟨b2,o2+j*3+2,none⟩=some (.float .f64 t.weight)) (first|exact ⟨c0,c1,c2,d0,d1,d2⟩) (fail)
     all_goals go_wp2
     all_goals refine bodyPost_ret (results_tmp (t:=4) rfl _ _ _) rfl ?_
     all_goals obtain ⟨z1,z2⟩:=HH.o 1
     all_goals exact ⟨by rw[z1];rfl,z2⟩
   ·have tj:decide (j<n)=false:=dF hj;have HE:=hid (show jj oJ l l'=true from rB (Hn.o.1.symm.trans Hn.o.2) (fun i a b h1 h2=>hall i a b (by have:=(aBo h1).1;have:=Hn.o.1;omega) h1 h2));clear hN hall H hj QA oQ Hn;go_wp2;refine bodyPost_ret (results_tmp (t:=4) rfl _ _ _) rfl ?_;exact ⟨by rw[HE.o];rfl,kw,rfl⟩
 ·have t1:((n:Int) != (n':Int))=true:=bne_iff_ne.2 (fun e=>ll (by omega));have t2:((n:Int)==(n':Int))=false:=beq_eq_false_iff_ne.2 (fun e=>ll (by omega));have HE:=hid (show jj oJ l l'=false from xJ (by rw[<-hn,<-OD];exact ll));clear bN oP hn OD ll hl Qz;go_enter Tryz.func74,Tryz.ntmps74
  go_wp2;refine bodyPost_ret (results_tmp (t:=4) rfl _ _ _) rfl ?_;exact ⟨by rw[HE.o];rfl,0,rfl⟩
theorem Yu (w:World) (v v':Value) (l l':List Rul) (h:SlR w v 4 l bU) (h':SlR w v' 4 l' bU):
 Calls Tryz.prog 75 #[v,v'] w fun x w'=>x= .returned (.bool (jj pr l l'))/\∃k,w'=w.drewN k:=by
 obtain ⟨ao,cap,hv,hl,bN⟩:=h;obtain ⟨fj,mn,Oj,Qz,oP⟩:=h';obtain ⟨n,hn⟩:=ex (l.length);obtain ⟨n',OD⟩:=ex (l'.length);rw[<-hn]at hv hl bN;rw[<-OD]at Oj Qz oP;subst hv;subst Oj;by_cases ll:n=n'
 ·subst ll;have oQ:=hid (And.intro bN oP);have Hn:=hid (And.intro hn OD);have Hl:=hid hl;have hN:=fun s t w=>NA s t w;clear bN oP hn OD hl Qz;go_enter Tryz.func75,Tryz.ntmps75;go_wp2
  go_loopw [5,13] (fun v5 vi wr=>∃j:Nat,vi= .int .i64 (j:Int)/\Hid (j<=n/\(∃k,wr=w.drewN k)/\∀(i:Nat) (a b:Rul),i<j->l[i]? =some a->l'[i]? =some b->pr a b=true)) (fun _ vi _=>n-(intOf vi).toNat)
  case atStart=>exact ⟨0,rfl,hid ⟨Nat.zero_le _,⟨0,rfl⟩,fun i a b hi=>absurd hi (Nat.not_lt_zero _)⟩⟩
  case round=>
   obtain ⟨j,rfl,H⟩:=hrel;obtain ⟨QA,⟨kw,rfl⟩,hall⟩:=H.o;by_cases hj:j<n
   ·have tj:decide (j<n)=true:=dT hj;have bj:(j:Int)<(n:Int):=by omega
    obtain ⟨s,hs⟩:∃s,l[j]? =some s:=aF (by rw[<-Hn.o.1];exact hj);obtain ⟨t,ht⟩:∃t,l'[j]? =some t:=aF (by rw[<-Hn.o.2];exact hj);obtain ⟨b1,o1,rfl,l1,q1⟩:=oQ.o.1 (by omega);obtain ⟨b2,o2,rfl,l2,q2⟩:=oQ.o.2 (by omega);have q1:=q1 j s hs;have q2:=q2 j t ht;have c0:(w.drewN kw).cell? ⟨b1,o1+j*4,none⟩=_:=q1 0 _ rfl;have d0:(w.drewN kw).cell? ⟨b2,o2+j*4,none⟩=_:=q2 0 _ rfl;have c1:(w.drewN kw).cell? ⟨b1,o1+j*4+1,none⟩=_:=q1 1 _ rfl
    have d1:(w.drewN kw).cell? ⟨b2,o2+j*4+1,none⟩=_:=q2 1 _ rfl;have c2:(w.drewN kw).cell? ⟨b1,o1+j*4+2,none⟩=_:=q1 2 _ rfl;have d2:(w.drewN kw).cell? ⟨b2,o2+j*4+2,none⟩=_:=q2 2 _ rfl;have c3:(w.drewN kw).cell? ⟨b1,o1+j*4+3,none⟩=_:=q1 3 _ rfl;have d3:(w.drewN kw).cell? ⟨b2,o2+j*4+3,none⟩=_:=q2 3 _ rfl;have SH:=fun W=>hN s t W;obtain ⟨cY,df⟩:=bL (k:=j) (n:=n) hj (by have:=Hl.o;omega);cases hb:pr s t with
    |true=>
     rw[hb]at SH;simp only[Bool.not_true]at SH;have HH:=hid (fun k=>show j+1<=n/\(∃k',(w.drewN kw).drewN k=w.drewN k')/\∀(i:Nat) (a b:Rul),i<j+1->l[i]? =some a->l'[i]? =some b->pr a b=true from
      ⟨hj,⟨kw+k,dG _ _ _⟩,fun i a b hi h1 h2=>by
       rcases Nat.lt_succ_iff_lt_or_eq.1 hi with q|rfl
       ·exact hall i a b q h1 h2
       ·rw[hs]at h1;rw[ht]at h2;obtain rfl:=aBm h1;obtain rfl:=aBm h2;exact hb⟩)
     clear hN hall H q1 q2 hs ht hj QA l1 l2 hb oQ Hn;go_wp2
     go_region_held3 (fun w'=>w'.cell? ⟨b1,o1+j*4,none⟩=some (.string s.path)/\w'.cell? ⟨b1,o1+j*4+1,none⟩=some (.string s.method)/\w'.cell? ⟨b1,o1+j*4+2,none⟩=some (.string s.split)/\w'.cell? ⟨b1,o1+j*4+3,none⟩=some (.bool s.allow)/\w'.cell? ⟨b2,o2+j*4,none⟩=some (.string t.path)/\w'.cell? ⟨b2,o2+j*4+1,none⟩=some (.string t.method)/\w'.cell? ⟨b2,o2+j*4+2,none⟩=some (.string t.split)/\w'.cell? ⟨b2,o2+j*4+3,none⟩=some (.bool t.allow)) (first|exact ⟨c0,c1,c2,c3,d0,d1,d2,d3⟩) (fail)
     all_goals go_wp2
     all_goals go_roundw
     all_goals first|exact ⟨j+1,df.o,hid (HH.o 1)⟩|exact cY.o
    |false=>
     rw[hb]at SH;simp only[Bool.not_false]at SH;have HH:=hid (fun k=>show jj pr l l'=false/\∃k',(w.drewN kw).drewN k=w.drewN k' from ⟨Bq hs ht hb,kw+k,dG _ _ _⟩);clear hN hall H q1 q2 hs ht hj QA l1 l2 hb oQ Hn;go_wp2
     go_region_held3 (fun w'=>w'.cell? ⟨b1,o1+j*4,none⟩=some (.string s.path)/\w'.cell? ⟨b1,o1+j*4+1,none⟩=some (.string s.method)/\w'.cell? ⟨b1,o1+j*4+2,none⟩=some (.string s.split)/\w'.cell? ⟨b1,o1+j*4+3,none⟩=some (.bool s.allow)/\w'.cell? ⟨b2,o2+j*4,none⟩=some (.string t.path)/\w'.cell? ⟨b2,o2+j*4+1,none⟩=some (.string t.method)/\w'.cell? ⟨b2,o2+j*4+2,none⟩=some (.string t.split)/\w'.cell? ⟨b2,o2+j*4+3,none⟩=some (.bool t.allow)) (first|exact ⟨c0,c1,c2,c3,d0,d1,d2,d3⟩) (fail)
     all_goals go_wp2
     all_goals refine bodyPost_ret (results_tmp (t:=4) rfl _ _ _) rfl ?_
     all_goals obtain ⟨z1,z2⟩:=HH.o 1
     all_goals exact ⟨by rw[z1];rfl,z2⟩
   ·have tj:decide (j<n)=false:=dF hj;have HE:=hid (show jj pr l l'=true from rB (Hn.o.1.symm.trans Hn.o.2) (fun i a b h1 h2=>hall i a b (by have:=(aBo h1).1;have:=Hn.o.1;omega) h1 h2));clear hN hall H hj QA oQ Hn;go_wp2;refine bodyPost_ret (results_tmp (t:=4) rfl _ _ _) rfl ?_;exact ⟨by rw[HE.o];rfl,kw,rfl⟩
 ·have t1:((n:Int) != (n':Int))=true:=bne_iff_ne.2 (fun e=>ll (by omega));have t2:((n:Int)==(n':Int))=false:=beq_eq_false_iff_ne.2 (fun e=>ll (by omega));have HE:=hid (show jj pr l l'=false from xJ (by rw[<-hn,<-OD];exact ll));clear bN oP hn OD ll hl Qz;go_enter Tryz.func75,Tryz.ntmps75
  go_wp2;refine bodyPost_ret (results_tmp (t:=4) rfl _ _ _) rfl ?_;exact ⟨by rw[HE.o];rfl,0,rfl⟩
