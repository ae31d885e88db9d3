/-
Parts of a proof.
-/
import Derived.Test.YtfenoaeoedobmaaGreatDoorOw35
set_option linter.unusedVariables false
set_option linter.unusedSimpArgs false
set_option maxHeartbeats 4000000
set_option maxRecDepth 20000
namespace Go.Proofs.YtfenoaeoedobmaaGreatDoor
open Go Go.RowKit
def AM (v:Value) (ms:List NdM):Prop:=
 (∀m∈ms,∀g,m.kv.ownBlock=some g->v.ownBlock≠some g)/\∀(i j:Nat) (m m':NdM) (g:Nat),ms[i]? =some m->ms[j]? =some m'->m.kv.ownBlock=some g->m'.kv.ownBlock=some g->i=j
theorem tP (v:Value):AM v []:=⟨nofun,fun i j m m' g h=>by simp at h⟩
def vg (w:World) (r:Res) (x:Ending) (w':World):Prop:=
 ∃v ms,x= .returned v/\DocP w' w.heap.size ⟨v,ms⟩/\nds ms=jn wtF r/\Below w.heap.size w w'/\AM v ms
theorem A7 {w w1 w':World} {r:Res} {ev tv rv:Value} {bb wb:Nat} {F:Fo} (hb:Below w.heap.size w w1) (h:TrS w1 w' r ev tv rv bb wb none F.doc):
 ∃nv,w'.cell? ⟨wb,0,none⟩=some nv/\∃ms,DocP w' w.heap.size ⟨nv,ms⟩/\nds ms=F.doc/\Below w.heap.size w w'/\w'.heap[wb]? =some (.cells #[nv] 127 (0,0))/\AM nv ms/\∃ao n c,nv= .slice ao n c:=by
 obtain ⟨nv,ms,hw,e,_⟩:=h.wr;obtain ⟨ao,c,hv⟩:=hw.nr.form;exact ⟨nv,af hw.blk 0,ms,⟨hw.nr.row,fun g hg=>aAe hb.size (hw.nr.new g hg).1,fun m hm=>NdE.down (x:=m) (hw.nr.each m hm) hb.size,hw.nr.len⟩,e,hb.trans (hw.below.mono hb.size),hw.blk,⟨fun m hm g hg=>(hw.nr.kid m hm g hg).1,hw.nr.pair⟩,ao,_,c,hv⟩
section
variable {w1 w:World} {Q:Exit->Act->World->Prop} {a:Act} {r:Res} {ev tv rv lw:Value} {ns:List Nd} {bb wb k0:Nat}
theorem tw_b (X:Code) (hT:TrS w1 w r ev tv rv bb wb none []) (hf:TwO a bb wb)
 (ok:∀a' w',TwP a' bb wb 0->TrS w1 w' r ev tv rv bb wb none [⟨2,⟨#[]⟩,⟨#[]⟩,false,0,[]⟩]->X.wp Tryz.prog Q a' w'):(Code.seq twB X).wp Tryz.prog Q a w:=by
 obtain ⟨nv,ms,hw,e,ht⟩:=hT.wr;have hm0:ms=[]:=by cases ms with|nil=>rfl|cons x l=>cases e
 subst hm0;have hC:=xp hw none (fun i hi=>by cases hi) 2 (by decide) ⟨#[]⟩ (by decide) (by decide);have HC:Hid (Calls Tryz.prog 70 #[.pointer (some ⟨wb,0,none⟩),.int .i64 (-1),.int .i64 2,.string ⟨#[]⟩] w
  fun x w'=>x= .returned (.int .i64 ((0:Nat):Int))/\TrS w1 w' r ev tv rv bb wb none [⟨2,⟨#[]⟩,⟨#[]⟩,false,0,[]⟩]):=hid (by
  refine hC.mono ?_;rintro x w' ⟨hx,hp⟩;exact ⟨hx,hT.put (fun y hy=>by rw[List.mem_singleton.1 hy];exact Nat.zero_le _) (fun tb ob q=>by cases q) hp⟩)
 have Hok:=hid ok;obtain ⟨vv,rfl,eE⟩:=hf.shape;simp only[bW,eE];clear eE;clear hf ok hT hC hw e ht;dsimp only[twB,ncl,ncr,ncx,Tryz.f29]
 go_wp2_with fail
 refine HC.o.mono ?_;rintro x w2 ⟨rfl,h2⟩;have H2:=hid h2;clear h2 HC;go_wp2;exact Hok.o _ _ ⟨rfl,rfl,rfl,rfl,rfl⟩ H2.o
theorem tw_z {w0:World} {F:Fo} (hb:Below w0.heap.size w0 w1) (hT:TrS w1 w r ev tv rv bb wb none F.doc) (hF:F.doc=jn wtF r) (hf:TwO a bb wb):
 twZ.wp Tryz.prog (bodyPost Tryz.prog Tryz.f29 (vg w0 r)) a w:=by
 obtain ⟨nv,z0,ms,hD,he,hbw,hblk,hap,ao,n,c,rfl⟩:=A7 hb hT;have HE:=hid (show vg w0 r (.returned (.slice ao n c)) w from ⟨_,ms,rfl,hD,he.trans hF,hbw,hap⟩);obtain ⟨vv,rfl,eE⟩:=hf.shape;simp only[bW,eE];clear eE;clear hf hT hD he hb hbw hF hap;dsimp only[twZ,aD,ncr,ncx,Tryz.f29];go_wp2;refine bodyPost_ret (results_tmp (t:=2) rfl _ _ _) rfl HE.o
end
noncomputable def A5:Code:=(ncr (ncr (ncr (ncx Tryz.f29.body))))
theorem DZ (w:World) (r:Res) (ev tv rv:Value) (hz:ResZ r) (hL:ResL w r ev tv rv) (hg:GlobT w):
 Calls Tryz.prog 29 #[.agg (bJ r ev tv rv)] w (vg w r):=by
 by_cases hk:1<=r.kind/\r.kind<=4
 ·obtain ⟨h1,h4⟩:=hk;have hn:=hz.n;have HK:Hid (∀a,TwO a w.heap.size (w.heap.size+1)->A5.wp Tryz.prog (bodyPost Tryz.prog Tryz.f29 (vg w r)) a ((w.alloc (.cells (bJ r ev tv rv) 49)).alloc (.cells #[.slice none 0 0] 127))):=hid (by
   intro a hf;have hb1:Below w.heap.size w (w.alloc (.cells (bJ r ev tv rv) 49)):=(aAb _ _).alloc (aAa _) _;have hs1:(w.alloc (.cells (bJ r ev tv rv) 49)).heap.size=w.heap.size+1:=by simp
   have hT:TrS (w.alloc (.cells (bJ r ev tv rv) 49)) ((w.alloc (.cells (bJ r ev tv rv) 49)).alloc (.cells #[.slice none 0 0] 127)) r ev tv rv w.heap.size (w.heap.size+1) none []:=by
    refine ⟨by rw[hs1];omega,ah _,⟨hL.e.later hb1,hL.t.later hb1,hL.r.later hb1⟩,hg.later hb1,nofun,.slice none 0 0,[],⟨(aAb _ _).alloc (aAa _) _,by rw[hs1];exact aAa _,?_,NRowM.first _ _ _⟩,rfl,nofun⟩;have h:=ah (w:=w.alloc (.cells (bJ r ev tv rv) 49)) (.cells #[.slice none 0 0] 127)
    rwa [hs1]at h
   generalize (w.alloc (.cells (bJ r ev tv rv) 49)).alloc (.cells #[.slice none 0 0] 127)=w2 at*
   show (Code.seq twB (Code.seq twC (Code.seq twD (Code.seq (Code.block 0 (Code.seq kS (Code.cond (.tmp 40) jm sM))) twZ)))).wp Tryz.prog _ a w2
   refine tw_b _ hT hf (fun a2 w3 f2 h2=> ?_);refine tw_c _ h2 (by decide) (by decide) h1 h4 f2 (fun a3 w4 f3 h3=> ?_);rw[jb]at h3;have e1:(aJ kKind (kf r.kind) .nil).doc.length=2:=by rw[<-jb,aY];unfold aJ;rw[Fo.size_sc,Fo.size_nil];rfl
   refine tw_d _ h3 (by omega) (by omega) hz.name f3 (fun a4 w5 f4 h4'=> ?_);rw[<-jb,cE (by decide)]at h4';refine wp_seq (wp_block (GX h4' hz h1 h4 (by rw[aY];exact Nat.lt_of_lt_of_le (by decide) (Nat.le_add_right _ _)) (by rw[aY,Fo.app_size];unfold aJ;rw[Fo.size_sc,Fo.size_sc,Fo.size_nil];decide) f4 (fun a5 w6 f5 h5=> ?_)));rw[cE (by decide),jb]at h5
   refine tw_z hb1 h5 ?_ f5;unfold jn;rw[if_neg (by omega)];rfl)
  have t1:decide (r.kind<1)=false:=dF (by omega);have t2:decide (4<r.kind)=false:=dF (by omega);clear hz hL hg h1 h4 hn;unfold bJ at HK |-;generalize r.kind=kd at*;go_enter Tryz.func29,Tryz.ntmps29;change (Code.seq (ncl (ncx Tryz.f29.body)) (Code.seq (ncl (ncr (ncx Tryz.f29.body))) (Code.seq twA A5))).wp _ _ _ _
  dsimp only[twA,ncl,ncr,ncx,Tryz.f29];go_wp2;exact HK.o _ ⟨rfl,rfl,rfl,rfl⟩
 ·have ht:jn wtF r=[]:=by unfold jn;rw[if_pos (by omega)]
  have HE:=hid (show ∀w',Below w.heap.size w w'->vg w r (.returned (.slice none 0 0)) w' from fun w' hb=>⟨_,[],rfl,⟨World.ownsRow_nil _ _ _ _,nofun,nofun,Nat.zero_le _⟩,ht.symm,hb,tP _⟩);have Hbn:=hid (fun o=>(aAb w.heap.size w).alloc (aAa _) o);have Hk:=hid hk;clear hz hL hg hk ht;unfold bJ;generalize r.kind=kd at*;by_cases h1:kd<1
  ·have t1:decide (kd<1)=true:=dT h1;clear h1;go_enter Tryz.func29,Tryz.ntmps29;go_wp2;refine bodyPost_ret (results_tmp (t:=2) rfl _ _ _) rfl (HE.o _ (Hbn.o _))
  ·have t1:decide (kd<1)=false:=dF h1;have t2:decide (4<kd)=true:=dT (by have:=Hk.o;omega);clear h1;go_enter Tryz.func29,Tryz.ntmps29;go_wp2;refine bodyPost_ret (results_tmp (t:=2) rfl _ _ _) rfl (HE.o _ (Hbn.o _))
theorem vD {α:Type} {w:World} {v v':Value} {sz:Nat} {xs:List α} {cells:α->List Value} (h:SlR w v sz xs cells) (h':SlR w v' sz xs cells):∃n ao cap ao' cap',n=xs.length/\v= .slice ao n cap/\v'= .slice ao' n cap'/\n<=1048576/\
 (∀i,i<n->∃x b o b' o',xs[i]? =some x/\ao=some ⟨b,o,none⟩/\ao'=some ⟨b',o',none⟩/\b<w.heap.size/\b'<w.heap.size/\(∀j u,(cells x)[j]? =some u->w.cell? ⟨b,o+i*sz+j,none⟩=some u)/\(∀j u,(cells x)[j]? =some u->w.cell? ⟨b',o'+i*sz+j,none⟩=some u)):=by
 obtain ⟨ao,cap,hv,hl,hat⟩:=h;obtain ⟨ao',cap',hv',_,hat'⟩:=h';refine ⟨_,ao,cap,ao',cap',rfl,hv,hv',hl,fun i hi=> ?_⟩;obtain ⟨b,o,ha,hb,hc⟩:=hat (by omega);obtain ⟨b',o',ha',hb',hc'⟩:=hat' (by omega);obtain ⟨x,hx⟩:=au hi;exact ⟨x,b,o,b',o',hx,ha,ha',hb,hb',hc i x hx,hc' i x hx⟩
theorem Lg {w w2:World} {a1 a2:Array Value} {T:TypeId} (hb:Below (w.heap.size+2) ((w.alloc (.cells a1 T)).alloc (.cells a2 T)) w2):w2.heap[w.heap.size]? =some (.cells a1 T (0,0))/\w2.heap[w.heap.size+1]? =some (.cells a2 T (0,0)):=by
 have h1:((w.alloc (.cells a1 T)).alloc (.cells a2 T)).heap[w.heap.size]? =some (.cells a1 T (0,0)):=(aj _ (by simp)).trans (ah _);have h2:((w.alloc (.cells a1 T)).alloc (.cells a2 T)).heap[w.heap.size+1]? =some (.cells a2 T (0,0)):=by
  have:=ah (w:=w.alloc (.cells a1 T)) (.cells a2 T)
  simpa using this
 exact ⟨(hb.block _ (by omega)).trans h1,(hb.block _ (by omega)).trans h2⟩
theorem jN (w:World) (o1 o2:Obj):Below w.heap.size w ((w.alloc o1).alloc o2):=((aAb _ _).alloc (aAa _) o1).alloc (by simp) o2
theorem Jb (w:World) (r:Res) (ev tv rv ev' tv' rv':Value) (T:TypeId) (hT:T= 49)
 (he:∃a n c,ev= .slice a n c) (ht:∃a n c,tv= .slice a n c) (hr:∃a n c,rv= .slice a n c) (he':∃a n c,ev'= .slice a n c) (ht':∃a n c,tv'= .slice a n c) (hr':∃a n c,rv'= .slice a n c):
 Calls Tryz.prog 28 #[.agg (bJ r ev tv rv),.agg (bJ r ev' tv' rv')] w fun e w'=>e= .returned (.bool true)/\Below w.heap.size w w':=by
 obtain ⟨a1,n1,c1,rfl⟩:=he;obtain ⟨a2,n2,c2,rfl⟩:=ht;obtain ⟨a3,n3,c3,rfl⟩:=hr;obtain ⟨a4,n4,c4,rfl⟩:=he';obtain ⟨a5,n5,c5,rfl⟩:=ht';obtain ⟨a6,n6,c6,rfl⟩:=hr';unfold bJ;go_enter Tryz.func28,Tryz.ntmps28;go_wp2;go_ret;exact ⟨rfl,jN _ _ _⟩
theorem ba {α:Type} {w:World} {v:Value} {sz:Nat} {xs:List α} {cells:α->List Value} (h:SlR w v sz xs cells):∃a n c,v= .slice a n c:=by
 obtain ⟨a,c,e,_⟩:=h;exact ⟨a,_,c,e⟩
theorem _root_.Go.RowKit.Below.keeps {w w':World} {p:Addr} {v:Value} (h:Below w.heap.size w w') (hp:w.cell? p=some v):w'.cell? p=some v:=(h.cell (World.block_lt_of_cell? _ _ hp)).trans hp
theorem Dp (t:Rul) (w:World):(Op.equalIn 10000 60 (.agg #[.string t.path,.string t.method,.string t.split,.bool t.allow]) (.agg #[.string t.path,.string t.method,.string t.split,.bool t.allow])).run Tryz.prog w= .ok true w:=by
 rw[run_equalIn_agg w 9999 _ _ _ (by kernel_rfl) (by kernel_rfl)];have e: Tryz.prog.fieldsOf 60 =(match Tryz.prog.underlying 60 with|some (.struct fs)=>fs|_=>#[]):=rfl;rw[Tryz.underlying60]at e;rw[e];simp[Op.eqFields,part,Tryz.isAgg4,Tryz.isAgg9,run_equalIn_bool' w 9998 _ _ _ Tryz.underlying4,run_equalIn_string w 9998 _ _ _ Tryz.underlying9]
theorem Fa (t:Rul) (w:World):(binOp .neq 60 (.agg #[.string t.path,.string t.method,.string t.split,.bool t.allow]) (.agg #[.string t.path,.string t.method,.string t.split,.bool t.allow])).run Tryz.prog w= .ok (.bool false) w:=by
 rw[run_neq_struct,Dp];rfl
theorem nw {B:Nat} {a w:World} (h:Below B a w) (n:Nat):Below B a (w.drewN n):=⟨h.os,h.tape,h.output,h.size,h.block⟩
theorem EJ (w:World) (r:Res) (ev tv rv ev' tv' rv':Value) (h:ResL w r ev tv rv) (h':ResL w r ev' tv' rv'):
 Calls Tryz.prog 17 #[.agg (bJ r ev tv rv),.agg (bJ r ev' tv' rv')] w fun e w'=>e= .returned (.bool true)/\Below w.heap.size w w':=by
 obtain ⟨W,hW⟩:=ex ((w.alloc (.cells (bJ r ev tv rv) 49)).alloc (.cells (bJ r ev' tv' rv') 49));have hbW:Below w.heap.size w W:=by rw[hW];exact jN _ _ _
 have hblk:∀w2,Below (w.heap.size+2) W w2->w2.heap[w.heap.size]? =some (.cells (bJ r ev tv rv) 49 (0,0))/\w2.heap[w.heap.size+1]? =some (.cells (bJ r ev' tv' rv') 49 (0,0)):=fun w2 hb=>by rw[hW]at hb;exact Lg hb
 have Hkey:=hid (Jb W r ev tv rv ev' tv' rv' _ rfl (ba h.e) (ba h.t) (ba h.r) (ba h'.e) (ba h'.t) (ba h'.r));obtain ⟨ne,ea,ec,ea',ec',hne,rfl,rfl,hle,he⟩:=vD (h.e.later hbW) (h'.e.later hbW);obtain ⟨nt,ta,tc,ta',tc',hnt,rfl,rfl,hlt,ht⟩:=vD (h.t.later hbW) (h'.t.later hbW);obtain ⟨nr,ra,rc,ra',rc',hnr,rfl,rfl,hlr,hr⟩:=vD (h.r.later hbW) (h'.r.later hbW)
 have hsz:W.heap.size=w.heap.size+2:=by rw[hW];simp
 obtain ⟨b,hb⟩:=ex (w.heap.size);unfold bJ at hblk hW Hkey |-;have Hblk:=hid hblk;have HbW:=hid hbW;have He:=hid (And.intro hle he);have Ht:=hid (And.intro hlt ht);have Hr:=hid (And.intro hlr hr);have Hsz:=hid hsz;clear h h' hblk hbW hle he hlt ht hlr hr hne hnt hnr hsz;go_enter Tryz.func17,Tryz.ntmps17
 go_wp2_with fail
 rw[<-hW,<-hb];clear hW;refine Hkey.o.mono ?_;rintro x w1 ⟨rfl,hb1⟩;have Hb1:=hid (hb1.mono (Nat.le_of_eq Hsz.o.symm));obtain ⟨f1,f2⟩:=Hblk.o w1 Hb1.o;rw[<-hb]at f1 f2;obtain ⟨y0,y1,y2,y3,y4,y5,y6,y7⟩:=cB8 f1;obtain ⟨z0,z1,z2,z3,z4,z5,z6,z7⟩:=cB8 f2;simp at y0 y1 y2 y3 y4 y5 y6 y7 z0 z1 z2 z3 z4 z5 z6 z7;have HB:=hid hb;clear f1 f2 hb1 Hkey hb;go_wp2;clear y0 y1 y2 y3 y4 y5 y6 y7 z0 z1 z2 z3 z4 z5 z6 z7
 go_loopw [5] (fun vi wr=>∃j:Nat,vi= .int .i64 (j:Int)/\Hid (j<=ne/\Below (w.heap.size+2) W wr)) (fun vi _=>ne-(intOf vi).toNat)
 case atStart=>exact ⟨0,rfl,hid ⟨Nat.zero_le _,Hb1.o⟩⟩
 case round=>
  clear Hb1;obtain ⟨j,rfl,H⟩:=hrel;obtain ⟨f1,f2⟩:=Hblk.o wr H.o.2;rw[<-HB.o]at f1 f2;by_cases hj:j<ne
  ·have tj:decide (j<ne)=true:=dT hj;have bj:(j:Int)<(ne:Int):=by omega
   have y2:=af f1 2;have z2:=af f2 2;simp at y2 z2;obtain ⟨s,b1,o1,b2,o2,hs,rfl,rfl,l1,l2,q1,q2⟩:=He.o.2 j hj;have q3:=(H.o.2.cell (p:=⟨b1,_,none⟩) (by rw[<-Hsz.o];exact l1)).trans (q1 0 _ rfl);have q4:=(H.o.2.cell (p:=⟨b2,_,none⟩) (by rw[<-Hsz.o];exact l2)).trans (q2 0 _ rfl);simp only[Nat.mul_one,Nat.add_zero]at q3 q4;have HH:=hid (fun k=>show j+1<=ne/\Below (w.heap.size+2) W (wr.drewN k) from ⟨hj,nw H.o.2 k⟩)
   obtain ⟨Hms,Hgo⟩:=aM (k:=j) (n:=ne) hj (by have:=He.o.1;omega);clear f1 f2 q1 q2 hs H hj l1 l2;go_wp2;go_quiet (fail);go_wp2;go_roundw
   case rel=>exact ⟨j+1,Hgo.o,hid (HH.o _)⟩
   case measure=>exact Hms.o
  ·have tj:decide (j<ne)=false:=dF hj;have y2:=af f1 2;simp at y2;have Hb1:=hid H.o.2;clear f1 f2 H hj;go_wp2;clear y2
   go_loopw [6,7,8] (fun vi v7 v8 wr=>∃j:Nat,vi= .int .i64 (j:Int)/\Hid (j<=nt/\Below (w.heap.size+2) W wr)) (fun vi _ _ _=>nt-(intOf vi).toNat)
   case atStart=>exact ⟨0,rfl,hid ⟨Nat.zero_le _,Hb1.o⟩⟩
   case round=>
    clear Hb1;obtain ⟨j,rfl,H⟩:=hrel;obtain ⟨f1,f2⟩:=Hblk.o wr H.o.2;rw[<-HB.o]at f1 f2;by_cases hj:j<nt
    ·have tj:decide (j<nt)=true:=dT hj;have bj:(j:Int)<(nt:Int):=by omega
     have y3:=af f1 3;have z3:=af f2 3;simp at y3 z3;obtain ⟨s,b1,o1,b2,o2,hs,rfl,rfl,l1,l2,q1,q2⟩:=Ht.o.2 j hj;have e1:=fun k=>(H.o.2.cell (p:=⟨b1,o1+j*3+k,none⟩) (by rw[<-Hsz.o];exact l1));have e2:=fun k=>(H.o.2.cell (p:=⟨b2,o2+j*3+k,none⟩) (by rw[<-Hsz.o];exact l2));have c0:=(e1 0).trans (q1 0 _ rfl);have c1:=(e1 1).trans (q1 1 _ rfl);have c2:=(e1 2).trans (q1 2 _ rfl);have d0:=(e2 0).trans (q2 0 _ rfl)
     have d1:=(e2 1).trans (q2 1 _ rfl);have d2:=(e2 2).trans (q2 2 _ rfl);simp only[Nat.add_zero]at c0 d0;obtain ⟨Hms,Hgo⟩:=aM (k:=j) (n:=nt) hj (by have:=Ht.o.1;omega);have hsf:∀(W:World) (a:Addr) (r:Nat),(store a (.float .f64 r)).run Tryz.prog W=stored Tryz.prog W a (.float .f64 r) .plain:=fun W a r=>run_store _ W a _ _ rfl;have HE:=hid (fun o1' o2'=>show j+1<=nt/\Below (w.heap.size+2) W ((wr.alloc o1').alloc o2').drew from ⟨hj,(H.o.2.trans ((jN wr o1' o2').mono (aAe (Nat.le_of_eq Hsz.o.symm) H.o.2.size))).drew⟩)
     have hf1:(FloatKind.f64.format.order s.weight s.weight != some .eq)= !(FloatKind.f64.format.order s.weight s.weight==some .eq):=rfl;cases hf2:(FloatKind.f64.format.order s.weight s.weight==some .eq)
     all_goals rw[hf2]at hf1
     all_goals simp only[Bool.not_true,Bool.not_false]at hf1
     clear f1 f2 q1 q2 hs l1 l2 e1 e2 H hj
     all_goals
      have HS:=hid (fun w' (hw:Below wr.heap.size wr w')=>show w'.cell? ⟨b,3,none⟩=some (.slice (some ⟨b1,o1,none⟩) nt tc)/\w'.cell? ⟨b+1,3,none⟩=some (.slice (some ⟨b2,o2,none⟩) nt tc')/\w'.cell? ⟨b1,o1+j*3,none⟩=some (.string s.service)/\w'.cell? ⟨b1,o1+j*3+1,none⟩=some (.string s.split)/\w'.cell? ⟨b1,o1+j*3+2,none⟩=some (.float .f64 s.weight)/\w'.cell? ⟨b2,o2+j*3,none⟩=some (.string s.service)/\w'.cell? ⟨b2,o2+j*3+1,none⟩=some (.string s.split)/\w'.cell? ⟨b2,o2+j*3+2,none⟩=some (.float .f64 s.weight) from
       ⟨hw.keeps y3,hw.keeps z3,hw.keeps c0,hw.keeps c1,hw.keeps c2,hw.keeps d0,hw.keeps d1,hw.keeps d2⟩)
      go_wp2
      go_region_held3 (fun w'=>w'.cell? ⟨b,3,none⟩=some (.slice (some ⟨b1,o1,none⟩) nt tc)/\w'.cell? ⟨b+1,3,none⟩=some (.slice (some ⟨b2,o2,none⟩) nt tc')/\w'.cell? ⟨b1,o1+j*3,none⟩=some (.string s.service)/\w'.cell? ⟨b1,o1+j*3+1,none⟩=some (.string s.split)/\w'.cell? ⟨b1,o1+j*3+2,none⟩=some (.float .f64 s.weight)/\w'.cell? ⟨b2,o2+j*3,none⟩=some (.string s.service)/\w'.cell? ⟨b2,o2+j*3+1,none⟩=some (.string s.split)/\w'.cell? ⟨b2,o2+j*3+2,none⟩=some (.float .f64 s.weight)) (first|exact ⟨y3,z3,c0,c1,c2,d0,d1,d2⟩|(refine HS.o _ ?_;repeat' (first|exact aAb _ _|exact aAa _|refine Below.drew ?_|refine Below.alloc ?_ ?_ _|refine Below.setCell ?_ ?_ _|(simp;done)))) (fail)
     all_goals go_wp2
     all_goals go_roundw
     all_goals first|exact ⟨j+1,Hgo.o,hid (HE.o _ _)⟩|exact Hms.o
    ·have tj:decide (j<nt)=false:=dF hj;have y3:=af f1 3;simp at y3;have Hb1:=hid H.o.2;clear f1 f2 H hj;go_wp2;clear y3
     go_loopw [9] (fun vi wr=>∃j:Nat,vi= .int .i64 (j:Int)/\Hid (j<=nr/\Below (w.heap.size+2) W wr)) (fun vi _=>nr-(intOf vi).toNat)
     case atStart=>exact ⟨0,rfl,hid ⟨Nat.zero_le _,Hb1.o⟩⟩
     case round=>
      clear Hb1;obtain ⟨j,rfl,H⟩:=hrel;obtain ⟨f1,f2⟩:=Hblk.o wr H.o.2;rw[<-HB.o]at f1 f2;by_cases hj:j<nr
      ·have tj:decide (j<nr)=true:=dT hj;have bj:(j:Int)<(nr:Int):=by omega
       have y5:=af f1 5;have z5:=af f2 5;simp at y5 z5;obtain ⟨s,b1,o1,b2,o2,hs,rfl,rfl,l1,l2,q1,q2⟩:=Hr.o.2 j hj;have e1:=fun k=>(H.o.2.cell (p:=⟨b1,o1+j*4+k,none⟩) (by rw[<-Hsz.o];exact l1));have e2:=fun k=>(H.o.2.cell (p:=⟨b2,o2+j*4+k,none⟩) (by rw[<-Hsz.o];exact l2));have c0:=(e1 0).trans (q1 0 _ rfl);have c1:=(e1 1).trans (q1 1 _ rfl);have c2:=(e1 2).trans (q1 2 _ rfl);have c3:=(e1 3).trans (q1 3 _ rfl)
       have d0:=(e2 0).trans (q2 0 _ rfl);have d1:=(e2 1).trans (q2 1 _ rfl);have d2:=(e2 2).trans (q2 2 _ rfl);have d3:=(e2 3).trans (q2 3 _ rfl);simp only[Nat.add_zero]at c0 d0;have k1:=fun w=>Fa s w;have HH:=hid (fun k=>show j+1<=nr/\Below (w.heap.size+2) W (wr.drewN k) from ⟨hj,nw H.o.2 k⟩);obtain ⟨Hms,Hgo⟩:=aM (k:=j) (n:=nr) hj (by have:=Hr.o.1;omega);clear f1 f2 q1 q2 hs H hj l1 l2 e1 e2
       go_wp2;go_quiet (fail);go_wp2;go_roundw
       case rel=>exact ⟨j+1,Hgo.o,hid (HH.o _)⟩
       case measure=>exact Hms.o
      ·have tj:decide (j<nr)=false:=dF hj;have y5:=af f1 5;simp at y5;have HE:=hid (HbW.o.trans (H.o.2.mono (show w.heap.size<=w.heap.size+2 by omega)));clear f1 f2 H hj;go_wp2;go_ret;exact ⟨rfl,HE.o⟩
def eqW (x y:Nat):Bool:=FloatKind.f64.format.order x y==some .eq
def lS (a b:Tgt):Bool:=(a.service.toList==b.service.toList)&&(a.split.toList==b.split.toList)&&eqW a.weight b.weight
def lY (a b:Rul):Bool:=(a.path.toList==b.path.toList)&&(a.method.toList==b.method.toList)&&(a.split.toList==b.split.toList)&&(a.allow==b.allow)
def gY {α:Type} (f:α->α->Bool):List α->List α->Bool
 |[],[]=>true
 |a::l,b::m=>f a b&&gY f l m
 |_,_=>false
theorem pJ {α:Type} {f:α->α->Bool}:∀{l m:List α},l.length≠m.length->gY f l m=false
 |[],[],h=>absurd rfl h
 |[],_::_,_=>rfl
 |_::_,[],_=>rfl
 |a::l,b::m,h=>by
  unfold gY;rw[pJ (l:=l) (m:=m) (by simpa using h),Bool.and_false]
theorem su {α:Type} {f:α->α->Bool}:∀{l m:List α} {j:Nat} {a b:α},l[j]? =some a->m[j]? =some b->f a b=false->gY f l m=false
 |[],_,j,_,_,h,_,_=>by simp at h
 |_::_,[],j,_,_,_,h,_=>by simp at h
 |x::l,y::m,0,a,b,h1,h2,h=>by
  simp at h1 h2;subst h1;subst h2;unfold gY;rw[h,Bool.false_and]
 |x::l,y::m,j+1,a,b,h1,h2,h=>by
  unfold gY;rw[su (l:=l) (m:=m) (j:=j) (by simpa using h1) (by simpa using h2) h,Bool.and_false]
theorem pI {α:Type} {f:α->α->Bool}:∀{l m:List α},l.length=m.length->(∀(j:Nat) (a b:α),l[j]? =some a->m[j]? =some b->f a b=true)->gY f l m=true
 |[],[],_,_=>rfl
 |[],_::_,h,_=>by simp at h
 |_::_,[],h,_=>by simp at h
 |x::l,y::m,h,H=>by
  unfold gY;rw[H 0 x y rfl rfl,pI (l:=l) (m:=m) (by simpa using h) (fun j a b h1 h2=>H (j+1) a b (by simpa using h1) (by simpa using h2)),Bool.true_and]
theorem kZ {P:Program} (w:World) (d:Nat) (t:TypeId) (a b:Nat) (h:P.underlying t=some (.float .f64)):(Op.equalIn (d+1) t (.float .f64 a) (.float .f64 b)).run P w= .ok (eqW a b) w:=by
 simp[Op.equalIn,run_underlying h,Op.floatEq,eqW]
theorem Ap (s t:Tgt) (w:World):(Op.equalIn 10000 58 (.agg #[.string s.service,.string s.split,.float .f64 s.weight]) (.agg #[.string t.service,.string t.split,.float .f64 t.weight])).run Tryz.prog w= .ok (lS s t) w:=by
 rw[run_equalIn_agg w 9999 _ _ _ (by kernel_rfl) (by kernel_rfl)];have e: Tryz.prog.fieldsOf 58 =(match Tryz.prog.underlying 58 with|some (.struct fs)=>fs|_=>#[]):=rfl;rw[Tryz.underlying58]at e;rw[e];unfold lS;cases h1:(s.service.toList==t.service.toList)<;>cases h2:(s.split.toList==t.split.toList)<;>cases h3:eqW s.weight t.weight<;>
  simp[Op.eqFields,part,Tryz.isAgg56,Tryz.isAgg9,kZ w 9998 _ _ _ Tryz.underlying56,run_equalIn_string w 9998 _ _ _ Tryz.underlying9,h1,h2,h3]
theorem Cn (s t:Tgt) (w:World):(binOp .neq 58 (.agg #[.string s.service,.string s.split,.float .f64 s.weight]) (.agg #[.string t.service,.string t.split,.float .f64 t.weight])).run Tryz.prog w= .ok (.bool (!(lS s t))) w:=by
 rw[run_neq_struct,Ap];rfl
theorem Aq (s t:Rul) (w:World):(Op.equalIn 10000 60 (.agg #[.string s.path,.string s.method,.string s.split,.bool s.allow]) (.agg #[.string t.path,.string t.method,.string t.split,.bool t.allow])).run Tryz.prog w= .ok (lY s t) w:=by
 rw[run_equalIn_agg w 9999 _ _ _ (by kernel_rfl) (by kernel_rfl)];have e: Tryz.prog.fieldsOf 60 =(match Tryz.prog.underlying 60 with|some (.struct fs)=>fs|_=>#[]):=rfl;rw[Tryz.underlying60]at e;rw[e];unfold lY;cases h1:(s.path.toList==t.path.toList)<;>cases h2:(s.method.toList==t.method.toList)<;>cases h3:(s.split.toList==t.split.toList)<;>cases h4:(s.allow==t.allow)<;>
  simp[Op.eqFields,part,Tryz.isAgg4,Tryz.isAgg9,run_equalIn_bool' w 9998 _ _ _ Tryz.underlying4,run_equalIn_string w 9998 _ _ _ Tryz.underlying9,h1,h2,h3,h4]
theorem Co (s t:Rul) (w:World):(binOp .neq 60 (.agg #[.string s.path,.string s.method,.string s.split,.bool s.allow]) (.agg #[.string t.path,.string t.method,.string t.split,.bool t.allow])).run Tryz.prog w= .ok (.bool (!(lY s t))) w:=by
 rw[run_neq_struct,Aq];rfl
theorem Ka (w:World) (v v':Value) (l l':List Tgt) (h:SlR w v 3 l bN) (h':SlR w v' 3 l' bN):
 Calls Tryz.prog 74 #[v,v'] w fun x w'=>x= .returned (.bool (gY lS l l'))/\∃k,w'=w.drewN k:=by
 obtain ⟨ao,cap,hv,hl,hat⟩:=h;obtain ⟨ao',cap',hv',hl',hat'⟩:=h';obtain ⟨n,hn⟩:=ex (l.length);obtain ⟨n',hn'⟩:=ex (l'.length);rw[<-hn]at hv hl hat;rw[<-hn']at hv' hl' hat';subst hv;subst hv';by_cases hnn:n=n'
 ·subst hnn;have Hat:=hid (And.intro hat hat');have Hn:=hid (And.intro hn hn');have Hl:=hid hl;have hN:=fun s t w=>Cn s t w;clear hat hat' hn hn' hl hl';go_enter Tryz.func74,Tryz.ntmps74;go_wp2
  go_loopw [5,13] (fun v5 vi wr=>∃j:Nat,vi= .int .i64 (j:Int)/\Hid (j<=n/\(∃k,wr=w.drewN k)/\∀(i:Nat) (a b:Tgt),i<j->l[i]? =some a->l'[i]? =some b->lS a b=true)) (fun _ vi _=>n-(intOf vi).toNat)
  case atStart=>exact ⟨0,rfl,hid ⟨Nat.zero_le _,⟨0,rfl⟩,fun i a b hi=>absurd hi (Nat.not_lt_zero _)⟩⟩
  case round=>
   obtain ⟨j,rfl,H⟩:=hrel;obtain ⟨hjn,⟨kw,rfl⟩,hall⟩:=H.o;by_cases hj:j<n
   ·have tj:decide (j<n)=true:=dT hj;have bj:(j:Int)<(n:Int):=by omega
    obtain ⟨s,hs⟩:∃s,l[j]? =some s:=au (by rw[<-Hn.o.1];exact hj);obtain ⟨t,ht⟩:∃t,l'[j]? =some t:=au (by rw[<-Hn.o.2];exact hj);obtain ⟨b1,o1,rfl,l1,q1⟩:=Hat.o.1 (by omega);obtain ⟨b2,o2,rfl,l2,q2⟩:=Hat.o.2 (by omega);have q1:=q1 j s hs;have q2:=q2 j t ht;have c0:(w.drewN kw).cell? ⟨b1,o1+j*3,none⟩=_:=q1 0 _ rfl;have d0:(w.drewN kw).cell? ⟨b2,o2+j*3,none⟩=_:=q2 0 _ rfl;have c1:(w.drewN kw).cell? ⟨b1,o1+j*3+1,none⟩=_:=q1 1 _ rfl
    have d1:(w.drewN kw).cell? ⟨b2,o2+j*3+1,none⟩=_:=q2 1 _ rfl;have c2:(w.drewN kw).cell? ⟨b1,o1+j*3+2,none⟩=_:=q1 2 _ rfl;have d2:(w.drewN kw).cell? ⟨b2,o2+j*3+2,none⟩=_:=q2 2 _ rfl;have hNe:=fun W=>hN s t W;obtain ⟨Hms,Hgo⟩:=aM (k:=j) (n:=n) hj (by have:=Hl.o;omega);cases hb:lS s t with
    |true=>
     rw[hb]at hNe;simp only[Bool.not_true]at hNe;have HH:=hid (fun k=>show j+1<=n/\(∃k',(w.drewN kw).drewN k=w.drewN k')/\∀(i:Nat) (a b:Tgt),i<j+1->l[i]? =some a->l'[i]? =some b->lS a b=true from
      ⟨hj,⟨kw+k,cO _ _ _⟩,fun i a b hi h1 h2=>by
       rcases Nat.lt_succ_iff_lt_or_eq.1 hi with q|rfl
       ·exact hall i a b q h1 h2
       ·rw[hs]at h1;rw[ht]at h2;obtain rfl:=aAf h1;obtain rfl:=aAf h2;exact hb⟩)
     clear hN hall H q1 q2 hs ht hj hjn l1 l2 hb Hat Hn;go_wp2
     go_region_held3 (fun w'=>w'.cell? ⟨b1,o1+j*3,none⟩=some (.string s.service)/\w'.cell? ⟨b1,o1+j*3+1,none⟩=some (.string s.split)/\w'.cell? ⟨b1,o1+j*3+2,none⟩=some (.float .f64 s.weight)/\w'.cell? ⟨b2,o2+j*3,none⟩=some (.string t.service)/\w'.cell? ⟨b2,o2+j*3+1,none⟩=some (.string t.split)/\w'.cell? ⟨b2,o2+j*3+2,none⟩=some (.float .f64 t.weight)) (first|exact ⟨c0,c1,c2,d0,d1,d2⟩) (fail)
     all_goals go_wp2
     all_goals go_roundw
     all_goals first|exact ⟨j+1,Hgo.o,hid (HH.o 1)⟩|exact Hms.o
    |false=>
     rw[hb]at hNe;simp only[Bool.not_false]at hNe;have HH:=hid (fun k=>show gY lS l l'=false/\∃k',(w.drewN kw).drewN k=w.drewN k' from ⟨su hs ht hb,kw+k,cO _ _ _⟩);clear hN hall H q1 q2 hs ht hj hjn l1 l2 hb Hat Hn;go_wp2
     go_region_held3 (fun w'=>w'.cell? ⟨b1,o1+j*3,none⟩=some (.string s.service)/\w'.cell? ⟨b1,o1+j*3+1,none⟩=some (.string s.split)/\w'.cell? ⟨b1,o1+j*3+2,none⟩=some (.float .f64 s.weight)/\w'.cell? ⟨b2,o2+j*3,none⟩=some (.string t.service)/\w'.cell? ⟨b2,o2+j*3+1,none⟩=some (.string t.split)/\w'.cell? ⟨b2,o2+j*3+2,none⟩=some (.float .f64 t.weight)) (first|exact ⟨c0,c1,c2,d0,d1,d2⟩) (fail)
     all_goals go_wp2
     all_goals refine bodyPost_ret (results_tmp (t:=4) rfl _ _ _) rfl ?_
     all_goals obtain ⟨z1,z2⟩:=HH.o 1
     all_goals exact ⟨by rw[z1];rfl,z2⟩
   ·have tj:decide (j<n)=false:=dF hj;have HE:=hid (show gY lS l l'=true from pI (Hn.o.1.symm.trans Hn.o.2) (fun i a b h1 h2=>hall i a b (by have:=(aAh h1).1;have:=Hn.o.1;omega) h1 h2));clear hN hall H hj hjn Hat Hn;go_wp2;refine bodyPost_ret (results_tmp (t:=4) rfl _ _ _) rfl ?_;exact ⟨by rw[HE.o];rfl,kw,rfl⟩
 ·have t1:((n:Int) != (n':Int))=true:=bne_iff_ne.2 (fun e=>hnn (by omega));have t2:((n:Int)==(n':Int))=false:=beq_eq_false_iff_ne.2 (fun e=>hnn (by omega));have HE:=hid (show gY lS l l'=false from pJ (by rw[<-hn,<-hn'];exact hnn));clear hat hat' hn hn' hnn hl hl';go_enter Tryz.func74,Tryz.ntmps74
  go_wp2;refine bodyPost_ret (results_tmp (t:=4) rfl _ _ _) rfl ?_;exact ⟨by rw[HE.o];rfl,0,rfl⟩
theorem JT (w:World) (v v':Value) (l l':List Rul) (h:SlR w v 4 l bE) (h':SlR w v' 4 l' bE):
 Calls Tryz.prog 75 #[v,v'] w fun x w'=>x= .returned (.bool (gY lY l l'))/\∃k,w'=w.drewN k:=by
 obtain ⟨ao,cap,hv,hl,hat⟩:=h;obtain ⟨ao',cap',hv',hl',hat'⟩:=h';obtain ⟨n,hn⟩:=ex (l.length);obtain ⟨n',hn'⟩:=ex (l'.length);rw[<-hn]at hv hl hat;rw[<-hn']at hv' hl' hat';subst hv;subst hv';by_cases hnn:n=n'
 ·subst hnn;have Hat:=hid (And.intro hat hat');have Hn:=hid (And.intro hn hn');have Hl:=hid hl;have hN:=fun s t w=>Co s t w;clear hat hat' hn hn' hl hl';go_enter Tryz.func75,Tryz.ntmps75;go_wp2
  go_loopw [5,13] (fun v5 vi wr=>∃j:Nat,vi= .int .i64 (j:Int)/\Hid (j<=n/\(∃k,wr=w.drewN k)/\∀(i:Nat) (a b:Rul),i<j->l[i]? =some a->l'[i]? =some b->lY a b=true)) (fun _ vi _=>n-(intOf vi).toNat)
  case atStart=>exact ⟨0,rfl,hid ⟨Nat.zero_le _,⟨0,rfl⟩,fun i a b hi=>absurd hi (Nat.not_lt_zero _)⟩⟩
  case round=>
   obtain ⟨j,rfl,H⟩:=hrel;obtain ⟨hjn,⟨kw,rfl⟩,hall⟩:=H.o;by_cases hj:j<n
   ·have tj:decide (j<n)=true:=dT hj;have bj:(j:Int)<(n:Int):=by omega
    obtain ⟨s,hs⟩:∃s,l[j]? =some s:=au (by rw[<-Hn.o.1];exact hj);obtain ⟨t,ht⟩:∃t,l'[j]? =some t:=au (by rw[<-Hn.o.2];exact hj);obtain ⟨b1,o1,rfl,l1,q1⟩:=Hat.o.1 (by omega);obtain ⟨b2,o2,rfl,l2,q2⟩:=Hat.o.2 (by omega);have q1:=q1 j s hs;have q2:=q2 j t ht;have c0:(w.drewN kw).cell? ⟨b1,o1+j*4,none⟩=_:=q1 0 _ rfl;have d0:(w.drewN kw).cell? ⟨b2,o2+j*4,none⟩=_:=q2 0 _ rfl;have c1:(w.drewN kw).cell? ⟨b1,o1+j*4+1,none⟩=_:=q1 1 _ rfl
    have d1:(w.drewN kw).cell? ⟨b2,o2+j*4+1,none⟩=_:=q2 1 _ rfl;have c2:(w.drewN kw).cell? ⟨b1,o1+j*4+2,none⟩=_:=q1 2 _ rfl;have d2:(w.drewN kw).cell? ⟨b2,o2+j*4+2,none⟩=_:=q2 2 _ rfl;have c3:(w.drewN kw).cell? ⟨b1,o1+j*4+3,none⟩=_:=q1 3 _ rfl;have d3:(w.drewN kw).cell? ⟨b2,o2+j*4+3,none⟩=_:=q2 3 _ rfl;have hNe:=fun W=>hN s t W;obtain ⟨Hms,Hgo⟩:=aM (k:=j) (n:=n) hj (by have:=Hl.o;omega);cases hb:lY s t with
    |true=>
     rw[hb]at hNe;simp only[Bool.not_true]at hNe;have HH:=hid (fun k=>show j+1<=n/\(∃k',(w.drewN kw).drewN k=w.drewN k')/\∀(i:Nat) (a b:Rul),i<j+1->l[i]? =some a->l'[i]? =some b->lY a b=true from
      ⟨hj,⟨kw+k,cO _ _ _⟩,fun i a b hi h1 h2=>by
       rcases Nat.lt_succ_iff_lt_or_eq.1 hi with q|rfl
       ·exact hall i a b q h1 h2
       ·rw[hs]at h1;rw[ht]at h2;obtain rfl:=aAf h1;obtain rfl:=aAf h2;exact hb⟩)
     clear hN hall H q1 q2 hs ht hj hjn l1 l2 hb Hat Hn;go_wp2
     go_region_held3 (fun w'=>w'.cell? ⟨b1,o1+j*4,none⟩=some (.string s.path)/\w'.cell? ⟨b1,o1+j*4+1,none⟩=some (.string s.method)/\w'.cell? ⟨b1,o1+j*4+2,none⟩=some (.string s.split)/\w'.cell? ⟨b1,o1+j*4+3,none⟩=some (.bool s.allow)/\w'.cell? ⟨b2,o2+j*4,none⟩=some (.string t.path)/\w'.cell? ⟨b2,o2+j*4+1,none⟩=some (.string t.method)/\w'.cell? ⟨b2,o2+j*4+2,none⟩=some (.string t.split)/\w'.cell? ⟨b2,o2+j*4+3,none⟩=some (.bool t.allow)) (first|exact ⟨c0,c1,c2,c3,d0,d1,d2,d3⟩) (fail)
     all_goals go_wp2
     all_goals go_roundw
     all_goals first|exact ⟨j+1,Hgo.o,hid (HH.o 1)⟩|exact Hms.o
    |false=>
     rw[hb]at hNe;simp only[Bool.not_false]at hNe;have HH:=hid (fun k=>show gY lY l l'=false/\∃k',(w.drewN kw).drewN k=w.drewN k' from ⟨su hs ht hb,kw+k,cO _ _ _⟩);clear hN hall H q1 q2 hs ht hj hjn l1 l2 hb Hat Hn;go_wp2
     go_region_held3 (fun w'=>w'.cell? ⟨b1,o1+j*4,none⟩=some (.string s.path)/\w'.cell? ⟨b1,o1+j*4+1,none⟩=some (.string s.method)/\w'.cell? ⟨b1,o1+j*4+2,none⟩=some (.string s.split)/\w'.cell? ⟨b1,o1+j*4+3,none⟩=some (.bool s.allow)/\w'.cell? ⟨b2,o2+j*4,none⟩=some (.string t.path)/\w'.cell? ⟨b2,o2+j*4+1,none⟩=some (.string t.method)/\w'.cell? ⟨b2,o2+j*4+2,none⟩=some (.string t.split)/\w'.cell? ⟨b2,o2+j*4+3,none⟩=some (.bool t.allow)) (first|exact ⟨c0,c1,c2,c3,d0,d1,d2,d3⟩) (fail)
     all_goals go_wp2
     all_goals refine bodyPost_ret (results_tmp (t:=4) rfl _ _ _) rfl ?_
     all_goals obtain ⟨z1,z2⟩:=HH.o 1
     all_goals exact ⟨by rw[z1];rfl,z2⟩
   ·have tj:decide (j<n)=false:=dF hj;have HE:=hid (show gY lY l l'=true from pI (Hn.o.1.symm.trans Hn.o.2) (fun i a b h1 h2=>hall i a b (by have:=(aAh h1).1;have:=Hn.o.1;omega) h1 h2));clear hN hall H hj hjn Hat Hn;go_wp2;refine bodyPost_ret (results_tmp (t:=4) rfl _ _ _) rfl ?_;exact ⟨by rw[HE.o];rfl,kw,rfl⟩
 ·have t1:((n:Int) != (n':Int))=true:=bne_iff_ne.2 (fun e=>hnn (by omega));have t2:((n:Int)==(n':Int))=false:=beq_eq_false_iff_ne.2 (fun e=>hnn (by omega));have HE:=hid (show gY lY l l'=false from pJ (by rw[<-hn,<-hn'];exact hnn));clear hat hat' hn hn' hnn hl hl';go_enter Tryz.func75,Tryz.ntmps75
  go_wp2;refine bodyPost_ret (results_tmp (t:=4) rfl _ _ _) rfl ?_;exact ⟨by rw[HE.o];rfl,0,rfl⟩
