/-
Parts of a proof.
-/
import Derived.Test.YtfenoaeoedobmaaGreatDoorRows
import Derived.OpenShut
import Derived.ShutString
import Derived.Deep.Slices
import Derived.Test.YtfenoaeoedobmaaGreatDoorBk46
set_option linter.unusedVariables false
set_option linter.unusedSimpArgs false
set_option maxHeartbeats 8000000
set_option maxRecDepth 20000
namespace Go.Proofs.YtfenoaeoedobmaaGreatDoor
open Go Go.RowKit
def Wrote (r:Res) (t:ByteArray):Prop:=
 treeP (treeW wtF r)=true/\t.data.toList=(resF wtF r).txt 2 0/\DocG (resF wtF r)/\treeW wtF r=(resF wtF r).doc/\∃b,docP (treeW wtF r)= .ok b/\sameV b r=true
theorem a2t {r:Res} (h1:treeV r≠[]) (h2:(emitV (treeV r)).2=0):Wrote r (emitV (treeV r)).1:=by
 have hb:∃b,docP (treeW wtF r)= .ok b/\sameV b r=true/\treeV r=treeW wtF r:=by
  unfold treeV at h1 |-;cases hd:docP (treeW wtF r) with
  |error e=>rw[hd]at h1;exact absurd rfl h1
  |ok b=>
   rw[hd]at h1;simp only at h1 |-;by_cases hs:sameV b r=true
   ·rw[if_pos hs];exact ⟨b,rfl,hs,rfl⟩
   ·rw[if_neg hs]at h1;exact absurd rfl h1
 obtain ⟨b,hb1,hb2,hb3⟩:=hb;rw[hb3]at h2 |-;have ht:treeP (treeW wtF r)=true:=by
  unfold emitV at h2;by_cases ht:treeP (treeW wtF r)=false
  ·rw[if_pos ht]at h2;exact absurd h2 (by decide)
  ·simpa using ht
 have hg:=a1v wtF ht;obtain ⟨_,_,_,hw,_⟩:=aSi wtF ht;refine ⟨ht,?_,hg,hw,b,hb1,hb2⟩;unfold emitV at h2 |-;rw[if_neg (by rw[ht];decide)]at h2 |-;by_cases hl:65536<(emitL (treeW wtF r)).length
 ·rw[if_pos hl]at h2;exact absurd h2 (by decide)
 ·rw[if_neg hl]
  show (emitL (treeW wtF r)).toArray.toList=_
  rw[hw]at hl |-;rw[a1h hg.ne hg.ok (by omega)]
theorem aKi:∀(rs:List Res) (out:List ByteArray) (t:ByteArray),aDi rs out=(t,0)->∃ts,ts.length=rs.length/\t=joinV (out++ts)/\t.size<=65536/\∀(i:Nat) (r:Res) (x:ByteArray),rs[i]? =some r->ts[i]? =some x->Wrote r x
 |[],out,t,h=>by
  unfold aDi at h
  split at h
  ·cases h
  ·rename_i hl
   injection h with h1 h2
   subst h1;exact ⟨[],rfl,by rw[List.append_nil],by omega,fun i r x hr=>by simp at hr⟩
 |r::rest,out,t,h=>by
  unfold aDi at h;by_cases h1:treeV r=[]
  ·rw[if_pos h1]at h;injection h with _ h;cases h
  ·rw[if_neg h1]at h;by_cases h2:(emitV (treeV r)).2=0
   ·rw[if_neg (by simpa using h2)]at h;obtain ⟨ts,q1,q2,q3,q4⟩:=aKi rest _ t h;refine ⟨(emitV (treeV r)).1::ts,by simp[q1],by rw[q2,List.append_assoc];rfl,q3,fun i r' x hr hx=> ?_⟩;cases i with
    |zero=>
     simp at hr hx;subst hr;subst hx;exact a2t h1 h2
    |succ i=>exact q4 i r' x (by simpa using hr) (by simpa using hx)
   ·rw[if_pos (by simpa using h2)]at h;injection h with _ h
    exact absurd h h2
theorem a4b:∀Fs:List Fo,Lib.join (Fs.map (fun F=>F.txt 2 0)) sepT.data.toList=joinT Fs
 |[]=>rfl
 |[F]=>by rw[List.map_cons,List.map_nil,Lib.join_one];rfl
 |F::G::r=>by
  have ih:=a4b (G::r);rw[List.map_cons,Lib.join_cons];unfold joinT;rw[<-ih,List.map_cons,Lib.join_cons];unfold Lib.joinTail;simp[sepT]
theorem txt_ne {F:Fo} (h:F≠ .nil) (k:Int) (d:Nat):F.txt k d≠[]:=by
 cases F with
 |nil=>exact absurd rfl h
 |sc key text q nx=>intro e;have:=congrArg List.length e;simp[Fo.txt]at this
 |br kind key kids nx=>
  intro e;have:=congrArg List.length e;simp[Fo.txt]at this;by_cases hk:k=2
  ·rw[if_pos hk]at this;simp at this
  ·rw[if_neg hk]at this;simp at this
theorem a62 (rs:List Res) (ts:List ByteArray) (hl:ts.length=rs.length) (h:∀(i:Nat) (r:Res) (x:ByteArray),rs[i]? =some r->ts[i]? =some x->Wrote r x):(joinV ts).data.toList=joinT (rs.map (resF wtF)):=by
 have h1:ts.map (·.data.toList)=(rs.map (resF wtF)).map (fun F=>F.txt 2 0):=by
  apply List.ext_getElem
  ·simp[hl]
  ·intro i h1 h2;simp only[List.length_map]at h1 h2;rw[List.getElem_map,List.getElem_map,List.getElem_map];exact (h i rs[i] ts[i] (a7i h2) (a7i h1)).2.1
 have h2:fullT ts=ts:=by
  unfold fullT;rw[List.filter_eq_self];intro x hx;obtain ⟨i,hi,e⟩:=List.getElem_of_mem hx;have hw:=h i rs[i] x (a7i (by omega)) (by rw[a7i hi,e]);have hne:=hw.2.2.1.ne;have ht:=hw.2.1;rw[decide_eq_true_iff];intro e2;rw[e2]at ht;exact txt_ne hne 2 0 ht.symm
 unfold joinV;rw[h2,h1];exact a4b _
theorem aYs {rs:List Res} {t:ByteArray} (h:textV rs=(t,0)):∃L bs,aSv t.data.toList= .ok L/\L.length=rs.length/\docsP L 0= .ok bs/\bs.length=rs.length/\∀(i:Nat) (b r:Res),bs[i]? =some b->rs[i]? =some r->sameV b r=true:=by
 obtain ⟨ts,hl,ht,hs,hw⟩:=aKi rs [] t h;rw[List.nil_append]at ht;have hj:=a62 rs ts hl hw;rw[<-ht]at hj;have hr:∀(i:Nat) (r:Res),rs[i]? =some r->∃x,Wrote r x:=fun i r hi=>by
  have hlt:=(a7j hi).1;exact ⟨_,hw i r ts[i] hi (a7i (by omega))⟩
 have hG:∀F∈rs.map (resF wtF),DocG F:=fun F hF=>by
  obtain ⟨r,hr2,rfl⟩:=List.mem_map.1 hF;obtain ⟨i,hi,e⟩:=List.getElem_of_mem hr2;obtain ⟨x,hx⟩:=hr i r (by rw[a7i hi,e]);exact hx.2.2.1
 have hsz:(joinT (rs.map (resF wtF))).length<=65536:=by rw[<-hj,aAf];exact hs
 have h1:=a1n hG hsz;obtain ⟨L,h2,h3⟩:=aXm (rs.map (resF wtF)) 0 0 (toksD 0 (rs.map (resF wtF))).length hG (a7c _);have hLl:L.length=rs.length:=by
  have:=congrArg List.length h3
  simpa using this
 have hat:∀(i:Nat) (d:List Nd) (r:Res),L[i]? =some d->rs[i]? =some r->∃b,docP d= .ok b/\sameV b r=true:=fun i d r hd hri=>by
  obtain ⟨x,hx⟩:=hr i r hri;obtain ⟨_,_,_,hw4,b,hb1,hb2⟩:=hx;have e1:(L.map (·.map er))[i]? =some (d.map er):=by rw[List.getElem?_map,hd];rfl
  rw[h3,List.getElem?_map,List.getElem?_map,hri]at e1;have e2:(resF wtF r).doc=d.map er:=a7h e1;refine ⟨b,?_,hb2⟩;have e3:(treeW wtF r).map er=d.map er:=by
   rw[hw4,e2,List.map_map];rfl
  exact aXr e3 hb1
 obtain ⟨bs,hbs⟩:=aO8 L 0 (fun k d hk=>by
  have hlt:=(a7j hk).1;obtain ⟨b,hb,_⟩:=hat k d rs[k] hk (a7i (by omega));exact ⟨b,hb⟩)
 obtain ⟨g1,g2⟩:=aYr L 0 bs hbs;refine ⟨L,bs,?_,hLl,hbs,g1.trans hLl,fun i b r hb hri=> ?_⟩
 ·unfold aSv aSu;rw[hj,h1];simp only;rw[h2];rfl
 ·have hlt:=(a7j hb).1;have hd:L[i]? =some L[i]:=a7i (by omega);obtain ⟨b2,hb2,hs2⟩:=hat i _ r hd hri;have:=g2 i _ b2 hd hb2;rw[hb]at this;obtain rfl:=a7h this;exact hs2
theorem a63 {x y:Nat} (h:eqW x y=true):eqW y x=true:=by
 unfold eqW at*;have h':(Ieee.double.order x y==some .eq)=true:=h
 show (Ieee.double.order y x==some .eq)=true
 unfold Ieee.Format.order at*;generalize Ieee.double.read x=a at*;generalize Ieee.double.read y=b at*;cases a with
 |nan s f=>cases h'
 |infinity s=>
  cases b with
  |nan t g=>cases h'
  |infinity t=>cases s<;>cases t<;>first|rfl|cases h'
  |number t n j=>cases s<;>cases h'
 |number s m i=>
  cases b with
  |nan t g=>cases h'
  |infinity t=>cases t<;>cases h'
  |number t n j=>
   have h2:(compare (Ieee.signed s m (i-min i j).toNat) (Ieee.signed t n (j-min i j).toNat))= .eq:=by
    simpa[Ieee.Datum.order] using h'
   rw[Int.compare_eq_eq]at h2
   show (some (compare (Ieee.signed t n (j-min j i).toNat) (Ieee.signed s m (i-min j i).toNat))==some Ordering.eq)=true
   rw[Int.min_comm j i,<-h2];simp
theorem a2u {α:Type} {R:α->α->Prop} {w:World} {v v':Value} {sz:Nat} {xs ys:List α} {cells:α->List Value} (h:SlR w v sz xs cells) (h':SlR w v' sz ys cells) (hl2:ys.length=xs.length) (hR:∀(i:Nat) (x y:α),xs[i]? =some x->ys[i]? =some y->R x y):∃n ao cap ao' cap',n=xs.length/\v= .slice ao n cap/\v'= .slice ao' n cap'/\n<=1048576/\
 (∀i,i<n->∃x y b o b' o',R x y/\ao=some ⟨b,o,none⟩/\ao'=some ⟨b',o',none⟩/\b<w.heap.size/\b'<w.heap.size/\(∀j u,(cells x)[j]? =some u->w.cell? ⟨b,o+i*sz+j,none⟩=some u)/\(∀j u,(cells y)[j]? =some u->w.cell? ⟨b',o'+i*sz+j,none⟩=some u)):=by
 obtain ⟨ao,cap,hv,hl,hat⟩:=h;obtain ⟨ao',cap',hv',_,hat'⟩:=h';rw[hl2]at hv';refine ⟨_,ao,cap,ao',cap',rfl,hv,hv',hl,fun i hi=> ?_⟩;obtain ⟨b,o,ha,hb,hc⟩:=hat (by omega);obtain ⟨b',o',ha',hb',hc'⟩:=hat' (by omega);obtain ⟨x,hx⟩:=aAh hi;obtain ⟨y,hy⟩:∃y,ys[i]? =some y:=aAh (by omega);exact ⟨x,y,b,o,b',o',hR i x y hx hy,ha,ha',hb,hb',hc i x hx,hc' i y hy⟩
def TLike (a b:Tgt):Prop:=b.service=a.service/\b.split=a.split/\eqW a.weight b.weight=true
theorem a2v (w:World) (r:Res) (T:List Tgt) (ev tv rv ev' tv' rv':Value) (h:ResL w r ev tv rv) (h':ResL w {r with targets:=T} ev' tv' rv') (hTl:T.length=r.targets.length) (hT:∀(i:Nat) (x y:Tgt),r.targets[i]? =some x->T[i]? =some y->TLike x y):
 Calls Tryz.prog 17 #[.agg (resA r ev tv rv),.agg (resA r ev' tv' rv')] w fun e w'=>e= .returned (.bool true)/\Below w.heap.size w w':=by
 obtain ⟨W,hW⟩:∃W,W=(w.alloc (.cells (resA r ev tv rv) 49)).alloc (.cells (resA r ev' tv' rv') 49):=⟨_,rfl⟩;have hbW:Below w.heap.size w W:=by rw[hW];exact aHd _ _ _
 have hblk:∀w2,Below (w.heap.size+2) W w2->w2.heap[w.heap.size]? =some (.cells (resA r ev tv rv) 49 (0,0))/\w2.heap[w.heap.size+1]? =some (.cells (resA r ev' tv' rv') 49 (0,0)):=fun w2 hb=>by rw[hW]at hb;exact blk2 hb
 have Hkey:=hid (key_c' W r ev tv rv ev' tv' rv' _ rfl (aBk h.e) (aBk h.t) (aBk h.r) (aBk h'.e) (aBk h'.t) (aBk h'.r));obtain ⟨ne,ea,ec,ea',ec',hne,rfl,rfl,hle,he⟩:=a34 (h.e.later hbW) (h'.e.later hbW);obtain ⟨nt,ta,tc,ta',tc',hnt,rfl,rfl,hlt,ht⟩:=a2u (R:=TLike) (h.t.later hbW) (h'.t.later hbW) hTl hT;obtain ⟨nr,ra,rc,ra',rc',hnr,rfl,rfl,hlr,hr⟩:=a34 (h.r.later hbW) (h'.r.later hbW)
 have hsz:W.heap.size=w.heap.size+2:=by rw[hW];simp
 obtain ⟨b,hb⟩:∃b,b=w.heap.size:=⟨_,rfl⟩;unfold resA at hblk hW Hkey |-;have Hblk:=hid hblk;have HbW:=hid hbW;have He:=hid (And.intro hle he);have Ht:=hid (And.intro hlt ht);have Hr:=hid (And.intro hlr hr);have Hsz:=hid hsz;clear h h' hblk hbW hle he hlt ht hlr hr hne hnt hnr hsz;go_enter Tryz.func17,Tryz.ntmps17
 go_wp2_with fail
 rw[<-hW,<-hb];clear hW;refine Hkey.out.mono ?_;rintro x w1 ⟨rfl,hb1⟩;have Hb1:=hid (hb1.mono (Nat.le_of_eq Hsz.out.symm));obtain ⟨f1,f2⟩:=Hblk.out w1 Hb1.out;rw[<-hb]at f1 f2;obtain ⟨y0,y1,y2,y3,y4,y5,y6,y7⟩:=cB8 f1;obtain ⟨z0,z1,z2,z3,z4,z5,z6,z7⟩:=cB8 f2;simp at y0 y1 y2 y3 y4 y5 y6 y7 z0 z1 z2 z3 z4 z5 z6 z7;have HB:=hid hb;clear f1 f2 hb1 Hkey hb;go_wp2;clear y0 y1 y2 y3 y4 y5 y6 y7 z0 z1 z2 z3 z4 z5 z6 z7
 go_loopw [5] (fun vi wr=>∃j:Nat,vi= .int .i64 (j:Int)/\Hid (j<=ne/\Below (w.heap.size+2) W wr)) (fun vi _=>ne-(intOf vi).toNat)
 case atStart=>exact ⟨0,rfl,hid ⟨Nat.zero_le _,Hb1.out⟩⟩
 case round=>
  clear Hb1;obtain ⟨j,rfl,H⟩:=hrel;obtain ⟨f1,f2⟩:=Hblk.out wr H.out.2;rw[<-HB.out]at f1 f2;by_cases hj:j<ne
  ·have tj:decide (j<ne)=true:=dT hj;have bj:(j:Int)<(ne:Int):=by omega
   have y2:=aAa f1 2;have z2:=aAa f2 2;simp at y2 z2;obtain ⟨s,b1,o1,b2,o2,hs,rfl,rfl,l1,l2,q1,q2⟩:=He.out.2 j hj;have q3:=(H.out.2.cell (p:=⟨b1,_,none⟩) (by rw[<-Hsz.out];exact l1)).trans (q1 0 _ rfl);have q4:=(H.out.2.cell (p:=⟨b2,_,none⟩) (by rw[<-Hsz.out];exact l2)).trans (q2 0 _ rfl);simp only[Nat.mul_one,Nat.add_zero]at q3 q4;have HH:=hid (fun k=>show j+1<=ne/\Below (w.heap.size+2) W (wr.drewN k) from ⟨hj,aE9 H.out.2 k⟩)
   obtain ⟨Hms,Hgo⟩:=aA3 (k:=j) (n:=ne) hj (by have:=He.out.1;omega);clear f1 f2 q1 q2 hs H hj l1 l2;go_wp2;go_quiet (fail);go_wp2;go_roundw
   case rel=>exact ⟨j+1,Hgo.out,hid (HH.out _)⟩
   case measure=>exact Hms.out
  ·have tj:decide (j<ne)=false:=dF hj;have y2:=aAa f1 2;simp at y2;have Hb1:=hid H.out.2;clear f1 f2 H hj;go_wp2;clear y2
   go_loopw [6,7,8] (fun vi v7 v8 wr=>∃j:Nat,vi= .int .i64 (j:Int)/\Hid (j<=nt/\Below (w.heap.size+2) W wr)) (fun vi _ _ _=>nt-(intOf vi).toNat)
   case atStart=>exact ⟨0,rfl,hid ⟨Nat.zero_le _,Hb1.out⟩⟩
   case round=>
    clear Hb1;obtain ⟨j,rfl,H⟩:=hrel;obtain ⟨f1,f2⟩:=Hblk.out wr H.out.2;rw[<-HB.out]at f1 f2;by_cases hj:j<nt
    ·have tj:decide (j<nt)=true:=dT hj;have bj:(j:Int)<(nt:Int):=by omega
     have y3:=aAa f1 3;have z3:=aAa f2 3;simp at y3 z3;obtain ⟨s,s2,b1,o1,b2,o2,hs,rfl,rfl,l1,l2,q1,q2⟩:=Ht.out.2 j hj;obtain ⟨h1,h2,h3⟩:=hs;have hs:=trivial;have e1:=fun k=>(H.out.2.cell (p:=⟨b1,o1+j*3+k,none⟩) (by rw[<-Hsz.out];exact l1));have e2:=fun k=>(H.out.2.cell (p:=⟨b2,o2+j*3+k,none⟩) (by rw[<-Hsz.out];exact l2));have c0:=(e1 0).trans (q1 0 _ rfl);have c1:=(e1 1).trans (q1 1 _ rfl)
     have c2:=(e1 2).trans (q1 2 _ rfl);have d0:=(e2 0).trans (q2 0 _ rfl);have d1:=(e2 1).trans (q2 1 _ rfl);have d2:=(e2 2).trans (q2 2 _ rfl);simp only[Nat.add_zero]at c0 d0;obtain ⟨Hms,Hgo⟩:=aA3 (k:=j) (n:=nt) hj (by have:=Ht.out.1;omega);have hsf:∀(W:World) (a:Addr) (r:Nat),(store a (.float .f64 r)).run Tryz.prog W=stored Tryz.prog W a (.float .f64 r) .plain:=fun W a r=>run_store _ W a _ _ rfl
     have HE:=hid (fun o1' o2'=>show j+1<=nt/\Below (w.heap.size+2) W ((wr.alloc o1').alloc o2').drew from ⟨hj,(H.out.2.trans ((aHd wr o1' o2').mono (a7g (Nat.le_of_eq Hsz.out.symm) H.out.2.size))).drew⟩);have hf1:(FloatKind.f64.format.order s.weight s2.weight != some .eq)= !(FloatKind.f64.format.order s.weight s2.weight==some .eq):=rfl;have hf2:(FloatKind.f64.format.order s.weight s2.weight==some .eq)=true:=h3
     rw[hf2]at hf1;simp only[Bool.not_true]at hf1;have d0:=d0.trans (show some (Value.string s2.service)=some (.string s.service) by rw[h1]);have d1:=d1.trans (show some (Value.string s2.split)=some (.string s.split) by rw[h2]);clear h1 h2 h3;clear f1 f2 q1 q2 hs l1 l2 e1 e2 H hj
     all_goals
      have HS:=hid (fun w' (hw:Below wr.heap.size wr w')=>show w'.cell? ⟨b,3,none⟩=some (.slice (some ⟨b1,o1,none⟩) nt tc)/\w'.cell? ⟨b+1,3,none⟩=some (.slice (some ⟨b2,o2,none⟩) nt tc')/\w'.cell? ⟨b1,o1+j*3,none⟩=some (.string s.service)/\w'.cell? ⟨b1,o1+j*3+1,none⟩=some (.string s.split)/\w'.cell? ⟨b1,o1+j*3+2,none⟩=some (.float .f64 s.weight)/\w'.cell? ⟨b2,o2+j*3,none⟩=some (.string s.service)/\w'.cell? ⟨b2,o2+j*3+1,none⟩=some (.string s.split)/\w'.cell? ⟨b2,o2+j*3+2,none⟩=some (.float .f64 s2.weight) from
       ⟨hw.keeps y3,hw.keeps z3,hw.keeps c0,hw.keeps c1,hw.keeps c2,hw.keeps d0,hw.keeps d1,hw.keeps d2⟩)
      go_wp2
      go_region_held3 (fun w'=>w'.cell? ⟨b,3,none⟩=some (.slice (some ⟨b1,o1,none⟩) nt tc)/\w'.cell? ⟨b+1,3,none⟩=some (.slice (some ⟨b2,o2,none⟩) nt tc')/\w'.cell? ⟨b1,o1+j*3,none⟩=some (.string s.service)/\w'.cell? ⟨b1,o1+j*3+1,none⟩=some (.string s.split)/\w'.cell? ⟨b1,o1+j*3+2,none⟩=some (.float .f64 s.weight)/\w'.cell? ⟨b2,o2+j*3,none⟩=some (.string s.service)/\w'.cell? ⟨b2,o2+j*3+1,none⟩=some (.string s.split)/\w'.cell? ⟨b2,o2+j*3+2,none⟩=some (.float .f64 s2.weight)) (first|exact ⟨y3,z3,c0,c1,c2,d0,d1,d2⟩|(refine HS.out _ ?_;repeat' (first|exact a7d _ _|exact a7c _|refine Below.drew ?_|refine Below.alloc ?_ ?_ _|refine Below.setCell ?_ ?_ _|(simp;done)))) (fail)
     all_goals go_wp2
     all_goals go_roundw
     all_goals first|exact ⟨j+1,Hgo.out,hid (HE.out _ _)⟩|exact Hms.out
    ·have tj:decide (j<nt)=false:=dF hj;have y3:=aAa f1 3;simp at y3;have Hb1:=hid H.out.2;clear f1 f2 H hj;go_wp2;clear y3
     go_loopw [9] (fun vi wr=>∃j:Nat,vi= .int .i64 (j:Int)/\Hid (j<=nr/\Below (w.heap.size+2) W wr)) (fun vi _=>nr-(intOf vi).toNat)
     case atStart=>exact ⟨0,rfl,hid ⟨Nat.zero_le _,Hb1.out⟩⟩
     case round=>
      clear Hb1;obtain ⟨j,rfl,H⟩:=hrel;obtain ⟨f1,f2⟩:=Hblk.out wr H.out.2;rw[<-HB.out]at f1 f2;by_cases hj:j<nr
      ·have tj:decide (j<nr)=true:=dT hj;have bj:(j:Int)<(nr:Int):=by omega
       have y5:=aAa f1 5;have z5:=aAa f2 5;simp at y5 z5;obtain ⟨s,b1,o1,b2,o2,hs,rfl,rfl,l1,l2,q1,q2⟩:=Hr.out.2 j hj;have e1:=fun k=>(H.out.2.cell (p:=⟨b1,o1+j*4+k,none⟩) (by rw[<-Hsz.out];exact l1));have e2:=fun k=>(H.out.2.cell (p:=⟨b2,o2+j*4+k,none⟩) (by rw[<-Hsz.out];exact l2));have c0:=(e1 0).trans (q1 0 _ rfl);have c1:=(e1 1).trans (q1 1 _ rfl);have c2:=(e1 2).trans (q1 2 _ rfl);have c3:=(e1 3).trans (q1 3 _ rfl)
       have d0:=(e2 0).trans (q2 0 _ rfl);have d1:=(e2 1).trans (q2 1 _ rfl);have d2:=(e2 2).trans (q2 2 _ rfl);have d3:=(e2 3).trans (q2 3 _ rfl);simp only[Nat.add_zero]at c0 d0;have k1:=fun w=>a6h s w;have HH:=hid (fun k=>show j+1<=nr/\Below (w.heap.size+2) W (wr.drewN k) from ⟨hj,aE9 H.out.2 k⟩);obtain ⟨Hms,Hgo⟩:=aA3 (k:=j) (n:=nr) hj (by have:=Hr.out.1;omega);clear f1 f2 q1 q2 hs H hj l1 l2 e1 e2
       go_wp2;go_quiet (fail);go_wp2;go_roundw
       case rel=>exact ⟨j+1,Hgo.out,hid (HH.out _)⟩
       case measure=>exact Hms.out
      ·have tj:decide (j<nr)=false:=dF hj;have y5:=aAa f1 5;simp at y5;have HE:=hid (HbW.out.trans (H.out.2.mono (show w.heap.size<=w.heap.size+2 by omega)));clear f1 f2 H hj;go_wp2;go_ret;exact ⟨rfl,HE.out⟩
def RLike (r s:Res):Prop:=s={r with targets:=s.targets}/\s.targets.length=r.targets.length/\∀(i:Nat) (x y:Tgt),r.targets[i]? =some x->s.targets[i]? =some y->TLike x y
theorem aD8 {s t:ByteArray} (h:(s.toList==t.toList)=true):s=t:=by
 have h1:=eq_of_beq (aEb (s:=t) (l:=t.data.toList) rfl);rw[h1]at h;by_cases e:s.data.toList=t.data.toList
 ·exact aGi e
 ·rw[aF7 e]at h;cases h
theorem aQq {α:Type} {f:α->α->Bool}:∀{l m:List α},allB f l m=true->l.length=m.length/\∀(i:Nat) (x y:α),l[i]? =some x->m[i]? =some y->f x y=true
 |[],[],_=>⟨rfl,fun i x y h=>by simp at h⟩
 |[],_::_,h=>by cases h
 |_::_,[],h=>by cases h
 |a::l,b::m,h=>by
  unfold allB at h;rw[Bool.and_eq_true]at h;obtain ⟨h1,h2⟩:=aQq h.2;refine ⟨by simp[h1],fun i x y hx hy=> ?_⟩;cases i with
  |zero=>simp at hx hy;subst hx;subst hy;exact h.1
  |succ i=>exact h2 i x y (by simpa using hx) (by simpa using hy)
theorem aO9 {b r:Res} (h:sameV b r=true):RLike r b:=by
 unfold sameV at h;simp only[Bool.and_eq_true,decide_eq_true_eq]at h;obtain ⟨⟨⟨⟨⟨⟨⟨h1,h2⟩,h3⟩,h4⟩,h5⟩,h6⟩,h7⟩,h8⟩:=h;obtain ⟨t1,t2⟩:=aQq h7;obtain ⟨u1,u2⟩:=aQq h8;have hu:b.rules=r.rules:=by
  apply List.ext_getElem u1;intro i q1 q2;have:=u2 i _ _ (a7i q1) (a7i q2);unfold rulB at this;simp only[Bool.and_eq_true]at this;obtain ⟨⟨⟨a1,a2⟩,a3⟩,a4⟩:=this;have e1:=aD8 a1;have e2:=aD8 a2;have e3:=aD8 a3;have e4:=eq_of_beq a4;generalize b.rules[i]=x at*;generalize r.rules[i]=y at*;cases x;cases y;simp only at e1 e2 e3 e4;subst e1;subst e2;subst e3;subst e4
  rfl
 refine ⟨?_,t1,fun i x y hx hy=> ?_⟩
 ·have e1:=eq_of_beq h1;have e2:=aD8 h2;have e3:=aD8 h3;have e4:=aD8 h4;have e5:=eq_of_beq h5;cases b;cases r;simp only at*;subst e1;subst e2;subst e3;subst e4;subst e5;subst h6;subst hu;rfl
 ·have:=t2 i y x hy hx;unfold tgtB at this;simp only[Bool.and_eq_true]at this;exact ⟨aD8 this.1.1,aD8 this.1.2,a63 this.2⟩
theorem a2w (w:World) (V V':Value) (ms ms':List RsM) (h:RsL w V ms) (h':RsL w V' ms') (hlen:ms'.length=ms.length) (he:∀(i:Nat) (m m':RsM),ms[i]? =some m->ms'[i]? =some m'->RLike m.r m'.r):
 Calls Tryz.prog 13 #[V,V'] w fun e w'=>e= .returned (.bool true)/\Below w.heap.size w w':=by
 obtain ⟨ao,cap,rfl,hl,hat⟩:=aO5 h;obtain ⟨ao',cap',rfl,hl',hat'⟩:=aO5 h';rw[hlen];obtain ⟨n,hn⟩:∃n,n=ms.length:=⟨_,rfl⟩;have hx:∀i,i<n->∃(m m':RsM) (b o b' o':Nat),RLike m.r m'.r/\ao=some ⟨b,o,none⟩/\ao'=some ⟨b',o',none⟩/\b<w.heap.size/\b'<w.heap.size/\(∀j u,m.cells[j]? =some u->w.cell? ⟨b,o+i*8+j,none⟩=some u)/\(∀j u,m'.cells[j]? =some u->w.cell? ⟨b',o'+i*8+j,none⟩=some u)/\ResL w m.r m.ev m.tv m.rv/\ResL w m'.r m'.ev m'.tv m'.rv:=by
  intro i hi;obtain ⟨m,hm⟩:∃m,ms[i]? =some m:=aAh (by omega);obtain ⟨m',hm'⟩:∃m,ms'[i]? =some m:=aAh (by omega);obtain ⟨b,o,ha,hb,hc,hr⟩:=hat i m hm;obtain ⟨b',o',ha',hb',hc',hr'⟩:=hat' i m' hm';exact ⟨m,m',b,o,b',o',he i m m' hm hm',ha,ha',hb,hb',hc,hc',hr,hr'⟩
 rw[<-hn]at hl |-;have Hx:=hid hx;have Hl:=hid hl;have hne:((n:Int) != (n:Int))=false:=by simp
 clear h h' he hlen hl hl' hat hat' hx hn;go_enter Tryz.func13,Tryz.ntmps13;go_wp2
 go_loopw [5] (fun vi wr=>∃j:Nat,vi= .int .i64 (j:Int)/\Hid (j<=n/\Below w.heap.size w wr)) (fun vi _=>n-(intOf vi).toNat)
 case atStart=>exact ⟨0,rfl,hid ⟨Nat.zero_le _,a7d _ _⟩⟩
 case round=>
  obtain ⟨j,rfl,H⟩:=hrel;by_cases hj:j<n
  ·have tj:decide (j<n)=true:=dT hj;have bj:(j:Int)<(n:Int):=by omega
   obtain ⟨m,m',b,o,b',o',hmm,rfl,rfl,hb,hb',hc,hc',hr,hr'⟩:=Hx.out j hj;obtain ⟨r,ev,tv,rv⟩:=m;obtain ⟨r',ev',tv',rv'⟩:=m';simp only at hmm hr hr';obtain ⟨g1,g2,g3⟩:=hmm;generalize r'.targets=T at*;subst g1;have HS:=hid (a2v wr.drew r T ev tv rv ev' tv' rv' (hr.later (H.out.2.drew)) (hr'.later (H.out.2.drew)) g2 g3);clear g2 g3;obtain ⟨a1,n1,c1,e1⟩:=aBk hr.e;obtain ⟨a2,n2,c2,e2⟩:=aBk hr.t
   obtain ⟨a3,n3,c3,e3⟩:=aBk hr.r;obtain ⟨a4,n4,c4,e4⟩:=aBk hr'.e;obtain ⟨a5,n5,c5,e5⟩:=aBk hr'.t;obtain ⟨a6,n6,c6,e6⟩:=aBk hr'.r;have f:=fun i=>H.out.2.cell (p:=⟨b,o+j*8+i,none⟩) hb;have f':=fun i=>H.out.2.cell (p:=⟨b',o'+j*8+i,none⟩) hb';have y0:=(f 0).trans (hc 0 _ rfl);have y1:=(f 1).trans (hc 1 _ rfl);have y2:=(f 2).trans (hc 2 _ rfl);have y3:=(f 3).trans (hc 3 _ rfl);have y4:=(f 4).trans (hc 4 _ rfl)
   have y5:=(f 5).trans (hc 5 _ rfl);have y6:=(f 6).trans (hc 6 _ rfl);have y7:=(f 7).trans (hc 7 _ rfl);have z0:=(f' 0).trans (hc' 0 _ rfl);have z1:=(f' 1).trans (hc' 1 _ rfl);have z2:=(f' 2).trans (hc' 2 _ rfl);have z3:=(f' 3).trans (hc' 3 _ rfl);have z4:=(f' 4).trans (hc' 4 _ rfl);have z5:=(f' 5).trans (hc' 5 _ rfl);have z6:=(f' 6).trans (hc' 6 _ rfl);have z7:=(f' 7).trans (hc' 7 _ rfl);rw[e1,e2,e3,e4,e5,e6]at HS
   rw[e1]at y2;rw[e2]at y3;rw[e3]at y5;rw[e4]at z2;rw[e5]at z3;rw[e6]at z5;unfold resA at HS;simp only[Nat.add_zero]at y0 z0;have HH:=hid (fun w4 (h4:Below wr.drew.heap.size wr.drew w4)=>show j+1<=n/\Below w.heap.size w w4 from ⟨hj,H.out.2.drew.trans (h4.mono H.out.2.drew.size)⟩);obtain ⟨Hms,Hgo⟩:=aA3 (k:=j) (n:=n) hj (by have:=Hl.out;omega);clear hb hb' hc hc' hr hr' e1 e2 e3 e4 e5 e6 f f' H hj
   go_wp2
   go_still_tail 8,(by kernel_rfl)
   repeat still_step
   change wpList _ _ _ _ _ wr.drew
   go_wp2_with fail
   refine HS.out.mono ?_;rintro x w4 ⟨rfl,h4⟩;have HE:=hid (HH.out _ h4);clear h4 HS HH;go_wp2;go_roundw
   case rel=>exact ⟨j+1,Hgo.out,HE⟩
   case measure=>exact Hms.out
  ·have tj:decide (j<n)=false:=dF hj;have HE:=hid H.out.2;clear H hj;go_wp2;go_ret;exact ⟨rfl,HE.out⟩
theorem aLt:∀(rs:List Res) (out:List ByteArray),(aDi rs out).2≠0->(aDi rs out).1=⟨#[]⟩
 |[],out,h=>by
  unfold aDi at h |-
  split
  ·rfl
  ·rename_i hl;rw[if_neg hl]at h;exact absurd rfl h
 |r::rest,out,h=>by
  unfold aDi at h |-;by_cases h1:treeV r=[]
  ·rw[if_pos h1]
  ·rw[if_neg h1]at h |-;by_cases h2:(emitV (treeV r)).2≠0
   ·rw[if_pos h2]
   ·rw[if_neg h2]at h |-;exact aLt rest _ h
theorem a2x (w:World) (s:ByteArray) (hs:s.size<=1048576) (cap:Nat):SlR (Lib.bytesWorld w 5 s) (.slice (some ⟨w.heap.size,0,none⟩) s.data.toList.length cap) 1 s.data.toList byteC:=by
 refine ⟨_,cap,rfl,by rw[aAf];exact hs,fun _=>⟨w.heap.size,0,rfl,by rw[Lib.bytesWorld_size];omega,fun i x hx j u hu=> ?_⟩⟩;have hj:j=0:=by
  have:=(a7j hu).1;unfold byteC at this
  simpa using this
 subst hj;have hu2:Value.int .u8 (x.toNat:Int)=u:=by unfold byteC at hu;simpa using hu
 have hi:i<s.size:=by rw[<-aAf];exact (a7j hx).1
 rw[Nat.mul_one,Nat.zero_add,Nat.add_zero,Lib.bytesWorld_cell w 5 s i hi,List.getD_eq_getElem?_getD,hx,<-hu2];rfl
theorem aPa (w:World) (V:Value) (ms:List RsM) (h:RsL w V ms) (hz:∀m∈ms,ResZ m.r) (hg:GlobT w):
 Calls Tryz.prog 4 #[V] w fun e w'=>e= .returned (.bool true)/\Below w.heap.size w w':=by
 obtain ⟨ao,cap,hV,hl,_⟩:=aO5 h;obtain ⟨n,hn⟩:∃n,n=ms.length:=⟨_,rfl⟩;rw[<-hn]at hV hl;have Ha:=hid (a61 w hg);have Hd:=hid h;have Hz:=hid hz;have Hg:=hid (fun w2 (hb:Below w.heap.size w w2)=>hg.later hb);have Hn:=hid hn;have Hl:=hid hl;subst hV;clear h hz hg hn hl;go_enter Tryz.func4,Tryz.ntmps4
 go_wp2_with fail
 refine Ha.out.mono ?_;rintro e w0 ⟨rfl,hb0⟩;have HT:=hid (a35 w0 _ ms (Hd.out.later hb0) Hz.out (Hg.out w0 hb0));have Hb0:=hid hb0;clear hb0 Ha Hz
 go_wp2_with fail
 refine HT.out.mono ?_;unfold SText;rintro e w1 ⟨rfl,hb1⟩;have hbw1:=Hb0.out.trans (hb1.mono Hb0.out.size);have Hbw1:=hid hbw1;obtain ⟨tx,er,htx⟩:∃tx er,textV (ms.map (·.r))=(tx,er):=⟨_,_,rfl⟩;clear HT hb1 Hb0;by_cases her:er=0
 ·subst her;obtain ⟨L,bs,hp,hLl,hds,hbl,hsm⟩:=aYs htx;have hsz:tx.size<=65536:=by
   obtain ⟨_,_,_,q,_⟩:=aKi _ _ _ htx;exact q
  rw[htx];have hcv:=Lib.run_convert_string_bytes (P:= Tryz.prog) w1 9 42 5 tx Tryz.underlying9 Tryz.underlying42 Tryz.underlying5;have hge:=grownCap_ge w1 tx.size 0 5;obtain ⟨kc,hkc⟩:∃kc,kc=grownCap w1 tx.size 0 5 :=⟨_,rfl⟩;obtain ⟨w2,hw2⟩:∃w2,w2=Lib.bytesWorld w1 5 tx:=⟨_,rfl⟩;have hb2:Below w1.heap.size w1 w2:=by rw[hw2];exact Lib.bytesWorld_below _ _ _
  have hsl:=a2x w1 tx (by omega) kc;rw[<-hw2]at hsl;rw[<-hkc]at hcv hge;rw[<-hw2]at hcv;have hbw2:=hbw1.trans (hb2.mono hbw1.size);have hP:=aYp w2 tx.data.toList (some ⟨w1.heap.size,0,none⟩) kc hsl (by rw[aAf];exact hge) (Hg.out w2 hbw2).gl;rw[hp,aAf]at hP;have HP:=hid hP;have Hbw2:=hid hbw2;have HLl:=hid (And.intro hLl (And.intro hbl hsm));have Hds:=hid hds;clear hP hbw2 hsl hw2 hkc hge hsz hp hLl hds hbl hsm hbw1 hb2 Hbw1 htx
  simp only
  go_wp2_with fail
  refine HP.out.mono ?_;unfold SPar;rintro x w3 ⟨⟨V3,n3,ds,rfl,hro,hn3,hn3b,hdn⟩,hb3⟩;have hbw3:Below w.heap.size w w3:=Hbw2.out.trans (hb3.mono Hbw2.out.size);have hnn:n3=n:=by
   have h1:=congrArg List.length hdn;unfold docsN at h1;rw[List.length_map,HLl.out.1,List.length_map,<-Hn.out]at h1;omega
  obtain ⟨w4,hw4⟩:∃w4,w4=w3.alloc (.cells #[.int .i64 0,.int .i64 0,.int .i64 0] 27):=⟨_,rfl⟩;have hb4:Below w3.heap.size w3 w4:=by rw[hw4];exact (a7d _ _).alloc (a7c _) _
  have hbw4:=hbw3.trans (hb4.mono hbw3.size);have hD:=aRy w4 V3 ds ((hro.later hb4).docs hn3 hn3b) (Hg.out w4 hbw4).gl;rw[hdn,Hds.out]at hD;have HD:=hid hD;obtain ⟨va,vc,hV3⟩:∃a c,V3= .slice a n c:=by
   obtain ⟨a,c,e,_⟩:=(hro.docs hn3 hn3b).sl;exact ⟨a,c,by rw[e,<-hn3,hnn]⟩
  have Hbw4:=hid hbw4;have hmm:((n:Int) != (n:Int))=false:=by simp
  subst hV3;clear hD hro hn3 hn3b hdn hb3 hbw3 hnn hb4 hbw4 HP hcv
  go_wp2_with fail
  rw[<-hw4];clear hw4;refine HD.out.mono ?_;unfold SDec;rintro x w5 ⟨⟨V5,n5,ms5,rfl,hro5,hn5,hn5b,hms5⟩,hb5⟩;have hL5:=hro5.toL hn5 hn5b;have hbw5:Below w.heap.size w w5:=Hbw4.out.trans (hb5.mono Hbw4.out.size);have hl5:ms5.length=ms.length:=by
   have h1:=congrArg List.length hms5;rw[List.length_map,HLl.out.2.1,List.length_map]at h1;exact h1
  have hlike:∀(i:Nat) (m m':RsM),ms[i]? =some m->ms5[i]? =some m'->RLike m.r m'.r:=fun i m m' hm hm'=>aO9 (HLl.out.2.2 i m'.r m.r (by rw[<-hms5,List.getElem?_map,hm'];rfl) (by rw[List.getElem?_map,hm];rfl));obtain ⟨w6,hw6⟩:∃w6,w6=w5.alloc (.cells #[.int .i64 0,.int .i64 0,.int .i64 0] 27):=⟨_,rfl⟩;have hb6:Below w5.heap.size w5 w6:=by rw[hw6];exact (a7d _ _).alloc (a7c _) _
  have hbw6:=hbw5.trans (hb6.mono hbw5.size);have HS:=hid (a2w w6 _ V5 ms ms5 (Hd.out.later hbw6) (hL5.later hb6) hl5 hlike);obtain ⟨va5,vc5,hV5⟩:∃a c,V5= .slice a n5 c:=by
   obtain ⟨a,c,e,_⟩:=hL5.sl;exact ⟨a,c,by rw[e,<-hn5]⟩
  have Hbw6:=hid hbw6;subst hV5;clear hro5 hn5 hn5b hms5 hb5 hL5 hbw5 hl5 hlike hb6 hbw6 HD Hbw4 HLl Hds Hd Hg
  go_wp2_with fail
  rw[<-hw6];clear hw6;refine HS.out.mono ?_;rintro x w7 ⟨rfl,hb7⟩;have HE:=hid (Hbw6.out.trans (hb7.mono Hbw6.out.size));clear hb7 HS Hbw6;go_wp2;refine bodyPost_ret (results_tmp (t:=2) rfl _ _ _) rfl ⟨rfl,HE.out⟩
 ·have he:tx=⟨#[]⟩:=by
   have:=aLt (ms.map (·.r)) [] (by show (textV _).2≠0;rw[htx];exact her);rw[show aDi (ms.map (·.r)) []=(tx,er) from htx]at this;exact this
  rw[htx];subst he;have t1:(er != 0)=true:=bne_iff_ne.2 her;clear her htx hbw1 Hd Hg;go_wp2;refine bodyPost_ret (results_tmp (t:=2) rfl _ _ _) rfl ⟨rfl,Hbw1.out⟩
end Go.Proofs.YtfenoaeoedobmaaGreatDoor
namespace Go.Proofs.YtfenoaeoedobmaaGreatDoor
open Go Go.ChangeShapes Go.WideShapes Go.ChangeAt Go.RowKit Go.Deep
theorem aLu {H:Type} (d:DataW H):1<=Rows.uptoBulk d:=by
 cases d with
 |lit l=>cases l<;>simp[Rows.uptoBulk]
 |nil=>simp[Rows.uptoBulk]
 |ptr d=>simp[Rows.uptoBulk]
 |slice elems spare=>simp[Rows.uptoBulk]
 |agg parts=>simp[Rows.uptoBulk]
 |iface t d=>simp[Rows.uptoBulk]
 |map entries=>simp[Rows.uptoBulk]
 |held h=>simp[Rows.uptoBulk]
theorem aQr {H:Type} {d:DataW H} {l:List (DataW H)} (h:d∈l):Rows.uptoBulk d<=Rows.uptoBulkAll l:=by
 induction l with
 |nil=>cases h
 |cons x r ih=>
  simp only[Rows.uptoBulkAll];cases List.mem_cons.1 h with
  |inl e=>subst e;omega
  |inr e=>have:=ih e;omega
theorem aKj {H:Type} (l:List (DataW H)):l.length<=Rows.uptoBulkAll l:=by
 induction l with
 |nil=>simp[Rows.uptoBulkAll]
 |cons x r ih=>have:=aLu x;simp only[Rows.uptoBulkAll,a7f];omega
theorem cellsI: Tryz.prog.cellsOf 3 =1:=by kernel_rfl
theorem cellsB: Tryz.prog.cellsOf 4 =1:=by kernel_rfl
theorem a4c: Tryz.prog.cellsOf 9 =1:=by kernel_rfl
theorem aFa {cs:List Value} {o:Nat} {v:Value} (h:(cs.drop o).take 1=[v]):cs[o]? =some v:=by
 have h1:((cs.drop o).take 1)[0]? =some v:=by rw[h];rfl
 simpa[List.getElem?_take,List.getElem?_drop] using h1
section
variable {H:Type} {enc:TypeId×Value->H} {W:World} {sp:Nat->Bool} {held:Bool} {n:Nat}
theorem fld {fs:Array Field} {xs:List (DataW H×List MemPlace)} {cs:List Value} {base:Nat} (hf:∀(i:Nat) (f:Field),fs[i]? =some f->DataW.trod enc Tryz.prog W base sp held n f.type ((cs.drop f.offset).take (Tryz.prog.cellsOf f.type))=xs[i]?)
 (hl:xs.length=fs.size) (i:Nat) (f:Field) (hi:fs[i]? =some f):∃y,y∈xs/\DataW.trod enc Tryz.prog W base sp held n f.type ((cs.drop f.offset).take (Tryz.prog.cellsOf f.type))=some y:=by
 have hlt:i<xs.length:=by rw[hl];exact (Array.getElem?_eq_some_iff.1 hi).1
 exact ⟨xs[i],List.getElem_mem hlt,(hf i f hi).trans (a7i hlt)⟩
theorem leafI {base:Nat} {cs:List Value} {o:Nat} {y:DataW H×List MemPlace} (h:DataW.trod enc Tryz.prog W base sp held n 3 ((cs.drop o).take (Tryz.prog.cellsOf 3))=some y):∃z:Int,cs[o]? =some (.int .i64 z)/\I64 z:=by
 rw[cellsI]at h;obtain ⟨z,e,_,hw⟩:=DataW.trod_int Tryz.underlying3 h;exact ⟨z,aFa e,by simpa[Lit.wf,IntKind.min,IntKind.max,IntKind.signed,IntKind.bits] using hw⟩
theorem leafB {base:Nat} {cs:List Value} {o:Nat} {y:DataW H×List MemPlace} (h:DataW.trod enc Tryz.prog W base sp held n 4 ((cs.drop o).take (Tryz.prog.cellsOf 4))=some y):∃z:Bool,cs[o]? =some (.bool z):=by
 rw[cellsB]at h;obtain ⟨z,e,_⟩:=DataW.trod_bool Tryz.underlying4 h;exact ⟨z,aFa e⟩
theorem leafS {base:Nat} {cs:List Value} {o:Nat} {y:DataW H×List MemPlace} (h:DataW.trod enc Tryz.prog W base sp held n 9 ((cs.drop o).take (Tryz.prog.cellsOf 9))=some y):∃s:ByteArray,cs[o]? =some (.string s)/\s.size<=Rows.uptoBulk y.1:=by
 rw[a4c]at h;obtain ⟨s,e,rfl,_⟩:=DataW.trod_string Tryz.underlying9 h;refine ⟨s,aFa e,?_⟩;simp only[Rows.uptoBulk];rw[Array.length_toList,ByteArray.size_data];omega
theorem aHg {xs:List (DataW H×List MemPlace)} {y:DataW H×List MemPlace} (h:y∈xs):Rows.uptoBulk y.1<=Rows.uptoBulk (.agg (xs.map (·.1))):=by
 have:=aQr (List.mem_map.2 ⟨y,h,rfl⟩:y.1∈xs.map (·.1));simp only[Rows.uptoBulk];omega
end
section
variable {H:Type} {enc:TypeId×Value->H} {W:World} {sp:Nat->Bool} {held:Bool} {base:Nat}
theorem slr_in {α:Type} {T E:TypeId} {sz n:Nat} {cs:List Value} {x:DataW H×List MemPlace} (cells:α->List Value) (good:α->Nat->Prop) (hT: Tryz.prog.underlying T=some (.slice E)) (hE: Tryz.prog.cellsOf E=sz) (hsz:0<sz) (hlen:∀a,(cells a).length=sz)
 (elem:∀m cs y,DataW.trod enc Tryz.prog W base sp held m E cs=some y->∃a:α,(∀(j:Nat) (u:Value),(cells a)[j]? =some u->cs[j]? =some u)/\good a (Rows.uptoBulk y.1))
 (h:DataW.trod enc Tryz.prog W base sp held n T cs=some x):
 ∃(ao:Option Addr) (cap:Nat) (xs:List α),cs=[.slice ao xs.length cap]/\xs.length<=Rows.uptoBulk x.1/\(0<xs.length->∃b o,ao=some ⟨b,o,none⟩/\b<W.heap.size/\∀i a,xs[i]? =some a->∀j u,(cells a)[j]? =some u->W.cell? ⟨b,o+i*sz+j,none⟩=some u)/\∀a∈xs,∃B,B<=Rows.uptoBulk x.1/\good a B:=by
 rcases open_slice hT h with ⟨hcs,_⟩|⟨a,len,cap,m,nn,D,Pl,hcs,hb,hl,hm,hmm,hx,hi⟩
 ·exact ⟨none,0,[],hcs,Nat.zero_le _,(fun h=>absurd h (Nat.lt_irrefl 0)),(fun a h=>by cases h)⟩
 ·have hlm:len<=m:=by rw[hmm];split<;>omega
  have hd:x.1= .slice ((List.range len).map D) ((List.range (m-len)).map fun j=>D (len+j)):=congrArg Prod.fst hx;have hDi:∀i,i<len->Rows.uptoBulk (D i)<=Rows.uptoBulk x.1:=fun i hlt=>by
   rw[hd];simp only[Rows.uptoBulk];have:=aQr (List.mem_map.2 ⟨i,List.mem_range.2 hlt,rfl⟩:D i∈(List.range len).map D);omega
  have hle:len<=Rows.uptoBulk x.1:=by
   rw[hd];simp only[Rows.uptoBulk];have:=aKj ((List.range len).map D);simp at this;omega
  have key:∀i:Fin len,∃o:α,(∀(j:Nat) (u:Value),(cells o)[j]? =some u->W.cell? (a.add (i*sz+j))=some u)/\good o (Rows.uptoBulk (D i)):=by
   intro ⟨i,hlt⟩;obtain ⟨cs',hc,ht⟩:=hi i (by omega);obtain ⟨o,ho,hw⟩:=elem _ _ _ ht;rw[hE]at hc;obtain ⟨_,hcl,hat⟩:=World.cells?_some hc;refine ⟨o,fun j u hj=> ?_,hw⟩;have hlt2:j<sz:=by rw[<-hlen o];exact (a7j hj).1
   rw[<-Go.Deep.add_add,hat j hlt2];exact ho j u hj
  obtain ⟨C,hC⟩:=Classical.axiomOfChoice key;have hget:∀(i:Nat) (z:α),(List.ofFn C)[i]? =some z->∃h:i<len,C ⟨i,h⟩=z:=fun i z hz=>by
   rw[List.getElem?_ofFn]at hz
   split at hz
   ·exact ⟨by assumption,a7h hz⟩
   ·cases hz
  refine ⟨some a,cap,List.ofFn C,by rw[hcs,List.length_ofFn],by rw[List.length_ofFn];exact hle,fun h0=> ?_,fun z hz=> ?_⟩
  ·rw[List.length_ofFn]at h0;obtain ⟨u0,hu0⟩:∃u0,(cells (C ⟨0,h0⟩))[0]? =some u0:=⟨_,a7i (by rw[hlen];exact hsz)⟩;have hc0:=(hC ⟨0,h0⟩).1 0 u0 hu0;obtain ⟨g,o,spn⟩:=a;have hsp:spn=none:=by
    cases spn with
    |none=>rfl
    |some k=>simp[Addr.add,World.cell?]at hc0;split at hc0<;>cases hc0
   subst hsp;refine ⟨g,o,rfl,by simpa[Addr.add] using World.block_lt_of_cell? W _ hc0,fun i z hz j u hj=> ?_⟩;obtain ⟨hlt,hz2⟩:=hget i z hz;rw[<-hz2]at hj;have q:=(hC ⟨i,hlt⟩).1 j u hj;rw[Addr.add_lit]at q;rw[Nat.add_assoc];exact q
  ·obtain ⟨i,hi2,hzi⟩:=List.getElem_of_mem hz;obtain ⟨hlt,hz2⟩:=hget i z (by rw[a7i hi2,hzi]);exact ⟨_,hDi i hlt,by rw[<-hz2];exact (hC ⟨i,hlt⟩).2⟩
theorem slrS {α:Type} {sz:Nat} {cells:α->List Value} {ao:Option Addr} {cap:Nat} {xs:List α} (h1:xs.length<=1048576) (h:0<xs.length->∃b o,ao=some ⟨b,o,none⟩/\b<W.heap.size/\∀i a,xs[i]? =some a->∀j u,(cells a)[j]? =some u->W.cell? ⟨b,o+i*sz+j,none⟩=some u):SlR W (.slice ao xs.length cap) sz xs cells:=
 ⟨ao,cap,rfl,h1,h⟩
end
