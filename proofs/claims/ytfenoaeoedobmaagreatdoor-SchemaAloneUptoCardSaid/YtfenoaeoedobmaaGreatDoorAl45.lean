/-
Parts of a proof.
-/
import Derived.Test.YtfenoaeoedobmaaGreatDoorRows
import Derived.Test.YtfenoaeoedobmaaGreatDoorCards
import Derived.Test.YtfenoaeoedobmaaGreatDoorTie
import Derived.OpenShut
import Derived.ShutString
import Derived.Deep.Slices
import Derived.Deep.DeepHandedRow
import Derived.Lib.LaidTab
import Derived.Stop.LaidErr
import Derived.Shelf.Vars
import Derived.Test.YtfenoaeoedobmaaGreatDoorAl44
set_option linter.unusedVariables false
set_option linter.unusedSimpArgs false
set_option maxHeartbeats 8000000
set_option maxRecDepth 100000
namespace Go.Proofs.YtfenoaeoedobmaaGreatDoor
open Go Go.RowKit
theorem aQo:∀(N:List (List Nd)) (s i:Nat) (e:Stop),(∀(k:Nat),k<i->∃(d:List Nd) (x:Res),N[k]? =some d/\docP d= .ok x)->(∃d:List Nd,N[i]? =some d/\docP d= .error e)->docsP N s= .error (s+i,e)
 |[],s,i,e,_,⟨d,h,_⟩=>by simp at h
 |y::r,s,0,e,_,⟨d,h,he⟩=>by
  simp at h;subst h;rw[aFb he];rfl
 |y::r,s,i+1,e,hk,⟨d,h,he⟩=>by
  obtain ⟨d0,x,h0,hx⟩:=hk 0 (Nat.zero_lt_succ _);simp at h0;subst h0;rw[aFj hx,aQo r (s+1) i e (fun k hki=>by
   obtain ⟨d1,x1,h1,h2⟩:=hk (k+1) (by omega);exact ⟨d1,x1,by simpa using h1,h2⟩) ⟨d,by simpa using h,he⟩,show s+1+i=s+(i+1) by omega]
  rfl
theorem aNg:∀(N:List (List Nd)) (s:Nat),(∀(k:Nat) (d:List Nd),N[k]? =some d->∃x,docP d= .ok x)->∃L,docsP N s= .ok L
 |[],s,_=>⟨[],rfl⟩
 |y::r,s,h=>by
  obtain ⟨x,hx⟩:=h 0 y rfl;obtain ⟨L,hL⟩:=aNg r (s+1) (fun k d hk=>h (k+1) d (by simpa using hk));exact ⟨x::L,by rw[aFj hx,hL];rfl⟩
theorem aVy:∀(N:List (List Nd)) (s:Nat) (L:List Res),docsP N s= .ok L->L.length=N.length/\∀(i:Nat) (d:List Nd) (x:Res),N[i]? =some d->docP d= .ok x->L[i]? =some x
 |[],s,L,h=>by
  unfold docsP at h;injection h with h
  subst h;exact ⟨rfl,fun i d x hd=>by simp at hd⟩
 |y::r,s,L,h=>by
  cases hy:docP y with
  |error e=>rw[aFb hy]at h;cases h
  |ok x=>
   rw[aFj hy]at h;cases hr:docsP r (s+1) with
   |error e=>rw[hr]at h;cases h
   |ok l=>
    rw[hr]at h;unfold preP at h;injection h with h
    obtain ⟨h1,h2⟩:=aVy r (s+1) l hr;subst h;refine ⟨by simp[h1],fun i d z hd hz=> ?_⟩;cases i with
    |zero=>
     simp at hd;subst hd;rw[hy]at hz;injection hz with hz
     subst hz;rfl
    |succ i=>exact h2 i d z (by simpa using hd) hz
theorem a3e {N:List (List Nd)} {s:Nat} {e:Nat×Stop} (h:docsP N s= .error e):e.2.2≠0:=by
 induction N generalizing s with
 |nil=>cases h
 |cons y r ih=>
  cases hy:docP y with
  |error e2=>
   rw[aFb hy]at h;injection h with h
   subst h;exact aP2 y e2 hy
  |ok x=>
   rw[aFj hy]at h;cases hr:docsP r (s+1) with
   |error e3=>
    rw[hr]at h;injection h with h
    subst h;exact ih hr
   |ok l=>rw[hr]at h;cases h
theorem sl_one (W:World) (b o n cap j:Nat) (hj:j<n) (hn:n<=cap):(Instr.sliceAt 22 (.slice (some ⟨b,o,none⟩) n cap) (some (.int .i64 (j:Int))) (some (.int .i64 ((j:Int)+1))) none).run Tryz.prog W= .ok (.slice (some ⟨b,o+j,none⟩) 1 (cap-j)) W:=by
 have ht:= Tryz.underlying22;have he: Tryz.prog.elem 22 = 33 :=by simp[Program.elem,ht]
 have hr:=run_slice_lh (P:= Tryz.prog) W 22 (some ⟨b,o,none⟩) n cap (by rw[he];exact ht) .i64 .i64 (j:Int) ((j:Int)+1) (by omega) (by omega) (by omega);have hs:(sizeOf (Tryz.prog.elem 22)).run Tryz.prog W= .ok 1 W:=by rw[he];kernel_rfl
 rw[run_sliceAt_slice (P:= Tryz.prog) W _ _ _ _ _ (by rw[he];exact ht),hr,hs];simp only[Result.andThen_ok,sliced];rw[if_neg (by omega)];have e1:((j:Int)+1).toNat-(j:Int).toNat=1:=by omega
 rw[e1,Int.toNat_natCast];simp[Addr.add]
theorem aZo {w:World} {b o n cap:Nat} {ds:List DocV} (h:DocsR w (.slice (some ⟨b,o,none⟩) n cap) ds) (hn:n=ds.length) {j:Nat} {d:DocV} (hd:ds[j]? =some d) (c:Nat):DocsR w (.slice (some ⟨b,o+j,none⟩) 1 c) [d]:=by
 obtain ⟨ao,cap2,hv,hl,hat⟩:=h.sl;injection hv with h1 h2 h3
 have hj:=(a3r hd).1;obtain ⟨b2,o2,ha,hb,hc⟩:=hat (by omega);rw[<-h1]at ha;injection ha with ha
 injection ha with q1 q2 _
 subst q1;subst q2;refine ⟨⟨_,c,rfl,by show 1<=1048576;decide,fun _=>⟨b,o+j,rfl,hb,fun i x hx k u hu=> ?_⟩⟩,fun x hx=> ?_⟩
 ·have hi:i=0:=by have:=(a3r hx).1;simpa using this
  subst hi;simp at hx;subst hx;have:=hc j d hd k u hu;rw[Nat.mul_one]at this;rw[Nat.zero_mul,Nat.add_zero];exact this
 ·rw[List.mem_singleton.1 hx];exact h.each d (List.mem_of_getElem? hd)
theorem aLt (w:World) (V:Value) (ds:List DocV) (h:DocsR w V ds) (hcap:∀a n c,V= .slice a n c->n<=c) (hg:GlobT w):
 Calls Tryz.prog 5 #[V] w fun e w'=>e= .returned (.bool true)/\Below w.heap.size w w':=by
 obtain ⟨ao,cap,rfl,hl,hat⟩:=h.sl;have hcap:=hcap _ _ _ rfl;obtain ⟨n,hn⟩:∃n,n=ds.length:=⟨_,rfl⟩;rw[<-hn]at hl hat hcap h |-;have Ha:=hid (a3c w hg);have Hd:=hid h;have Hg:=hid (fun w2 (hb:Below w.heap.size w w2)=>(hg.later hb).gl);have Hn:=hid (And.intro hn (And.intro hl hcap));have Hat:=hid hat;clear h hn hl hat hcap hg;go_enter Tryz.func5,Tryz.ntmps5
 go_wp2_with fail
 refine Ha.out.mono ?_;rintro e w0 ⟨rfl,hb0⟩;have Ho:=hid (own_c w0 _ ds (Hd.out.later hb0));have Hb0:=hid hb0;clear hb0 Ha
 go_wp2_with fail
 refine Ho.out.mono ?_;rintro e w1 ⟨V1,n1,ds1,rfl,hn1,hro,hN⟩;have hb1:=Hb0.out.trans (hro.row.below.mono Hb0.out.size);have hdl:ds1.length=ds.length:=by
  have h1:=congrArg List.length hN;unfold docsN at h1
  rwa [List.length_map,List.length_map]at h1
 have hd1:DocsR w1 V1 ds1:=hro.docs hn1 (by rw[hn1,hdl,<-Hn.out.1];exact Hn.out.2.1);have Hb1:=hid hb1;have hdec0:=aLe w1 V1 ds1 hd1 (Hg.out w1 hb1);rw[hN]at hdec0;have Hdec:=hid hdec0;clear hdec0 hn1 hro hN hb1 hdl hd1 Ho Hb0
 go_wp2_with fail
 refine Hdec.out.mono ?_;intro e w2 hdec;obtain ⟨L,ms,fd,fl,fc,rfl,hL,hb2,hu⟩:=hdec.uni;obtain ⟨w3,hw3⟩:∃w3,w3=w2.alloc (.cells #[.int .i64 fd,.int .i64 fl,.int .i64 fc] 27):=⟨_,rfl⟩;have hb3:Below w2.heap.size w2 w3:=by rw[hw3];exact (a3l _ _).alloc (a3k _) _
 have hf3:w3.heap[w2.heap.size]? =some (.cells #[.int .i64 fd,.int .i64 fl,.int .i64 fc] 27 (0,0)):=by rw[hw3];exact aAc _
 have hbw3:Below w.heap.size w w3:=(Hb1.out.trans (hb2.mono Hb1.out.size)).trans (hb3.mono (a3o Hb1.out.size hb2.size));obtain ⟨fb,hfb⟩:∃fb,fb=w2.heap.size:=⟨_,rfl⟩;rw[<-hfb]at hf3;obtain ⟨la,lc,hLv⟩:∃a c,L= .slice a ms.length c:=by
  obtain ⟨a,c,e,_⟩:=hL.sl;exact ⟨a,c,e⟩
 obtain ⟨q,hq⟩:∃q,q=ms.length:=⟨_,rfl⟩;rw[<-hq]at hLv;have Hu:=hid hu;have HL:=hid (hL.later hb3);have Hf3:=hid hf3;have Hb3:=hid hbw3;have Hq:=hid hq;subst hLv;clear Hdec hdec hL hb2 hu hb3 hf3 hbw3 Hb1 hq;go_wp2;rw[<-hw3,<-hfb];clear hw3 hfb
 go_loopw [5] (fun vi wr=>∃j:Nat,vi= .int .i64 (j:Int)/\Hid (j<=n/\Below w3.heap.size w3 wr/\∀(k:Nat),k<j->∃(d:List Nd) (x:Res),(docsN ds)[k]? =some d/\docP d= .ok x)) (fun vi _=>n-(intOf vi).toNat)
 case atStart=>exact ⟨0,rfl,hid ⟨Nat.zero_le _,a3l _ _,fun k hk=>absurd hk (Nat.not_lt_zero _)⟩⟩
 case round=>
  obtain ⟨j,rfl,H⟩:=hrel;by_cases hj:j<n
  ·have tj:decide (j<n)=true:=dT hj;obtain ⟨d,hd⟩:∃d,ds[j]? =some d:=aAh (by rw[<-Hn.out.1];exact hj);obtain ⟨b,o,rfl,hbb,_⟩:=Hat.out (by omega);have hbwr:Below w.heap.size w wr:=Hb3.out.trans (H.out.2.1.mono Hb3.out.size);have hsub:=aZo (Hd.out.later hbwr) Hn.out.1 hd (cap-j);have hsl:=fun W=>sl_one W b o n cap j hj Hn.out.2.2;have wj:wrap64 ((j:Int)+1)=(j:Int)+1:=aAv (by omega) (by have:=Hn.out.2.1;omega)
   have Ho:=hid (own_c wr _ [d] hsub);obtain ⟨Hms,Hgo⟩:=aAt (k:=j) (n:=n) hj (by have:=Hn.out.2.1;omega);have hNd:(docsN ds)[j]? =some (nds d.ms):=by unfold docsN;rw[List.getElem?_map,hd];rfl
   have hN1:docsN [d]=[nds d.ms]:=rfl;have HNd:=hid hNd;have Hj:=hid hj;have Hr:=hid (And.intro hbwr H.out.2);clear hd hbb hbwr hsub hNd H hj
   go_wp2_with fail
   refine Ho.out.mono ?_;rintro e w4 ⟨V2,n2,ds2,rfl,hn2,hro,hN⟩;have hb4:=hro.row.below;rw[hN1]at hN;have hd2:DocsR w4 V2 ds2:=hro.docs hn2 (by
    have h1:=congrArg List.length hN;unfold docsN at h1;rw[List.length_map]at h1;rw[hn2,h1]
    show 1<=1048576
    decide)
   have hdec0:=aLe w4 V2 ds2 hd2 (Hg.out w4 (Hr.out.1.trans (hb4.mono Hr.out.1.size)));rw[hN]at hdec0;have Hdec:=hid hdec0;have Hb4:=hid hb4;clear hdec0 hn2 hro hN hd2 hb4 Ho hN1 hsl
   go_wp2_with fail
   refine Hdec.out.mono ?_;intro e w5 hdec;cases hdp:docP (nds d.ms) with
   |error er=>
    have hnz:=aP2 _ _ hdp;have hfull:=aQo (docsN ds) 0 j er Hr.out.2.2 ⟨_,HNd.out,hdp⟩;rw[aFb hdp]at hdec;unfold SDec at hdec;obtain ⟨rfl,hb5⟩:=hdec;have hu2:=Hu.out;rw[hfull,Nat.zero_add]at hu2;unfold uniX at hu2;simp only[Prod.mk.injEq]at hu2;obtain ⟨u1,u2,u3,u4⟩:=hu2;have hq0:q=0:=by rw[Hq.out,<-List.length_map (f:=fun x=>RsM.r x),u1];rfl
    subst hq0;subst u2;subst u3;subst u4;have hbw5:Below w.heap.size w w5:=(Hr.out.1.trans (Hb4.out.mono Hr.out.1.size)).trans (hb5.mono (a3o Hr.out.1.size Hb4.out.size));have hb35:Below w3.heap.size w3 w5:=(Hr.out.2.1.trans (Hb4.out.mono Hr.out.2.1.size)).trans (hb5.mono (a3o Hr.out.2.1.size Hb4.out.size));have hf:=fun ob=>(aAe (w:=w5) ob (aAb ((hb35.block _ (aAb Hf3.out)).trans Hf3.out))).trans ((hb35.block _ (aAb Hf3.out)).trans Hf3.out)
    have y0:=fun ob=>aAa (hf ob) 0;have y1:=fun ob=>aAa (hf ob) 1;have y2:=fun ob=>aAa (hf ob) 2;simp at y0 y1 y2;have t1:(er.2 != 0)=true:=bne_iff_ne.2 hnz;have HE:=hid (fun ob=>hbw5.trans ((a3l _ _).alloc (a3k _) ob |>.mono hbw5.size));have tz:(((0:Nat):Int)==0)=true:=rfl;clear hnz hfull hb5 u1 hbw5 hb35 hf hdp Hdec;go_wp2;refine bodyPost_ret (results_tmp (t:=2) rfl _ _ _) rfl ⟨rfl,HE.out _⟩
   |ok x=>
    rw[aFj hdp]at hdec;have hdec2:SDec w4 (.ok [x]) e w5:=hdec;unfold SDec at hdec2;obtain ⟨⟨V3,n3,ms3,rfl,hro3,hn3,hn3b,hms3⟩,hb5⟩:=hdec2;obtain ⟨m,hm,hmr⟩:∃m,ms3=[m]/\m.r=x:=by
     cases ms3 with
     |nil=>cases hms3
     |cons m l=>
      rw[List.map_cons]at hms3;injection hms3 with h1 h2
      cases l with
      |nil=>exact ⟨m,rfl,h1⟩
      |cons y l=>cases h2
    subst hm;have hL3:=hro3.toL hn3 hn3b;have hbw5:Below w.heap.size w w5:=(Hr.out.1.trans (Hb4.out.mono Hr.out.1.size)).trans (hb5.mono (a3o Hr.out.1.size Hb4.out.size));have hb35:Below w3.heap.size w3 w5:=(Hr.out.2.1.trans (Hb4.out.mono Hr.out.2.1.size)).trans (hb5.mono (a3o Hr.out.2.1.size Hb4.out.size));obtain ⟨w6,hw6⟩:∃w6,w6=w5.alloc (.cells #[.int .i64 0,.int .i64 0,.int .i64 0] 27):=⟨_,rfl⟩
    have hb6:Below w5.heap.size w5 w6:=by rw[hw6];exact (a3l _ _).alloc (a3k _) _
    have hg6:w6.heap[w5.heap.size]? =some (.cells #[.int .i64 0,.int .i64 0,.int .i64 0] 27 (0,0)):=by rw[hw6];exact aAc _
    have hb36:Below w3.heap.size w3 w6:=hb35.trans (hb6.mono hb35.size);have hf:=(hb36.block _ (aAb Hf3.out)).trans Hf3.out;have y2:=aAa hf 2;have g2:=aAa hg6 2;simp at y2 g2;have hall:∀(k:Nat),k<j+1->∃(d:List Nd) (x:Res),(docsN ds)[k]? =some d/\docP d= .ok x:=fun k hk=>by
     rcases Nat.lt_succ_iff_lt_or_eq.1 hk with q|rfl
     ·exact Hr.out.2.2 k q
     ·exact ⟨_,_,HNd.out,hdp⟩
    have Hrel:=hid (fun w7 (hb7:Below w6.heap.size w6 w7)=>show j+1<=n/\Below w3.heap.size w3 w7/\∀(k:Nat),k<j+1->∃(d:List Nd) (x:Res),(docsN ds)[k]? =some d/\docP d= .ok x from ⟨Hj.out,hb36.trans (hb7.mono hb36.size),hall⟩);obtain ⟨a3,c3,hV3⟩:∃a c,V3= .slice a 1 c:=by
     obtain ⟨a,c,e,_⟩:=hL3.sl;exact ⟨a,c,e⟩
    by_cases hfc:fc=0
    ·have hok:∃L2,docsP (docsN ds) 0= .ok L2:=by
      cases hdd:docsP (docsN ds) 0 with
      |ok L2=>exact ⟨L2,rfl⟩
      |error e2=>
       have h1:=a3e hdd;have hu2:=Hu.out;rw[hdd]at hu2;unfold uniX at hu2;simp only[Prod.mk.injEq]at hu2;exact absurd (hu2.2.2.2.symm.trans hfc) h1
     obtain ⟨L2,hL2⟩:=hok;obtain ⟨hll,hat2⟩:=aVy _ _ _ hL2;have hu2:=Hu.out;rw[hL2]at hu2;unfold uniX at hu2;simp only[Prod.mk.injEq]at hu2;have hqn:q=n:=by
      have h1:=congrArg List.length hu2.1;rw[List.length_map,hll]at h1;unfold docsN at h1;rw[List.length_map,<-Hn.out.1]at h1;rw[Hq.out,h1]
     have hLx:=hat2 j _ x HNd.out hdp;rw[<-hu2.1]at hLx;obtain ⟨m2,hm2,hm2r⟩:∃m2,ms[j]? =some m2/\m2.r=x:=by
      rw[List.getElem?_map]at hLx;cases hmm:ms[j]? with
      |none=>rw[hmm]at hLx;cases hLx
      |some m2=>rw[hmm]at hLx;exact ⟨m2,rfl,a3p hLx⟩
     subst hqn;obtain ⟨av,cv,hv,_,hatL⟩:=aQe (HL.out.later hb36);obtain ⟨bL,oL,hav,hbL,hcL,hrL⟩:=hatL j m2 hm2;obtain ⟨av3,cv3,hv3,_,hat3⟩:=aQe (hL3.later hb6);obtain ⟨b3,o3,hav3,hb3',hc3,hr3⟩:=hat3 0 m rfl;subst hfc;rw[<-Hq.out]at hv;injection hv with hv1 hv2 hv3x
     rw[hV3]at hv3;injection hv3 with hv31 hv32 hv33
     subst hv1;subst hv31;subst hav;subst hav3;subst hV3;clear hv2 hv3x hv32 hv33;obtain ⟨r3,ev,tv,rv⟩:=m;obtain ⟨rL,evL,tvL,rvL⟩:=m2;simp only at hmr hm2r hrL hr3;subst hmr;subst hm2r;have HS:=hid (a2m w6.drew rL ev tv rv evL tvL rvL (hr3.later (a3l _ _).drew) (hrL.later (a3l _ _).drew));obtain ⟨p1,n1,c1,e1⟩:=aBj hr3.e;obtain ⟨p2,n2,c2,e2⟩:=aBj hr3.t;obtain ⟨p3,n3,c3,e3⟩:=aBj hr3.r
     obtain ⟨p4,n4,c4,e4⟩:=aBj hrL.e;obtain ⟨p5,n5,c5,e5⟩:=aBj hrL.t;obtain ⟨p6,n6,c6,e6⟩:=aBj hrL.r;have z0:=hc3 0 _ rfl;have z1:=hc3 1 _ rfl;have z2:=hc3 2 _ rfl;have z3:=hc3 3 _ rfl;have z4:=hc3 4 _ rfl;have z5:=hc3 5 _ rfl;have z6:=hc3 6 _ rfl;have z7:=hc3 7 _ rfl;have x0:=hcL 0 _ rfl;have x1:=hcL 1 _ rfl;have x2:=hcL 2 _ rfl;have x3:=hcL 3 _ rfl;have x4:=hcL 4 _ rfl;have x5:=hcL 5 _ rfl
     have x6:=hcL 6 _ rfl;have x7:=hcL 7 _ rfl;rw[e1,e2,e3,e4,e5,e6]at HS;rw[e1]at z2;rw[e2]at z3;rw[e3]at z5;rw[e4]at x2;rw[e5]at x3;rw[e6]at x5;unfold resA at HS;simp only[Nat.add_zero,Nat.zero_mul,Nat.zero_add]at z0 z1 z2 z3 z4 z5 z6 z7 x0;have bj:(j:Int)<(q:Int):=by have:=Hj.out;omega
     clear hdec hdp hro3 hn3 hn3b hms3 hb5 hL3 hbw5 hb35 hb6 hg6 hb36 hf hall hL2 hll hat2 hu2 hLx hm2 hatL hbL hcL hrL hat3 hb3' hc3 hr3 e1 e2 e3 e4 e5 e6 Hdec Hu Hr HNd Hat Hd Hg;go_wp2;rw[<-hw6];clear hw6
     go_still_tail 22,(by kernel_rfl)
     repeat still_step
     change wpList _ _ _ _ _ w6.drew
     go_wp2_with fail
     refine HS.out.mono ?_;rintro x w7 ⟨rfl,h7⟩;have HE:=hid (Hrel.out w7 ((a3l w6.heap.size w6).drew.trans (h7.mono (a3k _))));clear h7 HS Hrel;go_wp2;go_roundw
     case rel=>exact ⟨j+1,Hgo.out,HE⟩
     case measure=>exact Hms.out
    ·have t3:(fc==0)=false:=beq_eq_false_iff_ne.2 hfc;subst hV3;clear hdec hdp hro3 hn3 hn3b hms3 hb5 hL3 hbw5 hb35 hb6 hg6 hb36 hf hall Hdec Hu Hr HNd Hat Hd Hg hfc HL;have HE:=hid (fun k=>Hrel.out (w6.drewN k) (bdH (a3l _ _) k));clear Hrel;go_wp2;rw[<-hw6];clear hw6;go_quiet (fail);go_wp2;go_roundw
     case rel=>exact ⟨j+1,Hgo.out,hid (HE.out _)⟩
     case measure=>exact Hms.out
  ·have tj:decide (j<n)=false:=dF hj;have hgood:∃L2,docsP (docsN ds) 0= .ok L2:=aNg _ _ (fun k d hk=>by
    have hkl:k<n:=by
     have:=(a3r hk).1;unfold docsN at this;rw[List.length_map,<-Hn.out.1]at this;exact this
    obtain ⟨d2,x,h1,h2⟩:=H.out.2.2 k (by omega);rw[hk]at h1;obtain rfl:=a3p h1;exact ⟨x,h2⟩)
   obtain ⟨L2,hL2⟩:=hgood;have hu2:=Hu.out;rw[hL2]at hu2;have hc0:fc=0:=by
    unfold uniX at hu2;simp at hu2;exact hu2.2.2.2
   subst hc0;have hf:=(H.out.2.1.block _ (aAb Hf3.out)).trans Hf3.out;have y2:=aAa hf 2;simp at y2;have HE:=hid (Hb3.out.trans (H.out.2.1.mono Hb3.out.size));clear H hj hf hu2 hL2;go_wp2;refine bodyPost_ret (results_tmp (t:=2) rfl _ _ _) rfl ⟨rfl,HE.out⟩
end Go.Proofs.YtfenoaeoedobmaaGreatDoor
namespace Go.Proofs.YtfenoaeoedobmaaGreatDoor
open Go Go.ChangeShapes Go.WideShapes Go.ChangeAt Go.RowKit Go.Deep
theorem one_le {H:Type} (d:DataW H):1<=Rows.uptoBulk d:=by
 cases d with
 |lit l=>cases l<;>simp[Rows.uptoBulk]
 |nil=>simp[Rows.uptoBulk]
 |ptr d=>simp[Rows.uptoBulk]
 |slice elems spare=>simp[Rows.uptoBulk]
 |agg parts=>simp[Rows.uptoBulk]
 |iface t d=>simp[Rows.uptoBulk]
 |map entries=>simp[Rows.uptoBulk]
 |held h=>simp[Rows.uptoBulk]
theorem aVz {H:Type} {d:DataW H} {l:List (DataW H)} (h:d∈l):Rows.uptoBulk d<=Rows.uptoBulkAll l:=by
 induction l with
 |nil=>cases h
 |cons x r ih=>
  simp only[Rows.uptoBulkAll];cases List.mem_cons.1 h with
  |inl e=>subst e;omega
  |inr e=>have:=ih e;omega
theorem aV0 {H:Type} (l:List (DataW H)):l.length<=Rows.uptoBulkAll l:=by
 induction l with
 |nil=>simp[Rows.uptoBulkAll]
 |cons x r ih=>have:=one_le x;simp only[Rows.uptoBulkAll,a3n];omega
theorem a0n: Tryz.prog.cellsOf 3 =1:=by kernel_rfl
theorem cellsB: Tryz.prog.cellsOf 4 =1:=by kernel_rfl
theorem cellsS: Tryz.prog.cellsOf 9 =1:=by kernel_rfl
theorem aZp: Tryz.prog.cellsOf 53 =1:=by kernel_rfl
theorem a3f: Tryz.prog.cellsOf 55 =6:=by kernel_rfl
theorem aZq: Tryz.prog.cellsOf 33 =1:=by kernel_rfl
theorem aH1 {cs:List Value} {o:Nat} {v:Value} (h:(cs.drop o).take 1=[v]):cs[o]? =some v:=by
 have h1:((cs.drop o).take 1)[0]? =some v:=by rw[h];rfl
 simpa[List.getElem?_take,List.getElem?_drop] using h1
section
variable {H:Type} {enc:TypeId×Value->H} {W:World} {sp:Nat->Bool} {held:Bool} {n:Nat}
theorem fld {fs:Array Field} {xs:List (DataW H×List MemPlace)} {cs:List Value} {base:Nat} (hf:∀(i:Nat) (f:Field),fs[i]? =some f->DataW.trod enc Tryz.prog W base sp held n f.type ((cs.drop f.offset).take (Tryz.prog.cellsOf f.type))=xs[i]?)
 (hl:xs.length=fs.size) (i:Nat) (f:Field) (hi:fs[i]? =some f):∃y,y∈xs/\DataW.trod enc Tryz.prog W base sp held n f.type ((cs.drop f.offset).take (Tryz.prog.cellsOf f.type))=some y:=by
 have hlt:i<xs.length:=by rw[hl];exact (Array.getElem?_eq_some_iff.1 hi).1
 exact ⟨xs[i],List.getElem_mem hlt,(hf i f hi).trans (a3q hlt)⟩
theorem leafI {base:Nat} {cs:List Value} {o:Nat} {y:DataW H×List MemPlace} (h:DataW.trod enc Tryz.prog W base sp held n 3 ((cs.drop o).take (Tryz.prog.cellsOf 3))=some y):∃z:Int,cs[o]? =some (.int .i64 z)/\I64 z:=by
 rw[a0n]at h;obtain ⟨z,e,_,hw⟩:=DataW.trod_int Tryz.underlying3 h;exact ⟨z,aH1 e,by simpa[Lit.wf,IntKind.min,IntKind.max,IntKind.signed,IntKind.bits] using hw⟩
theorem leafB {base:Nat} {cs:List Value} {o:Nat} {y:DataW H×List MemPlace} (h:DataW.trod enc Tryz.prog W base sp held n 4 ((cs.drop o).take (Tryz.prog.cellsOf 4))=some y):∃z:Bool,cs[o]? =some (.bool z):=by
 rw[cellsB]at h;obtain ⟨z,e,_⟩:=DataW.trod_bool Tryz.underlying4 h;exact ⟨z,aH1 e⟩
theorem leafS {base:Nat} {cs:List Value} {o:Nat} {y:DataW H×List MemPlace} (h:DataW.trod enc Tryz.prog W base sp held n 9 ((cs.drop o).take (Tryz.prog.cellsOf 9))=some y):∃s:ByteArray,cs[o]? =some (.string s)/\s.size<=Rows.uptoBulk y.1:=by
 rw[cellsS]at h;obtain ⟨s,e,rfl,_⟩:=DataW.trod_string Tryz.underlying9 h;refine ⟨s,aH1 e,?_⟩;simp only[Rows.uptoBulk];rw[Array.length_toList,ByteArray.size_data];omega
theorem aLu {xs:List (DataW H×List MemPlace)} {y:DataW H×List MemPlace} (h:y∈xs):Rows.uptoBulk y.1<=Rows.uptoBulk (.agg (xs.map (·.1))):=by
 have:=aVz (List.mem_map.2 ⟨y,h,rfl⟩:y.1∈xs.map (·.1));simp only[Rows.uptoBulk];omega
end
section
variable {H:Type} {enc:TypeId×Value->H} {W:World} {sp:Nat->Bool} {held:Bool} {base:Nat}
theorem aV1 {α:Type} {T E:TypeId} {sz n:Nat} {cs:List Value} {x:DataW H×List MemPlace} (cells:α->List Value) (good:α->Nat->Prop) (hT: Tryz.prog.underlying T=some (.slice E)) (hE: Tryz.prog.cellsOf E=sz) (hsz:0<sz) (hlen:∀a,(cells a).length=sz)
 (elem:∀m cs y,DataW.trod enc Tryz.prog W base sp held m E cs=some y->∃a:α,(∀(j:Nat) (u:Value),(cells a)[j]? =some u->cs[j]? =some u)/\good a (Rows.uptoBulk y.1))
 (h:DataW.trod enc Tryz.prog W base sp held n T cs=some x):
 ∃(ao:Option Addr) (cap:Nat) (xs:List α),cs=[.slice ao xs.length cap]/\xs.length<=Rows.uptoBulk x.1/\(0<xs.length->∃b o,ao=some ⟨b,o,none⟩/\b<W.heap.size/\∀i a,xs[i]? =some a->∀j u,(cells a)[j]? =some u->W.cell? ⟨b,o+i*sz+j,none⟩=some u)/\∀a∈xs,∃B,B<=Rows.uptoBulk x.1/\good a B:=by
 rcases open_slice hT h with ⟨hcs,_⟩|⟨a,len,cap,m,nn,D,Pl,hcs,hb,hl,hm,hmm,hx,hi⟩
 ·exact ⟨none,0,[],hcs,Nat.zero_le _,(fun h=>absurd h (Nat.lt_irrefl 0)),(fun a h=>by cases h)⟩
 ·have hlm:len<=m:=by rw[hmm];split<;>omega
  have hd:x.1= .slice ((List.range len).map D) ((List.range (m-len)).map fun j=>D (len+j)):=congrArg Prod.fst hx;have hDi:∀i,i<len->Rows.uptoBulk (D i)<=Rows.uptoBulk x.1:=fun i hlt=>by
   rw[hd];simp only[Rows.uptoBulk];have:=aVz (List.mem_map.2 ⟨i,List.mem_range.2 hlt,rfl⟩:D i∈(List.range len).map D);omega
  have hle:len<=Rows.uptoBulk x.1:=by
   rw[hd];simp only[Rows.uptoBulk];have:=aV0 ((List.range len).map D);simp at this;omega
  have key:∀i:Fin len,∃o:α,(∀(j:Nat) (u:Value),(cells o)[j]? =some u->W.cell? (a.add (i*sz+j))=some u)/\good o (Rows.uptoBulk (D i)):=by
   intro ⟨i,hlt⟩;obtain ⟨cs',hc,ht⟩:=hi i (by omega);obtain ⟨o,ho,hw⟩:=elem _ _ _ ht;rw[hE]at hc;obtain ⟨_,hcl,hat⟩:=World.cells?_some hc;refine ⟨o,fun j u hj=> ?_,hw⟩;have hlt2:j<sz:=by rw[<-hlen o];exact (a3r hj).1
   rw[<-Go.Deep.add_add,hat j hlt2];exact ho j u hj
  obtain ⟨C,hC⟩:=Classical.axiomOfChoice key;have hget:∀(i:Nat) (z:α),(List.ofFn C)[i]? =some z->∃h:i<len,C ⟨i,h⟩=z:=fun i z hz=>by
   rw[List.getElem?_ofFn]at hz
   split at hz
   ·exact ⟨by assumption,a3p hz⟩
   ·cases hz
  refine ⟨some a,cap,List.ofFn C,by rw[hcs,List.length_ofFn],by rw[List.length_ofFn];exact hle,fun h0=> ?_,fun z hz=> ?_⟩
  ·rw[List.length_ofFn]at h0;obtain ⟨u0,hu0⟩:∃u0,(cells (C ⟨0,h0⟩))[0]? =some u0:=⟨_,a3q (by rw[hlen];exact hsz)⟩;have hc0:=(hC ⟨0,h0⟩).1 0 u0 hu0;obtain ⟨g,o,spn⟩:=a;have hsp:spn=none:=by
    cases spn with
    |none=>rfl
    |some k=>simp[Addr.add,World.cell?]at hc0;split at hc0<;>cases hc0
   subst hsp;refine ⟨g,o,rfl,by simpa[Addr.add] using World.block_lt_of_cell? W _ hc0,fun i z hz j u hj=> ?_⟩;obtain ⟨hlt,hz2⟩:=hget i z hz;rw[<-hz2]at hj;have q:=(hC ⟨i,hlt⟩).1 j u hj;rw[Addr.add_lit]at q;rw[Nat.add_assoc];exact q
  ·obtain ⟨i,hi2,hzi⟩:=List.getElem_of_mem hz;obtain ⟨hlt,hz2⟩:=hget i z (by rw[a3q hi2,hzi]);exact ⟨_,hDi i hlt,by rw[<-hz2];exact (hC ⟨i,hlt⟩).2⟩
theorem slrS {α:Type} {sz:Nat} {cells:α->List Value} {ao:Option Addr} {cap:Nat} {xs:List α} (h1:xs.length<=1048576) (h:0<xs.length->∃b o,ao=some ⟨b,o,none⟩/\b<W.heap.size/\∀i a,xs[i]? =some a->∀j u,(cells a)[j]? =some u->W.cell? ⟨b,o+i*sz+j,none⟩=some u):SlR W (.slice ao xs.length cap) sz xs cells:=
 ⟨ao,cap,rfl,h1,h⟩
theorem cells6 {cs:List Value} {a b c d e f:Value} (h0:cs[0]? =some a) (h1:cs[1]? =some b) (h2:cs[2]? =some c) (h3:cs[3]? =some d) (h4:cs[4]? =some e) (h5:cs[5]? =some f):∀(j:Nat) (u:Value),[a,b,c,d,e,f][j]? =some u->cs[j]? =some u:=by
 intro j u hj
 match j with
 |0=>obtain rfl:=a3p hj;exact h0
 |1=>obtain rfl:=a3p hj;exact h1
 |2=>obtain rfl:=a3p hj;exact h2
 |3=>obtain rfl:=a3p hj;exact h3
 |4=>obtain rfl:=a3p hj;exact h4
 |5=>obtain rfl:=a3p hj;exact h5
 |k+6=>simp at hj
theorem int_in (n:Nat) (cs:List Value) (y:DataW H×List MemPlace) (h:DataW.trod enc Tryz.prog W base sp held n 3 cs=some y):∃z:Int,(∀(j:Nat) (u:Value),(aA4 z)[j]? =some u->cs[j]? =some u)/\True:=by
 obtain ⟨z,e,_,hw⟩:=DataW.trod_int Tryz.underlying3 h;exact ⟨z,fun j u hj=>by rw[e];exact hj,trivial⟩
theorem a3g (n:Nat) (cs:List Value) (y:DataW H×List MemPlace) (h:DataW.trod enc Tryz.prog W base sp held n 55 cs=some y):∃m:NdM,(∀(j:Nat) (u:Value),m.cells[j]? =some u->cs[j]? =some u)/\(Rows.uptoBulk y.1<=1048576->m.Ok W):=by
 obtain ⟨xs,n1,_,rfl,_,hl,hf⟩:=DataW.trod_struct Tryz.underlying55 h;obtain ⟨y0,m0,t0⟩:=fld hf hl 0 _ rfl;obtain ⟨y1,m1,t1⟩:=fld hf hl 1 _ rfl;obtain ⟨y2,m2,t2⟩:=fld hf hl 2 _ rfl;obtain ⟨y3,m3,t3⟩:=fld hf hl 3 _ rfl;obtain ⟨y4,m4,t4⟩:=fld hf hl 4 _ rfl;obtain ⟨y5,m5,t5⟩:=fld hf hl 5 _ rfl;obtain ⟨kind,c0,w0⟩:=leafI t0;obtain ⟨key,c1,w1⟩:=leafS t1;obtain ⟨text,c2,w2⟩:=leafS t2;obtain ⟨quoted,c3⟩:=leafB t3
 obtain ⟨line,c4,w4⟩:=leafI t4;change DataW.trod enc Tryz.prog W base sp held _ 53 ((cs.drop 5).take (Tryz.prog.cellsOf 53))=some y5 at t5;rw[aZp]at t5;obtain ⟨ao,cap,ks,e5,hb,hm,_⟩:=aV1 aA4 (fun _ _=>True) Tryz.underlying53 a0n (by decide) (fun _=>rfl) int_in t5;have b1:=aLu m1;have b2:=aLu m2;have b5:=aLu m5;refine ⟨⟨⟨kind,key,text,quoted,line,ks⟩,.slice ao ks.length cap⟩,cells6 c0 c1 c2 c3 c4 (aH1 e5),fun hB=> ?_⟩
 change Rows.uptoBulk (DataW.agg (xs.map (·.1)))<=1048576 at hB;exact ⟨w0,w4,show key.size<=1048576 by omega,show text.size<=1048576 by omega,slrS (by omega) hm⟩
theorem doc_in (n:Nat) (cs:List Value) (y:DataW H×List MemPlace) (h:DataW.trod enc Tryz.prog W base sp held n 33 cs=some y):∃d:DocV,(∀(j:Nat) (u:Value),d.cells[j]? =some u->cs[j]? =some u)/\(Rows.uptoBulk y.1<=1048576->Nds W d.v d.ms):=by
 obtain ⟨ao,cap,ms,e,hb,hm,hms⟩:=aV1 NdM.cells (fun m B=>B<=1048576->m.Ok W) Tryz.underlying33 a3f (by decide) (fun _=>rfl) a3g h;refine ⟨⟨.slice ao ms.length cap,ms⟩,fun j u hj=>by rw[e];exact hj,fun hB=>⟨slrS (by omega) hm,fun m hmm=> ?_⟩⟩;obtain ⟨B,hB2,hg⟩:=hms m hmm;exact hg (by omega)
end
theorem aOz {W:World} {H:Type} {enc:TypeId×Value->H} {b0:Nat} {v:Value} {d:DataW H} {p:List MemPlace} (hv:Value.okWide Tryz.prog W .any b0 22 v) (h:DataW.Trod enc Tryz.prog W 0 (fun _=>true) true 22 v d p) (hB:Rows.uptoBulk d<=1048576):
 ∃ds:List DocV,DocsR W v ds:=by
 obtain ⟨a0,len0,cap0,rfl⟩:=okWide_slice Tryz.underlying22 hv;obtain ⟨fuel,hf⟩:=h;obtain ⟨ao,cap,ds,e1,hb1,hm1,hh⟩:=aV1 DocV.cells (fun d B=>B<=1048576->Nds W d.v d.ms) Tryz.underlying22 aZq (by decide) (fun _=>rfl) doc_in hf;have e1':[Value.slice a0 len0 cap0]=[Value.slice ao ds.length cap]:=e1;have hb1':ds.length<=Rows.uptoBulk d:=hb1;rw[(List.cons.inj e1').1];refine ⟨ds,slrS (by omega) hm1,fun x hx=> ?_⟩
 obtain ⟨B,hB2,hg⟩:=hh x hx;have hB3:B<=Rows.uptoBulk d:=hB2;exact hg (by omega)
end Go.Proofs.YtfenoaeoedobmaaGreatDoor
namespace Go.Proofs.YtfenoaeoedobmaaGreatDoor
open Go.ChangeShapes Go.WideShapes Go.ChangeAt Go.RowKit
theorem own:ownKnob Tryz.prog.godebug=none:=by kernel_rfl
theorem a3h:laidOutB Tryz.prog=true:=by kernel_rfl
theorem gER: Tryz.prog.globalNamed "strconv.ErrRange"=some 4 :=by kernel_rfl
theorem a3i:(Tryz.prog.globals[4]?).map (·.type)=some 164 :=by kernel_rfl
theorem a3j: Tryz.prog.cellsOf 279 =1:=by kernel_rfl
theorem aZr: Tryz.prog.cellsOf 9 =1:=by kernel_rfl
theorem star:"*"++"errors.errorString"="*errors.errorString":=by decide
theorem rowES (u:TypeId) (h: Tryz.prog.typeName? 3 u=some "*errors.errorString"):u= 277 :=
 typeName_ptr_named (nm:="errors.errorString") (by rw[star];kernel_rfl) (by kernel_rfl) (by decide) u (by rw[star];exact h)
def laid5:List (String×DataW Unit):=[("math/bits.deBruijn32tab",Rows.laid_math_bits_deBruijn32tab),("math/bits.deBruijn64tab",Rows.laid_math_bits_deBruijn64tab),("internal/strconv.uint64pow10",Rows.laid_internal_strconv_uint64pow10),("strconv.ErrRange",Rows.laid_strconv_ErrRange),("strconv.ErrSyntax",Rows.laid_strconv_ErrSyntax)]
theorem aNh {W:World} (h:laidMetH Tryz.prog laid5 W) (hs:W.ShapedOpen Tryz.prog):Glob W:=by
 have hL:laidMet Tryz.prog laid5 W:=h;obtain ⟨a1,s1,hv1,-,-,-⟩:=laid_sentinel hL.tail.tail.tail gER a3i Tryz.underlying164 rowES Tryz.underlying277 Tryz.underlying279 rfl rfl Tryz.underlying9 a3j aZr;refine ⟨?_,⟨_,by have h0:=World.var?_cell gER hv1 0;simpa using h0,Or.inr ⟨_,_,rfl⟩⟩⟩;exact cell_of_shapedOpen_int (g:= 1) (t:= 3) (zero:=#[.int .i64 0]) (k:= .i64) hs (of_decide_eq_true (by kernel_rfl)) (by kernel_rfl) (by kernel_rfl) (by kernel_rfl) (by kernel_rfl) Tryz.underlying3
abbrev synS:ByteArray:={data:=#[105,110,118,97,108,105,100,32,115,121,110,116,97,120]}
abbrev rngS:ByteArray:={data:=#[118,97,108,117,101,32,111,117,116,32,111,102,32,114,97,110,103,101]}
noncomputable def low:Nat:=(World.holding Tryz.prog default ⟨#[],#[],[]⟩).heap.size
def put1 (cs:Array Value):Obj->Obj
 | .cells _ t frozen=> .cells cs t frozen
 |o=>o
def litV:Lit->Value
 | .int k n=> .int k n
 | .bool b=> .bool b
 |_=>undef
def flatD:Nat->DataW Unit->List Value
 |0,_=>[]
 |_+1,.lit l=>[litV l]
 |n+1,.agg l=>l.flatMap (flatD n)
 |_+1,_=>[]
noncomputable def aJj (os:Os):World:=
 let w0:=World.holding Tryz.prog os ⟨#[.cells #[.string synS] 279,.cells #[.string rngS] 279],#[],[]⟩
 {w0 with heap:=(((((w0.heap.modify 3 (put1 #[.iface 277 (.pointer (some ⟨low,0,none⟩))])).modify 4 (put1 #[.iface 277 (.pointer (some ⟨low+1,0,none⟩))])).modify 2 (put1 (flatD 4 Rows.laid_internal_strconv_uint64pow10).toArray)).modify 5 (put1 (flatD 4 Rows.laid_math_bits_deBruijn32tab).toArray)).modify 6 (put1 (flatD 4 Rows.laid_math_bits_deBruijn64tab).toArray))}
theorem aZs (os:Os) (args:Array Value):laidMet Tryz.prog laid5 ((aJj os).forCall (fun _ _=>0) ⟨#[],args,[]⟩).memory:=
 laidMet_of_run' 8 (by kernel_rfl) (by kernel_rfl)
