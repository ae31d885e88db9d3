/-
Parts of a proof.
-/
import Derived.Test.YtfenoaeoedobmaaGreatDoorOn47
set_option linter.unusedVariables false
set_option linter.unusedSimpArgs false
set_option maxHeartbeats 8000000
set_option maxRecDepth 20000
namespace Go.Proofs.YtfenoaeoedobmaaGreatDoor
open Go Go.RowKit
def jZ (r s:Res):Bool:=
 (r.kind==s.kind)&&(r.name.toList==s.name.toList)&&(r.host.toList==s.host.toList)&&(r.route.toList==s.route.toList)&&(r.del==s.del)&&decide (r.endps=s.endps)&&jj oJ r.targets s.targets&&jj pr r.rules s.rules
theorem eeq_c (w:World) (v v':Value) (l l':List ByteArray) (h:SlR w v 1 l bc) (h':SlR w v' 1 l' bc):
 Calls Tryz.prog 73 #[v,v'] w fun x w'=>x= .returned (.bool (decide (l=l')))/\∃k,w'=w.drewN k:=by
 obtain ⟨ao,cap,rfl,hl,bN⟩:=h;obtain ⟨fj,mn,rfl,Qz,oP⟩:=h';by_cases hn:l.length=l'.length
 ·by_cases h0:l.length=0
  ·have e1:l=[]:=List.eq_nil_of_length_eq_zero h0;have e2:l'=[]:=List.eq_nil_of_length_eq_zero (hn ▸ h0);subst e1;subst e2;refine (Tryz.slices_Equal_string_empty ao fj cap 0 mn w (by decide)).mono ?_;rintro x w' ⟨rfl,rfl⟩;exact ⟨rfl,0,rfl⟩
  ·obtain ⟨b1,o1,rfl,l1,q1⟩:=bN (by omega);obtain ⟨b2,o2,rfl,l2,q2⟩:=oP (by omega);have hc:∀(L:List ByteArray) (b o:Nat),(∀i x,L[i]? =some x->∀j u,(bc x)[j]? =some u->w.cell? ⟨b,o+i*1+j,none⟩=some u)->∀j,j<L.length->w.cell? ⟨b,o+j,none⟩=some (.string (L.getD j ByteArray.empty)):=by
    intro L b o q j hj;have:=q j L[j] (aBn hj) 0 _ rfl;rw[Nat.mul_one,Nat.add_zero]at this;rw[this,List.getD_eq_getElem?_getD,aBn hj];rfl
   refine (Tryz.slices_Equal_string b1 o1 l.length cap b2 o2 l'.length mn l l' w (aBh _) (aBh _) (by omega) (by omega) (hc l b1 o1 q1) (hc l' b2 o2 q2)).mono ?_;rintro x w' ⟨rfl,k,rfl⟩;rw[List.take_length,List.take_length];exact ⟨rfl,k,rfl⟩
 ·refine (Tryz.slices_Equal_string_lens ao fj l.length cap l'.length mn w hn).mono ?_;rintro x w' ⟨rfl,rfl⟩;rw[dF (fun e=>hn (by rw[e]))];exact ⟨rfl,0,rfl⟩
theorem Rb (w:World) (r s:Res) (ev tv rv D9 D6 D7:Value) (h:ResL w r ev tv rv) (h':ResL w s D9 D6 D7):
 Calls Tryz.prog 30 #[.agg (bV r ev tv rv),.agg (bV s D9 D6 D7)] w fun e w'=>e= .returned (.bool (jZ r s))/\Below w.heap.size w w':=by
 obtain ⟨W,hW⟩:=ex ((w.alloc (.cells (bV r ev tv rv) 49)).alloc (.cells (bV s D9 D6 D7) 49));have mU:Below w.heap.size w W:=by rw[hW];exact od _ _ _
 have bg:W.heap[w.heap.size]? =some (.cells (bV r ev tv rv) 49 (0,0))/\W.heap[w.heap.size+1]? =some (.cells (bV s D9 D6 D7) 49 (0,0)):=by rw[hW];exact blk2 (aBi _ _)
 have HE:=hid (fun k=>eeq_c (W.drewN k) ev D9 r.endps s.endps ((h.e.later mU).later (bdH (aBi _ _) k)) ((h'.e.later mU).later (bdH (aBi _ _) k)));have HT:=hid (fun k=>YL (W.drewN k) tv D6 r.targets s.targets ((h.t.later mU).later (bdH (aBi _ _) k)) ((h'.t.later mU).later (bdH (aBi _ _) k)));have HU:=hid (fun k=>Yu (W.drewN k) rv D7 r.rules s.rules ((h.r.later mU).later (bdH (aBi _ _) k)) ((h'.r.later mU).later (bdH (aBi _ _) k)))
 obtain ⟨f1,f2⟩:=bg;unfold bV at hW f1 f2 |-;obtain ⟨y0,y1,y2,y3,y4,y5,y6,y7⟩:=cB8 f1;obtain ⟨z0,z1,z2,z3,z4,z5,z6,z7⟩:=cB8 f2;simp at y0 y1 y2 y3 y4 y5 y6 y7 z0 z1 z2 z3 z4 z5 z6 z7;have HB:=hid (fun k=>bdH mU k);have Wb:jZ r s=((r.kind==s.kind)&&(r.name.toList==s.name.toList)&&(r.host.toList==s.host.toList)&&(r.route.toList==s.route.toList)&&(r.del==s.del)&&decide (r.endps=s.endps)&&jj oJ r.targets s.targets&&jj pr r.rules s.rules):=rfl
 rw[Wb];clear h h' mU f1 f2 Wb;cases t0:(r.kind==s.kind) with
 |false=>
  simp only[Bool.and_true,Bool.true_and,Bool.and_false,Bool.false_and];clear HE HT HU;go_enter Tryz.func30,Tryz.ntmps30;go_wp2
  try rw[<-hW]
  refine bodyPost_ret (results_tmp (t:=4) rfl _ _ _) rfl ?_;exact ⟨rfl,HB.o 0⟩
 |true=>
  cases t1:(r.name.toList==s.name.toList) with
  |false=>
   simp only[Bool.and_true,Bool.true_and,Bool.and_false,Bool.false_and];clear HE HT HU;go_enter Tryz.func30,Tryz.ntmps30;go_wp2
   try rw[<-hW]
   refine bodyPost_ret (results_tmp (t:=4) rfl _ _ _) rfl ?_;exact ⟨rfl,HB.o 0⟩
  |true=>
   cases t2:(r.host.toList==s.host.toList) with
   |false=>
    simp only[Bool.and_true,Bool.true_and,Bool.and_false,Bool.false_and];clear HE HT HU;go_enter Tryz.func30,Tryz.ntmps30;go_wp2
    try rw[<-hW]
    refine bodyPost_ret (results_tmp (t:=4) rfl _ _ _) rfl ?_;exact ⟨rfl,HB.o 0⟩
   |true=>
    cases t3:(r.route.toList==s.route.toList) with
    |false=>
     simp only[Bool.and_true,Bool.true_and,Bool.and_false,Bool.false_and];clear HE HT HU;go_enter Tryz.func30,Tryz.ntmps30;go_wp2
     try rw[<-hW]
     refine bodyPost_ret (results_tmp (t:=4) rfl _ _ _) rfl ?_;exact ⟨rfl,HB.o 0⟩
    |true=>
     cases t4:(r.del==s.del) with
     |false=>
      simp only[Bool.and_true,Bool.true_and,Bool.and_false,Bool.false_and];clear HE HT HU;go_enter Tryz.func30,Tryz.ntmps30;go_wp2
      try rw[<-hW]
      refine bodyPost_ret (results_tmp (t:=4) rfl _ _ _) rfl ?_;exact ⟨rfl,HB.o 0⟩
     |true=>
      cases t5:decide (r.endps=s.endps) with
      |false=>
       simp only[Bool.and_true,Bool.true_and,Bool.and_false,Bool.false_and];rw[t5]at HE;clear t5;go_enter Tryz.func30,Tryz.ntmps30
       go_wp2_with fail
       rw[<-hW];refine (HE.o 0).mono ?_;rintro x w2 ⟨rfl,k1,rfl⟩;rw[show (W.drewN 0).drewN k1=W.drewN k1 by rw[dG,Nat.zero_add]];clear hW HE;go_wp2;refine bodyPost_ret (results_tmp (t:=4) rfl _ _ _) rfl ?_;exact ⟨rfl,HB.o k1⟩
      |true=>
       cases t6:jj oJ r.targets s.targets with
       |false=>
        simp only[Bool.and_true,Bool.true_and,Bool.and_false,Bool.false_and];rw[t5]at HE;rw[t6]at HT;clear t5;clear t6;go_enter Tryz.func30,Tryz.ntmps30
        go_wp2_with fail
        rw[<-hW];refine (HE.o 0).mono ?_;rintro x w2 ⟨rfl,k1,rfl⟩;rw[show (W.drewN 0).drewN k1=W.drewN k1 by rw[dG,Nat.zero_add]];clear hW HE
        go_wp2_with fail
        refine (HT.o k1).mono ?_;rintro x w2 ⟨rfl,k2,rfl⟩;rw[dG];clear HT;go_wp2;refine bodyPost_ret (results_tmp (t:=4) rfl _ _ _) rfl ?_;exact ⟨rfl,HB.o (k1+k2)⟩
       |true=>
        cases t7:jj pr r.rules s.rules with
        |false=>
         simp only[Bool.and_true,Bool.true_and,Bool.and_false,Bool.false_and];rw[t5]at HE;rw[t6]at HT;rw[t7]at HU;clear t5;clear t6;clear t7;go_enter Tryz.func30,Tryz.ntmps30
         go_wp2_with fail
         rw[<-hW];refine (HE.o 0).mono ?_;rintro x w2 ⟨rfl,k1,rfl⟩;rw[show (W.drewN 0).drewN k1=W.drewN k1 by rw[dG,Nat.zero_add]];clear hW HE
         go_wp2_with fail
         refine (HT.o k1).mono ?_;rintro x w2 ⟨rfl,k2,rfl⟩;rw[dG];clear HT
         go_wp2_with fail
         refine (HU.o (k1+k2)).mono ?_;rintro x w2 ⟨rfl,k3,rfl⟩;rw[dG];clear HU;go_wp2;refine bodyPost_ret (results_tmp (t:=4) rfl _ _ _) rfl ?_;exact ⟨rfl,HB.o (k1+k2+k3)⟩
        |true=>
         simp only[Bool.and_true,Bool.true_and,Bool.and_false,Bool.false_and];rw[t5]at HE;rw[t6]at HT;rw[t7]at HU;clear t5;clear t6;clear t7;go_enter Tryz.func30,Tryz.ntmps30
         go_wp2_with fail
         rw[<-hW];refine (HE.o 0).mono ?_;rintro x w2 ⟨rfl,k1,rfl⟩;rw[show (W.drewN 0).drewN k1=W.drewN k1 by rw[dG,Nat.zero_add]];clear hW HE
         go_wp2_with fail
         refine (HT.o k1).mono ?_;rintro x w2 ⟨rfl,k2,rfl⟩;rw[dG];clear HT
         go_wp2_with fail
         refine (HU.o (k1+k2)).mono ?_;rintro x w2 ⟨rfl,k3,rfl⟩;rw[dG];clear HU;go_wp2;refine bodyPost_ret (results_tmp (t:=4) rfl _ _ _) rfl ?_;exact ⟨rfl,HB.o (k1+k2+k3)⟩
noncomputable def dH (r:Res):List Nd:=
 match dO (dC wtF r) with
 | .ok b=>if jZ b r=true then dC wtF r else []
 | .error _=>[]
def STr (w:World) (l:List Nd) (x:Ending) (w':World):Prop:=
 ∃v ms,x= .returned v/\DocP w' w.heap.size ⟨v,ms⟩/\nds ms=l/\Below w.heap.size w w'
theorem GB {w w':World} (hb:Below w.heap.size w w'):STr w [] (.returned (.slice none 0 0)) w':=
 ⟨_,[],rfl,⟨World.ownsRow_nil _ _ _ _,nofun,nofun,Nat.zero_le _⟩,rfl,hb⟩
theorem P9 (w:World) (r:Res) (ev tv rv:Value) (hz:ResZ r) (hL:ResL w r ev tv rv) (hg:GlobT w):
 Calls Tryz.prog 19 #[.agg (bV r ev tv rv)] w (STr w (dH r)):=by
 obtain ⟨W,hW⟩:=ex (w.alloc (.cells (bV r ev tv rv) 49));have mU:Below w.heap.size w W:=by rw[hW];exact (aBi _ _).alloc (aBh _) _
 have hsW:W.heap.size=w.heap.size+1:=by rw[hW];simp
 have bg:W.heap[w.heap.size]? =some (.cells (bV r ev tv rv) 49 (0,0)):=by rw[hW];exact ag _
 obtain ⟨ea,en,ec,rfl⟩:=bO hL.e;obtain ⟨ta,tn,tc,rfl⟩:=bO hL.t;obtain ⟨ra,rn,rc,rfl⟩:=bO hL.r;have HT:=hid (QL W r _ _ _ hz ⟨hL.e.later mU,hL.t.later mU,hL.r.later mU⟩ (hg.later mU));have HL:=hid (fun w2 (hb:Below w.heap.size w w2)=>show ResL w2 r (.slice ea en ec) (.slice ta tn tc) (.slice ra rn rc) from ⟨hL.e.later hb,hL.t.later hb,hL.r.later hb⟩);have HG:=hid (fun w2 (hb:Below w.heap.size w w2)=>(hg.later hb).gl)
 have HB:=hid (And.intro mU hsW);have y:=fun w2 (hb:Below W.heap.size W w2)=>show w2.heap[w.heap.size]? =some (.cells (bV r (.slice ea en ec) (.slice ta tn tc) (.slice ra rn rc)) 49 (0,0)) from (hb.block _ (by omega)).trans bg;have HY:=hid y;have y1:=y W (aBi _ _);clear hz hL hg mU hsW bg y;unfold bV at HT hW HY y1 |-;obtain ⟨a0,a1,a2,a3,a4,a5,a6,a7⟩:=cB8 y1
 simp at a0 a1 a2 a3 a4 a5 a6 a7;clear y1;go_enter Tryz.func19,Tryz.ntmps19
 go_wp2_with fail
 rw[<-hW];refine HT.o.mono ?_;rintro x w2 ⟨V,ms,rfl,hD,hn,bI⟩;clear a0 a1 a2 a3 a4 a5 a6 a7 hW HT;have WE:Below w.heap.size w w2:=HB.o.1.trans (bI.mono HB.o.1.size);obtain ⟨va,vn,vc,hV⟩:∃a n c,V= .slice a n c:=bO hD.nds.1;have HR:=hid (MX w2 V ms hD.nds (HG.o w2 WE));have HD:=hid hD;have lq:=hid (And.intro bI WE);have uG:=hn;have Hn:=hid hn;rw[hn]at HR;subst hV;clear hD bI WE hn
 cases hd:dO (dC wtF r) with
 |error e=>
  have hnz:=E9 (dC wtF r) e hd;have hv:dH r=[]:=by unfold dH;rw[hd]
  rw[hd]at HR;have HE:=hid (fun w' (hb:Below w.heap.size w w')=>show STr w (dH r) (.returned (.slice none 0 0)) w' from by rw[hv];exact GB hb);have t1:(e.2 != 0)=true:=bne_iff_ne.2 hnz;clear hd hnz hv Hn
  go_wp2_with fail
  refine HR.o.mono ?_;unfold rD EH;rintro x w3 ⟨h,aV⟩;simp only at h;subst h;have Hb:=hid (fun ob=>((lq.o.2.trans (aV.mono lq.o.2.size)).alloc (aBl lq.o.2.size aV.size) ob));clear aV HR;go_wp2;refine bodyPost_ret (results_tmp (t:=2) rfl _ _ _) rfl (HE.o _ (Hb.o _))
 |ok b=>
  have hv:dH r=if jZ b r=true then dC wtF r else []:=by unfold dH;rw[hd]
  rw[hd]at HR;have HV:=hid hv;clear hd hv
  go_wp2_with fail
  refine HR.o.mono ?_;unfold rD;rintro x w3 ⟨⟨ev2,tv2,rv2,h,hN⟩,aV⟩;subst h;obtain ⟨ea2,en2,ec2,rfl⟩:=bO hN.toL.e;obtain ⟨ta2,tn2,tc2,rfl⟩:=bO hN.toL.t;obtain ⟨ra2,rn2,rc2,rfl⟩:=bO hN.toL.r;obtain ⟨w4,xS⟩:=ex (w3.alloc (.cells (bV b (.slice ea2 en2 ec2) (.slice ta2 tn2 tc2) (.slice ra2 rn2 rc2)) 49));have bX:Below w3.heap.size w3 w4:=by rw[xS];exact (aBi _ _).alloc (aBh _) _
  have pK:Below w.heap.size w w3:=lq.o.2.trans (aV.mono lq.o.2.size);have yi:Below w.heap.size w w4:=pK.trans (bX.mono pK.size);have hbW4:Below W.heap.size W w4:=(lq.o.1.trans (aV.mono lq.o.1.size)).trans (bX.mono (aBl lq.o.1.size aV.size));have f1:=HY.o w4 hbW4;have f2:w4.heap[w3.heap.size]? =some (.cells (bV b (.slice ea2 en2 ec2) (.slice ta2 tn2 tc2) (.slice ra2 rn2 rc2)) 49 (0,0)):=by rw[xS];exact ag _
  have HS:=hid (Rb w4 b r _ _ _ _ _ _ ⟨hN.toL.e.later bX,hN.toL.t.later bX,hN.toL.r.later bX⟩ (HL.o w4 yi));have HE:=hid (fun w' (hb:Below w4.heap.size w4 w')=>show STr w (dH r) (.returned (if jZ b r=true then .slice va vn vc else .slice none 0 0)) w' from by
   have h2:Below w2.heap.size w2 w':=(aV.trans (bX.mono aV.size)).trans (hb.mono (aBl aV.size bX.size));rw[HV.o];by_cases hs:jZ b r=true
   ·rw[if_pos hs,if_pos hs];have hP:=lk.down (x:=(⟨.slice va vn vc,ms⟩:DocV)) HD.o (aBl (Nat.le_succ _) (Nat.le_of_eq HB.o.2.symm));exact ⟨_,ms,rfl,lk.mod (F:=fun _=>False) hP (fS h2) (fun _ _ q=>q),Hn.o,yi.trans (hb.mono yi.size)⟩
   ·rw[if_neg hs,if_neg hs];exact GB (yi.trans (hb.mono yi.size)))
  unfold bV at xS f1 f2 HS |-;obtain ⟨a0,a1,a2,a3,a4,a5,a6,a7⟩:=cB8 f1;obtain ⟨c0,c1,c2,c3,c4,c5,c6,c7⟩:=cB8 f2;simp at a0 a1 a2 a3 a4 a5 a6 a7 c0 c1 c2 c3 c4 c5 c6 c7;clear f1 f2 aV HR hN bX pK yi hbW4 HB lq HL HG HD HV Hn HY;subst xS
  go_wp2_with fail
  refine HS.o.mono ?_;rintro x w5 ⟨rfl,lV⟩;have Hb5:=hid lV;clear lV HS a0 a1 a2 a3 a4 a5 a6 a7 c0 c1 c2 c3 c4 c5 c6 c7;cases hs:jZ b r with
  |true=>
   rw[hs]at HE;simp only[if_true]at HE;go_wp2;refine bodyPost_ret (results_tmp (t:=2) rfl _ _ _) rfl (HE.o _ Hb5.o)
  |false=>
   rw[hs]at HE;go_wp2;refine bodyPost_ret (results_tmp (t:=2) rfl _ _ _) rfl (HE.o _ Hb5.o)
def fB (l:List ByteArray):List ByteArray:=l.filter (fun x=>decide (x≠⟨#[]⟩))
def Jq:ByteArray:=⟨#[45,45,45,10]⟩
def nE (l:List ByteArray):ByteArray:=⟨(Lib.join ((fB l).map (·.data.toList)) Jq.data.toList).toArray⟩
theorem Pe {l:List ByteArray} {j:Nat} {x:ByteArray} (h:l[j]? =some x) (hx:x≠⟨#[]⟩):fB (l.take (j+1))=fB (l.take j)++[x]:=by
 unfold fB;rw[List.take_add_one,h,List.filter_append];simp[hx]
theorem SL {l:List ByteArray} {j:Nat} {x:ByteArray} (h:l[j]? =some x) (hx:x=⟨#[]⟩):fB (l.take (j+1))=fB (l.take j):=by
 unfold fB;rw[List.take_add_one,h,List.filter_append];simp[hx]
theorem Pf (l:List ByteArray):(fB l).length<=l.length:=List.length_filter_le _ _
theorem G6 (M:Nat):∀l:List (List UInt8),(∀x∈l,x.length<=M)->Lib.lens l<=l.length*M
 |[],_=>by simp[Lib.lens]
 |x::l,h=>by
  have h1:=h x (List.mem_cons_self ..);have h2:=G6 M l (fun y hy=>h y (List.mem_cons_of_mem _ hy));unfold Lib.lens at h2 |-;rw[List.map_cons,List.sum_cons,aBk,Nat.succ_mul];omega
theorem N9 (sep:List UInt8) (M:Nat) (l:List (List UInt8)) (h:∀x∈l,x.length<=M):(Lib.join l sep).length<=l.length*M+sep.length*l.length:=by
 cases l with
 |nil=>rw[Lib.join_nil];exact Nat.zero_le _
 |cons x r=>
  rw[Lib.join_length];have:=G6 M (x::r) h;have h2:sep.length*r.length<=sep.length*(x::r).length:=Nat.mul_le_mul_left _ (by rw[aBk];omega);omega
theorem Kr {l:List ByteArray} (hn:l.length<=1048576) (h:∀x∈l,x.size<=65536):(Lib.join ((fB l).map (·.data.toList)) Jq.data.toList).length<=140737488355328:=by
 have h1:=N9 Jq.data.toList 65536 ((fB l).map (·.data.toList)) (fun x hx=>by
  obtain ⟨y,hy,rfl⟩:=List.mem_map.1 hx
  show y.data.toList.length<=_
  rw[aj];exact h y (List.mem_filter.1 hy).1)
 rw[List.length_map]at h1;have h2:=Pf l;have h3:Jq.data.toList.length=4:=rfl;rw[h3]at h1;omega
theorem MM {w:World} {e:TypeId} {n:Nat} {v:Value} {xs:List Value} (h:w.ownsRow 0 e 1 v n xs):∀a m c,v= .slice a m c->m<=c:=by
 intro a m c hv;rcases h.2 with ⟨h1,h2⟩|⟨g,cap,cur,h1,_,_,hc,_⟩
 ·rw[hv]at h1;cases h1;exact aBh _
 ·rw[hv]at h1;cases h1;exact hc
theorem V9 (w:World) (v:Value) (l:List ByteArray) (h:SlR w v 1 l bc) (hs:∀x∈l,x.size<=65536):
 Calls Tryz.prog 25 #[v] w fun x w'=>x= .returned (.string (nE l))/\Below w.heap.size w w':=by
 obtain ⟨ao,cap,rfl,hl,bN⟩:=h;obtain ⟨n,hn⟩:=ex (l.length);rw[<-hn]at hl bN |-;have Hn:=hid hn;have Hl:=hid hl;have oQ:=hid bN;have Hjl0:=hid (Kr (by rw[<-hn];exact hl) hs);have H0:=hid (RO.first w 9 1);clear hn hl bN hs;go_enter Tryz.func25,Tryz.ntmps25;go_wp2
 go_loopw [3,8] (fun vv vi wr=>∃(v2:Value) (j k:Nat),v2=vv/\vi= .int .i64 (j:Int)/\Hid (j<=n/\k=(fB (l.take j)).length/\k<=j/\RO w wr 9 1 v2 k ((fB (l.take j)).flatMap bc))) (fun _ vi _=>n-(intOf vi).toNat)
 case atStart=>exact ⟨_,0,0,rfl,rfl,hid ⟨Nat.zero_le _,rfl,aBh _,H0.o⟩⟩
 case round=>
  clear H0;obtain ⟨v2,j,k,rfl,rfl,H⟩:=hrel;by_cases hj:j<n
  ·have tj:decide (j<n)=true:=dT hj;have bj:(j:Int)<(n:Int):=by omega
   obtain ⟨x,hx⟩:∃x,l[j]? =some x:=aF (by rw[<-Hn.o];exact hj);obtain ⟨b2,o2,rfl,bI,hc⟩:=oQ.o (by omega);have x0:=(H.o.2.2.2.below.cell (p:=⟨b2,o2+j*1+0,none⟩) bI).trans (hc j x hx 0 _ rfl);rw[Nat.mul_one,Nat.add_zero]at x0;obtain ⟨cY,df⟩:=bL (k:=j) (n:=n) hj (by have:=Hl.o;omega);by_cases he:x=⟨#[]⟩
   ·have HE:=hid (show j+1<=n/\k=(fB (l.take (j+1))).length/\k<=j+1/\RO w wr 9 1 v2 k ((fB (l.take (j+1))).flatMap bc) from by
     rw[SL hx he];exact ⟨hj,H.o.2.1,Nat.le_succ_of_le H.o.2.2.1,H.o.2.2.2⟩)
    subst he;clear hx hc bI H oQ hj;go_wp2;go_roundw
    case rel=>exact ⟨_,j+1,k,rfl,df.o,HE⟩
    case measure=>exact cY.o
   ·have t1:=kX he;have b9:=hid (fun o=>H.o.2.2.2.row.alloc o);have nX:=hid (show ∀u∈[Value.string x],u.oneCell'=true from fun u hu=>by rw[List.mem_singleton.1 hu];rfl);have Ut:=hid (show k<=2000000 by have:=H.o.2.2.1;have:=Hl.o;omega);have Ec:=hid (show 0<1 by decide);have Lu:=hid (show 16<=1000 by decide);have aX:=hid (fun o v' w2 a1 a2 a3=>show j+1<=n/\k+1=(fB (l.take (j+1))).length/\k+1<=j+1/\RO w w2 9 1 v' (k+1) ((fB (l.take (j+1))).flatMap bc) from by
     rw[Pe hx he,aBj,List.flatMap_append,List.flatMap_singleton];exact ⟨hj,by rw[H.o.2.1];rfl,by have:=H.o.2.2.1;omega,RO.app (w1:=wr.alloc o) (v':=v') (w2:=w2) (m:=k+1) (ys:=(fB (l.take j)).flatMap bc++[.string x]) H.o.2.2.2 ((aBi _ wr).alloc (aBh _) o) a1 a2 a3⟩)
    clear hx hc bI H oQ hj he
    go_wp2_with (at_builtin;refine j1 9 45 (.string ⟨#[]⟩) 1 16 Tryz.underlying45 vM rfl Ec.o Lu.o rfl _ _ rfl v2 k ((fB (l.take j)).flatMap bc) rfl (b9.o _) wr.heap.size #[.string x] [.string x] rfl (ag _) rfl rfl nX.o Ut.o (k+1) rfl ?_;intro vA c4 w2 aB bC aA;have HE:=hid (aX.o _ _ _ aB bC aA);clear aB bC aA)
    go_roundw
    case rel=>exact ⟨_,j+1,k+1,rfl,df.o,HE⟩
    case measure=>exact cY.o
  ·have tj:decide (j<n)=false:=dF hj;obtain ⟨h1,h2,h3,h4⟩:=H.o;have ej:j=n:=by omega
   subst ej;rw[List.take_of_length_le (by rw[Hn.o];exact aBh _)]at h2 h4;have hJ:Calls Tryz.prog 65 #[v2,.string ⟨#[45,45,45,10]⟩] wr fun x w'=>x= .returned (.string (nE l))/\Below wr.heap.size wr w':=by
    have jg:=SlR.ofRow (xs:=fB l) (cells:=bc) (sz:=1) h4.row h2 (fun _=>rfl) (by have:=Hl.o;omega) (by decide);have iQ:=MM h4.row;obtain ⟨a0,c0,rfl,hlc,qS⟩:=jg;by_cases h0:(fB l).length=0
    ·have e:fB l=[]:=List.eq_nil_of_length_eq_zero h0;have ev:nE l=⟨#[]⟩:=by unfold nE;rw[e];rfl
     rw[h0,ev];refine (Tryz.strings_Join_none a0 c0 _ wr).mono ?_;rintro x w' ⟨rfl,rfl⟩;exact ⟨rfl,aBi _ _⟩
    ·obtain ⟨bk,o,rfl,Ye,hc⟩:=qS (by omega);exact Tryz.strings_Join bk o c0 (fB l) ⟨#[45,45,45,10]⟩ wr (fun j x hx=>by
      have:=hc j x hx 0 _ rfl
      rwa [Nat.mul_one,Nat.add_zero]at this) Ye (by omega) (iQ _ _ _ rfl) Hjl0.o
   have HJ:=hid hJ;have HB:=hid h4.below;clear H oQ hj h1 h2 h3 h4 hJ
   go_wp2_with fail
   refine HJ.o.mono ?_;rintro x w2 ⟨rfl,hb⟩;have Hb:=hid (HB.o.trans (hb.mono HB.o.size));clear hb HJ;go_wp2;refine bodyPost_ret (results_tmp (t:=2) rfl _ _ _) rfl ⟨rfl,Hb.o⟩
theorem vW {w:World} {V:Value} {ms:List RsM} (h:RsL w V ms):∃ao cap,V= .slice ao ms.length cap/\ms.length<=1048576/\(∀i m,ms[i]? =some m->∃b o,ao=some ⟨b,o,none⟩/\b<w.heap.size/\(∀j u,m.cells[j]? =some u->w.cell? ⟨b,o+i*8+j,none⟩=some u)/\ResL w m.r m.ev m.tv m.rv):=by
 obtain ⟨ao,cap,hv,hl,bN⟩:=h.sl;refine ⟨ao,cap,hv,hl,fun i m hm=> ?_⟩;have hi:i<ms.length:=(aBo hm).1;obtain ⟨b,o,ha,hb,hc⟩:=bN (by omega);exact ⟨b,o,ha,hb,hc i m hm,h.each m (List.mem_of_getElem? hm)⟩
theorem ResL.later {w w2:World} {r:Res} {ev tv rv:Value} (h:ResL w r ev tv rv) (hb:Below w.heap.size w w2):ResL w2 r ev tv rv:=⟨h.e.later hb,h.t.later hb,h.r.later hb⟩
theorem Sa (w:World) (V V':Value) (ms ms':List RsM) (h:RsL w V ms) (h':RsL w V' ms') (he:ms.map (·.r)=ms'.map (·.r)):
 Calls Tryz.prog 13 #[V,V'] w fun e w'=>e= .returned (.bool true)/\Below w.heap.size w w':=by
 have hlen:ms'.length=ms.length:=by rw[<-List.length_map (·.r),<-he,List.length_map]
 obtain ⟨ao,cap,rfl,hl,bN⟩:=vW h;obtain ⟨fj,mn,rfl,Qz,oP⟩:=vW h';rw[hlen];obtain ⟨n,hn⟩:=ex (ms.length);have hx:∀i,i<n->∃(m m':RsM) (b o b' o':Nat),m'.r=m.r/\ao=some ⟨b,o,none⟩/\fj=some ⟨b',o',none⟩/\b<w.heap.size/\b'<w.heap.size/\(∀j u,m.cells[j]? =some u->w.cell? ⟨b,o+i*8+j,none⟩=some u)/\(∀j u,m'.cells[j]? =some u->w.cell? ⟨b',o'+i*8+j,none⟩=some u)/\ResL w m.r m.ev m.tv m.rv/\ResL w m'.r m'.ev m'.tv m'.rv:=by
  intro i hi;obtain ⟨m,hm⟩:∃m,ms[i]? =some m:=aF (by omega);obtain ⟨m',CZ⟩:∃m,ms'[i]? =some m:=aF (by omega);obtain ⟨b,o,ha,hb,hc,hr⟩:=bN i m hm;obtain ⟨b',o',Uc,QD,FO,Qv⟩:=oP i m' CZ;have e1:(ms.map (·.r))[i]? =some m.r:=by rw[List.getElem?_map,hm];rfl
  have e2:(ms'.map (·.r))[i]? =some m'.r:=by rw[List.getElem?_map,CZ];rfl
  rw[he,e2]at e1;exact ⟨m,m',b,o,b',o',aBm e1,ha,Uc,hb,QD,hc,FO,hr,Qv⟩
 rw[<-hn]at hl |-;have Hx:=hid hx;have Hl:=hid hl;have hne:((n:Int) != (n:Int))=false:=by simp
 clear h h' he hlen hl Qz bN oP hx hn;go_enter Tryz.func13,Tryz.ntmps13;go_wp2
 go_loopw [5] (fun vi wr=>∃j:Nat,vi= .int .i64 (j:Int)/\Hid (j<=n/\Below w.heap.size w wr)) (fun vi _=>n-(intOf vi).toNat)
 case atStart=>exact ⟨0,rfl,hid ⟨Nat.zero_le _,aBi _ _⟩⟩
 case round=>
  obtain ⟨j,rfl,H⟩:=hrel;by_cases hj:j<n
  ·have tj:decide (j<n)=true:=dT hj;have bj:(j:Int)<(n:Int):=by omega
   obtain ⟨m,m',b,o,b',o',pG,rfl,rfl,hb,QD,hc,FO,hr,Qv⟩:=Hx.o j hj;obtain ⟨r,ev,tv,rv⟩:=m;obtain ⟨r',D9,D6,D7⟩:=m';simp only at pG hr Qv;subst pG;have HS:=hid (Rt wr.drew r' ev tv rv D9 D6 D7 (hr.later (H.o.2.drew)) (Qv.later (H.o.2.drew)));obtain ⟨a1,n1,c1,e1⟩:=bO hr.e;obtain ⟨a2,n2,c2,e2⟩:=bO hr.t;obtain ⟨a3,n3,c3,e3⟩:=bO hr.r;obtain ⟨a4,n4,c4,e4⟩:=bO Qv.e
   obtain ⟨a5,n5,c5,e5⟩:=bO Qv.t;obtain ⟨a6,n6,c6,e6⟩:=bO Qv.r;have f:=fun i=>H.o.2.cell (p:=⟨b,o+j*8+i,none⟩) hb;have f':=fun i=>H.o.2.cell (p:=⟨b',o'+j*8+i,none⟩) QD;have y0:=(f 0).trans (hc 0 _ rfl);have y1:=(f 1).trans (hc 1 _ rfl);have y2:=(f 2).trans (hc 2 _ rfl);have y3:=(f 3).trans (hc 3 _ rfl);have y4:=(f 4).trans (hc 4 _ rfl);have y5:=(f 5).trans (hc 5 _ rfl);have y6:=(f 6).trans (hc 6 _ rfl)
   have y7:=(f 7).trans (hc 7 _ rfl);have z0:=(f' 0).trans (FO 0 _ rfl);have z1:=(f' 1).trans (FO 1 _ rfl);have z2:=(f' 2).trans (FO 2 _ rfl);have z3:=(f' 3).trans (FO 3 _ rfl);have z4:=(f' 4).trans (FO 4 _ rfl);have z5:=(f' 5).trans (FO 5 _ rfl);have z6:=(f' 6).trans (FO 6 _ rfl);have z7:=(f' 7).trans (FO 7 _ rfl);rw[e1,e2,e3,e4,e5,e6]at HS;rw[e1]at y2;rw[e2]at y3;rw[e3]at y5;rw[e4]at z2;rw[e5]at z3
   rw[e6]at z5;unfold bV at HS;simp only[Nat.add_zero]at y0 z0;have HH:=hid (fun w4 (h4:Below wr.drew.heap.size wr.drew w4)=>show j+1<=n/\Below w.heap.size w w4 from ⟨hj,H.o.2.drew.trans (h4.mono H.o.2.drew.size)⟩);obtain ⟨cY,df⟩:=bL (k:=j) (n:=n) hj (by have:=Hl.o;omega);clear hb QD hc FO hr Qv e1 e2 e3 e4 e5 e6 f f' H hj;go_wp2
   go_still_tail 8,(by kernel_rfl)
   repeat still_step
   change wpList _ _ _ _ _ wr.drew
   go_wp2_with fail
   refine HS.o.mono ?_;rintro x w4 ⟨rfl,h4⟩;have HE:=hid (HH.o _ h4);clear h4 HS HH;go_wp2;go_roundw
   case rel=>exact ⟨j+1,df.o,HE⟩
   case measure=>exact cY.o
  ·have tj:decide (j<n)=false:=dF hj;have HE:=hid H.o.2;clear H hj;go_wp2;go_ret;exact ⟨rfl,HE.o⟩
noncomputable def fp:List Res->List ByteArray->ByteArray×Int
 |[],out=>if 65536<(nE out).size then (⟨#[]⟩,3) else (nE out,0)
 |r::rest,out=>if dH r=[] then (⟨#[]⟩,123) else if (dR (dH r)).2≠0 then (⟨#[]⟩,(dR (dH r)).2) else fp rest (out++[(dR (dH r)).1])
noncomputable def qe (rs:List Res):ByteArray×Int:=fp rs []
def uu (w:World) (t:ByteArray×Int) (x:Ending) (w':World):Prop:=x= .returned (.tuple #[.string t.1,.int .i64 t.2])/\Below w.heap.size w w'
theorem F1 {ns:List Nd} (h:(dR ns).2=0):(dR ns).1.size<=65536:=by
 unfold dR at h |-
 split
 ·decide
 ·split
  ·decide
  ·rename_i _ h2
   rw[<-aj]
   show (lL ns).toArray.toList.length<=_
   simpa using h2
theorem Gi (w:World) (V:Value) (ms:List RsM) (h:RsL w V ms) (hz:∀m∈ms,ResZ m.r) (hg:GlobT w):
 Calls Tryz.prog 15 #[V] w (uu w (qe (ms.map (·.r)))):=by
 obtain ⟨ao,cap,rfl,hl,bN⟩:=vW h;obtain ⟨n,hn⟩:=ex (ms.length);rw[<-hn]at hl |-;have Hn:=hid hn;have Hl:=hid hl;have oQ:=hid bN;have Hz:=hid hz;have Hg:=hid (fun w2 (hb:Below w.heap.size w w2)=>hg.later hb);have H0:=hid (RO.first w 9 1);obtain ⟨tx,mN⟩:=ex (qe (ms.map (·.r)));rw[<-mN];have Htx:=hid mN;have Hs0:=hid (show fp ((ms.map (·.r)).drop 0) []=tx from mN.symm);clear h hn hl bN hz hg mN
 go_enter Tryz.func15,Tryz.ntmps15;go_wp2
 go_loopw [4,13] (fun vv vi wr=>∃(v2:Value) (j:Nat) (out:List ByteArray),v2=vv/\vi= .int .i64 (j:Int)/\Hid (j<=n/\out.length=j/\(∀x∈out,x.size<=65536)/\fp ((ms.map (·.r)).drop j) out=tx/\RO w wr 9 1 v2 j (out.flatMap bc))) (fun _ vi _=>n-(intOf vi).toNat)
 case atStart=>exact ⟨_,0,[],rfl,rfl,hid ⟨Nat.zero_le _,rfl,nofun,Hs0.o,H0.o⟩⟩
 case round=>
  clear H0 Hs0 Htx;obtain ⟨v2,j,out,rfl,rfl,H⟩:=hrel;by_cases hj:j<n
  ·have tj:decide (j<n)=true:=dT hj;have bj:(j:Int)<(n:Int):=by omega
   obtain ⟨m,hm⟩:∃m,ms[j]? =some m:=aF (by rw[<-Hn.o];exact hj);obtain ⟨b,o,rfl,hb,hc,hr⟩:=oQ.o j m hm;have gv:=H.o.2.2.2.2.below;have hzm:=Hz.o m (List.mem_of_getElem? hm);have T9:(ms.map (·.r)).drop j=m.r::(ms.map (·.r)).drop (j+1):=iI (by rw[List.getElem?_map,hm];rfl);have hs:=H.o.2.2.2.1;rw[T9]at hs;have mT:=fun i u (hu:m.cells[i]? =some u)=>(gv.cell (p:=⟨b,o+j*8+i,none⟩) hb).trans (hc i u hu)
   obtain ⟨r,ev,tv,rv⟩:=m;obtain ⟨ea,en,ec,rfl⟩:=bO hr.e;obtain ⟨ta,tn,tc,rfl⟩:=bO hr.t;obtain ⟨ra,rn,rc,rfl⟩:=bO hr.r;have c0:=mT 0 _ rfl;have c1:=mT 1 _ rfl;have c2:=mT 2 _ rfl;have c3:=mT 3 _ rfl;have c4:=mT 4 _ rfl;have c5:=mT 5 _ rfl;have c6:=mT 6 _ rfl;have c7:=mT 7 _ rfl;simp only[Nat.add_zero]at c0;obtain ⟨wa,CP⟩:=ex (wr.alloc (.cells #[.int .i64 r.kind,.string r.name,.slice ea en ec,.slice ta tn tc,.string r.host,.slice ra rn rc,.string r.route,.bool r.del] 49))
   have C5:Below wr.heap.size wr wa:=by rw[CP];exact (aBi _ _).alloc (aBh _) _
   have WB:Below w.heap.size w wa:=gv.trans (C5.mono gv.size);have HTr:=hid (P9 wa r _ _ _ hzm (hr.later WB) (Hg.o wa WB));have HR:=hid (H.o.2.2.2.2.later C5);have pW:=hid (And.intro H.o.2.1 H.o.2.2.1);obtain ⟨cY,df⟩:=bL (k:=j) (n:=n) hj (by have:=Hl.o;omega);have Hj:=hid hj;have Gn:=hid hs;unfold bV at HTr;clear hm hb hc mT hr hzm T9 hs hj C5 WB gv H oQ Hz
   go_wp2_with fail
   rw[<-CP];refine HTr.o.mono ?_;rintro x w3 ⟨nv,ns,rfl,hD,ll,aV⟩;clear c0 c1 c2 c3 c4 c5 c6 c7 CP HTr;obtain ⟨na,nn,nc,Wh⟩:∃a n c,nv= .slice a n c:=bO hD.nds.1;subst Wh;have uF:nn=ns.length:=vX hD.row;have iF:=hid aV;have pK:Below w.heap.size w w3:=by
    have h1:=HR.o.below;exact h1.trans (aV.mono h1.size)
   have uP:=hid (HR.o.later aV);have Yq:=hid (PC w3 _ ns hD.nds (Hg.o w3 pK).gl);rw[ll]at Yq;have Wj:nn=(dH r).length:=by rw[uF,<-ll,bP]
   have my:=hid pK;clear hD aV ll uF pK HR iF;unfold fp at Gn;by_cases h0:dH r=[]
   ·have e0:nn=0:=by rw[Wj,h0];rfl
    subst e0;have HE:Hid (uu w tx (.returned (.tuple #[.string ⟨#[]⟩,.int .i64 123])) w3):=hid ⟨by rw[<-Gn.o,if_pos h0],my.o⟩;clear Wj h0 Yq Gn;go_wp2;refine bodyPost_ret (results_tmp2 (t:=2) (u:=3) rfl _ _ _) rfl HE.o
   ·have t1:((nn:Int)==0)=false:=by
     rw[beq_eq_false_iff_ne];intro e;exact h0 (List.eq_nil_of_length_eq_zero (by omega))
    rw[if_neg h0]at Gn;obtain ⟨et,ee,hee⟩:∃et ee,dR (dH r)=(et,ee):=⟨_,_,rfl⟩;have Ih:ee=0->et.size<=65536:=fun h=>by
     have:=F1 (ns:=dH r) (by rw[hee];exact h);rw[hee]at this;exact this
    have Hsm:=hid Ih;rw[hee]at Yq Gn;simp only at Yq Gn;clear Wj h0 hee Ih
    go_wp2_with fail
    refine Yq.o.mono ?_;rintro x w4 ⟨rfl,bX⟩;have UA:=hid (uP.o.later bX);have Gq:=hid (my.o.trans (bX.mono my.o.size));clear Yq bX uP my;by_cases he:ee=0
    ·subst he;have D8:=Gn.o;rw[if_neg (by simp)]at D8;have Hs2:=hid D8;have b9:=hid (fun o=>UA.o.row.alloc o);have nX:=hid (show ∀u∈[Value.string et],u.oneCell'=true from fun u hu=>by rw[List.mem_singleton.1 hu];rfl);have Ut:=hid (show j<=2000000 by have:=Hj.o;have:=Hl.o;omega);have Ec:=hid (show 0<1 by decide);have Lu:=hid (show 16<=1000 by decide);have aX:=hid (fun o v' w5 a1 a2 a3=>show j+1<=n/\(out++[et]).length=j+1/\(∀x∈out++[et],x.size<=65536)/\fp ((ms.map (·.r)).drop (j+1)) (out++[et])=tx/\RO w w5 9 1 v' (j+1) ((out++[et]).flatMap bc) from
      ⟨Hj.o,by rw[aBj,pW.o.1];rfl,fun x hx=>by
       rcases List.mem_append.1 hx with q|q
       ·exact pW.o.2 x q
       ·rw[List.mem_singleton.1 q];exact Hsm.o rfl,Hs2.o,by
       rw[List.flatMap_append,List.flatMap_singleton];exact RO.app (w1:=w4.alloc o) (v':=v') (w2:=w5) (m:=j+1) (ys:=out.flatMap bc++[.string et]) UA.o ((aBi _ w4).alloc (aBh _) o) a1 a2 a3⟩)
     clear D8 Gn pW UA Gq Hs2 Hsm
     go_wp2_with (at_builtin;refine j1 9 45 (.string ⟨#[]⟩) 1 16 Tryz.underlying45 vM rfl Ec.o Lu.o rfl _ _ rfl v2 j (out.flatMap bc) rfl (b9.o _) w4.heap.size #[.string et] [.string et] rfl (ag _) rfl rfl nX.o Ut.o (j+1) rfl ?_;intro vA c4 w5 aB bC aA;have HE:=hid (aX.o _ _ _ aB bC aA);clear aB bC aA)
     go_roundw
     case rel=>exact ⟨_,j+1,_,rfl,df.o,HE⟩
     case measure=>exact cY.o
    ·have t2:(ee != 0)=true:=bne_iff_ne.2 he;have HE:Hid (uu w tx (.returned (.tuple #[.string ⟨#[]⟩,.int .i64 ee])) w4):=hid ⟨by rw[<-Gn.o,if_pos he],Gq.o⟩;clear he Gn UA Gq;go_wp2;refine bodyPost_ret (results_tmp2 (t:=2) (u:=3) rfl _ _ _) rfl HE.o
  ·have tj:decide (j<n)=false:=dF hj;obtain ⟨h1,h2,h3,h4,h5⟩:=H.o;have ej:j=n:=by omega
   rw[List.drop_eq_nil_of_le (by rw[List.length_map,<-Hn.o];omega)]at h4;unfold fp at h4;have HJ:=hid (V9 wr v2 out (SlR.ofRow h5.row h2.symm (fun _=>rfl) (by have:=Hl.o;omega) (by decide)) h3);have HB:=hid h5.below;have H4:=hid h4;generalize nE out=t at*;clear H oQ hj h1 h2 h3 h4 h5 ej Hz Hg
   go_wp2_with fail
   refine HJ.o.mono ?_;rintro x w2 ⟨rfl,hb⟩;have Hb:=hid (HB.o.trans (hb.mono HB.o.size));clear hb HJ HB;by_cases sJ:65536<t.size
   ·have t1:decide ((65536:Int)<(t.size:Int))=true:=dT (by omega);have HE:Hid (uu w tx (.returned (.tuple #[.string ⟨#[]⟩,.int .i64 3])) w2):=hid ⟨by rw[<-H4.o,if_pos sJ],Hb.o⟩;clear H4 Hb sJ;go_wp2;refine bodyPost_ret (results_tmp2 (t:=2) (u:=3) rfl _ _ _) rfl HE.o
   ·have t1:decide ((65536:Int)<(t.size:Int))=false:=dF (by omega);have HE:Hid (uu w tx (.returned (.tuple #[.string t,.int .i64 0])) w2):=hid ⟨by rw[<-H4.o,if_neg sJ],Hb.o⟩;clear H4 Hb sJ;go_wp2;refine bodyPost_ret (results_tmp2 (t:=2) (u:=3) rfl _ _ _) rfl HE.o
