/-
Parts of a proof.
-/
import Derived.Test.YtfenoaeoedobmaaGreatDoorOw36
set_option linter.unusedVariables false
set_option linter.unusedSimpArgs false
set_option maxHeartbeats 4000000
set_option maxRecDepth 20000
namespace Go.Proofs.YtfenoaeoedobmaaGreatDoor
open Go Go.RowKit
def mU (r s:Res):Bool:=
 (r.kind==s.kind)&&(r.name.toList==s.name.toList)&&(r.host.toList==s.host.toList)&&(r.route.toList==s.route.toList)&&(r.del==s.del)&&decide (r.endps=s.endps)&&gY lS r.targets s.targets&&gY lY r.rules s.rules
theorem Lb (w:World) (v v':Value) (l l':List ByteArray) (h:SlR w v 1 l aR) (h':SlR w v' 1 l' aR):
 Calls Tryz.prog 73 #[v,v'] w fun x w'=>x= .returned (.bool (decide (l=l')))/\∃k,w'=w.drewN k:=by
 obtain ⟨ao,cap,rfl,hl,hat⟩:=h;obtain ⟨ao',cap',rfl,hl',hat'⟩:=h';by_cases hn:l.length=l'.length
 ·by_cases h0:l.length=0
  ·have e1:l=[]:=List.eq_nil_of_length_eq_zero h0;have e2:l'=[]:=List.eq_nil_of_length_eq_zero (hn ▸ h0);subst e1;subst e2;refine (Tryz.slices_Equal_string_empty ao ao' cap 0 cap' w (by decide)).mono ?_;rintro x w' ⟨rfl,rfl⟩;exact ⟨rfl,0,rfl⟩
  ·obtain ⟨b1,o1,rfl,l1,q1⟩:=hat (by omega);obtain ⟨b2,o2,rfl,l2,q2⟩:=hat' (by omega);have hc:∀(L:List ByteArray) (b o:Nat),(∀i x,L[i]? =some x->∀j u,(aR x)[j]? =some u->w.cell? ⟨b,o+i*1+j,none⟩=some u)->∀j,j<L.length->w.cell? ⟨b,o+j,none⟩=some (.string (L.getD j ByteArray.empty)):=by
    intro L b o q j hj;have:=q j L[j] (aAg hj) 0 _ rfl;rw[Nat.mul_one,Nat.add_zero]at this;rw[this,List.getD_eq_getElem?_getD,aAg hj];rfl
   refine (Tryz.slices_Equal_string b1 o1 l.length cap b2 o2 l'.length cap' l l' w (aAa _) (aAa _) (by omega) (by omega) (hc l b1 o1 q1) (hc l' b2 o2 q2)).mono ?_;rintro x w' ⟨rfl,k,rfl⟩;rw[List.take_length,List.take_length];exact ⟨rfl,k,rfl⟩
 ·refine (Tryz.slices_Equal_string_lens ao ao' l.length cap l'.length cap' w hn).mono ?_;rintro x w' ⟨rfl,rfl⟩;rw[dF (fun e=>hn (by rw[e]))];exact ⟨rfl,0,rfl⟩
theorem Ep (w:World) (r s:Res) (ev tv rv ev' tv' rv':Value) (h:ResL w r ev tv rv) (h':ResL w s ev' tv' rv'):
 Calls Tryz.prog 30 #[.agg (bJ r ev tv rv),.agg (bJ s ev' tv' rv')] w fun e w'=>e= .returned (.bool (mU r s))/\Below w.heap.size w w':=by
 obtain ⟨W,hW⟩:=ex ((w.alloc (.cells (bJ r ev tv rv) 49)).alloc (.cells (bJ s ev' tv' rv') 49));have hbW:Below w.heap.size w W:=by rw[hW];exact jN _ _ _
 have hblk:W.heap[w.heap.size]? =some (.cells (bJ r ev tv rv) 49 (0,0))/\W.heap[w.heap.size+1]? =some (.cells (bJ s ev' tv' rv') 49 (0,0)):=by rw[hW];exact Lg (aAb _ _)
 have HE:=hid (fun k=>Lb (W.drewN k) ev ev' r.endps s.endps ((h.e.later hbW).later (bdH (aAb _ _) k)) ((h'.e.later hbW).later (bdH (aAb _ _) k)));have HT:=hid (fun k=>Ka (W.drewN k) tv tv' r.targets s.targets ((h.t.later hbW).later (bdH (aAb _ _) k)) ((h'.t.later hbW).later (bdH (aAb _ _) k)));have HU:=hid (fun k=>JT (W.drewN k) rv rv' r.rules s.rules ((h.r.later hbW).later (bdH (aAb _ _) k)) ((h'.r.later hbW).later (bdH (aAb _ _) k)))
 obtain ⟨f1,f2⟩:=hblk;unfold bJ at hW f1 f2 |-;obtain ⟨y0,y1,y2,y3,y4,y5,y6,y7⟩:=cB8 f1;obtain ⟨z0,z1,z2,z3,z4,z5,z6,z7⟩:=cB8 f2;simp at y0 y1 y2 y3 y4 y5 y6 y7 z0 z1 z2 z3 z4 z5 z6 z7;have HB:=hid (fun k=>bdH hbW k);have hsv:mU r s=((r.kind==s.kind)&&(r.name.toList==s.name.toList)&&(r.host.toList==s.host.toList)&&(r.route.toList==s.route.toList)&&(r.del==s.del)&&decide (r.endps=s.endps)&&gY lS r.targets s.targets&&gY lY r.rules s.rules):=rfl
 rw[hsv];clear h h' hbW f1 f2 hsv;cases t0:(r.kind==s.kind) with
 |false=>
  simp only[Bool.and_true,Bool.true_and,Bool.and_false,Bool.false_and];clear HE HT HU;go_enter Tryz.func30,Tryz.ntmps30;go_wp2
  try rw[<-hW]
  refine bodyPost_ret (results_tmp (t:=4) rfl _ _ _) rfl ?_;exact ⟨rfl,HB.o 0⟩
 |true=>
  cases t1:(r.name.toList==s.name.toList) with
  |false=>
   simp only[Bool.and_true,Bool.true_and,Bool.and_false,Bool.false_and];clear HE HT HU;go_enter Tryz.func30,Tryz.ntmps30;go_wp2
   try rw[<-hW]
   refine bodyPost_ret (results_tmp (t:=4) rfl _ _ _) rfl ?_;exact ⟨rfl,HB.o 0⟩
  |true=>
   cases t2:(r.host.toList==s.host.toList) with
   |false=>
    simp only[Bool.and_true,Bool.true_and,Bool.and_false,Bool.false_and];clear HE HT HU;go_enter Tryz.func30,Tryz.ntmps30;go_wp2
    try rw[<-hW]
    refine bodyPost_ret (results_tmp (t:=4) rfl _ _ _) rfl ?_;exact ⟨rfl,HB.o 0⟩
   |true=>
    cases t3:(r.route.toList==s.route.toList) with
    |false=>
     simp only[Bool.and_true,Bool.true_and,Bool.and_false,Bool.false_and];clear HE HT HU;go_enter Tryz.func30,Tryz.ntmps30;go_wp2
     try rw[<-hW]
     refine bodyPost_ret (results_tmp (t:=4) rfl _ _ _) rfl ?_;exact ⟨rfl,HB.o 0⟩
    |true=>
     cases t4:(r.del==s.del) with
     |false=>
      simp only[Bool.and_true,Bool.true_and,Bool.and_false,Bool.false_and];clear HE HT HU;go_enter Tryz.func30,Tryz.ntmps30;go_wp2
      try rw[<-hW]
      refine bodyPost_ret (results_tmp (t:=4) rfl _ _ _) rfl ?_;exact ⟨rfl,HB.o 0⟩
     |true=>
      cases t5:decide (r.endps=s.endps) with
      |false=>
       simp only[Bool.and_true,Bool.true_and,Bool.and_false,Bool.false_and];rw[t5]at HE;clear t5;go_enter Tryz.func30,Tryz.ntmps30
       go_wp2_with fail
       rw[<-hW];refine (HE.o 0).mono ?_;rintro x w2 ⟨rfl,k1,rfl⟩;rw[show (W.drewN 0).drewN k1=W.drewN k1 by rw[cO,Nat.zero_add]];clear hW HE;go_wp2;refine bodyPost_ret (results_tmp (t:=4) rfl _ _ _) rfl ?_;exact ⟨rfl,HB.o k1⟩
      |true=>
       cases t6:gY lS r.targets s.targets with
       |false=>
        simp only[Bool.and_true,Bool.true_and,Bool.and_false,Bool.false_and];rw[t5]at HE;rw[t6]at HT;clear t5;clear t6;go_enter Tryz.func30,Tryz.ntmps30
        go_wp2_with fail
        rw[<-hW];refine (HE.o 0).mono ?_;rintro x w2 ⟨rfl,k1,rfl⟩;rw[show (W.drewN 0).drewN k1=W.drewN k1 by rw[cO,Nat.zero_add]];clear hW HE
        go_wp2_with fail
        refine (HT.o k1).mono ?_;rintro x w2 ⟨rfl,k2,rfl⟩;rw[cO];clear HT;go_wp2;refine bodyPost_ret (results_tmp (t:=4) rfl _ _ _) rfl ?_;exact ⟨rfl,HB.o (k1+k2)⟩
       |true=>
        cases t7:gY lY r.rules s.rules with
        |false=>
         simp only[Bool.and_true,Bool.true_and,Bool.and_false,Bool.false_and];rw[t5]at HE;rw[t6]at HT;rw[t7]at HU;clear t5;clear t6;clear t7;go_enter Tryz.func30,Tryz.ntmps30
         go_wp2_with fail
         rw[<-hW];refine (HE.o 0).mono ?_;rintro x w2 ⟨rfl,k1,rfl⟩;rw[show (W.drewN 0).drewN k1=W.drewN k1 by rw[cO,Nat.zero_add]];clear hW HE
         go_wp2_with fail
         refine (HT.o k1).mono ?_;rintro x w2 ⟨rfl,k2,rfl⟩;rw[cO];clear HT
         go_wp2_with fail
         refine (HU.o (k1+k2)).mono ?_;rintro x w2 ⟨rfl,k3,rfl⟩;rw[cO];clear HU;go_wp2;refine bodyPost_ret (results_tmp (t:=4) rfl _ _ _) rfl ?_;exact ⟨rfl,HB.o (k1+k2+k3)⟩
        |true=>
         simp only[Bool.and_true,Bool.true_and,Bool.and_false,Bool.false_and];rw[t5]at HE;rw[t6]at HT;rw[t7]at HU;clear t5;clear t6;clear t7;go_enter Tryz.func30,Tryz.ntmps30
         go_wp2_with fail
         rw[<-hW];refine (HE.o 0).mono ?_;rintro x w2 ⟨rfl,k1,rfl⟩;rw[show (W.drewN 0).drewN k1=W.drewN k1 by rw[cO,Nat.zero_add]];clear hW HE
         go_wp2_with fail
         refine (HT.o k1).mono ?_;rintro x w2 ⟨rfl,k2,rfl⟩;rw[cO];clear HT
         go_wp2_with fail
         refine (HU.o (k1+k2)).mono ?_;rintro x w2 ⟨rfl,k3,rfl⟩;rw[cO];clear HU;go_wp2;refine bodyPost_ret (results_tmp (t:=4) rfl _ _ _) rfl ?_;exact ⟨rfl,HB.o (k1+k2+k3)⟩
noncomputable def eV (r:Res):List Nd:=
 match fR (jn wtF r) with
 | .ok b=>if mU b r=true then jn wtF r else []
 | .error _=>[]
def STr (w:World) (l:List Nd) (x:Ending) (w':World):Prop:=
 ∃v ms,x= .returned v/\DocP w' w.heap.size ⟨v,ms⟩/\nds ms=l/\Below w.heap.size w w'/\AM v ms
theorem xz {w w':World} (hb:Below w.heap.size w w'):STr w [] (.returned (.slice none 0 0)) w':=
 ⟨_,[],rfl,⟨World.ownsRow_nil _ _ _ _,nofun,nofun,Nat.zero_le _⟩,rfl,hb,tP _⟩
theorem sB (w:World) (r:Res) (ev tv rv:Value) (hz:ResZ r) (hL:ResL w r ev tv rv) (hg:GlobT w):
 Calls Tryz.prog 19 #[.agg (bJ r ev tv rv)] w (STr w (eV r)):=by
 obtain ⟨W,hW⟩:=ex (w.alloc (.cells (bJ r ev tv rv) 49));have hbW:Below w.heap.size w W:=by rw[hW];exact (aAb _ _).alloc (aAa _) _
 have hsW:W.heap.size=w.heap.size+1:=by rw[hW];simp
 have hblk:W.heap[w.heap.size]? =some (.cells (bJ r ev tv rv) 49 (0,0)):=by rw[hW];exact ah _
 obtain ⟨ea,en,ec,rfl⟩:=ba hL.e;obtain ⟨ta,tn,tc,rfl⟩:=ba hL.t;obtain ⟨ra,rn,rc,rfl⟩:=ba hL.r;have HT:=hid (DZ W r _ _ _ hz ⟨hL.e.later hbW,hL.t.later hbW,hL.r.later hbW⟩ (hg.later hbW));have HL:=hid (fun w2 (hb:Below w.heap.size w w2)=>show ResL w2 r (.slice ea en ec) (.slice ta tn tc) (.slice ra rn rc) from ⟨hL.e.later hb,hL.t.later hb,hL.r.later hb⟩);have HG:=hid (fun w2 (hb:Below w.heap.size w w2)=>(hg.later hb).gl)
 have HB:=hid (And.intro hbW hsW);have y:=fun w2 (hb:Below W.heap.size W w2)=>show w2.heap[w.heap.size]? =some (.cells (bJ r (.slice ea en ec) (.slice ta tn tc) (.slice ra rn rc)) 49 (0,0)) from (hb.block _ (by omega)).trans hblk;have HY:=hid y;have y1:=y W (aAb _ _);clear hz hL hg hbW hsW hblk y;unfold bJ at HT hW HY y1 |-;obtain ⟨a0,a1,a2,a3,a4,a5,a6,a7⟩:=cB8 y1
 simp at a0 a1 a2 a3 a4 a5 a6 a7;clear y1;go_enter Tryz.func19,Tryz.ntmps19
 go_wp2_with fail
 rw[<-hW];refine HT.o.mono ?_;rintro x w2 ⟨V,ms,rfl,hD,hn,hb2,hap⟩;clear a0 a1 a2 a3 a4 a5 a6 a7 hW HT;have hbw2:Below w.heap.size w w2:=HB.o.1.trans (hb2.mono HB.o.1.size);obtain ⟨va,vn,vc,hV⟩:∃a n c,V= .slice a n c:=ba hD.nds.1;have HR:=hid (BL w2 V ms hD.nds (HG.o w2 hbw2));have HD:=hid hD;have Hap:=hid hap;have HB2:=hid (And.intro hb2 hbw2);have hn2:=hn;have Hn:=hid hn;rw[hn]at HR
 subst hV;clear hD hb2 hbw2 hn hap;cases hd:fR (jn wtF r) with
 |error e=>
  have hnz:=Cj (jn wtF r) e hd;have hv:eV r=[]:=by unfold eV;rw[hd]
  rw[hd]at HR;have HE:=hid (fun w' (hb:Below w.heap.size w w')=>show STr w (eV r) (.returned (.slice none 0 0)) w' from by rw[hv];exact xz hb);have t1:(e.2 != 0)=true:=bne_iff_ne.2 hnz;clear hd hnz hv Hn
  go_wp2_with fail
  refine HR.o.mono ?_;unfold lM tC;rintro x w3 ⟨h,hb3⟩;simp only at h;subst h;have Hb:=hid (fun ob=>((HB2.o.2.trans (hb3.mono HB2.o.2.size)).alloc (aAe HB2.o.2.size hb3.size) ob));clear hb3 HR;go_wp2;refine bodyPost_ret (results_tmp (t:=2) rfl _ _ _) rfl (HE.o _ (Hb.o _))
 |ok b=>
  have hv:eV r=if mU b r=true then jn wtF r else []:=by unfold eV;rw[hd]
  rw[hd]at HR;have HV:=hid hv;clear hd hv
  go_wp2_with fail
  refine HR.o.mono ?_;unfold lM;rintro x w3 ⟨⟨ev2,tv2,rv2,h,hN⟩,hb3⟩;subst h;obtain ⟨ea2,en2,ec2,rfl⟩:=ba hN.toL.e;obtain ⟨ta2,tn2,tc2,rfl⟩:=ba hN.toL.t;obtain ⟨ra2,rn2,rc2,rfl⟩:=ba hN.toL.r;obtain ⟨w4,hw4⟩:=ex (w3.alloc (.cells (bJ b (.slice ea2 en2 ec2) (.slice ta2 tn2 tc2) (.slice ra2 rn2 rc2)) 49));have hb4:Below w3.heap.size w3 w4:=by rw[hw4];exact (aAb _ _).alloc (aAa _) _
  have hbw3:Below w.heap.size w w3:=HB2.o.2.trans (hb3.mono HB2.o.2.size);have hbw4:Below w.heap.size w w4:=hbw3.trans (hb4.mono hbw3.size);have hbW4:Below W.heap.size W w4:=(HB2.o.1.trans (hb3.mono HB2.o.1.size)).trans (hb4.mono (aAe HB2.o.1.size hb3.size));have f1:=HY.o w4 hbW4;have f2:w4.heap[w3.heap.size]? =some (.cells (bJ b (.slice ea2 en2 ec2) (.slice ta2 tn2 tc2) (.slice ra2 rn2 rc2)) 49 (0,0)):=by rw[hw4];exact ah _
  have HS:=hid (Ep w4 b r _ _ _ _ _ _ ⟨hN.toL.e.later hb4,hN.toL.t.later hb4,hN.toL.r.later hb4⟩ (HL.o w4 hbw4));have HE:=hid (fun w' (hb:Below w4.heap.size w4 w')=>show STr w (eV r) (.returned (if mU b r=true then .slice va vn vc else .slice none 0 0)) w' from by
   have h2:Below w2.heap.size w2 w':=(hb3.trans (hb4.mono hb3.size)).trans (hb.mono (aAe hb3.size hb4.size));rw[HV.o];by_cases hs:mU b r=true
   ·rw[if_pos hs,if_pos hs];have hP:=fx.down (x:=(⟨.slice va vn vc,ms⟩:DocV)) HD.o (aAe (Nat.le_succ _) (Nat.le_of_eq HB.o.2.symm));exact ⟨_,ms,rfl,fx.mod (F:=fun _=>False) hP (bh h2) (fun _ _ q=>q),Hn.o,hbw4.trans (hb.mono hbw4.size),Hap.o⟩
   ·rw[if_neg hs,if_neg hs];exact xz (hbw4.trans (hb.mono hbw4.size)))
  unfold bJ at hw4 f1 f2 HS |-;obtain ⟨a0,a1,a2,a3,a4,a5,a6,a7⟩:=cB8 f1;obtain ⟨c0,c1,c2,c3,c4,c5,c6,c7⟩:=cB8 f2;simp at a0 a1 a2 a3 a4 a5 a6 a7 c0 c1 c2 c3 c4 c5 c6 c7;clear f1 f2 hb3 HR hN hb4 hbw3 hbw4 hbW4 HB HB2 HL HG HD HV Hn HY;subst hw4
  go_wp2_with fail
  refine HS.o.mono ?_;rintro x w5 ⟨rfl,hb5⟩;have Hb5:=hid hb5;clear hb5 HS a0 a1 a2 a3 a4 a5 a6 a7 c0 c1 c2 c3 c4 c5 c6 c7;cases hs:mU b r with
  |true=>
   rw[hs]at HE;simp only[if_true]at HE;go_wp2;refine bodyPost_ret (results_tmp (t:=2) rfl _ _ _) rfl (HE.o _ Hb5.o)
  |false=>
   rw[hs]at HE;go_wp2;refine bodyPost_ret (results_tmp (t:=2) rfl _ _ _) rfl (HE.o _ Hb5.o)
theorem ox {w:World} {V:Value} {ms:List RsM} (h:RsL w V ms):∃ao cap,V= .slice ao ms.length cap/\ms.length<=1048576/\(∀i m,ms[i]? =some m->∃b o,ao=some ⟨b,o,none⟩/\b<w.heap.size/\(∀j u,m.cells[j]? =some u->w.cell? ⟨b,o+i*8+j,none⟩=some u)/\ResL w m.r m.ev m.tv m.rv):=by
 obtain ⟨ao,cap,hv,hl,hat⟩:=h.sl;refine ⟨ao,cap,hv,hl,fun i m hm=> ?_⟩;have hi:i<ms.length:=(aAh hm).1;obtain ⟨b,o,ha,hb,hc⟩:=hat (by omega);exact ⟨b,o,ha,hb,hc i m hm,h.each m (List.mem_of_getElem? hm)⟩
theorem ResL.later {w w2:World} {r:Res} {ev tv rv:Value} (h:ResL w r ev tv rv) (hb:Below w.heap.size w w2):ResL w2 r ev tv rv:=⟨h.e.later hb,h.t.later hb,h.r.later hb⟩
theorem xX (w:World) (V V':Value) (ms ms':List RsM) (h:RsL w V ms) (h':RsL w V' ms') (he:ms.map (·.r)=ms'.map (·.r)):
 Calls Tryz.prog 13 #[V,V'] w fun e w'=>e= .returned (.bool true)/\Below w.heap.size w w':=by
 have hlen:ms'.length=ms.length:=by rw[<-List.length_map (·.r),<-he,List.length_map]
 obtain ⟨ao,cap,rfl,hl,hat⟩:=ox h;obtain ⟨ao',cap',rfl,hl',hat'⟩:=ox h';rw[hlen];obtain ⟨n,hn⟩:=ex (ms.length);have hx:∀i,i<n->∃(m m':RsM) (b o b' o':Nat),m'.r=m.r/\ao=some ⟨b,o,none⟩/\ao'=some ⟨b',o',none⟩/\b<w.heap.size/\b'<w.heap.size/\(∀j u,m.cells[j]? =some u->w.cell? ⟨b,o+i*8+j,none⟩=some u)/\(∀j u,m'.cells[j]? =some u->w.cell? ⟨b',o'+i*8+j,none⟩=some u)/\ResL w m.r m.ev m.tv m.rv/\ResL w m'.r m'.ev m'.tv m'.rv:=by
  intro i hi;obtain ⟨m,hm⟩:∃m,ms[i]? =some m:=au (by omega);obtain ⟨m',hm'⟩:∃m,ms'[i]? =some m:=au (by omega);obtain ⟨b,o,ha,hb,hc,hr⟩:=hat i m hm;obtain ⟨b',o',ha',hb',hc',hr'⟩:=hat' i m' hm';have e1:(ms.map (·.r))[i]? =some m.r:=by rw[List.getElem?_map,hm];rfl
  have e2:(ms'.map (·.r))[i]? =some m'.r:=by rw[List.getElem?_map,hm'];rfl
  rw[he,e2]at e1;exact ⟨m,m',b,o,b',o',aAf e1,ha,ha',hb,hb',hc,hc',hr,hr'⟩
 rw[<-hn]at hl |-;have Hx:=hid hx;have Hl:=hid hl;have hne:((n:Int) != (n:Int))=false:=by simp
 clear h h' he hlen hl hl' hat hat' hx hn;go_enter Tryz.func13,Tryz.ntmps13;go_wp2
 go_loopw [5] (fun vi wr=>∃j:Nat,vi= .int .i64 (j:Int)/\Hid (j<=n/\Below w.heap.size w wr)) (fun vi _=>n-(intOf vi).toNat)
 case atStart=>exact ⟨0,rfl,hid ⟨Nat.zero_le _,aAb _ _⟩⟩
 case round=>
  obtain ⟨j,rfl,H⟩:=hrel;by_cases hj:j<n
  ·have tj:decide (j<n)=true:=dT hj;have bj:(j:Int)<(n:Int):=by omega
   obtain ⟨m,m',b,o,b',o',hmm,rfl,rfl,hb,hb',hc,hc',hr,hr'⟩:=Hx.o j hj;obtain ⟨r,ev,tv,rv⟩:=m;obtain ⟨r',ev',tv',rv'⟩:=m';simp only at hmm hr hr';subst hmm;have HS:=hid (EJ wr.drew r' ev tv rv ev' tv' rv' (hr.later (H.o.2.drew)) (hr'.later (H.o.2.drew)));obtain ⟨a1,n1,c1,e1⟩:=ba hr.e;obtain ⟨a2,n2,c2,e2⟩:=ba hr.t;obtain ⟨a3,n3,c3,e3⟩:=ba hr.r;obtain ⟨a4,n4,c4,e4⟩:=ba hr'.e
   obtain ⟨a5,n5,c5,e5⟩:=ba hr'.t;obtain ⟨a6,n6,c6,e6⟩:=ba hr'.r;have f:=fun i=>H.o.2.cell (p:=⟨b,o+j*8+i,none⟩) hb;have f':=fun i=>H.o.2.cell (p:=⟨b',o'+j*8+i,none⟩) hb';have y0:=(f 0).trans (hc 0 _ rfl);have y1:=(f 1).trans (hc 1 _ rfl);have y2:=(f 2).trans (hc 2 _ rfl);have y3:=(f 3).trans (hc 3 _ rfl);have y4:=(f 4).trans (hc 4 _ rfl);have y5:=(f 5).trans (hc 5 _ rfl);have y6:=(f 6).trans (hc 6 _ rfl)
   have y7:=(f 7).trans (hc 7 _ rfl);have z0:=(f' 0).trans (hc' 0 _ rfl);have z1:=(f' 1).trans (hc' 1 _ rfl);have z2:=(f' 2).trans (hc' 2 _ rfl);have z3:=(f' 3).trans (hc' 3 _ rfl);have z4:=(f' 4).trans (hc' 4 _ rfl);have z5:=(f' 5).trans (hc' 5 _ rfl);have z6:=(f' 6).trans (hc' 6 _ rfl);have z7:=(f' 7).trans (hc' 7 _ rfl);rw[e1,e2,e3,e4,e5,e6]at HS;rw[e1]at y2;rw[e2]at y3;rw[e3]at y5;rw[e4]at z2;rw[e5]at z3
   rw[e6]at z5;unfold bJ at HS;simp only[Nat.add_zero]at y0 z0;have HH:=hid (fun w4 (h4:Below wr.drew.heap.size wr.drew w4)=>show j+1<=n/\Below w.heap.size w w4 from ⟨hj,H.o.2.drew.trans (h4.mono H.o.2.drew.size)⟩);obtain ⟨Hms,Hgo⟩:=aM (k:=j) (n:=n) hj (by have:=Hl.o;omega);clear hb hb' hc hc' hr hr' e1 e2 e3 e4 e5 e6 f f' H hj;go_wp2
   go_still_tail 8,(by kernel_rfl)
   repeat still_step
   change wpList _ _ _ _ _ wr.drew
   go_wp2_with fail
   refine HS.o.mono ?_;rintro x w4 ⟨rfl,h4⟩;have HE:=hid (HH.o _ h4);clear h4 HS HH;go_wp2;go_roundw
   case rel=>exact ⟨j+1,Hgo.o,HE⟩
   case measure=>exact Hms.o
  ·have tj:decide (j<n)=false:=dF hj;have HE:=hid H.o.2;clear H hj;go_wp2;go_ret;exact ⟨rfl,HE.o⟩
def sp (k m:Nat):Int:= -1000*(k:Int)-(m:Int)-1
def spl (i m:Nat) (l:List Int):List Int:=(List.range m).map (fun j=>sp i j)++l.drop m
def Kst (K:Nat->List Int) (k m i:Nat):List Int:=if i<k then spl i (K i).length (K i) else if i=k then spl i m (K i) else K i
theorem xA {i m:Nat} {l:List Int} (h:m<=l.length):(spl i m l).length=l.length:=by
 unfold spl;simp;omega
theorem Es {i m:Nat} {l:List Int} (h:m<l.length):(spl i m l).set m (sp i m)=spl i (m+1) l:=by
 unfold spl;rw[List.set_append_right _ _ (by simp),List.length_map,List.length_range,Nat.sub_self,List.drop_eq_getElem_cons h,List.set_cons_zero,List.range_succ,List.map_append,List.append_assoc];rfl
theorem Ib {i m:Nat} {l:List Int} {j:Nat} (h:j<m):(spl i m l)[j]? =some (sp i j):=by
 unfold spl;rw[List.getElem?_append_left (by simpa using h),List.getElem?_map,List.getElem?_range h];rfl
theorem CJ (K:Nat->List Int):Kst K 0 0=K:=by
 funext i;unfold Kst;rw[if_neg (Nat.not_lt_zero _)]
 split
 ·simp[spl]
 ·rfl
theorem wO (K:Nat->List Int) (k m:Nat):Kst K k m k=spl k m (K k):=by
 unfold Kst;rw[if_neg (Nat.lt_irrefl _),if_pos rfl]
theorem CK (K:Nat->List Int) (k:Nat):Kst K k (K k).length=Kst K (k+1) 0:=by
 funext i;unfold Kst;by_cases h1:i<k
 ·rw[if_pos h1,if_pos (by omega)]
 ·rw[if_neg h1];by_cases h2:i=k
  ·subst h2;rw[if_pos rfl,if_pos (by omega)]
  ·rw[if_neg h2,if_neg (by omega)]
   split
   ·simp[spl]
   ·rfl
theorem CL {K:Nat->List Int} {q k m:Nat} (hk:k<q) (hm:m<(Kst K q 0 k).length):(Kst K q 0 k)[m]? =some (sp k m):=by
 unfold Kst at hm |-;rw[if_pos hk]at hm |-;rw[xA (aAa _)]at hm;exact Ib hm
def upd (K:Nat->List Int) (k:Nat) (l:List Int) (i:Nat):List Int:=if i=k then l else K i
theorem Fw {K:Nat->List Int} {k m:Nat} (h:m<(K k).length):upd (Kst K k m) k ((Kst K k m k).set m (sp k m))=Kst K k (m+1):=by
 funext i;unfold upd;by_cases e:i=k
 ·subst e;rw[if_pos rfl,wO,wO,Es h]
 ·rw[if_neg e];unfold Kst
  split
  ·rfl
  ·first|rfl|rw[if_neg e,if_neg e]
theorem iH {w:World} {B:Nat} {e:TypeId} {sz:Nat} {v:Value} {n:Nat} {xs:List Value} (h:w.ownsRow B e sz v n xs):∃a cap,v= .slice a n cap/\(0<n->∃(g:Nat) (c:Array Value),a=some ⟨g,0,none⟩/\v.ownBlock=some g/\w.heap[g]? =some (.cells c e (0,0))/\∀(j:Nat) (u:Value),xs[j]? =some u->c[j]? =some u):=by
 rcases h.2 with ⟨rfl,rfl⟩|⟨g,cap,cur,rfl,hb,hh,hc,hm,hs,ht⟩
 ·exact ⟨none,0,rfl,fun h=>absurd h (Nat.lt_irrefl _)⟩
 ·refine ⟨_,cap,rfl,fun _=>⟨g,cur,rfl,rfl,hh,fun j u hu=> ?_⟩⟩;rw[<-ht]at hu;rw[List.getElem?_take]at hu
  split at hu
  ·simpa using hu
  ·cases hu
structure XS (s0 s1:Nat) (w:World) (xv:Value) (q c:Nat) (ks:Nat->Value) (K:Nat->List Int):Prop where
 row:∃L,w.ownsRow 0 55 6 xv q L/\∀k,c<=k->k<q->L[k*6+5]? =some (ks k)
 fr:∀g,xv.ownBlock=some g->s0<=g/\g<s1
 kid:∀k,c<=k->k<q->w.ownsRow 0 3 1 (ks k) (K k).length ((K k).flatMap aP)
 kfr:∀k,c<=k->k<q->∀g,(ks k).ownBlock=some g->(s0<=g/\g<s1)/\xv.ownBlock≠some g
 pair:∀i j g,c<=i->i<q->c<=j->j<q->(ks i).ownBlock=some g->(ks j).ownBlock=some g->i=j
 len:q<=1048576/\∀k,c<=k->k<q->(K k).length<=1048576
theorem XS.form {s0 s1:Nat} {w:World} {xv:Value} {q c:Nat} {ks:Nat->Value} {K:Nat->List Int} (h:XS s0 s1 w xv q c ks K):∃a cap,xv= .slice a q cap:=by
 obtain ⟨L,hr,_⟩:=h.row;obtain ⟨a,cap,e,_⟩:=iH hr;exact ⟨a,cap,e⟩
theorem XS.at {s0 s1:Nat} {w:World} {xv:Value} {q c:Nat} {ks:Nat->Value} {K:Nat->List Int} (h:XS s0 s1 w xv q c ks K) {k:Nat} (hc:c<=k) (hk:k<q):
 ∃gx cap cx a cp,xv= .slice (some ⟨gx,0,none⟩) q cap/\xv.ownBlock=some gx/\w.heap[gx]? =some (.cells cx 55 (0,0))/\cx[k*6+5]? =some (ks k)/\(∃u,cx[k*6+2]? =some u)/\ks k= .slice a (K k).length cp/\
  (0<(K k).length->∃g2 c2,a=some ⟨g2,0,none⟩/\(ks k).ownBlock=some g2/\w.heap[g2]? =some (.cells c2 3 (0,0))/\∀(j:Nat) (x:Int),(K k)[j]? =some x->c2[j]? =some (.int .i64 x)):=by
 obtain ⟨L,hr,hL⟩:=h.row;obtain ⟨ax,cap,e,hx⟩:=iH hr;obtain ⟨gx,cx,rfl,hg,hh,hcx⟩:=hx (by omega);obtain ⟨a,cp,e2,hy⟩:=iH (h.kid k hc hk);have hl:=hr.1;refine ⟨gx,cap,cx,a,cp,e,hg,hh,hcx _ _ (hL k hc hk),?_,e2,fun h0=> ?_⟩
 ·have hlt:k*6+2<L.length:=by rw[hl];omega
  exact ⟨L[k*6+2],hcx _ _ (aAg hlt)⟩
 ·obtain ⟨g2,c2,rfl,hg2,hh2,hc2⟩:=hy h0;refine ⟨g2,c2,rfl,hg2,hh2,fun j x hj=>hc2 j _ ?_⟩;have:=gV (sz:=1) (cells:=aP) (fun _=>rfl) (K k) j x hj 0 (.int .i64 x) rfl
  rwa [Nat.mul_one,Nat.add_zero]at this
theorem ints_set (l:List Int) (m:Nat) (z:Int):(l.set m z).flatMap aP=(l.flatMap aP).set m (.int .i64 z):=by
 induction l generalizing m with
 |nil=>rfl
 |cons x r ih=>
  cases m with
  |zero=>rfl
  |succ m=>show Value.int .i64 x::(r.set m z).flatMap aP=Value.int .i64 x::(r.flatMap aP).set m _;rw[ih]
abbrev InS (s0 s1 g:Nat):Prop:=s0<=g/\g<s1
theorem XS.write {s0 s1:Nat} {w:World} {xv:Value} {q c:Nat} {ks:Nat->Value} {K:Nat->List Int} (h:XS s0 s1 w xv q c ks K) {k:Nat} (hc:c<=k) (hk:k<q) {g2:Nat} (hg:(ks k).ownBlock=some g2) {m:Nat} (hm:m<(K k).length) (z:Int):
 XS s0 s1 (w.setCell ⟨g2,m,none⟩ (.int .i64 z)) xv q c ks (upd K k ((K k).set m z))/\Mod (InS s0 s1) w (w.setCell ⟨g2,m,none⟩ (.int .i64 z)):=by
 have hM:Mod (fun b=>b=g2) w (w.setCell ⟨g2,m,none⟩ (.int .i64 z)):=(Mod.refl _ _).setCell _ _ (fun _=>rfl);obtain ⟨L,hr,hL⟩:=h.row;refine ⟨⟨⟨L,aG hr hM (fun g hx e=>(h.kfr k hc hk g2 hg).2 (by rw[hx,e])),hL⟩,h.fr,fun i h1 h2=> ?_,h.kfr,h.pair,h.len.1,fun i h1 h2=> ?_⟩,hM.mono (fun i _ e=>by rw[e];exact (h.kfr k hc hk g2 hg).1)⟩
 ·unfold upd;by_cases e:i=k
  ·subst e;rw[if_pos rfl,List.length_set,ints_set];exact row_set (h.kid i h1 h2) hg _ (by omega)
  ·rw[if_neg e];exact aG (h.kid i h1 h2) hM (fun g hx e2=>e (h.pair i k g2 h1 h2 hc hk (by rw[hx,e2]) hg))
 ·unfold upd
  split
  ·rw[List.length_set];exact h.len.2 k hc hk
  ·exact h.len.2 i h1 h2
theorem XS.next {s0 s1:Nat} {w w1 w2:World} {xv:Value} {q c:Nat} {ks:Nat->Value} {K:Nat->List Int} (h:XS s0 s1 w xv q c ks K) (hc:c<q) (hb:Below w.heap.size w w1) (hgr:w1.grownBy w2 (ks c).ownBlock) {gx:Nat} (hx:xv.ownBlock=some gx) (u t:Value):
 XS s0 s1 ((w2.setCell ⟨gx,c*6+5,none⟩ u).setCell ⟨gx,c*6+2,none⟩ t) xv q (c+1) ks K/\Mod (InS s0 s1) w ((w2.setCell ⟨gx,c*6+5,none⟩ u).setCell ⟨gx,c*6+2,none⟩ t)/\Mod (fun g=>(ks c).ownBlock=some g) w w2:=by
 have hM2:Mod (fun g=>(ks c).ownBlock=some g) w w2:=((bh hb).mono (fun _ _ q=>q.elim)).grown hgr (fun k e _=>e);have hMa:Mod (fun b=>b=gx) w2 (w2.setCell ⟨gx,c*6+5,none⟩ u):=(Mod.refl _ _).setCell _ _ (fun _=>rfl);have hM:Mod (fun b=>b=gx) w2 ((w2.setCell ⟨gx,c*6+5,none⟩ u).setCell ⟨gx,c*6+2,none⟩ t):=hMa.setCell _ _ (fun _=>rfl);obtain ⟨L,hr,hL⟩:=h.row;have hr2:=aG hr hM2 (fun g hx2 e=>(h.kfr c (aAa _) hc g e).2 hx2)
 have hr3:=row_set (row_set hr2 hx u (j:=c*6+5) (by omega)) hx t (j:=c*6+2) (by omega);refine ⟨⟨⟨_,hr3,fun k h1 h2=> ?_⟩,h.fr,fun k h1 h2=> ?_,fun k h1 h2=>h.kfr k (by omega) h2,fun i j g h1 h2 h3 h4=>h.pair i j g (by omega) h2 (by omega) h4,h.len.1,fun k h1 h2=>h.len.2 k (by omega) h2⟩,?_,hM2⟩
 ·rw[List.getElem?_set_ne (by omega),List.getElem?_set_ne (by omega)];exact hL k (by omega) h2
 ·refine aG (aG (h.kid k (by omega) h2) hM2 (fun g hx2 e=> ?_)) hM (fun g hx2 e=>(h.kfr k (by omega) h2 g hx2).2 (by rw[hx,e]));have:=h.pair k c g (by omega) h2 (aAa _) hc hx2 e;omega
 ·exact (hM2.mono (fun g _ e=>(h.kfr c (aAa _) hc g e).1)).trans (hM.mono (fun g _ e=>by rw[e];exact h.fr gx hx))
theorem XS.spoil {s0 s1:Nat} {w w1 w2:World} {xv:Value} {q c:Nat} {ks:Nat->Value} {K:Nat->List Int} (h:XS s0 s1 w xv q c ks K) (hc:c<q) (hb:Below w.heap.size w w1) (hgr:w1.grownBy w2 (ks c).ownBlock) {gx:Nat} {cx:Array Value} {u5 u2:Value} (hx:xv.ownBlock=some gx)
 (hh:w.heap[gx]? =some (.cells cx 55 (0,0))) (x5:cx[c*6+5]? =some u5) (x2:cx[c*6+2]? =some u2) (u t:Value):
 w2.cell? ⟨gx,c*6+5,none⟩=some u5/\w2.frozen? ⟨gx,c*6+5,none⟩=false/\(w2.setCell ⟨gx,c*6+5,none⟩ u).cell? ⟨gx,c*6+2,none⟩=some u2/\(w2.setCell ⟨gx,c*6+5,none⟩ u).frozen? ⟨gx,c*6+2,none⟩=false/\
  XS s0 s1 ((w2.setCell ⟨gx,c*6+5,none⟩ u).setCell ⟨gx,c*6+2,none⟩ t) xv q (c+1) ks K/\Mod (InS s0 s1) w ((w2.setCell ⟨gx,c*6+5,none⟩ u).setCell ⟨gx,c*6+2,none⟩ t):=by
 obtain ⟨h1,h2,h3⟩:=h.next hc hb hgr hx u t;have hh2:=h3.heap hh (fun e=>(h.kfr c (aAa _) hc gx e).2 hx);have hh3:=aE hh2 (c*6+5) u;refine ⟨(af hh2 _).trans x5,ai hh2 _,(af hh3 _).trans ?_,ai hh3 _,h1,h2⟩;rw[Array.getElem?_setIfInBounds_ne (by omega)];exact x2
theorem XS.first {w:World} {lo:Nat} {v:Value} {ms:List NdM} (h:DocP w lo ⟨v,ms⟩) (ha:AM v ms):XS lo w.heap.size w v ms.length 0 (fun k=>(ms[k]?.map (·.kv)).getD undef) (fun k=>(ms[k]?.map (·.nd.kids)).getD []):=by
 have hat:∀k,k<ms.length->∃m,ms[k]? =some m/\NdP w lo m:=fun k hk=>⟨ms[k],aAg hk,h.each _ (List.getElem_mem hk)⟩;refine ⟨⟨_,h.row,fun k _ hk=> ?_⟩,fun g hg=>⟨h.fresh g hg,(h.row.lt g hg).2⟩,fun k _ hk=> ?_,fun k _ hk g hg=> ?_,fun i j g _ hi _ hj h1 h2=> ?_,h.len,fun k _ hk=> ?_⟩
 ·obtain ⟨m,hm,_⟩:=hat k hk;have e:=gV (sz:=6) (cells:=NdM.cells) (fun _=>rfl) ms k m hm 5 m.kv rfl;simp only[hm,Option.map_some,Option.getD_some];exact e
 ·obtain ⟨m,hm,hp⟩:=hat k hk;simp only[hm,Option.map_some,Option.getD_some];exact hp.row
 ·obtain ⟨m,hm,hp⟩:=hat k hk;simp only[hm,Option.map_some,Option.getD_some]at hg;exact ⟨NdE.lt hp g hg,ha.1 m (List.mem_of_getElem? hm) g hg⟩
 ·obtain ⟨m,hm,_⟩:=hat i hi;obtain ⟨m',hm',_⟩:=hat j hj;simp only[hm,hm',Option.map_some,Option.getD_some]at h1 h2;exact ha.2 i j m m' g hm hm' h1 h2
 ·obtain ⟨m,hm,hp⟩:=hat k hk;simp only[hm,Option.map_some,Option.getD_some];exact hp.len
theorem XS.later {s0 s1:Nat} {w w2:World} {xv:Value} {q c:Nat} {ks:Nat->Value} {K:Nat->List Int} (h:XS s0 s1 w xv q c ks K) (hb:Below w.heap.size w w2):XS s0 s1 w2 xv q c ks K:=by
 obtain ⟨L,hr,hL⟩:=h.row;exact ⟨⟨L,aG hr (bh hb) (fun _ _ q=>q),hL⟩,h.fr,fun k h1 h2=>aG (h.kid k h1 h2) (bh hb) (fun _ _ q=>q),h.kfr,h.pair,h.len⟩
noncomputable def dU:Code:=(nco (ncb (ncr (ncl (ncr (ncr (ncr (ncr (ncr (ncx Tryz.f7.body))))))))))
noncomputable def c8:Code:=(nco (ncb (ncr (ncl (ncr (ncr (ncr (ncr (ncr (ncr (ncx Tryz.f7.body)))))))))))
noncomputable def fE:Code:=(ncr (ncr (ncb (ncl (ncr c8)))))
noncomputable def owR:Code:=(ncl (ncb (ncl (ncr dU))))
noncomputable def EY:Code:=(ncr (ncr (ncr (ncb (ncl (ncr dU))))))
noncomputable def E0:Code:=(ncl (ncr (ncb (ncl (ncr dU)))))
noncomputable def EZ:Code:=(ncl (ncr (ncr (ncb (ncl (ncr dU))))))
noncomputable def IT:Code:=(ncl (ncb (ncl (ncr c8))))
noncomputable def IS:Code:=(ncl (ncr (ncb (ncl (ncr c8)))))
noncomputable def IQ:Code:=(ncl fE)
noncomputable def IP:Code:=(ncl (ncr fE))
noncomputable def IN:Code:=(ncl (ncr (ncr fE)))
noncomputable def IM:Code:=(ncl (ncr (ncr (ncr fE))))
noncomputable def IL:Code:=(ncr (ncr (ncr (ncr fE))))
noncomputable def KM:Code:=(ncb (ncr (ncl (ncr (ncr (ncr (ncr (ncr (ncx Tryz.f7.body)))))))))
noncomputable def IK:Code:=(ncl dU)
noncomputable def KO:Code:=(ncb (ncl (ncr dU)))
noncomputable def KJ:Code:=(ncr (ncr dU))
noncomputable def KL:Code:=(ncb (ncr (ncl (ncr (ncr (ncr (ncr (ncr (ncr (ncx Tryz.f7.body))))))))))
noncomputable def IJ:Code:=(ncl c8)
noncomputable def KN:Code:=(ncb (ncl (ncr c8)))
noncomputable def KI:Code:=(ncr (ncr c8))
def ik (v:Nat->Value):Act:=⟨#[v 0,v 1,v 2,v 3,v 4,v 5,v 6,v 7,v 8,v 9,v 10,v 11,v 12,v 13,v 14,v 15,v 16,v 17,v 18,v 19,v 20,v 21,v 22,v 23,v 24,v 25,v 26,v 27,v 28,v 29,v 30,v 31,v 32,v 33,v 34,v 35,v 36,v 37,v 38,v 39,v 40,v 41,v 42,v 43,v 44,v 45,v 46,v 47,v 48,v 49,v 50,v 51,v 52,v 53,v 54,v 55,v 56,v 57,v 58,v 59,v 60,v 61,v 62,v 63,v 64,v 65,v 66,v 67,v 68,v 69,v 70,v 71,v 72,v 73,v 74,v 75,v 76,v 77,v 78,v 79,v 80,v 81,v 82,v 83,v 84,v 85,v 86,v 87,v 88,v 89,v 90,v 91,v 92,v 93,v 94,v 95,v 96,v 97,v 98,v 99,v 100,v 101,v 102,v 103,v 104,v 105,v 106,v 107,v 108,v 109,v 110,v 111,v 112,v 113,v 114,v 115,v 116,v 117,v 118,v 119,v 120,v 121,v 122,v 123,v 124,v 125,v 126,v 127,v 128,v 129,v 130,v 131,v 132,v 133,v 134,v 135,v 136,v 137,v 138,v 139,v 140,v 141,v 142,v 143,v 144,v 145,v 146,v 147,v 148,v 149,v 150,v 151,v 152,v 153,v 154,v 155,v 156,v 157,v 158,v 159,v 160,v 161,v 162,v 163,v 164,v 165,v 166,v 167,v 168,v 169,v 170,v 171,v 172,v 173,v 174,v 175,v 176,v 177,v 178,v 179,v 180,v 181,v 182,v 183,v 184,v 185,v 186,v 187,v 188,v 189,v 190,v 191,v 192,v 193,v 194,v 195,v 196,v 197,v 198,v 199,v 200,v 201,v 202,v 203,v 204,v 205,v 206,v 207,v 208,v 209,v 210,v 211,v 212,v 213,v 214,v 215,v 216,v 217,v 218,v 219,v 220,v 221,v 222,v 223,v 224,v 225,v 226,v 227,v 228,v 229,v 230,v 231,v 232,v 233,v 234,v 235,v 236,v 237,v 238,v 239,v 240,v 241,v 242,v 243,v 244,v 245,v 246,v 247,v 248,v 249,v 250,v 251,v 252,v 253,v 254,v 255,v 256,v 257,v 258,v 259,v 260,v 261,v 262,v 263],[]⟩
theorem wm (a:Act) (hs:a.tmps.size=264) (hd:a.defers=[]):∃v:Nat->Value,(∀(i:Nat) (x:Value),a.tmps[i]? =some x->v i=x)/\a=ik v:=by
 obtain ⟨t,d⟩:=a;obtain ⟨l⟩:=t;obtain rfl:d=[]:=hd;have hl:l.length=264:=hs;refine ⟨fun i=>l.getD i undef,fun i x hx=> ?_,?_⟩
 ·have hx':l[i]? =some x:=by simpa using hx
  simp[List.getD,hx']
 ·have e:l=(List.range 264).map (fun i=>l.getD i undef):=by
   apply List.ext_getElem
   ·simp[hl]
   ·intro i h1 h2;simp[List.getD,h1]
  generalize (fun i=>l.getD i undef)=v at e |-;subst e;rfl
structure OwX (a:Act) (dv:Value) (av:Value) (fb:Nat) (bv:Value) (i:Nat) (xv:Value) (yv:Value):Prop where
 size:a.tmps.size=264
 dfr:a.defers=[]
 s0:a.tmps[0]? =some (dv)
 s3:a.tmps[3]? =some (av)
 s4:a.tmps[4]? =some (.pointer (some ⟨fb,0,none⟩))
 s5:a.tmps[5]? =some (bv)
 s7:a.tmps[7]? =some (.int .i64 (i:Int))
 s8:a.tmps[8]? =some (xv)
 s9:a.tmps[9]? =some (yv)
theorem OwX.shape {a:Act} {dv:Value} {av:Value} {fb:Nat} {bv:Value} {i:Nat} {xv:Value} {yv:Value} (h:OwX a dv av fb bv i xv yv):∃v:Nat->Value,a=ik v/\v 0=dv/\v 3=av/\v 4= .pointer (some ⟨fb,0,none⟩)/\v 5=bv/\v 7= .int .i64 (i:Int)/\v 8=xv/\v 9=yv:=by
 obtain ⟨v,hv,hd⟩:=wm a h.size h.dfr;exact ⟨v,hd,hv 0 _ h.s0,hv 3 _ h.s3,hv 4 _ h.s4,hv 5 _ h.s5,hv 7 _ h.s7,hv 8 _ h.s8,hv 9 _ h.s9⟩
structure OwI (a:Act) (dv:Value) (av:Value) (fb:Nat) (bv:Value) (i:Nat):Prop where
 size:a.tmps.size=264
 dfr:a.defers=[]
 s0:a.tmps[0]? =some (dv)
 s3:a.tmps[3]? =some (av)
 s4:a.tmps[4]? =some (.pointer (some ⟨fb,0,none⟩))
 s5:a.tmps[5]? =some (bv)
 s7:a.tmps[7]? =some (.int .i64 (i:Int))
theorem OwI.shape {a:Act} {dv:Value} {av:Value} {fb:Nat} {bv:Value} {i:Nat} (h:OwI a dv av fb bv i):∃v:Nat->Value,a=ik v/\v 0=dv/\v 3=av/\v 4= .pointer (some ⟨fb,0,none⟩)/\v 5=bv/\v 7= .int .i64 (i:Int):=by
 obtain ⟨v,hv,hd⟩:=wm a h.size h.dfr;exact ⟨v,hd,hv 0 _ h.s0,hv 3 _ h.s3,hv 4 _ h.s4,hv 5 _ h.s5,hv 7 _ h.s7⟩
structure OwJ (a:Act) (dv:Value) (av:Value) (fb:Nat) (bv:Value) (i:Nat):Prop where
 size:a.tmps.size=264
 dfr:a.defers=[]
 s0:a.tmps[0]? =some (dv)
 s3:a.tmps[3]? =some (av)
 s4:a.tmps[4]? =some (.pointer (some ⟨fb,0,none⟩))
 s5:a.tmps[5]? =some (bv)
 s14:a.tmps[14]? =some (.int .i64 (i:Int))
theorem OwJ.shape {a:Act} {dv:Value} {av:Value} {fb:Nat} {bv:Value} {i:Nat} (h:OwJ a dv av fb bv i):∃v:Nat->Value,a=ik v/\v 0=dv/\v 3=av/\v 4= .pointer (some ⟨fb,0,none⟩)/\v 5=bv/\v 14= .int .i64 (i:Int):=by
 obtain ⟨v,hv,hd⟩:=wm a h.size h.dfr;exact ⟨v,hd,hv 0 _ h.s0,hv 3 _ h.s3,hv 4 _ h.s4,hv 5 _ h.s5,hv 14 _ h.s14⟩
