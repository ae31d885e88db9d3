/-
Parts of a proof.
-/
import Derived.Test.YtfenoaeoedobmaaGreatDoorRows
import Derived.Test.YtfenoaeoedobmaaGreatDoorCards
import Derived.Test.YtfenoaeoedobmaaGreatDoorTie
import Derived.OpenShut
import Derived.ShutString
import Derived.Deep.Slices
import Derived.Deep.DeepHandedRow
import Derived.Lib.LaidTab
import Derived.Stop.LaidErr
import Derived.Shelf.Vars
import Derived.Test.YtfenoaeoedobmaaGreatDoorOn49
set_option linter.unusedVariables false
set_option linter.unusedSimpArgs false
set_option maxHeartbeats 8000000
set_option maxRecDepth 100000
namespace Go.Proofs.YtfenoaeoedobmaaGreatDoor
open Go Go.RowKit
theorem Ge {w0:World} {bs:List UInt8} {N:Nat} (hN:N=bs.length) (hl:N<=1048576) (hg:Glob w0) {ka:Option Addr} {kc:Nat} {w1:World}
 (own:w1.ownsRow 0 5 1 (.slice ka N kc) N (bs.flatMap dz)) (gr:(w0.alloc (.cells #[] 5)).grownBy w1 (Value.slice (some ⟨w0.heap.size,0,none⟩) 0 0).ownBlock) (new:∀g,(Value.slice ka N kc).ownBlock=some g->(Value.slice (some ⟨w0.heap.size,0,none⟩) 0 0).ownBlock=some g\/(w0.alloc (.cells #[] 5)).heap.size<=g):
 Below w0.heap.size w0 w1/\Calls Tryz.prog 16 #[.slice ka N kc] w1 (Gj w1 (jb bs)):=by
 have h0:(w0.alloc (.cells #[] 5)).ownsRow 0 5 1 (.slice (some ⟨w0.heap.size,0,none⟩) 0 0) 0 []:=by
  have:=World.ownsRow_made (base:=0) (e:= 5) (size:=1) w0 #[] 0 (Nat.zero_le _) (by decide) rfl
  simpa using this
 have hr:RO w0 (w0.alloc (.cells #[] 5)) 5 1 (.slice (some ⟨w0.heap.size,0,none⟩) 0 0) 0 []:=
  ⟨(aBi _ _).alloc (aBh _) _,h0,fun g hg=>by have:w0.heap.size=g:=aBm hg;omega⟩
 have h1:=RO.app (w1:=w0.alloc (.cells #[] 5)) hr (aBi _ _) own gr new;refine ⟨h1.below,?_⟩;subst hN;exact Aj w1 bs ka kc (SlR.ofRow own rfl (fun _=>rfl) hl (by decide)) (GN own).1 (hg.later h1.below)
theorem B7 (w:World) (V:Value) (bs:List UInt8) (h:SlR w V 1 bs dz) (hg:GlobT w):
 Calls Tryz.prog 6 #[V] w fun e w'=>e= .returned (.bool true)/\Below w.heap.size w w':=by
 obtain ⟨ao,cap,hV,hl,_⟩:=id h;obtain ⟨N,hN⟩:=ex (bs.length);rw[<-hN]at hV hl;subst hV;have Ha:=hid (Td w hg);have Hd:=hid h;have Hg:=hid (fun w2 (hb:Below w.heap.size w w2)=>hg.later hb);have HN:=hid (And.intro hN hl);clear h hg hN hl;go_enter Tryz.func6,Tryz.ntmps6
 go_wp2_with fail
 refine Ha.o.mono ?_;rintro e w0 ⟨rfl,cK⟩;have Uq:=hid (show (w0.alloc (.cells #[] 5)).ownsRow 0 5 1 (.slice (some ⟨w0.heap.size,0,none⟩) 0 0) 0 [] from by
  have:=World.ownsRow_made (base:=0) (e:= 5) (size:=1) w0 #[] 0 (Nat.zero_le _) (by decide) rfl
  simpa using this)
 have Ul:=hid (Hd.o.later (cK.trans (((aBi w0.heap.size w0).alloc (aBh _) (.cells #[] 5)).mono cK.size)));have iV:=hid (fun ka kc w1 own gr new=>Ge (w0:=w0) (ka:=ka) (kc:=kc) (w1:=w1) HN.o.1 HN.o.2 (Hg.o w0 cK).gl own gr new);have lW:=hid cK;clear cK Ha Hd
 go_wp2_with (at_builtin;refine Lj rfl (.tmp 19) (.tmp 20) rfl _ rfl Uq.o ao N cap bs rfl Ul.o ?_;intro ka kc w1 Y7 gr1 new1;have HX:=hid (iV.o _ _ _ Y7 gr1 new1);clear Y7 gr1 new1)
 have kQ:=hid (lW.o.trans (HX.o.1.mono lW.o.size));obtain ⟨X,hX⟩:=ex (jb bs);have Lv:=hid hX;have HP:=HX.o.2;rw[<-hX]at HP;have BH:=hid HP;clear hX iV HX Uq Ul lW HP;refine BH.o.mono ?_;clear BH;intro x w2 hS;cases X with
 |error e=>
  unfold Gj at hS;obtain ⟨rfl,bI⟩:=hS;have t1:(e.2.2 != 0)=true:=bne_iff_ne.2 (Nk Lv.o.symm);have HE:=hid (fun o=>show Below w.heap.size w (w2.alloc o) from kQ.o.trans ((bI.trans (((aBi _ _).alloc (aBh _) o).mono bI.size)).mono kQ.o.size));clear bI kQ Lv Hg;go_wp2;refine bodyPost_ret (results_tmp (t:=2) rfl _ _ _) rfl ⟨rfl,HE.o _⟩
 |ok L=>
  unfold Gj at hS;obtain ⟨⟨V3,n3,ds,rfl,jz,Qy,CX,BE⟩,bI⟩:=hS;obtain ⟨w3,vf⟩:=ex (w2.alloc (.cells #[.int .i64 0,.int .i64 0,.int .i64 0] 27));have aV:Below w2.heap.size w2 w3:=by rw[vf];exact (aBi _ _).alloc (aBh _) _
  have pK:Below w.heap.size w w3:=(kQ.o.trans (bI.mono kQ.o.size)).trans (aV.mono (aBl kQ.o.size bI.size));have hD:=xv w3 V3 ds ((jz.later aV).docs Qy CX) (Hg.o w3 pK).gl;rw[BE]at hD;obtain ⟨Y,hY⟩:=ex (dy L 0);have HY:=hid hY;rw[<-hY]at hD;have HD:=hid hD;obtain ⟨va,vc,hV3⟩:∃a c,V3= .slice a n3 c:=by
   obtain ⟨a,c,e,_⟩:=(jz.docs Qy CX).sl;exact ⟨a,c,by rw[e,<-Qy]⟩
  have Ik:n3=L.length:=by rw[Qy,<-BE];unfold fZ;rw[List.length_map]
  have QI:=hid (And.intro Ik CX);have Gr:=hid pK;subst hV3;clear hY hD jz Qy CX BE bI aV pK Ik kQ
  go_wp2_with fail
  rw[<-vf];clear vf;refine HD.o.mono ?_;clear HD;intro x w4 hS;cases Y with
  |error e=>
   unfold Qa at hS;obtain ⟨rfl,bX⟩:=hS;obtain ⟨f1,f2⟩:=KY Lv.o.symm HY.o.symm;rw[<-QI.o.1]at f1;have t1:(e.2.2 != 0)=true:=bne_iff_ne.2 (SY HY.o.symm);have t2:decide ((0:Int)<=(e.1:Int))=true:=dT (by omega);have t3:decide (e.1<n3)=true:=dT f1;have t4:decide ((0:Int)<=e.2.1)=true:=dT f2;have HE:=hid (fun o=>show Below w.heap.size w (w4.alloc o) from Gr.o.trans ((bX.trans (((aBi _ _).alloc (aBh _) o).mono bX.size)).mono Gr.o.size))
   clear bX Gr Lv HY QI Hg HN f1 f2;go_wp2;refine bodyPost_ret (results_tmp (t:=2) rfl _ _ _) rfl ⟨rfl,HE.o _⟩
  |ok rs=>
   unfold Qa at hS;obtain ⟨⟨V5,n5,ms,rfl,Ot,Ss,OC,rP⟩,bX⟩:=hS;have Oq:=K7 HY.o.symm;have Wl:n5=n3:=by
    have h1:=(Bc _ _ _ HY.o.symm).1;rw[<-rP,List.length_map]at h1;rw[Ss,h1,<-QI.o.1]
   obtain ⟨w5,Ly⟩:=ex (w4.alloc (.cells #[.int .i64 0,.int .i64 0,.int .i64 0] 27));have lV:Below w4.heap.size w4 w5:=by rw[Ly];exact (aBi _ _).alloc (aBh _) _
   have yh:Below w.heap.size w w5:=(Gr.o.trans (bX.mono Gr.o.size)).trans (lV.mono (aBl Gr.o.size bX.size));have QF:=(Ot.toL Ss OC).later lV;obtain ⟨a5,c5,hV5,_,hat5⟩:=vW QF;rw[<-Ss,Wl]at hV5;have OE:∀m∈ms,SaidR wtF m.r:=fun m hm=>Oq m.r (by rw[<-rP];exact List.mem_map.2 ⟨m,hm,rfl⟩);have zK:=hid (And.intro Oq OE);have Lx:=hid QF;have XJ:=hid hat5
   have Bv:=hid yh;have Hn:=hid (And.intro (Wl.symm.trans Ss) QI.o.2);have cY:=hid rP;have tn:((n3:Int) != (n3:Int))=false:=by simp
   subst hV5;clear Ot Ss OC rP bX Oq lV yh QF hat5 OE Gr HY Lv QI HN;subst Wl;go_wp2;rw[<-Ly];clear Ly
   go_loopw [7] (fun vi wr=>∃j:Nat,vi= .int .i64 (j:Int)/\Hid (j<=n5/\Below w5.heap.size w5 wr)) (fun vi _=>n5-(intOf vi).toNat)
   case atStart=>exact ⟨0,rfl,hid ⟨Nat.zero_le _,aBi _ _⟩⟩
   case round=>
    obtain ⟨j,rfl,H⟩:=hrel;by_cases hj:j<n5
    ·have tj:decide (j<n5)=true:=dT hj;have bj:(j:Int)<(n5:Int):=by omega
     obtain ⟨m,hm⟩:∃m,ms[j]? =some m:=aF (by rw[<-Hn.o.1];exact hj);obtain ⟨b,o,rfl,hb,hc,hr⟩:=XJ.o j m hm;have gv:=H.o.2;have Ih:=zK.o.2 m (List.mem_of_getElem? hm);have mT:=fun i u (hu:m.cells[i]? =some u)=>(gv.cell (p:=⟨b,o+j*8+i,none⟩) hb).trans (hc i u hu);obtain ⟨r,ev,tv,rv⟩:=m;obtain ⟨ea,en,ec,rfl⟩:=bO hr.e;obtain ⟨ta,tnn,tc,rfl⟩:=bO hr.t;obtain ⟨ra,rn,rc,rfl⟩:=bO hr.r
     have c0:=mT 0 _ rfl;have c1:=mT 1 _ rfl;have c2:=mT 2 _ rfl;have c3:=mT 3 _ rfl;have c4:=mT 4 _ rfl;have c5:=mT 5 _ rfl;have c6:=mT 6 _ rfl;have c7:=mT 7 _ rfl;simp only[Nat.add_zero]at c0;have HM:=hid (Zc wr r _ _ _ (sd Ih) (hr.later gv) (Hg.o wr (Bv.o.trans (gv.mono Bv.o.size))) (BU Ih));obtain ⟨Ur,df⟩:=bL (k:=j) (n:=n5) hj (by have:=Hn.o.2;omega)
     have Lp:=hid (fun w7 (FQ:Below wr.heap.size wr w7)=>show j+1<=n5/\Below w5.heap.size w5 w7 from ⟨hj,gv.trans (FQ.mono gv.size)⟩);unfold bV at HM;clear hm hb hc mT hr Ih gv hj H XJ
     go_wp2_with fail
     refine HM.o.mono ?_;rintro x w7 ⟨rfl,FQ⟩;have HE:=hid (Lp.o w7 FQ);clear FQ HM Lp c0 c1 c2 c3 c4 c5 c6 c7;go_wp2;go_roundw
     case rel=>exact ⟨j+1,df.o,HE⟩
     case measure=>exact Ur.o
    ·have tj:decide (j<n5)=false:=dF hj;have QC:=Bv.o.trans (H.o.2.mono Bv.o.size);have HT:=hid (Gi wr _ ms (Lx.o.later H.o.2) (fun m hm=>sd (zK.o.2 m hm)) (Hg.o wr QC));rw[cY.o]at HT;have HLr:=hid (Lx.o.later H.o.2);have Hbr:=hid QC;clear H hj QC Lx XJ Bv
     go_wp2_with fail
     refine HT.o.mono ?_;unfold uu;rintro e w8 ⟨rfl,hb8⟩;have O0:=Hbr.o.trans (hb8.mono Hbr.o.size);have HL8:=hid (HLr.o.later hb8);clear HT hb8 HLr;obtain ⟨tx,er,mN⟩:∃tx er,qe rs=(tx,er):=⟨_,_,rfl⟩;rw[mN];by_cases yd:er=0
     ·subst yd;obtain ⟨L2,hp,hL2,pJ⟩:=No zK.o.1 mN;have gQ:tx.size<=65536:=by
       obtain ⟨_,_,_,q,_⟩:=rV _ _ _ mN;exact q
      have BF:=Lib.run_convert_string_bytes (P:= Tryz.prog) w8 9 42 5 tx Tryz.underlying9 Tryz.underlying42 Tryz.underlying5;have mQ:=grownCap_ge w8 tx.size 0 5;obtain ⟨kc,hkc⟩:=ex (grownCap w8 tx.size 0 5);obtain ⟨w9,hw9⟩:=ex (Lib.bytesWorld w8 5 tx);have WH:Below w8.heap.size w8 w9:=by rw[hw9];exact Lib.bytesWorld_below _ _ _
      have jg:=PZ w8 tx (by omega) kc;rw[<-hw9]at jg;rw[<-hkc]at BF mQ;rw[<-hw9]at BF;have WC:=O0.trans (WH.mono O0.size);have hP:=Aj w9 tx.data.toList (some ⟨w8.heap.size,0,none⟩) kc jg (by rw[aj];exact mQ) (Hg.o w9 WC).gl;rw[hp,aj]at hP;have HP:=hid hP;have XF:=hid WC;have Hds:=hid (And.intro pJ mN);have HL9:=hid (HL8.o.later WH);clear hP WC jg hw9 hkc mQ gQ hp pJ O0 WH mN hL2 HL8 Hbr
      simp only
      go_wp2_with fail
      refine HP.o.mono ?_;unfold Gj;rintro x XY ⟨⟨V3',n3',ds',rfl,jz,Qy,CX,BE⟩,aV⟩;have pK:Below w.heap.size w XY:=XF.o.trans (aV.mono XF.o.size);obtain ⟨w4',xS⟩:=ex (XY.alloc (.cells #[.int .i64 0,.int .i64 0,.int .i64 0] 27));have bX:Below XY.heap.size XY w4':=by rw[xS];exact (aBi _ _).alloc (aBh _) _
      have T8:w4'.heap[XY.heap.size]? =some (.cells #[.int .i64 0,.int .i64 0,.int .i64 0] 27 (0,0)):=by rw[xS];exact ag _
      have yi:=pK.trans (bX.mono pK.size);have hD:=xv w4' V3' ds' ((jz.later bX).docs Qy CX) (Hg.o w4' yi).gl;rw[BE,Hds.o.1]at hD;have HD:=hid hD;obtain ⟨va',vc',hV3⟩:∃a c,V3'= .slice a n3' c:=by
       obtain ⟨a,c,e,_⟩:=(jz.docs Qy CX).sl;exact ⟨a,c,by rw[e,<-Qy]⟩
      have Gq:=hid yi;have HL4:=hid (HL9.o.later (aV.trans (bX.mono aV.size)));obtain ⟨fb,oC⟩:=ex (XY.heap.size);rw[<-oC]at T8;have Hf4:=hid T8;subst hV3;clear hD jz Qy CX BE aV pK bX yi T8 HP BF HL9 XF
      go_wp2_with fail
      rw[<-xS,<-oC];clear xS oC;refine HD.o.mono ?_;unfold Qa;rintro x XX ⟨⟨V5',n5',ms5,rfl,Ot,Wm,OC,Su⟩,lV⟩;have yh:Below w.heap.size w XX:=Gq.o.trans (lV.mono Gq.o.size);obtain ⟨w6,Qr⟩:=ex (XX.alloc (.cells #[.int .i64 0,.int .i64 0,.int .i64 0] 27));have oO:Below XX.heap.size XX w6:=by rw[Qr];exact (aBi _ _).alloc (aBh _) _
      have hg6:w6.heap[XX.heap.size]? =some (.cells #[.int .i64 0,.int .i64 0,.int .i64 0] 27 (0,0)):=by rw[Qr];exact ag _
      have WD:=yh.trans (oO.mono yh.size);have hL6:=(Ot.toL Wm OC).later oO;have HT:=hid (Gi w6 V5' ms5 hL6 (fun m hm=>sd (zK.o.1 m.r (by rw[<-Su];exact List.mem_map.2 ⟨m,hm,rfl⟩))) (Hg.o w6 WD));rw[Su,Hds.o.2]at HT;have hf6:=((lV.trans (oO.mono lV.size)).block _ (af Hf4.o)).trans Hf4.o;have HL6:=hid (And.intro (HL4.o.later (lV.trans (oO.mono lV.size))) hL6)
      have Heq:=hid (cY.o.trans Su.symm);obtain ⟨gb,KM⟩:=ex (XX.heap.size);rw[<-KM]at hg6;have Hfg:=hid (And.intro hf6 hg6);have XH:=hid WD;obtain ⟨va5,vc5,hV5⟩:∃a c,V5'= .slice a n5' c:=by
       obtain ⟨a,c,e,_⟩:=hL6.sl;exact ⟨a,c,by rw[e,<-Wm]⟩
      subst hV5;clear Ot Wm OC Su lV yh oO WD hL6 hf6 hg6 HD Gq HL4 Hf4 Hds cY zK
      go_wp2_with fail
      rw[<-Qr,<-KM];clear Qr KM;refine HT.o.mono ?_;unfold uu;rintro x w7 ⟨rfl,FQ⟩;have hbw7:=XH.o.trans (FQ.mono XH.o.size);have q1:=(FQ.block _ (af Hfg.o.1)).trans Hfg.o.1;have q2:=(FQ.block _ (af Hfg.o.2)).trans Hfg.o.2;have x2:=aa q1 2;have y2:=aa q2 2;simp at x2 y2;have HS:=hid (Sa w7 _ _ ms ms5 (HL6.o.1.later FQ) (HL6.o.2.later FQ) Heq.o)
      have XG:=hid hbw7;have tt:(tx.toList==tx.toList)=true:=by simp
      clear FQ hbw7 q1 q2 HT HL6 Heq Hfg XH Hg;simp only
      go_wp2_with fail
      refine HS.o.mono ?_;rintro x w10 ⟨rfl,hb10⟩;have HE:=hid (XG.o.trans (hb10.mono XG.o.size));clear hb10 HS XG;go_wp2;refine bodyPost_ret (results_tmp (t:=2) rfl _ _ _) rfl ⟨rfl,HE.o⟩
     ·have e3:er=3:=by
       rcases BY rs [] zK.o.1 with q|q
       ·rw[show fp rs []=qe rs from rfl,mN]at q;exact absurd q yd
       ·rw[show fp rs []=qe rs from rfl,mN]at q;exact q
      subst e3;have HE:=hid O0;clear mN yd O0 HL8 Hbr Hg;simp only;go_wp2;refine bodyPost_ret (results_tmp (t:=2) rfl _ _ _) rfl ⟨rfl,HE.o⟩
end Go.Proofs.YtfenoaeoedobmaaGreatDoor
namespace Go.Proofs.YtfenoaeoedobmaaGreatDoor
open Go Go.ChangeShapes Go.WideShapes Go.ChangeAt Go.RowKit Go.Deep
theorem VN {H:Type} (d:DataW H):1<=Rows.uptoBulk d:=by
 cases d with
 |lit l=>cases l<;>simp[Rows.uptoBulk]
 |nil=>simp[Rows.uptoBulk]
 |ptr d=>simp[Rows.uptoBulk]
 |slice elems spare=>simp[Rows.uptoBulk]
 |agg parts=>simp[Rows.uptoBulk]
 |iface t d=>simp[Rows.uptoBulk]
 |map entries=>simp[Rows.uptoBulk]
 |held h=>simp[Rows.uptoBulk]
theorem RG {H:Type} {d:DataW H} {l:List (DataW H)} (h:d∈l):Rows.uptoBulk d<=Rows.uptoBulkAll l:=by
 induction l with
 |nil=>cases h
 |cons x r ih=>
  simp only[Rows.uptoBulkAll];cases List.mem_cons.1 h with
  |inl e=>subst e;omega
  |inr e=>have:=ih e;omega
theorem Kk {H:Type} (l:List (DataW H)):l.length<=Rows.uptoBulkAll l:=by
 induction l with
 |nil=>simp[Rows.uptoBulkAll]
 |cons x r ih=>have:=VN x;simp only[Rows.uptoBulkAll,aBk];omega
section
variable {H:Type} {enc:TypeId×Value->H} {W:World} {sp:Nat->Bool} {held:Bool} {base:Nat}
theorem Vi {α:Type} {T E:TypeId} {sz n:Nat} {cs:List Value} {x:DataW H×List MemPlace} (cells:α->List Value) (yk:α->Nat->Prop) (hT: Tryz.prog.underlying T=some (.slice E)) (hE: Tryz.prog.cellsOf E=sz) (gQ:0<sz) (hlen:∀a,(cells a).length=sz)
 (elem:∀m cs y,DataW.trod enc Tryz.prog W base sp held m E cs=some y->∃a:α,(∀(j:Nat) (u:Value),(cells a)[j]? =some u->cs[j]? =some u)/\yk a (Rows.uptoBulk y.1))
 (h:DataW.trod enc Tryz.prog W base sp held n T cs=some x):
 ∃(ao:Option Addr) (cap:Nat) (xs:List α),cs=[.slice ao xs.length cap]/\xs.length<=Rows.uptoBulk x.1/\(0<xs.length->∃b o,ao=some ⟨b,o,none⟩/\b<W.heap.size/\∀i a,xs[i]? =some a->∀j u,(cells a)[j]? =some u->W.cell? ⟨b,o+i*sz+j,none⟩=some u)/\∀a∈xs,∃B,B<=Rows.uptoBulk x.1/\yk a B:=by
 rcases open_slice hT h with ⟨Ub,_⟩|⟨a,len,cap,m,nn,D,Pl,Ub,hb,hl,hm,pG,hx,hi⟩
 ·exact ⟨none,0,[],Ub,Nat.zero_le _,(fun h=>absurd h (Nat.lt_irrefl 0)),(fun a h=>by cases h)⟩
 ·have hlm:len<=m:=by rw[pG];split<;>omega
  have hd:x.1= .slice ((List.range len).map D) ((List.range (m-len)).map fun j=>D (len+j)):=congrArg Prod.fst hx;have hDi:∀i,i<len->Rows.uptoBulk (D i)<=Rows.uptoBulk x.1:=fun i aN=>by
   rw[hd];simp only[Rows.uptoBulk];have:=RG (List.mem_map.2 ⟨i,List.mem_range.2 aN,rfl⟩:D i∈(List.range len).map D);omega
  have hle:len<=Rows.uptoBulk x.1:=by
   rw[hd];simp only[Rows.uptoBulk];have:=Kk ((List.range len).map D);simp at this;omega
  have key:∀i:Fin len,∃o:α,(∀(j:Nat) (u:Value),(cells o)[j]? =some u->W.cell? (a.add (i*sz+j))=some u)/\yk o (Rows.uptoBulk (D i)):=by
   intro ⟨i,aN⟩;obtain ⟨cs',hc,ht⟩:=hi i (by omega);obtain ⟨o,ho,hw⟩:=elem _ _ _ ht;rw[hE]at hc;obtain ⟨_,kr,bN⟩:=World.cells?_some hc;refine ⟨o,fun j u hj=> ?_,hw⟩;have Sv:j<sz:=by rw[<-hlen o];exact (aBo hj).1
   rw[<-Go.Deep.add_add,bN j Sv];exact ho j u hj
  obtain ⟨C,hC⟩:=Classical.axiomOfChoice key;have ZY:∀(i:Nat) (z:α),(List.ofFn C)[i]? =some z->∃h:i<len,C ⟨i,h⟩=z:=fun i z hz=>by
   rw[List.getElem?_ofFn]at hz
   split at hz
   ·exact ⟨by assumption,aBm hz⟩
   ·cases hz
  refine ⟨some a,cap,List.ofFn C,by rw[Ub,List.length_ofFn],by rw[List.length_ofFn];exact hle,fun h0=> ?_,fun z hz=> ?_⟩
  ·rw[List.length_ofFn]at h0;obtain ⟨u0,hu0⟩:∃u0,(cells (C ⟨0,h0⟩))[0]? =some u0:=⟨_,aBn (by rw[hlen];exact gQ)⟩;have QB:=(hC ⟨0,h0⟩).1 0 u0 hu0;obtain ⟨g,o,spn⟩:=a;have hsp:spn=none:=by
    cases spn with
    |none=>rfl
    |some k=>simp[Addr.add,World.cell?]at QB;split at QB<;>cases QB
   subst hsp;refine ⟨g,o,rfl,by simpa[Addr.add] using World.block_lt_of_cell? W _ QB,fun i z hz j u hj=> ?_⟩;obtain ⟨aN,uC⟩:=ZY i z hz;rw[<-uC]at hj;have q:=(hC ⟨i,aN⟩).1 j u hj;rw[Addr.add_lit]at q;rw[Nat.add_assoc];exact q
  ·obtain ⟨i,vl,hzi⟩:=List.getElem_of_mem hz;obtain ⟨aN,uC⟩:=ZY i z (by rw[aBn vl,hzi]);exact ⟨_,hDi i aN,by rw[<-uC];exact (hC ⟨i,aN⟩).2⟩
theorem slrS {α:Type} {sz:Nat} {cells:α->List Value} {ao:Option Addr} {cap:Nat} {xs:List α} (h1:xs.length<=1048576) (h:0<xs.length->∃b o,ao=some ⟨b,o,none⟩/\b<W.heap.size/\∀i a,xs[i]? =some a->∀j u,(cells a)[j]? =some u->W.cell? ⟨b,o+i*sz+j,none⟩=some u):SlR W (.slice ao xs.length cap) sz xs cells:=
 ⟨ao,cap,rfl,h1,h⟩
end
end Go.Proofs.YtfenoaeoedobmaaGreatDoor
namespace Go.Proofs.YtfenoaeoedobmaaGreatDoor
open Go.ChangeShapes Go.WideShapes Go.ChangeAt Go.RowKit
theorem own:ownKnob Tryz.prog.godebug=none:=by kernel_rfl
theorem Sd:laidOutB Tryz.prog=true:=by kernel_rfl
theorem gER: Tryz.prog.globalNamed "strconv.ErrRange"=some 4 :=by kernel_rfl
theorem SK:(Tryz.prog.globals[4]?).map (·.type)=some 164 :=by kernel_rfl
theorem Ta: Tryz.prog.cellsOf 279 =1:=by kernel_rfl
theorem PV: Tryz.prog.cellsOf 9 =1:=by kernel_rfl
theorem YN:"*"++"errors.errorString"="*errors.errorString":=by decide
theorem YQ (u:TypeId) (h: Tryz.prog.typeName? 3 u=some "*errors.errorString"):u= 277 :=
 typeName_ptr_named (nm:="errors.errorString") (by rw[YN];kernel_rfl) (by kernel_rfl) (by decide) u (by rw[YN];exact h)
def wU:List (String×DataW Unit):=[("math/bits.deBruijn32tab",Rows.laid_math_bits_deBruijn32tab),("math/bits.deBruijn64tab",Rows.laid_math_bits_deBruijn64tab),("internal/strconv.uint64pow10",Rows.laid_internal_strconv_uint64pow10),("strconv.ErrRange",Rows.laid_strconv_ErrRange),("strconv.ErrSyntax",Rows.laid_strconv_ErrSyntax)]
theorem AY {W:World} (h:laidMetH Tryz.prog wU W) (hs:W.ShapedOpen Tryz.prog):Glob W:=by
 have hL:laidMet Tryz.prog wU W:=h;obtain ⟨a1,s1,Ic,-,-,-⟩:=laid_sentinel hL.tail.tail.tail gER SK Tryz.underlying164 YQ Tryz.underlying277 Tryz.underlying279 rfl rfl Tryz.underlying9 Ta PV;refine ⟨?_,⟨_,by have h0:=World.var?_cell gER Ic 0;simpa using h0,Or.inr ⟨_,_,rfl⟩⟩⟩;exact cell_of_shapedOpen_int (g:= 1) (t:= 3) (zero:=#[.int .i64 0]) (k:= .i64) hs (of_decide_eq_true (by kernel_rfl)) (by kernel_rfl) (by kernel_rfl) (by kernel_rfl) (by kernel_rfl) Tryz.underlying3
abbrev synS:ByteArray:={data:=#[105,110,118,97,108,105,100,32,115,121,110,116,97,120]}
abbrev rngS:ByteArray:={data:=#[118,97,108,117,101,32,111,117,116,32,111,102,32,114,97,110,103,101]}
noncomputable def low:Nat:=(World.holding Tryz.prog default ⟨#[],#[],[]⟩).heap.size
def Nb (cs:Array Value):Obj->Obj
 | .cells _ t frozen=> .cells cs t frozen
 |o=>o
def litV:Lit->Value
 | .int k n=> .int k n
 | .bool b=> .bool b
 |_=>undef
def Iv:Nat->DataW Unit->List Value
 |0,_=>[]
 |_+1,.lit l=>[litV l]
 |n+1,.agg l=>l.flatMap (Iv n)
 |_+1,_=>[]
noncomputable def sB (os:Os):World:=
 let w0:=World.holding Tryz.prog os ⟨#[.cells #[.string synS] 279,.cells #[.string rngS] 279],#[],[]⟩
 {w0 with heap:=(((((w0.heap.modify 3 (Nb #[.iface 277 (.pointer (some ⟨low,0,none⟩))])).modify 4 (Nb #[.iface 277 (.pointer (some ⟨low+1,0,none⟩))])).modify 2 (Nb (Iv 4 Rows.laid_internal_strconv_uint64pow10).toArray)).modify 5 (Nb (Iv 4 Rows.laid_math_bits_deBruijn32tab).toArray)).modify 6 (Nb (Iv 4 Rows.laid_math_bits_deBruijn64tab).toArray))}
theorem N0 (os:Os) (args:Array Value):laidMet Tryz.prog wU ((sB os).forCall (fun _ _=>0) ⟨#[],args,[]⟩).memory:=
 laidMet_of_run' 8 (by kernel_rfl) (by kernel_rfl)
theorem gP10: Tryz.prog.globalNamed "internal/strconv.uint64pow10"=some 2 :=by kernel_rfl
theorem BZ {W:World} (h:laidMetH Tryz.prog wU W):Tab W:=by
 have hL:laidMet Tryz.prog wU W:=h;exact Lib.tabIs_of_head gP10 (by kernel_rfl) Tryz.underlying268 Tryz.underlying184 (by kernel_rfl) (by kernel_rfl) hL.tail.tail
theorem yl {W:World} (h:laidMetH Tryz.prog wU W) (hs:W.ShapedOpen Tryz.prog):GlobT W:=
 ⟨AY h hs,BZ h⟩
