/-
Parts of a proof.
-/
import Derived.Test.YtfenoaeoedobmaaGreatDoorOn35
set_option linter.unusedVariables false
set_option linter.unusedSimpArgs false
set_option maxHeartbeats 4000000
set_option maxRecDepth 20000
namespace Go.Proofs.YtfenoaeoedobmaaGreatDoor
open Go Go.RowKit
theorem Ra {w0 w:World} {rb:Nat} {lv:Value} {ts:List Tok} {k:Nat} {nv:Value} {ms:List NdM} (h:RdS w0 w rb lv ts k nv ms) (D:Nat) (hD:D<=17) (t:Tok) (ht:t=au ts k) (eZ:t.kind=3) (key:ByteArray) (cl:key.size<=1048576) (IH:1<=D->tw w0 rb lv ts (D-1)):
 Calls Tryz.prog 146 #[.pointer (some ⟨rb,0,none⟩),.agg t.a,.int .i64 ((17-D:Nat):Int),.string key] w (dB w0 w rb lv ts nv ms (q8 ts D k (nds ms) key t)):=by
 have bG:∀ob,Below w.heap.size w (w.alloc ob):=fun ob=>(aBi _ _).alloc (aBh _) ob;have hok:TokOk t:=by rw[ht];exact h.ok k
 have jm:=hid (fun ob=>rz (h.later (bG ob)) D hD 2 (by decide) key cl t hok);have H:=hid h;have Hb:=hid bG;have Hx:=hid (And.intro ht (And.intro eZ (And.intro hD hok)));have IH:=hid IH;obtain ⟨X,hX⟩:=ex (q8 ts D k (nds ms) key t);rw[<-hX];have HX:=hid hX;obtain ⟨B,hB⟩:=ex (mS k (nds ms) D 2 key t);rw[<-hB]at jm;have HB:=hid hB;have Ha:=hid (show t.a=#[.int .i64 t.kind,.int .i64 t.line,.int .i64 t.col,.string ⟨t.text.toArray⟩,.bool t.quoted] from rfl)
 rw[Ha.o]at jm |-;clear h bG hok hX hB ht eZ hD cl;go_enter Tryz.func146,Tryz.ntmps146
 go_wp2_with fail
 refine (jm.o _).mono ?_;intro r w1 hh;cases B with
 |error e=>
  obtain ⟨rfl,h1,h2⟩:=hh;have hx:X= .error e:=by
   rw[HX.o];have:=HB.o;unfold mS at this;unfold q8
   split at this
   ·rename_i e2 h2
    try rw[h2]
    injection this with this
    rw[this]
   ·cases this
  rw[hx];exact ⟨rfl,rfl,h1,aBl (Hb.o _).size h2⟩
 |ok y=>
  obtain ⟨k1,xQ,i⟩:=y;obtain ⟨hr,ya,mM,KR,oB,kZ,LB⟩:=hh;subst hr;obtain ⟨rfl,uE,rfl,Sj,SI⟩:k1=k/\xQ=nds ms++[⟨2,key,⟨#[]⟩,false,t.line,[]⟩]/\i=ms.length/\X=uK (c9 (bo ts (D-1)) ts (D-1) t.col ms.length (ts.length-k) [] k xQ) ms.length/\0<D:=by
   have h1:=HB.o;have h2:=HX.o;unfold mS at h1;unfold q8 at h2;cases hN:j4 (nds ms) D 2 key t with
   |error e=>rw[hN]at h1;cases h1
   |ok n1=>
    rw[hN]at h1 h2;injection h1 with h1
    injection h1 with h1 h3
    injection h3 with h3 h4
    rw[bP]at h4 h2;obtain ⟨e,SI⟩:=ov hN;exact ⟨h1,by rw[h3,e],h4,by rw[h2,h3],SI⟩
  have hL1:=CD H.o KR kZ LB (oB.trans uE) rfl;have Ui:=hid Sj;have XS:=hid (And.intro SI Hx.o.2.2.1);clear SI;have HL:=hid (And.intro hL1 oB);clear KR kZ LB oB uE Sj hL1 HB HX jm;obtain ⟨n0,j8⟩:=ex (ms.length);rw[<-j8];have Hn0:=hid j8;clear j8;have pG:= @run_makeMap Tryz.prog
  go_wp2_with fail
  obtain ⟨mb,hmb⟩:=ex (w1.heap.size);have hbm:Below w1.heap.size w1 (w1.alloc (.map #[] 0)):=(aBi _ _).alloc (aBh _) _;have Pc:DpS w0 w (w1.alloc (.map #[] 0)) rb w.heap.size w.heap.size mb n0 lv ts nv ms t t k1 ya mM []:=by
   have hfl:=af HL.o.1.first;rw[hmb,Hn0.o];exact ⟨HL.o.1.later hbm,Had.made w1,fun q=>by have:=HL.o.1.rd.rd_lt q;omega,by omega,by omega,HL.o.1.mod.size,H.o.below.size,Nat.zero_le _⟩
  refine (jc Pc.lp.rd).mono ?_;rintro r w2 ⟨rfl,h2⟩;have XP:=hid (show DpS w0 w (w2.alloc (.cells (au ts k1).a 121)) rb w.heap.size w2.heap.size mb n0 lv ts nv ms t (au ts k1) k1 ya mM [] from
   Pc.newTok (h2.trans ((aBi _ _).alloc (aBh _) _ |>.mono h2.size)) (ag (w:=w2) _) h2.size)
  rw[<-hmb];clear h2 Pc hbm hmb;unfold Tok.a at XP |-;go_wp2
  go_loopw [11,12,13,14] (fun v11 v12 v13 v14 wr=>∃tb:Nat,v11= .pointer (some ⟨tb,0,none⟩)/\Hid (∃k nv' ms' seen,DpS w0 w wr rb w.heap.size tb mb n0 lv ts nv ms t (au ts k) k nv' ms' seen/\X=uK (c9 (bo ts (D-1)) ts (D-1) t.col n0 (ts.length-k) seen k (nds ms')) n0)) (fun _ _ _ _ wr=>ts.length-Xd rb wr)
  case atStart=>
   exact ⟨_,rfl,hid ⟨k1,ya,mM,[],XP.o,by rw[Ui.o,HL.o.2,Hn0.o]⟩⟩
  case round=>
   clear XP HL Ui;obtain ⟨tb,rfl,HH⟩:=hrel;obtain ⟨k,nv',ms',seen,hL,hx⟩:=HH.o;obtain ⟨⟨c0,c1,c2,c3,c4⟩,f2,fz⟩:=hL.lp.cells;have Hl:=hid hL;have Uj:=hid hx;clear hL hx HH;obtain ⟨u,hu⟩:=ex (au ts k);rw[<-hu]at c0 c1 c2 c3 c4 Hl;have Hu:=hid hu;clear hu;have done:¬(u.kind=3/\u.col=t.col)->dB w0 w rb lv ts nv ms X (.returned (.int .i64 (n0:Int))) wr:=fun hn=>by
    rw[Uj.o,Ld _ (by rw[<-Hu.o];exact hn)];exact ⟨rfl,nv',ms',Hl.o.lp.rd,rfl,Hl.o.lp.mod,Hl.o.lp.own⟩
   by_cases k2:u.kind=3
   ·have e2:(u.kind==3)=true:=beq_iff_eq.2 k2;by_cases k3:u.col=t.col
    ·have e3:(u.col==t.col)=true:=beq_iff_eq.2 k3;clear done;have lT:=gE (ts:=ts) (k:=k) (by rw[<-Hu.o,k2];decide);have Hc:=hid (show (au ts k).kind=3/\(au ts k).col=t.col from by rw[<-Hu.o];exact ⟨k2,k3⟩);have Sl:TokOk u:=by rw[Hu.o];exact Hl.o.lp.rd.ok k
     have OJ:=Jr Hl.o.had Sl.text;by_cases hs:u.text∈seen
     ·have hd:decide (u.text∈seen)=true:=dT hs;rw[hd]at OJ;have hx:X= .error (u.line,91):=by rw[Uj.o,Lc Hc.o (by rw[<-Hu.o];exact hs),<-Hu.o];rfl
      subst hx;have HE:=hid (And.intro Hl.o.lp.rd.below Hl.o.lp.mod.size);clear hs hd k2 k3;go_wp2;exact ⟨rfl,rfl,HE.o⟩
     ·have hd:decide (u.text∈seen)=false:=dF hs;rw[hd]at OJ;have Hs:=hid (show ¬(au ts k).text∈seen by rw[<-Hu.o];exact hs);have Qk:=hid Hl.o.lp.rd.curs;have iW:=hid Hl.o.lp.kid;have hlen:ts.length<=1048576:=by obtain ⟨_,_,_,q,_⟩:=Hl.o.lp.rd.tok_at;exact q
      have Hcnt:=hid (show (seen.map baL).length<=1048576 by rw[List.length_map];have:=Hl.o.cnt;omega);have Gk:=hid (show (⟨u.text.toArray⟩:ByteArray).size<=maxLen by have:=Sl.text;unfold maxLen;show u.text.toArray.size<=_;simp;omega);have Ut:=hid (And.intro lT hlen);have Huok:=hid Sl;clear hs hd k2 k3 lT hlen Sl;have hwk:wrap64 ((k:Int)+1)=((k+1:Nat):Int):=(bK (by have:=Ut.o;omega) (by have:=Ut.o;omega)).trans (by omega)
      go_wp2_with (at_mapUpdate;refine FU rfl _ _ _ rfl mb (seen.map baL) rfl Hl.o.had Hcnt.o ⟨u.text.toArray⟩ Gk.o rfl rfl ?_;intro w2 hh hg;have HE:=hid (Hl.o.put hh hg);have y1:=HE.o.1.rd.c1.1;have yf:=HE.o.1.rd.c1.2;clear hh hg c0 c1 c2 c3 c4 f2 fz OJ)
      have mJ:=hid (show DpS w0 w (w2.setCell ⟨rb,1,none⟩ (.int .i64 ((k:Int)+1))) rb w.heap.size tb mb n0 lv ts nv ms t u (k+1) nv' ms' (u.text::seen) from Hl.o.put_move HE.o.1 HE.o.2 (by have:=Ut.o;omega));clear y1 yf Hl HE e2 e3 hwk;refine (jc mJ.o.lp.rd).mono ?_;rintro r w3 ⟨rfl,h3⟩;obtain ⟨n,hn⟩:=ex (au ts (k+1));rw[<-hn];have Hn:=hid hn;have QG:=(mJ.o.later h3).later ((aBi _ _).alloc (aBh _) (.cells n.a 121))
      have Qn:=hid QG;obtain ⟨⟨c0,c1,c2,c3,c4⟩,_,_⟩:=QG.lp.cells;have SE:((17-D:Nat):Int)+1=((17-(D-1):Nat):Int):=by
       have h1:=XS.o;omega
      obtain ⟨V,hV⟩:=ex (iL (bo ts (D-1)) ts (D-1) (dr n u) u (k+1) (nds ms') ⟨u.text.toArray⟩);have HV:=hid (show Calls Tryz.prog 181 #[.pointer (some ⟨rb,0,none⟩),.bool (dr n u),.agg u.a,.int .i64 (((17-D:Nat):Int)+1),.string ⟨u.text.toArray⟩] (w3.alloc (.cells n.a 121)) (dB w0 (w3.alloc (.cells n.a 121)) rb lv ts nv' ms' V) from by
       rw[hV,SE];exact Gw QG.lp.rd (D-1) (by have:=XS.o;omega) (dr n u) u Huok.o ⟨u.text.toArray⟩ (by show u.text.toArray.size<=_;have:=Huok.o.text;simp;omega) (IH.o XS.o.1))
      have XM:=hid hV;obtain ⟨wb,KB⟩:=ex (w3.alloc (.cells n.a 121));have Hwb:=hid KB;rw[<-KB]at HV Qn c0 c1 c2 c3 c4;have d9:=aa (show wb.heap[w3.heap.size]? =some (.cells #[.int .i64 n.kind,.int .i64 n.line,.int .i64 n.col,.string ⟨n.text.toArray⟩,.bool n.quoted] 121 (0,0)) by rw[KB];exact ag (w:=w3) _);have d0:=d9 0;have d1:=d9 1;have d2:=d9 2
      simp at d0 d1 d2;clear hn QG h3 SE hV d9 mJ;unfold Tok.a at HV KB |-;go_upto_region 11 with (fail)
      rw[<-KB];clear KB;go_cut [13] from 23 to 117 (fun s13 w4=>s13= .bool (dr n u)/\w4=wb)
      case first=>
       clear HV;cases b1:(n.line==u.line)
       ·have b3:(n.line != u.line)=true:=by rw[bne,b1];rfl
        cases b4:decide (u.col<n.col)
        ·cases b5:(n.kind==2)
         ·go_wp2
          go_meet
          case rel=>exact ⟨congrArg Value.bool (show _=dr n u by unfold dr;rw[b1,b3,b4,b5];rfl),rfl⟩
         ·cases b6:(n.col==u.col)
          ·go_wp2
           go_meet
           case rel=>exact ⟨congrArg Value.bool (show _=dr n u by unfold dr;rw[b1,b3,b4,b5,b6];rfl),rfl⟩
          ·go_wp2
           go_meet
           case rel=>exact ⟨congrArg Value.bool (show _=dr n u by unfold dr;rw[b1,b3,b4,b5,b6];rfl),rfl⟩
        ·go_wp2
         go_meet
         case rel=>exact ⟨congrArg Value.bool (show _=dr n u by unfold dr;rw[b1,b3,b4];rfl),rfl⟩
       ·have b3:(n.line != u.line)=false:=by rw[bne,b1];rfl
        cases b2:(n.kind==4)
        ·go_wp2
         go_meet
         case rel=>exact ⟨congrArg Value.bool (show _=dr n u by unfold dr;rw[b1,b2,b3];rfl),rfl⟩
        ·go_wp2
         go_meet
         case rel=>exact ⟨congrArg Value.bool (show _=dr n u by unfold dr;rw[b1,b2,b3];rfl),rfl⟩
      case rest=>
       obtain ⟨rfl,hwc⟩:=hcut;rw[hwc];clear hwc d0 d1 d2
       go_wp2_with fail
       refine HV.o.mono ?_;intro r w4 hh;clear HV c0 c1 c2 c3 c4;cases V with
       |error e=>
        obtain ⟨rfl,h1,h2⟩:=hh;have hv:=XM.o;rw[Hn.o,Hu.o]at hv;have hx:X= .error e:=by rw[Uj.o,Le Hc.o Hs.o hv.symm];rfl
        subst hx;exact ⟨rfl,rfl,h1,aBl Qn.o.lp.mod.size h2⟩
       |ok y=>
        obtain ⟨k2,ns2,kid⟩:=y;obtain ⟨hr,l9,ij,LH,uG,vh,Sp⟩:=hh;subst hr;have hv:=XM.o;rw[Hn.o,Hu.o]at hv;obtain ⟨cw,eZ,ON⟩:=F9 (i:=n0) (nU ts (D-1)) Hc.o Hs.o hv.symm;have xi:=(n9 (nT ts (D-1)) hv.symm).1;have jQ:=hid (And.intro cw (And.intro eZ ON));obtain ⟨HS4',g,c,ka,kc,q,m,OA,hg,hm,cN,hq,LA,Oi,SD,LC⟩:=zg (w4:=w4) Qn.o.lp LH uG vh Sp xi iW.o eZ
        have Lw:=hid (Qn.o.call HS4'.o vh Sp (by have:=Qn.o.cnt;omega));subst OA;clear hv cw eZ ON xi XM Qn LH vh Sp HS4';have bg:=Lw.o.lp.rd.blk;unfold rdA at bg;have z2:=aa bg 2;simp at z2;have bi:(n0:Int)<(ij.length:Int):=by have:=(aBo hm).1;omega
        have b9:=hid (fun ob=>show ((w4.alloc ob).drew).ownsRow 0 3 1 (.slice ka q kc) q (m.nd.kids.flatMap dM) from by
         have:=(Lw.o.lp.rd.nr.each m (List.mem_of_getElem? hm)).row;rw[cN,<-hq]at this;exact World.ownsRow.alloc (w:=w4) this ob)
        have aX:=hid (fun ob gd c5 (w5:World) (a1:w5.ownsRow 0 3 1 (.slice gd (q+1) c5) (q+1) (m.nd.kids.flatMap dM++[.int .i64 (kid:Int)])) (a2:((w4.alloc ob).drew).grownBy w5 (Value.slice ka q kc).ownBlock)
         (a3:∀g,(Value.slice gd (q+1) c5).ownBlock=some g->(Value.slice ka q kc).ownBlock=some g\/((w4.alloc ob).drew).heap.size<=g)=>H5 Lw.o.lp.rd hm hg hq LA (((aBi w4.heap.size w4).alloc (aBh _) ob).drew) a1 (by rw[cN];exact a2) (by rw[cN];exact a3))
        have Xr:=hid (show q<=2000000 by omega);have Hq:=hid (And.intro hq (And.intro Oi (And.intro hm uG)));have Hg:=hid (And.intro z2 SD);have Xx:=hid LC;clear bg hm cN hq LA Oi LC hg uG z2 SD;go_wp2;refine fF (fun w'=>w'.cell? ⟨rb,2,none⟩=some (.slice (some ⟨g,0,none⟩) ij.length c)/\w'.cell? ⟨g,n0*6+5,none⟩=some (.slice ka q kc)) (fun i=>decide (i<16)) (by kernel_rfl) ?_
        have hS:w4.drew.cell? ⟨rb,2,none⟩=some (.slice (some ⟨g,0,none⟩) ij.length c)/\w4.drew.cell? ⟨g,n0*6+5,none⟩=some (.slice ka q kc):=Hg.o;refine wL (i:=0) (v:= ?_) rfl ?_ hS ?_;rotate_left
        ·intro w' cf;obtain ⟨s1,s2⟩:=cf;go_simp
         try with_reducible rfl
        simp only[Act.put,sA,sZ,sS];refine wL (i:=1) (v:= ?_) rfl ?_ hS ?_;rotate_left
        ·intro w' cf;obtain ⟨s1,s2⟩:=cf;go_simp
         try with_reducible rfl
        simp only[Act.put,sA,sZ,sS];refine wL (i:=2) (v:= ?_) rfl ?_ hS ?_;rotate_left
        ·intro w' cf;obtain ⟨s1,s2⟩:=cf;go_simp
         try with_reducible rfl
        simp only[Act.put,sA,sZ,sS];refine wL (i:=3) (v:= ?_) rfl ?_ hS ?_;rotate_left
        ·intro w' cf;obtain ⟨s1,s2⟩:=cf;go_simp
         try with_reducible rfl
        simp only[Act.put,sA,sZ,sS];refine wL (i:=4) (v:= ?_) rfl ?_ hS ?_;rotate_left
        ·intro w' cf;obtain ⟨s1,s2⟩:=cf;go_simp
         try with_reducible rfl
        simp only[Act.put,sA,sZ,sS];refine wL (i:=5) (v:= ?_) rfl ?_ hS ?_;rotate_left
        ·intro w' cf;obtain ⟨s1,s2⟩:=cf;go_simp
         try with_reducible rfl
        simp only[Act.put,sA,sZ,sS];refine wL (i:=6) (v:= ?_) rfl ?_ hS ?_;rotate_left
        ·intro w' cf;obtain ⟨s1,s2⟩:=cf;go_simp
         try with_reducible rfl
        simp only[Act.put,sA,sZ,sS];refine wL (i:=7) (v:= ?_) rfl ?_ hS ?_;rotate_left
        ·intro w' cf;obtain ⟨s1,s2⟩:=cf;go_simp
         try with_reducible rfl
        simp only[Act.put,sA,sZ,sS];refine wL (i:=8) (v:= ?_) rfl ?_ hS ?_;rotate_left
        ·intro w' cf;obtain ⟨s1,s2⟩:=cf;go_simp
         try with_reducible rfl
        simp only[Act.put,sA,sZ,sS];refine wL (i:=9) (v:= ?_) rfl ?_ hS ?_;rotate_left
        ·intro w' cf;obtain ⟨s1,s2⟩:=cf;go_simp
         try with_reducible rfl
        simp only[Act.put,sA,sZ,sS];refine wL (i:=10) (v:= ?_) rfl ?_ hS ?_;rotate_left
        ·intro w' cf;obtain ⟨s1,s2⟩:=cf;go_simp
         try with_reducible rfl
        simp only[Act.put,sA,sZ,sS];refine wL (i:=11) (v:= ?_) rfl ?_ hS ?_;rotate_left
        ·intro w' cf;obtain ⟨s1,s2⟩:=cf;go_simp
         try with_reducible rfl
        simp only[Act.put,sA,sZ,sS];refine wL (i:=12) (v:= ?_) rfl ?_ hS ?_;rotate_left
        ·intro w' cf;obtain ⟨s1,s2⟩:=cf;go_simp
         try with_reducible rfl
        simp only[Act.put,sA,sZ,sS];refine wL (i:=13) (v:= ?_) rfl ?_ hS ?_;rotate_left
        ·intro w' cf;obtain ⟨s1,s2⟩:=cf;go_simp
         try with_reducible rfl
        simp only[Act.put,sA,sZ,sS];refine aM (i:=14) (by kernel_rfl) rfl (fun K hK=> ?_);go_simp;refine hK.out _ _ (fun _=>⟨cA ((aBi w4.drew.heap.size w4.drew).alloc (aBh _) _) hS.1,cA ((aBi w4.drew.heap.size w4.drew).alloc (aBh _) _) hS.2⟩) ?_;clear hK K
        try simp only[Act.put,sA,sZ,sS]
        refine aM (i:=15) (by kernel_rfl) rfl (fun K hK=> ?_);refine m9 3 53 (.int .i64 0) 1 8 Tryz.underlying53 qJ rfl (by decide) (by decide) rfl _ _ rfl (.slice ka q kc) q (m.nd.kids.flatMap dM) rfl (b9.o _) w4.heap.size #[.int .i64 (kid:Int)] [.int .i64 (kid:Int)] rfl (ag (w:=w4) _) rfl rfl An Xr.o (q+1) rfl ?_;intro gd c5 w5 aB bC aA
        have HE:=hid (aX.o _ _ _ _ aB bC aA);have q1:=jP HE.o.2.2.1 Hg.o.2;have q2:=nN HE.o.2.2.1 (Xx.o (n0*6+5));have q3:=jP HE.o.2.1 Hg.o.1;refine hK.out _ _ (fun _=>⟨q3,q1⟩) ?_;clear hK K aB bC aA b9 aX hS
        try simp only[Act.put,sA,sZ,sS]
        refine aM (i:=16) (by kernel_rfl) rfl (fun K hK=> ?_);go_simp;refine hK.out _ _ (fun h=>absurd h (by decide)) ?_;clear hK K;refine aM (i:=17) (by kernel_rfl) rfl (fun K hK=> ?_);go_simp;refine hK.out _ _ (fun h=>absurd h (by decide)) ?_;clear hK K;refine aM (i:=18) (by kernel_rfl) rfl (fun K hK=> ?_);go_simp;refine hK.out _ _ (fun h=>absurd h (by decide)) ?_;clear hK K
        refine fG (by kernel_rfl) ?_ _;clear q1 q2 q3;have WK:=Lw.o.lp.call HE.o.2.2.2.1 HE.o.2.2.2.2.1 HE.o.2.2.2.2.2 (zh Hq.o.2.2.1 Hq.o.1 Hq.o.2.1);have QF:=Lw.o.call WK HE.o.2.2.2.2.1 HE.o.2.2.2.2.2 Lw.o.cnt;have IU:=hid (sE (kid:=kid) Hq.o.2.2.1 (.slice gd (q+1) c5));obtain ⟨⟨c0,c1,c2,c3,c4⟩,_,_⟩:=WK.cells;have Lx:=hid QF;obtain ⟨w6,Qr⟩:=ex (w5.setCell ⟨g,n0*6+5,none⟩ (.slice gd (q+1) c5))
        rw[<-Qr]at Lx c0 c1 c2 c3 c4 |-;clear QF WK Qr HE Xr Hg Xx Lw
        go_wp2_with fail
        have oO:Below w6.heap.size w6 (w6.alloc (.cells u.a 121)):=(aBi _ _).alloc (aBh _) _;refine (jc (Lx.o.later oO).lp.rd).mono ?_;rintro r w7 ⟨rfl,h7⟩;have f7:=yw h7;unfold Tok.a at f7;have HE:=hid (Rk f7 (.int .i64 (au ts k2).kind) (.int .i64 (au ts k2).line) (.int .i64 (au ts k2).col) (.string ⟨(au ts k2).text.toArray⟩) (.bool (au ts k2).quoted))
        have XI:=hid (oO.trans (h7.mono oO.size));obtain ⟨e0,e1,e2,e3,e4⟩:=cB5 f7;have ef:=fun j=>ah f7 j;simp at e0 e1 e2 e3 e4;have HF:=hid (Lx.o.newTok (u2:=au ts k2) (XI.o.trans (HE.o.1.below XI.o.size (fun b hb=>by omega))) HE.o.2 (aBh _));have HX2:=hid (show X=uK (c9 (bo ts (D-1)) ts (D-1) t.col n0 (ts.length-k2) (u.text::seen) k2 (nds (ij.set n0 ⟨{m.nd with kids:=m.nd.kids++[(kid:Int)]},.slice gd (q+1) c5⟩))) n0 by rw[Uj.o,jQ.o.1,IU.o,Hq.o.2.2.2,Hu.o])
        clear h7 oO f7 Lx HE XI c0 c1 c2 c3 c4;unfold Tok.a;go_wp2;exact ⟨⟨_,rfl,hid ⟨k2,_,_,_,HF.o,HX2.o⟩⟩,by rw[HF.o.lp.rd.curs,Qk.o];have:=jQ.o.2;omega⟩
    ·have e3:(u.col==t.col)=false:=beq_eq_false_iff_ne.2 k3;have HD:=hid (done (fun h=>k3 h.2));clear done k3 k2;go_wp2;exact bodyPost_ret (results_tmp (t:=8) rfl _ _ _) rfl HD.o
   ·have e2:(u.kind==3)=false:=beq_eq_false_iff_ne.2 k2;have HD:=hid (done (fun h=>k2 h.1));clear done k2;go_wp2;exact bodyPost_ret (results_tmp (t:=8) rfl _ _ _) rfl HD.o
theorem NX {w0 w:World} {rb:Nat} {lv:Value} {ts:List Tok} {k i g:Nat} {nv:Value} {ms:List NdM} {m:NdM} (h:RdS w0 w rb lv ts k nv ms) (hi:ms[i]? =some m) (hg:nv.ownBlock=some g) (tx:ByteArray) (mN:tx.size<=1048576) (q:Bool):
 Mod (RdF rb nv ms) w ((w.setCell ⟨g,i*6+2,none⟩ (.string tx)).setCell ⟨g,i*6+3,none⟩ (.bool q))/\
 RdS w0 ((w.setCell ⟨g,i*6+2,none⟩ (.string tx)).setCell ⟨g,i*6+3,none⟩ (.bool q)) rb lv ts k nv (ms.set i ⟨{m.nd with text:=tx,quoted:=q},m.kv⟩)/\
 (∀b,nOwn nv (ms.set i ⟨{m.nd with text:=tx,quoted:=q},m.kv⟩) b->nOwn nv ms b):=by
 have aN:=(aBo hi).1;have pG:=List.mem_of_getElem? hi;have xU:g≠rb:=(h.nr.new g hg).2;have hS1:Mod (fun b=>b=g) w (w.setCell ⟨g,i*6+2,none⟩ (.string tx)):=(Mod.refl _ _).setCell _ _ (fun _=>rfl);have LG:Mod (fun b=>b=g) w ((w.setCell ⟨g,i*6+2,none⟩ (.string tx)).setCell ⟨g,i*6+3,none⟩ (.bool q)):=hS1.setCell _ _ (fun _=>rfl);have hW:Mod (RdF rb nv ms) w ((w.setCell ⟨g,i*6+2,none⟩ (.string tx)).setCell ⟨g,i*6+3,none⟩ (.bool q)):=by
  have hp:∀b,(fun b=>b=g) b->RdF rb nv ms b:=fun b e=> .inr (.inl (by rw[e];exact hg));exact ⟨LG.os,LG.tape,LG.output,LG.size,fun b hb hn=>LG.block b hb (fun e=>hn (hp b e))⟩
 have hP:=h.nr.each m pG;have ZO:∀b,m.kv.ownBlock=some b->¬b=g:=fun b hb e=>(h.nr.kid m pG b hb).1 (by rw[hg,e]);have h1:=h.nr.put (m':=⟨{m.nd with text:=tx},m.kv⟩) (u:= .string tx) (k:=2) hi hg (by decide) rfl ⟨hP.row,hP.fresh,hP.kind,hP.line,mN,hP.key,hP.len⟩ rfl;have vl:(ms.set i ⟨{m.nd with text:=tx},m.kv⟩)[i]? =some ⟨{m.nd with text:=tx},m.kv⟩:=List.getElem?_set_self aN;have h2:=h1.put (m':=⟨{m.nd with text:=tx,quoted:=q},m.kv⟩) (u:= .bool q) (k:=3) vl hg (by decide) rfl (NdE.mod (x:=⟨{m.nd with text:=tx,quoted:=q},m.kv⟩) ⟨hP.row,hP.fresh,hP.kind,hP.line,mN,hP.key,hP.len⟩ hS1 (fun b hb e=>ZO b hb e)) rfl
 rw[List.set_set]at h2;refine ⟨hW,⟨h.lX,h.wf,h.below.trans (hW.below h.below.size (fun b hb=>(h.rd_lt hb).1)),h.rge,(LG.block rb (af h.blk) (fun e=>xU e.symm)).trans h.blk,h2,h.kle⟩,fun b hb=> ?_⟩;rcases hb with hb|⟨x,hx,hb⟩
 ·exact .inl hb
 ·rcases List.mem_or_eq_of_mem_set hx with hx|rfl
  ·exact .inr ⟨x,hx,hb⟩
  ·exact .inr ⟨m,pG,hb⟩
theorem NY {ms mM:List NdM} {m:NdM} {x:Nd} {tx:ByteArray} {q:Bool} (hn:nds mM=nds ms++[x]) (hm:mM[ms.length]? =some m):m.nd=x/\nds (mM.set ms.length ⟨{m.nd with text:=tx,quoted:=q},m.kv⟩)=nds ms++[{x with text:=tx,quoted:=q}]:=by
 have h1:(nds mM)[ms.length]? =some m.nd:=by unfold nds;rw[List.getElem?_map,hm];rfl
 have e:m.nd=x:=by
  rw[hn,List.getElem?_append_right (by rw[bP];exact aBh _),bP,Nat.sub_self]at h1;exact (aBm h1).symm
 refine ⟨e,?_⟩;rw[Av,hn,e,List.set_append_right _ _ (by rw[bP];exact aBh _),bP,Nat.sub_self];rfl
theorem Q5 {w0 w:World} {rb:Nat} {lv:Value} {ts:List Tok} {k:Nat} {nv:Value} {ms:List NdM} (h:RdS w0 w rb lv ts k nv ms) (D:Nat) (hD:D<=17) (t:Tok) (ht:t=au ts k) (lT:k<ts.length) (OM:(t.kind==3)=false) (eZ:(t.kind==2)=false) (key:ByteArray) (cl:key.size<=1048576):
 Calls Tryz.prog 109 #[.pointer (some ⟨rb,0,none⟩),.int .i64 ((17-D:Nat):Int),.string key] w (dB w0 w rb lv ts nv ms (tT ts D k (nds ms) key t)):=by
 have hok:TokOk t:=by rw[ht];exact h.ok k
 have jm:=hid (fun w2 (hb:Below w.heap.size w w2)=>rz (h.later hb) D hD 1 (by decide) key cl t hok);have tg:=hid (jc h);rw[<-ht]at tg;have H:=hid h;have Hx:=hid (And.intro lT (And.intro hD hok));obtain ⟨X,hX⟩:=ex (tT ts D k (nds ms) key t);rw[<-hX];have HX:=hid hX;obtain ⟨B,hB⟩:=ex (mS k (nds ms) D 1 key t);rw[<-hB]at jm;have HB:=hid hB;clear h hok hX hB ht hD cl lT;unfold Tok.a at jm tg
 go_enter Tryz.func109,Tryz.ntmps109
 go_wp2_with fail
 refine tg.o.mono ?_;rintro r w1 ⟨rfl,h1⟩;obtain ⟨w2,Qs⟩:=ex (w1.alloc (.cells #[.int .i64 t.kind,.int .i64 t.line,.int .i64 t.col,.string ⟨t.text.toArray⟩,.bool t.quoted] 121));have bI:Below w.heap.size w w2:=by rw[Qs];exact h1.trans ((aBi _ _).alloc (aBh _) _ |>.mono h1.size)
 have f2:w2.heap[w1.heap.size]? =some (.cells #[.int .i64 t.kind,.int .i64 t.line,.int .i64 t.col,.string ⟨t.text.toArray⟩,.bool t.quoted] 121 (0,0)):=by rw[Qs];exact ag (w:=w1) _
 have ie:=hid bI;have Hf2:=hid f2;have Hge:=hid h1.size;obtain ⟨tb,KD⟩:=ex (w1.heap.size);rw[<-KD]at Hf2 Hge;clear h1 bI f2 tg
 go_wp2_with fail
 rw[<-Qs,<-KD];clear Qs KD;refine (jm.o w2 ie.o).mono ?_;intro r w3 hh;cases B with
 |error e=>
  obtain ⟨rfl,h1,h2⟩:=hh;have hx:X= .error e:=by
   rw[HX.o];have:=HB.o;unfold mS at this;unfold tT
   split at this
   ·rename_i e2 h2
    try rw[h2]
    injection this with this
    rw[this]
   ·cases this
  subst hx;exact ⟨rfl,rfl,h1,aBl ie.o.size h2⟩
 |ok y=>
  obtain ⟨k1,xQ,i⟩:=y;obtain ⟨hr,ya,mM,KR,oB,kZ,LB⟩:=hh;subst hr;obtain ⟨rfl,uE,rfl,Sj⟩:k1=k/\xQ=nds ms++[⟨1,key,⟨#[]⟩,false,t.line,[]⟩]/\i=ms.length/\X= .ok (k+1,nds ms++[⟨1,key,⟨t.text.toArray⟩,t.quoted,t.line,[]⟩],ms.length):=by
   have h1:=HB.o;have h2:=HX.o;unfold mS at h1;unfold tT at h2;cases hN:j4 (nds ms) D 1 key t with
   |error e=>rw[hN]at h1;cases h1
   |ok n1=>
    rw[hN]at h1 h2;injection h1 with h1
    injection h1 with h1 h3
    injection h3 with h3 h4
    rw[bP]at h4 h2;obtain ⟨e,_⟩:=ov hN;exact ⟨h1,by rw[h3,e],h4,h2⟩
  rw[uE]at oB;obtain ⟨m,hm⟩:∃m,mM[ms.length]? =some m:=aF (by have:=congrArg List.length oB;rw[bP,aBj,bP]at this;simp at this;omega);obtain ⟨g,c,rfl,hg,bN,LC⟩:=KR.nr.at hm;have Wi:¬RdF rb nv ms tb:=fun q=>by have:=H.o.rd_lt q;have:=Hge.o;omega
  have f3:=kZ.heap Hf2.o Wi;have bg:=KR.blk;unfold rdA at bg;have Wt:g≠tb:=fun e=>by
   rcases LB g (.inl hg) with q|q
   ·exact Wi (.inr (by rw[<-e];exact q))
   ·have:=af Hf2.o;omega
  have xU:g≠rb:=(KR.nr.new g hg).2;have z2:=aa bg 2;have t3:=aa f3 3;have t4:=aa f3 4;simp at z2 t3 t4;have n2:=bN.c2;have n3:=bN.c3;have bi:(ms.length:Int)<(mM.length:Int):=by have:=(aBo hm).1;omega
  obtain ⟨n0,j8⟩:=ex (ms.length);have HE:=hid (NX KR hm hg ⟨t.text.toArray⟩ (by show t.text.toArray.size<=_;have:=Hx.o.2.2.text;simp;omega) t.quoted);have Hnn:=hid (NY (tx:=⟨t.text.toArray⟩) (q:=t.quoted) oB hm).2;rw[<-j8]at hm n2 n3 bi Sj HE Hnn |-;have hS:w3.drew.cell? ⟨rb,2,none⟩=some (.slice (some ⟨g,0,none⟩) mM.length c)/\w3.drew.cell? ⟨tb,3,none⟩=some (.string ⟨t.text.toArray⟩)/\w3.drew.cell? ⟨tb,4,none⟩=some (.bool t.quoted):=⟨z2,t3,t4⟩
  have Ui:=hid Sj;have Hm1:=hid (And.intro kZ LB);have hM1:Mod (fun b=>b=g) w3.drew (w3.drew.setCell ⟨g,n0*6+2,none⟩ (.string ⟨t.text.toArray⟩)):=(Mod.refl _ _).setCell _ _ (fun _=>rfl);have HS2:=hid (show (w3.drew.setCell ⟨g,n0*6+2,none⟩ (.string ⟨t.text.toArray⟩)).cell? ⟨rb,2,none⟩=some (.slice (some ⟨g,0,none⟩) mM.length c)/\(w3.drew.setCell ⟨g,n0*6+2,none⟩ (.string ⟨t.text.toArray⟩)).cell? ⟨tb,3,none⟩=some (.string ⟨t.text.toArray⟩)/\(w3.drew.setCell ⟨g,n0*6+2,none⟩ (.string ⟨t.text.toArray⟩)).cell? ⟨tb,4,none⟩=some (.bool t.quoted) from
   ⟨hM1.cell hS.1 (fun e=>xU e.symm),hM1.cell hS.2.1 (fun e=>Wt e.symm),hM1.cell hS.2.2 (fun e=>Wt e.symm)⟩)
  have Qk:=hid (HE.o.2.1.c1);clear bg oB hm hg bN Wi f3 Wt xU j8 Sj KR kZ LB z2 t3 t4 hM1 uE HB HX jm Hf2;go_wp2;refine fF (fun w'=>w'.cell? ⟨rb,2,none⟩=some (.slice (some ⟨g,0,none⟩) mM.length c)/\w'.cell? ⟨tb,3,none⟩=some (.string ⟨t.text.toArray⟩)/\w'.cell? ⟨tb,4,none⟩=some (.bool t.quoted)) (fun i=>decide (i<17)) (by kernel_rfl) ?_;refine wL (i:=0) (v:= ?_) rfl ?_ hS ?_
  rotate_left
  ·intro w' cf;obtain ⟨s1,s2,s3⟩:=cf;go_simp
   try with_reducible rfl
  simp only[Act.put,sA,sZ,sS];refine wL (i:=1) (v:= ?_) rfl ?_ hS ?_;rotate_left
  ·intro w' cf;obtain ⟨s1,s2,s3⟩:=cf;go_simp
   try with_reducible rfl
  simp only[Act.put,sA,sZ,sS];refine wL (i:=2) (v:= ?_) rfl ?_ hS ?_;rotate_left
  ·intro w' cf;obtain ⟨s1,s2,s3⟩:=cf;go_simp
   try with_reducible rfl
  simp only[Act.put,sA,sZ,sS];refine wL (i:=3) (v:= ?_) rfl ?_ hS ?_;rotate_left
  ·intro w' cf;obtain ⟨s1,s2,s3⟩:=cf;go_simp
   try with_reducible rfl
  simp only[Act.put,sA,sZ,sS];refine wL (i:=4) (v:= ?_) rfl ?_ hS ?_;rotate_left
  ·intro w' cf;obtain ⟨s1,s2,s3⟩:=cf;go_simp
   try with_reducible rfl
  simp only[Act.put,sA,sZ,sS];refine wL (i:=5) (v:= ?_) rfl ?_ hS ?_;rotate_left
  ·intro w' cf;obtain ⟨s1,s2,s3⟩:=cf;go_simp
   try with_reducible rfl
  simp only[Act.put,sA,sZ,sS];refine wL (i:=6) (v:= ?_) rfl ?_ hS ?_;rotate_left
  ·intro w' cf;obtain ⟨s1,s2,s3⟩:=cf;go_simp
   try with_reducible rfl
  simp only[Act.put,sA,sZ,sS];refine wL (i:=7) (v:= ?_) rfl ?_ hS ?_;rotate_left
  ·intro w' cf;obtain ⟨s1,s2,s3⟩:=cf;go_simp
   try with_reducible rfl
  simp only[Act.put,sA,sZ,sS];refine wL (i:=8) (v:= ?_) rfl ?_ hS ?_;rotate_left
  ·intro w' cf;obtain ⟨s1,s2,s3⟩:=cf;go_simp
   try with_reducible rfl
  simp only[Act.put,sA,sZ,sS];refine wL (i:=9) (v:= ?_) rfl ?_ hS ?_;rotate_left
  ·intro w' cf;obtain ⟨s1,s2,s3⟩:=cf;go_simp
   try with_reducible rfl
  simp only[Act.put,sA,sZ,sS];refine wL (i:=10) (v:= ?_) rfl ?_ hS ?_;rotate_left
  ·intro w' cf;obtain ⟨s1,s2,s3⟩:=cf;go_simp
   try with_reducible rfl
  simp only[Act.put,sA,sZ,sS];refine wL (i:=11) (v:= ?_) rfl ?_ hS ?_;rotate_left
  ·intro w' cf;obtain ⟨s1,s2,s3⟩:=cf;go_simp
   try with_reducible rfl
  simp only[Act.put,sA,sZ,sS];refine wL (i:=12) (v:= ?_) rfl ?_ hS ?_;rotate_left
  ·intro w' cf;obtain ⟨s1,s2,s3⟩:=cf;go_simp
   try with_reducible rfl
  simp only[Act.put,sA,sZ,sS];refine wL (i:=13) (v:= ?_) rfl ?_ hS ?_;rotate_left
  ·intro w' cf;obtain ⟨s1,s2,s3⟩:=cf;go_simp
   try with_reducible rfl
  simp only[Act.put,sA,sZ,sS];refine wL (i:=14) (v:= ?_) rfl ?_ hS ?_;rotate_left
  ·intro w' cf;obtain ⟨s1,s2,s3⟩:=cf;go_simp
   try with_reducible rfl
  simp only[Act.put,sA,sZ,sS];refine wL (i:=15) (v:= ?_) rfl ?_ hS ?_;rotate_left
  ·intro w' cf;obtain ⟨s1,s2,s3⟩:=cf;go_simp
   try with_reducible rfl
  simp only[Act.put,sA,sZ,sS];refine aM (i:=16) (by kernel_rfl) rfl (fun K hK=> ?_);go_simp;refine hK.out _ _ (fun _=>HS2.o) ?_;clear hK K HS2 hS
  try simp only[Act.put,sA,sZ,sS]
  refine aM (i:=17) (by kernel_rfl) rfl (fun K hK=> ?_);go_simp;refine hK.out _ _ (fun h=>absurd h (by decide)) ?_;clear hK K
  try simp only[Act.put,sA,sZ,sS]
  refine aM (i:=18) (by kernel_rfl) rfl (fun K hK=> ?_);go_simp;refine hK.out _ _ (fun h=>absurd h (by decide)) ?_;clear hK K
  try simp only[Act.put,sA,sZ,sS]
  refine aM (i:=19) (by kernel_rfl) rfl (fun K hK=> ?_);go_simp;refine hK.out _ _ (fun h=>absurd h (by decide)) ?_;clear hK K n2 n3 LC bi
  try simp only[Act.put,sA,sZ,sS]
  refine fG (by kernel_rfl) ?_ _;obtain ⟨w5,Ly⟩:=ex (((w3.setCell ⟨g,n0*6+2,none⟩ (.string ⟨t.text.toArray⟩)).setCell ⟨g,n0*6+3,none⟩ (.bool t.quoted)).drew);have Ue:RdS w0 w5 rb lv ts k1 (.slice (some ⟨g,0,none⟩) mM.length c) (mM.set n0 ⟨{m.nd with text:=⟨t.text.toArray⟩,quoted:=t.quoted},m.kv⟩):=by
   rw[Ly];exact HE.o.2.1.later (aBi _ _).drew
  have hM5:Mod (RdF rb nv ms) w w5:=by
   have h1:Mod (RdF rb nv ms) w w3:=(Mod.ofBelow (F:=RdF rb nv ms) ie.o (fun k hk mQ=>by omega)).trans Hm1.o.1;have h2:=sh (w0:=w0) (w:=w) h1 (fun g hg=>(Hm1.o.2 g hg).imp id (fun q=>aBl ie.o.size q)) HE.o.1;rw[Ly];exact ⟨h2.os,h2.tape,h2.output,h2.size,h2.block⟩
  have hO5:∀b,nOwn (.slice (some ⟨g,0,none⟩) mM.length c) (mM.set n0 ⟨{m.nd with text:=⟨t.text.toArray⟩,quoted:=t.quoted},m.kv⟩) b->nOwn nv ms b\/w.heap.size<=b:=fun b hb=>(Hm1.o.2 b (HE.o.2.2 b hb)).imp id (fun q=>aBl ie.o.size q);rw[<-Ly];have hR6:=Ue.move (k2:=k1+1) (by have:=Hx.o.1;omega);have hS6:Mod (fun b=>b=rb) w5 (w5.setCell ⟨rb,1,none⟩ (.int .i64 ((k1+1:Nat):Int))):=(Mod.refl _ _).setCell _ _ (fun _=>rfl)
  have hM6:=hM5.trans' hS6 (fun _ _ q=> .inl q);have y1:=Ue.c1.1;have yf:=Ue.c1.2;have hlen:ts.length<=1048576:=by obtain ⟨_,_,_,q,_⟩:=Ue.tok_at;exact q
  have hwk:wrap64 ((k1:Int)+1)=((k1+1:Nat):Int):=(bK (by omega) (by have:=Hx.o.1;omega)).trans (by omega);have HF:=hid (show dB w0 w rb lv ts nv ms X (.returned (.int .i64 (n0:Int))) (w5.setCell ⟨rb,1,none⟩ (.int .i64 ((k1:Int)+1))) from by
   rw[Ui.o];exact ⟨rfl,_,_,hR6,Hnn.o,hM6,hO5⟩)
  clear Ue hM5 hO5 hR6 hS6 hM6 Ly HE Hnn Ui Hm1 Qk hlen;go_wp2;exact bodyPost_ret (results_tmp (t:=6) rfl _ _ _) rfl HF.o
theorem DL {w0:World} {rb:Nat} {lv:Value} {ts:List Tok} (D:Nat) (hD:D<=17) (IH:1<=D->tw w0 rb lv ts (D-1)):tw w0 rb lv ts D:=by
 intro w k nv ms key h nK cl;rw[DK];have lT:=O5 nK;obtain ⟨t,ht⟩:=ex (au ts k);rw[<-ht];have tg:=hid (jc h);rw[<-ht]at tg;by_cases k3:t.kind=3
 ·rw[if_pos k3];have e3:(t.kind==3)=true:=beq_iff_eq.2 k3;have Hd:=hid (fun w2 (hb:Below w.heap.size w w2)=>(Ra (h.later hb) D hD t ht k3 key cl IH).mono (fun r w' hh=>dB.base hb hh));clear h nK cl IH lT ht k3;generalize q8 ts D k (nds ms) key t=X at*;unfold Tok.a at Hd tg;go_enter Tryz.func109,Tryz.ntmps109
  go_wp2_with fail
  refine tg.o.mono ?_;rintro r w1 ⟨rfl,h1⟩;have ie:=hid (fun ob=>h1.trans ((aBi _ _).alloc (aBh w1.heap.size) ob |>.mono h1.size));clear h1 tg
  go_wp2_with fail
  refine (Hd.o _ (ie.o _)).mono ?_;intro r w' hh;cases X with
  |error e=>
   obtain ⟨rfl,h1,h2⟩:=hh;exact ⟨rfl,rfl,h1,h2⟩
  |ok y=>
   obtain ⟨k2,ns2,i⟩:=y;obtain rfl:=hh.1;have HH:=hid hh;clear hh Hd;go_wp2;exact bodyPost_ret (results_tmp (t:=6) rfl _ _ _) rfl HH.o
 ·have e3:(t.kind==3)=false:=beq_eq_false_iff_ne.2 k3;rw[if_neg k3];by_cases k2:t.kind=2
  ·rw[if_pos k2];have e2:(t.kind==2)=true:=beq_iff_eq.2 k2;have Hd:=hid (fun w2 (hb:Below w.heap.size w w2)=>(Q4 (h.later hb) D hD t ht k2 key cl IH).mono (fun r w' hh=>dB.base hb hh));clear h nK cl IH lT ht k3 k2;generalize qE ts D k (nds ms) key t=X at*;unfold Tok.a at Hd tg;go_enter Tryz.func109,Tryz.ntmps109
   go_wp2_with fail
   refine tg.o.mono ?_;rintro r w1 ⟨rfl,h1⟩;have ie:=hid (fun ob=>h1.trans ((aBi _ _).alloc (aBh w1.heap.size) ob |>.mono h1.size));clear h1 tg
   go_wp2_with fail
   refine (Hd.o _ (ie.o _)).mono ?_;intro r w' hh;cases X with
   |error e=>
    obtain ⟨rfl,h1,h2⟩:=hh;exact ⟨rfl,rfl,h1,h2⟩
   |ok y=>
    obtain ⟨k2,ns2,i⟩:=y;obtain rfl:=hh.1;have HH:=hid hh;clear hh Hd;go_wp2;exact bodyPost_ret (results_tmp (t:=6) rfl _ _ _) rfl HH.o
  ·rw[if_neg k2];exact Q5 h D hD t ht lT e3 (beq_eq_false_iff_ne.2 k2) key cl
theorem IK (w0:World) (rb:Nat) (lv:Value) (ts:List Tok):∀D,D<=17->tw w0 rb lv ts D
 |0,h=>DL 0 h (fun h=>absurd h (by decide))
 |D+1,h=>DL (D+1) h (fun _=>IK w0 rb lv ts D (by omega))
