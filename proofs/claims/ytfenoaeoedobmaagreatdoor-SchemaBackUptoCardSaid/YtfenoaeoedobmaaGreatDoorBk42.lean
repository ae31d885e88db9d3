/-
Parts of a proof.
-/
import Derived.Test.YtfenoaeoedobmaaGreatDoorBk41
set_option linter.unusedVariables false
set_option linter.unusedSimpArgs false
set_option maxHeartbeats 4000000
set_option maxRecDepth 20000
namespace Go.Proofs.YtfenoaeoedobmaaGreatDoor
open Go Go.RowKit
theorem a6l {w0 w:World} {rb:Nat} {lv:Value} {ts:List Tok} {k:Nat} {nv:Value} {ms:List NdM} (h:RdS w0 w rb lv ts k nv ms) (D:Nat) (hD:D<=17) (t:Tok) (ht:t=nextT ts k) (hk2:t.kind=3) (key:ByteArray) (hkey:key.size<=1048576) (IH:1<=D->aLj w0 rb lv ts (D-1)):
 Calls Tryz.prog 146 #[.pointer (some ⟨rb,0,none⟩),.agg t.a,.int .i64 ((17-D:Nat):Int),.string key] w (aB1 w0 w rb lv ts nv ms (dictX ts D k (nds ms) key t)):=by
 have hb1:∀ob,Below w.heap.size w (w.alloc ob):=fun ob=>(a7d _ _).alloc (a7c _) ob;have hok:TokOk t:=by rw[ht];exact h.ok k
 have Hbeg:=hid (fun ob=>aJs (h.later (hb1 ob)) D hD 2 (by decide) key hkey t hok);have H:=hid h;have Hb:=hid hb1;have Hx:=hid (And.intro ht (And.intro hk2 (And.intro hD hok)));have IH:=hid IH;obtain ⟨X,hX⟩:∃X,X=dictX ts D k (nds ms) key t:=⟨_,rfl⟩;rw[<-hX];have HX:=hid hX;obtain ⟨B,hB⟩:∃B,B=begX k (nds ms) D 2 key t:=⟨_,rfl⟩;rw[<-hB]at Hbeg;have HB:=hid hB;have Ha:=hid (show t.a=#[.int .i64 t.kind,.int .i64 t.line,.int .i64 t.col,.string ⟨t.text.toArray⟩,.bool t.quoted] from rfl)
 rw[Ha.out]at Hbeg |-;clear h hb1 hok hX hB ht hk2 hD hkey;go_enter Tryz.func146,Tryz.ntmps146
 go_wp2_with fail
 refine (Hbeg.out _).mono ?_;intro r w1 hh;cases B with
 |error e=>
  obtain ⟨rfl,h1,h2⟩:=hh;have hx:X= .error e:=by
   rw[HX.out];have:=HB.out;unfold begX at this;unfold dictX
   split at this
   ·rename_i e2 h2
    try rw[h2]
    injection this with this
    rw[this]
   ·cases this
  rw[hx];exact ⟨rfl,rfl,h1,a7g (Hb.out _).size h2⟩
 |ok y=>
  obtain ⟨k1,ns1,i⟩:=y;obtain ⟨hr,nv1,ms1,hR1,hn1,hm1,ho1⟩:=hh;subst hr;obtain ⟨rfl,hns,rfl,hxx,hDp⟩:k1=k/\ns1=nds ms++[⟨2,key,⟨#[]⟩,false,t.line,[]⟩]/\i=ms.length/\X=finX (dictL (aA0 ts (D-1)) ts (D-1) t.col ms.length (ts.length-k) [] k ns1) ms.length/\0<D:=by
   have h1:=HB.out;have h2:=HX.out;unfold begX at h1;unfold dictX at h2;cases hN:newP (nds ms) D 2 key t with
   |error e=>rw[hN]at h1;cases h1
   |ok n1=>
    rw[hN]at h1 h2;injection h1 with h1
    injection h1 with h1 h3
    injection h3 with h3 h4
    rw[aBa]at h4 h2;obtain ⟨e,hDp⟩:=aH1 hN;exact ⟨h1,by rw[h3,e],h4,by rw[h2,h3],hDp⟩
  have hL1:=aR3 H.out hR1 hm1 ho1 (hn1.trans hns) rfl;have Hxx:=hid hxx;have HDp:=hid (And.intro hDp Hx.out.2.2.1);clear hDp;have HL:=hid (And.intro hL1 hn1);clear hR1 hm1 ho1 hn1 hns hxx hL1 HB HX Hbeg;obtain ⟨n0,hn0⟩:∃n0,n0=ms.length:=⟨_,rfl⟩;rw[<-hn0];have Hn0:=hid hn0;clear hn0;have hmm:= @run_makeMap Tryz.prog
  go_wp2_with fail
  obtain ⟨mb,hmb⟩:∃mb,mb=w1.heap.size:=⟨_,rfl⟩;have hbm:Below w1.heap.size w1 (w1.alloc (.map #[] 0)):=(a7d _ _).alloc (a7c _) _;have hD1:DpS w0 w (w1.alloc (.map #[] 0)) rb w.heap.size w.heap.size mb n0 lv ts nv ms t t k1 nv1 ms1 []:=by
   have hfl:=aAb HL.out.1.first;rw[hmb,Hn0.out];exact ⟨HL.out.1.later hbm,Had.made w1,fun q=>by have:=HL.out.1.rd.rd_lt q;omega,by omega,by omega,HL.out.1.mod.size,H.out.below.size,Nat.zero_le _⟩
  refine (aFg hD1.lp.rd).mono ?_;rintro r w2 ⟨rfl,h2⟩;have HL2:=hid (show DpS w0 w (w2.alloc (.cells (nextT ts k1).a 121)) rb w.heap.size w2.heap.size mb n0 lv ts nv ms t (nextT ts k1) k1 nv1 ms1 [] from
   hD1.newTok (h2.trans ((a7d _ _).alloc (a7c _) _ |>.mono h2.size)) (aAc (w:=w2) _) h2.size)
  rw[<-hmb];clear h2 hD1 hbm hmb;unfold Tok.a at HL2 |-;go_wp2
  go_loopw [11,12,13,14] (fun v11 v12 v13 v14 wr=>∃tb:Nat,v11= .pointer (some ⟨tb,0,none⟩)/\Hid (∃k nv' ms' seen,DpS w0 w wr rb w.heap.size tb mb n0 lv ts nv ms t (nextT ts k) k nv' ms' seen/\X=finX (dictL (aA0 ts (D-1)) ts (D-1) t.col n0 (ts.length-k) seen k (nds ms')) n0)) (fun _ _ _ _ wr=>ts.length-curs rb wr)
  case atStart=>
   exact ⟨_,rfl,hid ⟨k1,nv1,ms1,[],HL2.out,by rw[Hxx.out,HL.out.2,Hn0.out]⟩⟩
  case round=>
   clear HL2 HL Hxx;obtain ⟨tb,rfl,HH⟩:=hrel;obtain ⟨k,nv',ms',seen,hL,hx⟩:=HH.out;obtain ⟨⟨c0,c1,c2,c3,c4⟩,f2,fz⟩:=hL.lp.cells;have Hl:=hid hL;have Hxk:=hid hx;clear hL hx HH;obtain ⟨u,hu⟩:∃u,u=nextT ts k:=⟨_,rfl⟩;rw[<-hu]at c0 c1 c2 c3 c4 Hl;have Hu:=hid hu;clear hu;have done:¬(u.kind=3/\u.col=t.col)->aB1 w0 w rb lv ts nv ms X (.returned (.int .i64 (n0:Int))) wr:=fun hn=>by
    rw[Hxk.out,aW3 _ (by rw[<-Hu.out];exact hn)];exact ⟨rfl,nv',ms',Hl.out.lp.rd,rfl,Hl.out.lp.mod,Hl.out.lp.own⟩
   by_cases k2:u.kind=3
   ·have e2:(u.kind==3)=true:=beq_iff_eq.2 k2;by_cases k3:u.col=t.col
    ·have e3:(u.col==t.col)=true:=beq_iff_eq.2 k3;clear done;have hkl:=aDk (ts:=ts) (k:=k) (by rw[<-Hu.out,k2];decide);have Hc:=hid (show (nextT ts k).kind=3/\(nextT ts k).col=t.col from by rw[<-Hu.out];exact ⟨k2,k3⟩);have huok:TokOk u:=by rw[Hu.out];exact Hl.out.lp.rd.ok k
     have hlook:=aYc Hl.out.had huok.text;by_cases hs:u.text∈seen
     ·have hd:decide (u.text∈seen)=true:=dT hs;rw[hd]at hlook;have hx:X= .error (u.line,91):=by rw[Hxk.out,aW4 Hc.out (by rw[<-Hu.out];exact hs),<-Hu.out];rfl
      subst hx;have HE:=hid (And.intro Hl.out.lp.rd.below Hl.out.lp.mod.size);clear hs hd k2 k3;go_wp2;exact ⟨rfl,rfl,HE.out⟩
     ·have hd:decide (u.text∈seen)=false:=dF hs;rw[hd]at hlook;have Hs:=hid (show ¬(nextT ts k).text∈seen by rw[<-Hu.out];exact hs);have Hcur:=hid Hl.out.lp.rd.curs;have Hkid:=hid Hl.out.lp.kid;have hlen:ts.length<=1048576:=by obtain ⟨_,_,_,q,_⟩:=Hl.out.lp.rd.tok_at;exact q
      have Hcnt:=hid (show (seen.map baL).length<=1048576 by rw[List.length_map];have:=Hl.out.cnt;omega);have Hts:=hid (show (⟨u.text.toArray⟩:ByteArray).size<=maxLen by have:=huok.text;unfold maxLen;show u.text.toArray.size<=_;simp;omega);have Hkl:=hid (And.intro hkl hlen);have Huok:=hid huok;clear hs hd k2 k3 hkl hlen huok;have hwk:wrap64 ((k:Int)+1)=((k+1:Nat):Int):=(aA1 (by have:=Hkl.out;omega) (by have:=Hkl.out;omega)).trans (by omega)
      go_wp2_with (at_mapUpdate;refine aVd rfl _ _ _ rfl mb (seen.map baL) rfl Hl.out.had Hcnt.out ⟨u.text.toArray⟩ Hts.out rfl rfl ?_;intro w2 hh hg;have HE:=hid (Hl.out.put hh hg);have y1:=HE.out.1.rd.c1.1;have yf:=HE.out.1.rd.c1.2;clear hh hg c0 c1 c2 c3 c4 f2 fz hlook)
      have Hmv:=hid (show DpS w0 w (w2.setCell ⟨rb,1,none⟩ (.int .i64 ((k:Int)+1))) rb w.heap.size tb mb n0 lv ts nv ms t u (k+1) nv' ms' (u.text::seen) from Hl.out.put_move HE.out.1 HE.out.2 (by have:=Hkl.out;omega));clear y1 yf Hl HE e2 e3 hwk;refine (aFg Hmv.out.lp.rd).mono ?_;rintro r w3 ⟨rfl,h3⟩;obtain ⟨n,hn⟩:∃n,n=nextT ts (k+1):=⟨_,rfl⟩;rw[<-hn];have Hn:=hid hn;have hL3:=(Hmv.out.later h3).later ((a7d _ _).alloc (a7c _) (.cells n.a 121))
      have HL3:=hid hL3;obtain ⟨⟨c0,c1,c2,c3,c4⟩,_,_⟩:=hL3.lp.cells;have hbv:((17-D:Nat):Int)+1=((17-(D-1):Nat):Int):=by
       have h1:=HDp.out;omega
      obtain ⟨V,hV⟩:∃V,V=valP (aA0 ts (D-1)) ts (D-1) (aB4 n u) u (k+1) (nds ms') ⟨u.text.toArray⟩:=⟨_,rfl⟩;have HV:=hid (show Calls Tryz.prog 181 #[.pointer (some ⟨rb,0,none⟩),.bool (aB4 n u),.agg u.a,.int .i64 (((17-D:Nat):Int)+1),.string ⟨u.text.toArray⟩] (w3.alloc (.cells n.a 121)) (aB1 w0 (w3.alloc (.cells n.a 121)) rb lv ts nv' ms' V) from by
       rw[hV,hbv];exact aWz hL3.lp.rd (D-1) (by have:=HDp.out;omega) (aB4 n u) u Huok.out ⟨u.text.toArray⟩ (by show u.text.toArray.size<=_;have:=Huok.out.text;simp;omega) (IH.out HDp.out.1))
      have HVe:=hid hV;obtain ⟨wb,hwb⟩:∃wb,wb=w3.alloc (.cells n.a 121):=⟨_,rfl⟩;have Hwb:=hid hwb;rw[<-hwb]at HV HL3 c0 c1 c2 c3 c4;have d9:=aAa (show wb.heap[w3.heap.size]? =some (.cells #[.int .i64 n.kind,.int .i64 n.line,.int .i64 n.col,.string ⟨n.text.toArray⟩,.bool n.quoted] 121 (0,0)) by rw[hwb];exact aAc (w:=w3) _);have d0:=d9 0;have d1:=d9 1
      have d2:=d9 2;simp at d0 d1 d2;clear hn hL3 h3 hbv hV d9 Hmv;unfold Tok.a at HV hwb |-;go_upto_region 11 with (fail)
      rw[<-hwb];clear hwb;go_cut [13] from 23 to 117 (fun s13 w4=>s13= .bool (aB4 n u)/\w4=wb)
      case first=>
       clear HV;cases b1:(n.line==u.line)
       ·have b3:(n.line != u.line)=true:=by rw[bne,b1];rfl
        cases b4:decide (u.col<n.col)
        ·cases b5:(n.kind==2)
         ·go_wp2
          go_meet
          case rel=>exact ⟨congrArg Value.bool (show _=aB4 n u by unfold aB4;rw[b1,b3,b4,b5];rfl),rfl⟩
         ·cases b6:(n.col==u.col)
          ·go_wp2
           go_meet
           case rel=>exact ⟨congrArg Value.bool (show _=aB4 n u by unfold aB4;rw[b1,b3,b4,b5,b6];rfl),rfl⟩
          ·go_wp2
           go_meet
           case rel=>exact ⟨congrArg Value.bool (show _=aB4 n u by unfold aB4;rw[b1,b3,b4,b5,b6];rfl),rfl⟩
        ·go_wp2
         go_meet
         case rel=>exact ⟨congrArg Value.bool (show _=aB4 n u by unfold aB4;rw[b1,b3,b4];rfl),rfl⟩
       ·have b3:(n.line != u.line)=false:=by rw[bne,b1];rfl
        cases b2:(n.kind==4)
        ·go_wp2
         go_meet
         case rel=>exact ⟨congrArg Value.bool (show _=aB4 n u by unfold aB4;rw[b1,b2,b3];rfl),rfl⟩
        ·go_wp2
         go_meet
         case rel=>exact ⟨congrArg Value.bool (show _=aB4 n u by unfold aB4;rw[b1,b2,b3];rfl),rfl⟩
      case rest=>
       obtain ⟨rfl,hwc⟩:=hcut;rw[hwc];clear hwc d0 d1 d2
       go_wp2_with fail
       refine HV.out.mono ?_;intro r w4 hh;clear HV c0 c1 c2 c3 c4;cases V with
       |error e=>
        obtain ⟨rfl,h1,h2⟩:=hh;have hv:=HVe.out;rw[Hn.out,Hu.out]at hv;have hx:X= .error e:=by rw[Hxk.out,aW5 Hc.out Hs.out hv.symm];rfl
        subst hx;exact ⟨rfl,rfl,h1,a7g HL3.out.lp.mod.size h2⟩
       |ok y=>
        obtain ⟨k2,ns2,kid⟩:=y;obtain ⟨hr,nv2,ms2,hR2,hn2,hm2,ho2⟩:=hh;subst hr;have hv:=HVe.out;rw[Hn.out,Hu.out]at hv;obtain ⟨hst,hk2,hk2l⟩:=aTx (i:=n0) (aGk ts (D-1)) Hc.out Hs.out hv.symm;have hkeep:=(aG5 (aGl ts (D-1)) hv.symm).1;have Hst:=hid (And.intro hst (And.intro hk2 hk2l));obtain ⟨HS4',g,c,ka,kc,q,m,hnv2,hg,hm,hmk,hq,hql,hxk2,hc5,hgf⟩:=aOm (w4:=w4) HL3.out.lp hR2 hn2 hm2 ho2 hkeep Hkid.out hk2
        have HS4:=hid (HL3.out.call HS4'.out hm2 ho2 (by have:=HL3.out.cnt;omega));subst hnv2;clear hv hst hk2 hk2l hkeep HVe HL3 hR2 hm2 ho2 HS4';have hblk:=HS4.out.lp.rd.blk;unfold rdA at hblk;have z2:=aAa hblk 2;simp at z2;have bi:(n0:Int)<(ms2.length:Int):=by have:=(a7j hm).1;omega
        have Hown:=hid (fun ob=>show ((w4.alloc ob).drew).ownsRow 0 3 1 (.slice ka q kc) q (m.nd.kids.flatMap aB9) from by
         have:=(HS4.out.lp.rd.nr.each m (List.mem_of_getElem? hm)).row;rw[hmk,<-hq]at this;exact World.ownsRow.alloc (w:=w4) this ob)
        have Hend:=hid (fun ob ao5 c5 (w5:World) (a1:w5.ownsRow 0 3 1 (.slice ao5 (q+1) c5) (q+1) (m.nd.kids.flatMap aB9++[.int .i64 (kid:Int)])) (a2:((w4.alloc ob).drew).grownBy w5 (Value.slice ka q kc).ownBlock)
         (a3:∀g,(Value.slice ao5 (q+1) c5).ownBlock=some g->(Value.slice ka q kc).ownBlock=some g\/((w4.alloc ob).drew).heap.size<=g)=>aW0 HS4.out.lp.rd hm hg hq hql (((a7d w4.heap.size w4).alloc (a7c _) ob).drew) a1 (by rw[hmk];exact a2) (by rw[hmk];exact a3))
        have Hql:=hid (show q<=2000000 by omega);have Hq:=hid (And.intro hq (And.intro hxk2 (And.intro hm hn2)));have Hg:=hid (And.intro z2 hc5);have Hgf:=hid hgf;clear hblk hm hmk hq hql hxk2 hgf hg hn2 z2 hc5;go_wp2;refine aCx (fun w'=>w'.cell? ⟨rb,2,none⟩=some (.slice (some ⟨g,0,none⟩) ms2.length c)/\w'.cell? ⟨g,n0*6+5,none⟩=some (.slice ka q kc)) (fun i=>decide (i<16)) (by kernel_rfl) ?_
        have hS:w4.drew.cell? ⟨rb,2,none⟩=some (.slice (some ⟨g,0,none⟩) ms2.length c)/\w4.drew.cell? ⟨g,n0*6+5,none⟩=some (.slice ka q kc):=Hg.out;refine wK (i:=0) (v:= ?_) rfl (by kernel_rfl) (fun _ _ _ h=>h) (by rfl) ?_ hS ?_;rotate_left
        ·intro w' hSw;obtain ⟨s1,s2⟩:=hSw;go_simp
         try with_reducible rfl
        simp only[Act.put,sA,sZ,sS];refine wK (i:=1) (v:= ?_) rfl (by kernel_rfl) (fun _ _ _ h=>h) (by rfl) ?_ hS ?_;rotate_left
        ·intro w' hSw;obtain ⟨s1,s2⟩:=hSw;go_simp
         try with_reducible rfl
        simp only[Act.put,sA,sZ,sS];refine wK (i:=2) (v:= ?_) rfl (by kernel_rfl) (fun _ _ _ h=>h) (by rfl) ?_ hS ?_;rotate_left
        ·intro w' hSw;obtain ⟨s1,s2⟩:=hSw;go_simp
         try with_reducible rfl
        simp only[Act.put,sA,sZ,sS];refine wK (i:=3) (v:= ?_) rfl (by kernel_rfl) (fun _ _ _ h=>h) (by rfl) ?_ hS ?_;rotate_left
        ·intro w' hSw;obtain ⟨s1,s2⟩:=hSw;go_simp
         try with_reducible rfl
        simp only[Act.put,sA,sZ,sS];refine wK (i:=4) (v:= ?_) rfl (by kernel_rfl) (fun _ _ _ h=>h) (by rfl) ?_ hS ?_;rotate_left
        ·intro w' hSw;obtain ⟨s1,s2⟩:=hSw;go_simp
         try with_reducible rfl
        simp only[Act.put,sA,sZ,sS];refine wK (i:=5) (v:= ?_) rfl (by kernel_rfl) (fun _ _ _ h=>h) (by rfl) ?_ hS ?_;rotate_left
        ·intro w' hSw;obtain ⟨s1,s2⟩:=hSw;go_simp
         try with_reducible rfl
        simp only[Act.put,sA,sZ,sS];refine wK (i:=6) (v:= ?_) rfl (by kernel_rfl) (fun _ _ _ h=>h) (by rfl) ?_ hS ?_;rotate_left
        ·intro w' hSw;obtain ⟨s1,s2⟩:=hSw;go_simp
         try with_reducible rfl
        simp only[Act.put,sA,sZ,sS];refine wK (i:=7) (v:= ?_) rfl (by kernel_rfl) (fun _ _ _ h=>h) (by rfl) ?_ hS ?_;rotate_left
        ·intro w' hSw;obtain ⟨s1,s2⟩:=hSw;go_simp
         try with_reducible rfl
        simp only[Act.put,sA,sZ,sS];refine wK (i:=8) (v:= ?_) rfl (by kernel_rfl) (fun _ _ _ h=>h) (by rfl) ?_ hS ?_;rotate_left
        ·intro w' hSw;obtain ⟨s1,s2⟩:=hSw;go_simp
         try with_reducible rfl
        simp only[Act.put,sA,sZ,sS];refine wK (i:=9) (v:= ?_) rfl (by kernel_rfl) (fun _ _ _ h=>h) (by rfl) ?_ hS ?_;rotate_left
        ·intro w' hSw;obtain ⟨s1,s2⟩:=hSw;go_simp
         try with_reducible rfl
        simp only[Act.put,sA,sZ,sS];refine wK (i:=10) (v:= ?_) rfl (by kernel_rfl) (fun _ _ _ h=>h) (by rfl) ?_ hS ?_;rotate_left
        ·intro w' hSw;obtain ⟨s1,s2⟩:=hSw;go_simp
         try with_reducible rfl
        simp only[Act.put,sA,sZ,sS];refine wK (i:=11) (v:= ?_) rfl (by kernel_rfl) (fun _ _ _ h=>h) (by rfl) ?_ hS ?_;rotate_left
        ·intro w' hSw;obtain ⟨s1,s2⟩:=hSw;go_simp
         try with_reducible rfl
        simp only[Act.put,sA,sZ,sS];refine wK (i:=12) (v:= ?_) rfl (by kernel_rfl) (fun _ _ _ h=>h) (by rfl) ?_ hS ?_;rotate_left
        ·intro w' hSw;obtain ⟨s1,s2⟩:=hSw;go_simp
         try with_reducible rfl
        simp only[Act.put,sA,sZ,sS];refine wK (i:=13) (v:= ?_) rfl (by kernel_rfl) (fun _ _ _ h=>h) (by rfl) ?_ hS ?_;rotate_left
        ·intro w' hSw;obtain ⟨s1,s2⟩:=hSw;go_simp
         try with_reducible rfl
        simp only[Act.put,sA,sZ,sS];refine aAi (i:=14) (by kernel_rfl) rfl (fun K hK=> ?_);go_simp;refine hK.out _ _ (fun _=>⟨aBd ((a7d w4.drew.heap.size w4.drew).alloc (a7c _) _) hS.1,aBd ((a7d w4.drew.heap.size w4.drew).alloc (a7c _) _) hS.2⟩) ?_;clear hK K
        try simp only[Act.put,sA,sZ,sS]
        refine aAi (i:=15) (by kernel_rfl) rfl (fun K hK=> ?_);refine aG4 3 53 (.int .i64 0) 1 8 Tryz.underlying53 aIn rfl (by decide) (by decide) rfl _ _ rfl (.slice ka q kc) q (m.nd.kids.flatMap aB9) rfl (Hown.out _) w4.heap.size #[.int .i64 (kid:Int)] [.int .i64 (kid:Int)] rfl (aAc (w:=w4) _) rfl rfl aQa Hql.out (q+1) rfl ?_;intro ao5 c5 w5 own2 gr2 new2
        have HE:=hid (Hend.out _ _ _ _ own2 gr2 new2);have q1:=aEn HE.out.2.2.1 Hg.out.2;have q2:=aGm HE.out.2.2.1 (Hgf.out (n0*6+5));have q3:=aEn HE.out.2.1 Hg.out.1;refine hK.out _ _ (fun _=>⟨q3,q1⟩) ?_;clear hK K own2 gr2 new2 Hown Hend hS
        try simp only[Act.put,sA,sZ,sS]
        refine aAi (i:=16) (by kernel_rfl) rfl (fun K hK=> ?_);go_simp;refine hK.out _ _ (fun h=>absurd h (by decide)) ?_;clear hK K;refine aAi (i:=17) (by kernel_rfl) rfl (fun K hK=> ?_);go_simp;refine hK.out _ _ (fun h=>absurd h (by decide)) ?_;clear hK K;refine aAi (i:=18) (by kernel_rfl) rfl (fun K hK=> ?_);go_simp;refine hK.out _ _ (fun h=>absurd h (by decide)) ?_;clear hK K
        refine aCw (by kernel_rfl) ?_ _;clear q1 q2 q3;have hL5':=HS4.out.lp.call HE.out.2.2.2.1 HE.out.2.2.2.2.1 HE.out.2.2.2.2.2 (aOl Hq.out.2.2.1 Hq.out.1 Hq.out.2.1);have hL5:=HS4.out.call hL5' HE.out.2.2.2.2.1 HE.out.2.2.2.2.2 HS4.out.cnt;have Hns:=hid (aJt (kid:=kid) Hq.out.2.2.1 (.slice ao5 (q+1) c5));obtain ⟨⟨c0,c1,c2,c3,c4⟩,_,_⟩:=hL5'.cells;have HL5:=hid hL5;obtain ⟨w6,hw6⟩:∃w6,w6=w5.setCell ⟨g,n0*6+5,none⟩ (.slice ao5 (q+1) c5):=⟨_,rfl⟩
        rw[<-hw6]at HL5 c0 c1 c2 c3 c4 |-;clear hL5 hL5' hw6 HE Hql Hg Hgf HS4
        go_wp2_with fail
        have hb6:Below w6.heap.size w6 (w6.alloc (.cells u.a 121)):=(a7d _ _).alloc (a7c _) _;refine (aFg (HL5.out.later hb6).lp.rd).mono ?_;rintro r w7 ⟨rfl,h7⟩;have f7:=aOk h7;unfold Tok.a at f7;have HE:=hid (set5 f7 (.int .i64 (nextT ts k2).kind) (.int .i64 (nextT ts k2).line) (.int .i64 (nextT ts k2).col) (.string ⟨(nextT ts k2).text.toArray⟩) (.bool (nextT ts k2).quoted))
        have Hb7:=hid (hb6.trans (h7.mono hb6.size));obtain ⟨e0,e1,e2,e3,e4⟩:=cB5 f7;have ef:=fun j=>aAd f7 j;simp at e0 e1 e2 e3 e4;have HF:=hid (HL5.out.newTok (u2:=nextT ts k2) (Hb7.out.trans (HE.out.1.below Hb7.out.size (fun b hb=>by omega))) HE.out.2 (a7c _));have HX2:=hid (show X=finX (dictL (aA0 ts (D-1)) ts (D-1) t.col n0 (ts.length-k2) (u.text::seen) k2 (nds (ms2.set n0 ⟨{m.nd with kids:=m.nd.kids++[(kid:Int)]},.slice ao5 (q+1) c5⟩))) n0 by rw[Hxk.out,Hst.out.1,Hns.out,Hq.out.2.2.2,Hu.out])
        clear h7 hb6 f7 HL5 HE Hb7 c0 c1 c2 c3 c4;unfold Tok.a;go_wp2;exact ⟨⟨_,rfl,hid ⟨k2,_,_,_,HF.out,HX2.out⟩⟩,by rw[HF.out.lp.rd.curs,Hcur.out];have:=Hst.out.2;omega⟩
    ·have e3:(u.col==t.col)=false:=beq_eq_false_iff_ne.2 k3;have HD:=hid (done (fun h=>k3 h.2));clear done k3 k2;go_wp2;exact bodyPost_ret (results_tmp (t:=8) rfl _ _ _) rfl HD.out
   ·have e2:(u.kind==3)=false:=beq_eq_false_iff_ne.2 k2;have HD:=hid (done (fun h=>k2 h.1));clear done k2;go_wp2;exact bodyPost_ret (results_tmp (t:=8) rfl _ _ _) rfl HD.out
theorem a2f {w0 w:World} {rb:Nat} {lv:Value} {ts:List Tok} {k i g:Nat} {nv:Value} {ms:List NdM} {m:NdM} (h:RdS w0 w rb lv ts k nv ms) (hi:ms[i]? =some m) (hg:nv.ownBlock=some g) (tx:ByteArray) (htx:tx.size<=1048576) (q:Bool):
 Mod (RdF rb nv ms) w ((w.setCell ⟨g,i*6+2,none⟩ (.string tx)).setCell ⟨g,i*6+3,none⟩ (.bool q))/\
 RdS w0 ((w.setCell ⟨g,i*6+2,none⟩ (.string tx)).setCell ⟨g,i*6+3,none⟩ (.bool q)) rb lv ts k nv (ms.set i ⟨{m.nd with text:=tx,quoted:=q},m.kv⟩)/\
 (∀b,nOwn nv (ms.set i ⟨{m.nd with text:=tx,quoted:=q},m.kv⟩) b->nOwn nv ms b):=by
 have hlt:=(a7j hi).1;have hmm:=List.mem_of_getElem? hi;have hgr:g≠rb:=(h.nr.new g hg).2;have hS1:Mod (fun b=>b=g) w (w.setCell ⟨g,i*6+2,none⟩ (.string tx)):=(Mod.refl _ _).setCell _ _ (fun _=>rfl);have hS2:Mod (fun b=>b=g) w ((w.setCell ⟨g,i*6+2,none⟩ (.string tx)).setCell ⟨g,i*6+3,none⟩ (.bool q)):=hS1.setCell _ _ (fun _=>rfl);have hW:Mod (RdF rb nv ms) w ((w.setCell ⟨g,i*6+2,none⟩ (.string tx)).setCell ⟨g,i*6+3,none⟩ (.bool q)):=by
  have hp:∀b,(fun b=>b=g) b->RdF rb nv ms b:=fun b e=> .inr (.inl (by rw[e];exact hg));exact ⟨hS2.os,hS2.tape,hS2.output,hS2.size,fun b hb hn=>hS2.block b hb (fun e=>hn (hp b e))⟩
 have hP:=h.nr.each m hmm;have hkm:∀b,m.kv.ownBlock=some b->¬b=g:=fun b hb e=>(h.nr.kid m hmm b hb).1 (by rw[hg,e]);have h1:=h.nr.put (m':=⟨{m.nd with text:=tx},m.kv⟩) (u:= .string tx) (k:=2) hi hg (by decide) rfl ⟨hP.row,hP.fresh,hP.kind,hP.line,htx,hP.key,hP.len⟩ rfl;have hi2:(ms.set i ⟨{m.nd with text:=tx},m.kv⟩)[i]? =some ⟨{m.nd with text:=tx},m.kv⟩:=List.getElem?_set_self hlt;have h2:=h1.put (m':=⟨{m.nd with text:=tx,quoted:=q},m.kv⟩) (u:= .bool q) (k:=3) hi2 hg (by decide) rfl (NdE.mod (x:=⟨{m.nd with text:=tx,quoted:=q},m.kv⟩) ⟨hP.row,hP.fresh,hP.kind,hP.line,htx,hP.key,hP.len⟩ hS1 (fun b hb e=>hkm b hb e)) rfl
 rw[List.set_set]at h2;refine ⟨hW,⟨h.toks,h.wf,h.below.trans (hW.below h.below.size (fun b hb=>(h.rd_lt hb).1)),h.rge,(hS2.block rb (aAb h.blk) (fun e=>hgr e.symm)).trans h.blk,h2,h.kle⟩,fun b hb=> ?_⟩;rcases hb with hb|⟨x,hx,hb⟩
 ·exact .inl hb
 ·rcases List.mem_or_eq_of_mem_set hx with hx|rfl
  ·exact .inr ⟨x,hx,hb⟩
  ·exact .inr ⟨m,hmm,hb⟩
theorem a2g {ms ms1:List NdM} {m:NdM} {x:Nd} {tx:ByteArray} {q:Bool} (hn:nds ms1=nds ms++[x]) (hm:ms1[ms.length]? =some m):m.nd=x/\nds (ms1.set ms.length ⟨{m.nd with text:=tx,quoted:=q},m.kv⟩)=nds ms++[{x with text:=tx,quoted:=q}]:=by
 have h1:(nds ms1)[ms.length]? =some m.nd:=by unfold nds;rw[List.getElem?_map,hm];rfl
 have e:m.nd=x:=by
  rw[hn,List.getElem?_append_right (by rw[aBa];exact a7c _),aBa,Nat.sub_self]at h1;exact (a7h h1).symm
 refine ⟨e,?_⟩;rw[aP9,hn,e,List.set_append_right _ _ (by rw[aBa];exact a7c _),aBa,Nat.sub_self];rfl
theorem a6m {w0 w:World} {rb:Nat} {lv:Value} {ts:List Tok} {k:Nat} {nv:Value} {ms:List NdM} (h:RdS w0 w rb lv ts k nv ms) (D:Nat) (hD:D<=17) (t:Tok) (ht:t=nextT ts k) (hkl:k<ts.length) (hk3:(t.kind==3)=false) (hk2:(t.kind==2)=false) (key:ByteArray) (hkey:key.size<=1048576):
 Calls Tryz.prog 109 #[.pointer (some ⟨rb,0,none⟩),.int .i64 ((17-D:Nat):Int),.string key] w (aB1 w0 w rb lv ts nv ms (leafX ts D k (nds ms) key t)):=by
 have hok:TokOk t:=by rw[ht];exact h.ok k
 have Hbeg:=hid (fun w2 (hb:Below w.heap.size w w2)=>aJs (h.later hb) D hD 1 (by decide) key hkey t hok);have Hnx:=hid (aFg h);rw[<-ht]at Hnx;have H:=hid h;have Hx:=hid (And.intro hkl (And.intro hD hok));obtain ⟨X,hX⟩:∃X,X=leafX ts D k (nds ms) key t:=⟨_,rfl⟩;rw[<-hX];have HX:=hid hX;obtain ⟨B,hB⟩:∃B,B=begX k (nds ms) D 1 key t:=⟨_,rfl⟩;rw[<-hB]at Hbeg;have HB:=hid hB;clear h hok hX hB ht hD hkey hkl
 unfold Tok.a at Hbeg Hnx;go_enter Tryz.func109,Tryz.ntmps109
 go_wp2_with fail
 refine Hnx.out.mono ?_;rintro r w1 ⟨rfl,h1⟩;obtain ⟨w2,hw2⟩:∃w2,w2=w1.alloc (.cells #[.int .i64 t.kind,.int .i64 t.line,.int .i64 t.col,.string ⟨t.text.toArray⟩,.bool t.quoted] 121):=⟨_,rfl⟩;have hb2:Below w.heap.size w w2:=by rw[hw2];exact h1.trans ((a7d _ _).alloc (a7c _) _ |>.mono h1.size)
 have f2:w2.heap[w1.heap.size]? =some (.cells #[.int .i64 t.kind,.int .i64 t.line,.int .i64 t.col,.string ⟨t.text.toArray⟩,.bool t.quoted] 121 (0,0)):=by rw[hw2];exact aAc (w:=w1) _
 have Hb2:=hid hb2;have Hf2:=hid f2;have Hge:=hid h1.size;obtain ⟨tb,htb⟩:∃tb,tb=w1.heap.size:=⟨_,rfl⟩;rw[<-htb]at Hf2 Hge;clear h1 hb2 f2 Hnx
 go_wp2_with fail
 rw[<-hw2,<-htb];clear hw2 htb;refine (Hbeg.out w2 Hb2.out).mono ?_;intro r w3 hh;cases B with
 |error e=>
  obtain ⟨rfl,h1,h2⟩:=hh;have hx:X= .error e:=by
   rw[HX.out];have:=HB.out;unfold begX at this;unfold leafX
   split at this
   ·rename_i e2 h2
    try rw[h2]
    injection this with this
    rw[this]
   ·cases this
  subst hx;exact ⟨rfl,rfl,h1,a7g Hb2.out.size h2⟩
 |ok y=>
  obtain ⟨k1,ns1,i⟩:=y;obtain ⟨hr,nv1,ms1,hR1,hn1,hm1,ho1⟩:=hh;subst hr;obtain ⟨rfl,hns,rfl,hxx⟩:k1=k/\ns1=nds ms++[⟨1,key,⟨#[]⟩,false,t.line,[]⟩]/\i=ms.length/\X= .ok (k+1,nds ms++[⟨1,key,⟨t.text.toArray⟩,t.quoted,t.line,[]⟩],ms.length):=by
   have h1:=HB.out;have h2:=HX.out;unfold begX at h1;unfold leafX at h2;cases hN:newP (nds ms) D 1 key t with
   |error e=>rw[hN]at h1;cases h1
   |ok n1=>
    rw[hN]at h1 h2;injection h1 with h1
    injection h1 with h1 h3
    injection h3 with h3 h4
    rw[aBa]at h4 h2;obtain ⟨e,_⟩:=aH1 hN;exact ⟨h1,by rw[h3,e],h4,h2⟩
  rw[hns]at hn1;obtain ⟨m,hm⟩:∃m,ms1[ms.length]? =some m:=aAh (by have:=congrArg List.length hn1;rw[aBa,a7e,aBa]at this;simp at this;omega);obtain ⟨g,c,rfl,hg,hat,hgf⟩:=hR1.nr.at hm;have hntb:¬RdF rb nv ms tb:=fun q=>by have:=H.out.rd_lt q;have:=Hge.out;omega
  have f3:=hm1.heap Hf2.out hntb;have hblk:=hR1.blk;unfold rdA at hblk;have hgtb:g≠tb:=fun e=>by
   rcases ho1 g (.inl hg) with q|q
   ·exact hntb (.inr (by rw[<-e];exact q))
   ·have:=aAb Hf2.out;omega
  have hgr:g≠rb:=(hR1.nr.new g hg).2;have z2:=aAa hblk 2;have t3:=aAa f3 3;have t4:=aAa f3 4;simp at z2 t3 t4;have n2:=hat.c2;have n3:=hat.c3;have bi:(ms.length:Int)<(ms1.length:Int):=by have:=(a7j hm).1;omega
  obtain ⟨n0,hn0⟩:∃n0,n0=ms.length:=⟨_,rfl⟩;have HE:=hid (a2f hR1 hm hg ⟨t.text.toArray⟩ (by show t.text.toArray.size<=_;have:=Hx.out.2.2.text;simp;omega) t.quoted);have Hnn:=hid (a2g (tx:=⟨t.text.toArray⟩) (q:=t.quoted) hn1 hm).2;rw[<-hn0]at hm n2 n3 bi hxx HE Hnn |-;have hS:w3.drew.cell? ⟨rb,2,none⟩=some (.slice (some ⟨g,0,none⟩) ms1.length c)/\w3.drew.cell? ⟨tb,3,none⟩=some (.string ⟨t.text.toArray⟩)/\w3.drew.cell? ⟨tb,4,none⟩=some (.bool t.quoted):=⟨z2,t3,t4⟩
  have Hxx:=hid hxx;have Hm1:=hid (And.intro hm1 ho1);have hM1:Mod (fun b=>b=g) w3.drew (w3.drew.setCell ⟨g,n0*6+2,none⟩ (.string ⟨t.text.toArray⟩)):=(Mod.refl _ _).setCell _ _ (fun _=>rfl);have HS2:=hid (show (w3.drew.setCell ⟨g,n0*6+2,none⟩ (.string ⟨t.text.toArray⟩)).cell? ⟨rb,2,none⟩=some (.slice (some ⟨g,0,none⟩) ms1.length c)/\(w3.drew.setCell ⟨g,n0*6+2,none⟩ (.string ⟨t.text.toArray⟩)).cell? ⟨tb,3,none⟩=some (.string ⟨t.text.toArray⟩)/\(w3.drew.setCell ⟨g,n0*6+2,none⟩ (.string ⟨t.text.toArray⟩)).cell? ⟨tb,4,none⟩=some (.bool t.quoted) from
   ⟨hM1.cell hS.1 (fun e=>hgr e.symm),hM1.cell hS.2.1 (fun e=>hgtb e.symm),hM1.cell hS.2.2 (fun e=>hgtb e.symm)⟩)
  have Hcur:=hid (HE.out.2.1.c1);clear hblk hn1 hm hg hat hntb f3 hgtb hgr hn0 hxx hR1 hm1 ho1 z2 t3 t4 hM1 hns HB HX Hbeg Hf2;go_wp2;refine aCx (fun w'=>w'.cell? ⟨rb,2,none⟩=some (.slice (some ⟨g,0,none⟩) ms1.length c)/\w'.cell? ⟨tb,3,none⟩=some (.string ⟨t.text.toArray⟩)/\w'.cell? ⟨tb,4,none⟩=some (.bool t.quoted)) (fun i=>decide (i<17)) (by kernel_rfl) ?_;refine wK (i:=0) (v:= ?_) rfl (by kernel_rfl) (fun _ _ _ h=>h) (by rfl) ?_ hS ?_
  rotate_left
  ·intro w' hSw;obtain ⟨s1,s2,s3⟩:=hSw;go_simp
   try with_reducible rfl
  simp only[Act.put,sA,sZ,sS];refine wK (i:=1) (v:= ?_) rfl (by kernel_rfl) (fun _ _ _ h=>h) (by rfl) ?_ hS ?_;rotate_left
  ·intro w' hSw;obtain ⟨s1,s2,s3⟩:=hSw;go_simp
   try with_reducible rfl
  simp only[Act.put,sA,sZ,sS];refine wK (i:=2) (v:= ?_) rfl (by kernel_rfl) (fun _ _ _ h=>h) (by rfl) ?_ hS ?_;rotate_left
  ·intro w' hSw;obtain ⟨s1,s2,s3⟩:=hSw;go_simp
   try with_reducible rfl
  simp only[Act.put,sA,sZ,sS];refine wK (i:=3) (v:= ?_) rfl (by kernel_rfl) (fun _ _ _ h=>h) (by rfl) ?_ hS ?_;rotate_left
  ·intro w' hSw;obtain ⟨s1,s2,s3⟩:=hSw;go_simp
   try with_reducible rfl
  simp only[Act.put,sA,sZ,sS];refine wK (i:=4) (v:= ?_) rfl (by kernel_rfl) (fun _ _ _ h=>h) (by rfl) ?_ hS ?_;rotate_left
  ·intro w' hSw;obtain ⟨s1,s2,s3⟩:=hSw;go_simp
   try with_reducible rfl
  simp only[Act.put,sA,sZ,sS];refine wK (i:=5) (v:= ?_) rfl (by kernel_rfl) (fun _ _ _ h=>h) (by rfl) ?_ hS ?_;rotate_left
  ·intro w' hSw;obtain ⟨s1,s2,s3⟩:=hSw;go_simp
   try with_reducible rfl
  simp only[Act.put,sA,sZ,sS];refine wK (i:=6) (v:= ?_) rfl (by kernel_rfl) (fun _ _ _ h=>h) (by rfl) ?_ hS ?_;rotate_left
  ·intro w' hSw;obtain ⟨s1,s2,s3⟩:=hSw;go_simp
   try with_reducible rfl
  simp only[Act.put,sA,sZ,sS];refine wK (i:=7) (v:= ?_) rfl (by kernel_rfl) (fun _ _ _ h=>h) (by rfl) ?_ hS ?_;rotate_left
  ·intro w' hSw;obtain ⟨s1,s2,s3⟩:=hSw;go_simp
   try with_reducible rfl
  simp only[Act.put,sA,sZ,sS];refine wK (i:=8) (v:= ?_) rfl (by kernel_rfl) (fun _ _ _ h=>h) (by rfl) ?_ hS ?_;rotate_left
  ·intro w' hSw;obtain ⟨s1,s2,s3⟩:=hSw;go_simp
   try with_reducible rfl
  simp only[Act.put,sA,sZ,sS];refine wK (i:=9) (v:= ?_) rfl (by kernel_rfl) (fun _ _ _ h=>h) (by rfl) ?_ hS ?_;rotate_left
  ·intro w' hSw;obtain ⟨s1,s2,s3⟩:=hSw;go_simp
   try with_reducible rfl
  simp only[Act.put,sA,sZ,sS];refine wK (i:=10) (v:= ?_) rfl (by kernel_rfl) (fun _ _ _ h=>h) (by rfl) ?_ hS ?_;rotate_left
  ·intro w' hSw;obtain ⟨s1,s2,s3⟩:=hSw;go_simp
   try with_reducible rfl
  simp only[Act.put,sA,sZ,sS];refine wK (i:=11) (v:= ?_) rfl (by kernel_rfl) (fun _ _ _ h=>h) (by rfl) ?_ hS ?_;rotate_left
  ·intro w' hSw;obtain ⟨s1,s2,s3⟩:=hSw;go_simp
   try with_reducible rfl
  simp only[Act.put,sA,sZ,sS];refine wK (i:=12) (v:= ?_) rfl (by kernel_rfl) (fun _ _ _ h=>h) (by rfl) ?_ hS ?_;rotate_left
  ·intro w' hSw;obtain ⟨s1,s2,s3⟩:=hSw;go_simp
   try with_reducible rfl
  simp only[Act.put,sA,sZ,sS];refine wK (i:=13) (v:= ?_) rfl (by kernel_rfl) (fun _ _ _ h=>h) (by rfl) ?_ hS ?_;rotate_left
  ·intro w' hSw;obtain ⟨s1,s2,s3⟩:=hSw;go_simp
   try with_reducible rfl
  simp only[Act.put,sA,sZ,sS];refine wK (i:=14) (v:= ?_) rfl (by kernel_rfl) (fun _ _ _ h=>h) (by rfl) ?_ hS ?_;rotate_left
  ·intro w' hSw;obtain ⟨s1,s2,s3⟩:=hSw;go_simp
   try with_reducible rfl
  simp only[Act.put,sA,sZ,sS];refine wK (i:=15) (v:= ?_) rfl (by kernel_rfl) (fun _ _ _ h=>h) (by rfl) ?_ hS ?_;rotate_left
  ·intro w' hSw;obtain ⟨s1,s2,s3⟩:=hSw;go_simp
   try with_reducible rfl
  simp only[Act.put,sA,sZ,sS];refine aAi (i:=16) (by kernel_rfl) rfl (fun K hK=> ?_);go_simp;refine hK.out _ _ (fun _=>HS2.out) ?_;clear hK K HS2 hS
  try simp only[Act.put,sA,sZ,sS]
  refine aAi (i:=17) (by kernel_rfl) rfl (fun K hK=> ?_);go_simp;refine hK.out _ _ (fun h=>absurd h (by decide)) ?_;clear hK K
  try simp only[Act.put,sA,sZ,sS]
  refine aAi (i:=18) (by kernel_rfl) rfl (fun K hK=> ?_);go_simp;refine hK.out _ _ (fun h=>absurd h (by decide)) ?_;clear hK K
  try simp only[Act.put,sA,sZ,sS]
  refine aAi (i:=19) (by kernel_rfl) rfl (fun K hK=> ?_);go_simp;refine hK.out _ _ (fun h=>absurd h (by decide)) ?_;clear hK K n2 n3 hgf bi
  try simp only[Act.put,sA,sZ,sS]
  refine aCw (by kernel_rfl) ?_ _;obtain ⟨w5,hw5⟩:∃w5,w5=((w3.setCell ⟨g,n0*6+2,none⟩ (.string ⟨t.text.toArray⟩)).setCell ⟨g,n0*6+3,none⟩ (.bool t.quoted)).drew:=⟨_,rfl⟩;have hR5:RdS w0 w5 rb lv ts k1 (.slice (some ⟨g,0,none⟩) ms1.length c) (ms1.set n0 ⟨{m.nd with text:=⟨t.text.toArray⟩,quoted:=t.quoted},m.kv⟩):=by
   rw[hw5];exact HE.out.2.1.later (a7d _ _).drew
  have hM5:Mod (RdF rb nv ms) w w5:=by
   have h1:Mod (RdF rb nv ms) w w3:=(Mod.ofBelow (F:=RdF rb nv ms) Hb2.out (fun k hk hge=>by omega)).trans Hm1.out.1;have h2:=aJr (w0:=w0) (w:=w) h1 (fun g hg=>(Hm1.out.2 g hg).imp id (fun q=>a7g Hb2.out.size q)) HE.out.1;rw[hw5];exact ⟨h2.os,h2.tape,h2.output,h2.size,h2.block⟩
  have hO5:∀b,nOwn (.slice (some ⟨g,0,none⟩) ms1.length c) (ms1.set n0 ⟨{m.nd with text:=⟨t.text.toArray⟩,quoted:=t.quoted},m.kv⟩) b->nOwn nv ms b\/w.heap.size<=b:=fun b hb=>(Hm1.out.2 b (HE.out.2.2 b hb)).imp id (fun q=>a7g Hb2.out.size q);rw[<-hw5];have hR6:=hR5.move (k2:=k1+1) (by have:=Hx.out.1;omega);have hS6:Mod (fun b=>b=rb) w5 (w5.setCell ⟨rb,1,none⟩ (.int .i64 ((k1+1:Nat):Int))):=(Mod.refl _ _).setCell _ _ (fun _=>rfl)
  have hM6:=hM5.trans' hS6 (fun _ _ q=> .inl q);have y1:=hR5.c1.1;have yf:=hR5.c1.2;have hlen:ts.length<=1048576:=by obtain ⟨_,_,_,q,_⟩:=hR5.tok_at;exact q
  have hwk:wrap64 ((k1:Int)+1)=((k1+1:Nat):Int):=(aA1 (by omega) (by have:=Hx.out.1;omega)).trans (by omega);have HF:=hid (show aB1 w0 w rb lv ts nv ms X (.returned (.int .i64 (n0:Int))) (w5.setCell ⟨rb,1,none⟩ (.int .i64 ((k1:Int)+1))) from by
   rw[Hxx.out];exact ⟨rfl,_,_,hR6,Hnn.out,hM6,hO5⟩)
  clear hR5 hM5 hO5 hR6 hS6 hM6 hw5 HE Hnn Hxx Hm1 Hcur hlen;go_wp2;exact bodyPost_ret (results_tmp (t:=6) rfl _ _ _) rfl HF.out
theorem aSo {w0:World} {rb:Nat} {lv:Value} {ts:List Tok} (D:Nat) (hD:D<=17) (IH:1<=D->aLj w0 rb lv ts (D-1)):aLj w0 rb lv ts D:=by
 intro w k nv ms key h hhas hkey;rw[aR2];have hkl:=a3u hhas;obtain ⟨t,ht⟩:∃t,t=nextT ts k:=⟨_,rfl⟩;rw[<-ht];have Hnx:=hid (aFg h);rw[<-ht]at Hnx;by_cases k3:t.kind=3
 ·rw[if_pos k3];have e3:(t.kind==3)=true:=beq_iff_eq.2 k3;have Hd:=hid (fun w2 (hb:Below w.heap.size w w2)=>(a6l (h.later hb) D hD t ht k3 key hkey IH).mono (fun r w' hh=>aB1.base hb hh));clear h hhas hkey IH hkl ht k3;generalize dictX ts D k (nds ms) key t=X at*;unfold Tok.a at Hd Hnx;go_enter Tryz.func109,Tryz.ntmps109
  go_wp2_with fail
  refine Hnx.out.mono ?_;rintro r w1 ⟨rfl,h1⟩;have Hb2:=hid (fun ob=>h1.trans ((a7d _ _).alloc (a7c w1.heap.size) ob |>.mono h1.size));clear h1 Hnx
  go_wp2_with fail
  refine (Hd.out _ (Hb2.out _)).mono ?_;intro r w' hh;cases X with
  |error e=>
   obtain ⟨rfl,h1,h2⟩:=hh;exact ⟨rfl,rfl,h1,h2⟩
  |ok y=>
   obtain ⟨k2,ns2,i⟩:=y;obtain rfl:=hh.1;have HH:=hid hh;clear hh Hd;go_wp2;exact bodyPost_ret (results_tmp (t:=6) rfl _ _ _) rfl HH.out
 ·have e3:(t.kind==3)=false:=beq_eq_false_iff_ne.2 k3;rw[if_neg k3];by_cases k2:t.kind=2
  ·rw[if_pos k2];have e2:(t.kind==2)=true:=beq_iff_eq.2 k2;have Hd:=hid (fun w2 (hb:Below w.heap.size w w2)=>(a5z (h.later hb) D hD t ht k2 key hkey IH).mono (fun r w' hh=>aB1.base hb hh));clear h hhas hkey IH hkl ht k3 k2;generalize listX ts D k (nds ms) key t=X at*;unfold Tok.a at Hd Hnx;go_enter Tryz.func109,Tryz.ntmps109
   go_wp2_with fail
   refine Hnx.out.mono ?_;rintro r w1 ⟨rfl,h1⟩;have Hb2:=hid (fun ob=>h1.trans ((a7d _ _).alloc (a7c w1.heap.size) ob |>.mono h1.size));clear h1 Hnx
   go_wp2_with fail
   refine (Hd.out _ (Hb2.out _)).mono ?_;intro r w' hh;cases X with
   |error e=>
    obtain ⟨rfl,h1,h2⟩:=hh;exact ⟨rfl,rfl,h1,h2⟩
   |ok y=>
    obtain ⟨k2,ns2,i⟩:=y;obtain rfl:=hh.1;have HH:=hid hh;clear hh Hd;go_wp2;exact bodyPost_ret (results_tmp (t:=6) rfl _ _ _) rfl HH.out
  ·rw[if_neg k2];exact a6m h D hD t ht hkl e3 (beq_eq_false_iff_ne.2 k2) key hkey
theorem aYd (w0:World) (rb:Nat) (lv:Value) (ts:List Tok):∀D,D<=17->aLj w0 rb lv ts D
 |0,h=>aSo 0 h (fun h=>absurd h (by decide))
 |D+1,h=>aSo (D+1) h (fun _=>aYd w0 rb lv ts D (by omega))
