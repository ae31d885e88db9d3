/-
Parts of a proof.
-/
import Derived.Test.YtfenoaeoedobmaaGreatDoorOw43
set_option linter.unusedVariables false
set_option linter.unusedSimpArgs false
set_option maxHeartbeats 8000000
set_option maxRecDepth 100000
namespace Go.Proofs.YtfenoaeoedobmaaGreatDoor
open Go Go.RowKit
attribute [local go_sem] Oper.semAt_some
def Jo (x:Yl):Array Value:=#[.agg #[.int .i64 x.1.kind,.int .i64 x.1.line,.int .i64 x.1.col,.string ⟨x.1.text.toArray⟩,.bool x.1.quoted],.agg #[.int .i64 x.2.1,.int .i64 x.2.2.1,.int .i64 x.2.2.2]]
structure EaS (B:Nat) (wr:World) (bs rest:List UInt8) (ao:Option Addr) (cap k n:Nat) (pre:List Yl):Prop where
 i:ScI B wr
 t:SlN B wr (.slice ao rest.length cap) 1 rest gm
 c:rest.length<=cap
 kn:k<=n/\n+rest.length<=65536
 y:fF bs=pre++yE (cH rest.length rest k n)
structure EaT (B:Nat) (wr:World) (bs rest:List UInt8) (ao:Option Addr) (cap n:Nat) (vt:Value) (ts us:List Tok) (k:Nat) (pre:List Yl):Prop where
 i:ScI B wr
 t:SlN B wr (.slice ao rest.length cap) 1 rest gm
 c:rest.length<=cap
 kn:k+cl us<=n+1/\n+1+rest.length<=65536
 s:SlN B wr vt 5 ts Tok.cells
 y:fF bs=pre++(us.map yTok++yE (cH rest.length rest (k+cl us) (n+1)))
theorem FN {rest:List UInt8} {k n:Nat} {ts:List Tok} (h0:0<rest.length) (h:du (cJ rest).1 ((n+1:Nat):Int)= .ok ts):yE (cH rest.length rest k n)=ts.map yTok++yE (cH (cJ rest).2.length (cJ rest).2 (k+cl ts) (n+1)):=by
 have hne:rest≠[]:=List.length_pos_iff.1 h0;have hc:=iN rest hne;obtain ⟨f,hf⟩:∃f,rest.length=f+1:=⟨rest.length-1,by omega⟩;rw[hf]
 conv=>lhs;unfold cH
 rw[if_neg hne,h];simp only;rw[kA f (cJ rest).2.length (cJ rest).2 (k+cl ts) (n+1) (by omega) (aAa _)];unfold yE;simp
theorem Js {rest:List UInt8} {k n:Nat} {c:Int} (h0:0<rest.length) (h:du (cJ rest).1 ((n+1:Nat):Int)= .error c):yE (cH rest.length rest k n)=[q8 (k,n+1,c)]:=by
 have hne:rest≠[]:=List.length_pos_iff.1 h0;obtain ⟨f,hf⟩:∃f,rest.length=f+1:=⟨rest.length-1,by omega⟩;rw[hf];unfold cH;rw[if_neg hne,h];rfl
theorem Jr {rest:List UInt8} {k n:Nat} (h0:rest=[]):yE (cH rest.length rest k n)=[]:=by
 subst h0;rfl
theorem oP (t:Tok) (us:List Tok):cl (t::us)=(if t.kind==1 then 1 else 0)+cl us:=by
 unfold cl;rw[List.filter_cons]
 split
 ·rw[aAd];omega
 ·omega
theorem vV {bs:List UInt8} {pre r:List Yl} {x:Yl} (h:fF bs=pre++(x::r)):pre++[x] <+:fF bs/\pre.length<(fF bs).length:=by
 rw[h];exact ⟨⟨r,by simp⟩,by simp⟩
theorem FM (l Bn B:Nat) (bs:List UInt8) (ao:Option Addr) (cap:Nat) (J Jx:List Yl->World->Prop) (W:World) (m:Nat) (hI:ScI B W) (hBn:W.cell? ⟨Bn,0,none⟩=some (.slice ao bs.length cap)) (hT:SlN B W (.slice ao bs.length cap) 1 bs gm) (hcap:bs.length<=cap)
 (hJ:∀pre w1 w2,J pre w1->Below w1.heap.size w1 w2->J pre w2)
 (hY:∀pre x W1,J pre W1->pre.length<(fF bs).length->YieldAt Fence.wide m Tryz.prog l (Jo x) W1 fun e W'=>(e= .returned (.bool true)/\J (pre++[x]) W'/\ScK B W1 W')\/(e= .returned (.bool false)/\Jx (pre++[x]) W'))
 (h0:J [] W):
 Calls Tryz.prog 103 #[.func (.yield l) #[] #[],.pointer (some ⟨Bn,0,none⟩)] W fun e W'=>(∃v,e= .returned v)/\((∃ys,ys=fF bs/\J ys W')\/∃pre,pre <+:fF bs/\Jx pre W'):=by
 by_cases hlong:65536<bs.length
 ·have hy:fF bs=[]++(q8 (0,0,3)::[]):=by unfold fF;rw[if_pos hlong];rfl
  have hp:=vV hy;obtain ⟨fn,tmps,assign,body,hy1,hR⟩:=hY [] (q8 (0,0,3)) W h0 hp.2;have hy2:(Instr.yield l #[.agg #[.int .i64 0,.int .i64 0,.int .i64 0,.string ⟨#[]⟩,.bool false],.agg #[.int .i64 0,.int .i64 0,.int .i64 3]]).run Tryz.prog W= .ok (.round l fn tmps assign body) W:=hy1;have Hp:=hid hp;have Hy:=hid hy;have HR:=hid hR;obtain ⟨N,hN⟩:=ex (bs.length);rw[<-hN]at hlong hBn;have tl:decide (65536<N)=true:=dT hlong
  have bl:(65536:Int)<(N:Int):=by omega
  clear hI hT hcap hJ hY h0 hy hp hy1 hR hN hlong;go_enter Tryz.func103,Tryz.ntmps103;go_upto_region 1 with (fail)
  refine (wpIn_wide (n:=m+1)).1 ?_
  gi_wp2
  refine HR.o.mono ?_;rintro e W' (⟨rfl,hJ',-⟩|⟨rfl,hJx⟩)
  ·have HJ':=hid hJ';clear hJ' HR hy2
   gi_wp2
   go_wp2;refine bodyPost_ret (results_none rfl _ _ _) rfl ?_;exact ⟨⟨_,rfl⟩,.inl ⟨_,Hy.o.symm,HJ'.o⟩⟩
  ·have HJ':=hid hJx;clear hJx HR hy2
   gi_wp2
   go_wp2;refine bodyPost_ret (results_none rfl _ _ _) rfl ?_;exact ⟨⟨_,rfl⟩,.inr ⟨_,Hp.o.1,HJ'.o⟩⟩
 ·have H0:=hid (show EaS B W bs bs ao cap 0 0 []/\J [] W from ⟨⟨hI,hT,hcap,⟨aAa _,by omega⟩,by unfold fF;rw[if_neg hlong];rfl⟩,h0⟩);have HJ:=hid hJ;have HY:=hid hY;have tl:decide (65536<bs.length)=false:=dF hlong;have bl:¬(65536:Int)<(bs.length:Int):=by omega
  obtain ⟨N,hN⟩:=ex (bs.length);rw[<-hN]at hBn tl bl;have HN:=hid hN;clear hI hT hcap hJ hY h0 hlong hN;go_enter Tryz.func103,Tryz.ntmps103;go_wp2
  go_loopw [3,4,5] (fun v3 v4 v5 wr=>∃(pre:List Yl) (k n q:Nat) (rest:List UInt8) (ao:Option Addr) (cap:Nat),v3= .int .i64 (k:Int)/\v4= .int .i64 (n:Int)/\v5= .slice ao q cap/\Hid (q=rest.length/\EaS B wr bs rest ao cap k n pre/\J pre wr)) (fun _ _ v5 _=>slN v5)
  case atStart=>exact ⟨[],0,0,N,bs,ao,cap,rfl,rfl,rfl,hid ⟨HN.o,H0.o⟩⟩
  case round=>
   clear H0 tl bl hBn;obtain ⟨pre,k,n,q,rest,ao,cap,rfl,rfl,rfl,H⟩:=hrel;by_cases hq:0<q
   ·obtain ⟨hqr,hS,hJp⟩:=H.o;have tq:decide (0<q)=true:=dT hq;have bq:(0:Int)<(q:Int):=by omega
    have hkn:=hS.kn;have wn:wrap64 ((n:Int)+1)=(n:Int)+1:=aW (by omega) (by omega);have Hcut:=hid (fun (w1:World) (hb:Below wr.heap.size wr w1) (g:Nat) (hg:w1.cell? ⟨g,0,none⟩=some (.int .u8 10))=>Le w1 ao cap g rest (hS.t.sl.later hb) (by omega) hS.c hg);rw[<-hqr]at Hcut;have HS:=hid hS;have Hq:=hid hqr;have HJp:=hid hJp;have Hlen:=hid (show rest.length<=65536 by omega);clear H hqr hS hJp hkn hq
    go_wp2_with fail
    refine (Hcut.o _ ((aAb _ _).alloc (aAa _) _) _ (af (ah _) 0)).mono ?_;rintro r w2 ⟨⟨v1,v2,fd,ao2,n2,c2,rfl,h1,rfl,h2,h3,h4,h5⟩,dq,hw2⟩;have hb1:∀ob,Below wr.heap.size wr (wr.alloc ob):=fun ob=>(aAb _ _).alloc (aAa _) ob;have hb2:Below wr.heap.size wr w2:=by rw[hw2];exact bdH (hb1 _) dq
    have hI2:=HS.o.i.later hb2;rw[Hq.o]at h5;obtain ⟨t1,t2⟩:=h5 B (HS.o.t.to (ScK.below HS.o.i.lt (hb1 _)));have hk12:=ScK.below (B:=B) (Nat.lt_of_lt_of_le HS.o.i.lt (hb1 _).size) (show Below _ _ w2 by rw[hw2];exact bdH (aAb _ _) dq);have T1:=hid (t1.to hk12);have T2:=hid (t2.to hk12);have hcv:=F1 (t1.to hk12).sl;have Hb2:=hid hb2;have HI2:=hid hI2;obtain ⟨X,hX⟩:∃X,X=du (cJ rest).1 ((n+1:Nat):Int):=⟨_,rfl⟩
    have hsz:(⟨(cJ rest).1.toArray⟩:ByteArray).size<=1048576:=by
     have:=lG rest;have:=Hlen.o;rw[<-an]
     show (cJ rest).1.toArray.toList.length<=_
     rw[List.toList_toArray];omega
    have HL:=hid (show Calls Tryz.prog 105 #[.string ⟨(cJ rest).1.toArray⟩,.int .i64 ((n:Int)+1)] w2 (fS w2 121 X) from by
     have:=CE w2 ⟨(cJ rest).1.toArray⟩ ((n+1:Nat):Int) hsz hI2.gl;rw[show (⟨(cJ rest).1.toArray⟩:ByteArray).data.toList=(cJ rest).1 from List.toList_toArray ..,<-hX]at this;exact this)
    have HX:=hid hX;have H2:=hid (And.intro h2 h3);clear Hcut hw2 h1 h2 h3 h4 h5 hb1 hb2 hI2 t1 t2 hk12 hX hsz
    go_wp2_with fail
    refine HL.o.mono ?_;intro r w3 hr;clear HL hcv;cases X with
    |error c=>
     obtain ⟨hb3,rfl⟩:=hr;have hI3:=HI2.o.later hb3;have hb23:=Hb2.o.trans (hb3.mono Hb2.o.size);have hJ3:=HJ.o _ _ _ HJp.o hb23;have hy:=HS.o.y;rw[Js (by have:=Hq.o;omega) HX.o.symm]at hy;have hp:=vV hy;obtain ⟨fn,tmps,assign,body,hy1,hR⟩:=HY.o pre (q8 (k,n+1,c)) w3 hJ3 hp.2;have hy2:(Instr.yield l #[.agg #[.int .i64 0,.int .i64 0,.int .i64 0,.string ⟨#[]⟩,.bool false],.agg #[.int .i64 (k:Int),.int .i64 ((n:Int)+1),.int .i64 c]]).run Tryz.prog w3= .ok (.round l fn tmps assign body) w3:=hy1
     have tc:(c != 0)=true:=by rw[bne_iff_ne];exact m9 HX.o.symm
     have HR:=hid hR;have Hp:=hid hp;have Hy:=hid hy;clear hb3 hI3 hb23 hJ3 hy hp hy1 hR;go_upto_region 11 with (fail)
     refine (wpIn_wide (n:=m+1)).1 ?_
     gi_wp2
     refine HR.o.mono ?_;rintro e W' (⟨rfl,hJ',-⟩|⟨rfl,hJx⟩)
     ·have HJ':=hid hJ';clear hJ' HR hy2
      gi_wp2
      go_wp2;refine bodyPost_ret (results_none rfl _ _ _) rfl ?_;exact ⟨⟨_,rfl⟩,.inl ⟨_,Hy.o.symm,HJ'.o⟩⟩
     ·have HJ':=hid hJx;clear hJx HR hy2
      gi_wp2
      go_wp2;refine bodyPost_ret (results_none rfl _ _ _) rfl ?_;exact ⟨⟨_,rfl⟩,.inr ⟨_,Hp.o.1,HJ'.o⟩⟩
    |ok ts=>
     obtain ⟨vt,hR3,rfl⟩:=hr;have hq0:∀t y m,de t=some (y,m)->y.length<=t.length:=fun t y m h=>by have:=jv h;omega
     obtain ⟨-,htl⟩:=jY hq0 HX.o.symm;have hcl:=lG rest;have hcl2:=iN rest (List.length_pos_iff.1 (by have:=Hq.o;omega));have hmf:=zT hq0 HX.o.symm;have hkn:=HS.o.kn;have hlr:=Hlen.o;have Htl:=hid (show ts.length<=1000000 by omega);have hsl:=SlR.ofRow hR3.row rfl (fun _=>rfl) (by omega) (by decide);obtain ⟨ta,tcp,rfl⟩:∃a c,vt= .slice a ts.length c:=cR hR3.row
     have hsn:SlN B w3 (.slice ta ts.length tcp) 5 ts Tok.cells:=⟨hsl,fun b o n' c' e h0=>by
      cases e;rcases hR3.row.2 with ⟨hv,hn⟩|⟨g,cap',cur,hv,-,hh,-⟩
      ·omega
      ·cases hv;exact ScF.new HI2.o.lt HI2.o.own hR3.below (hR3.new b rfl) hh rfl⟩
     have hb3:=hR3.below;have hb23:=Hb2.o.trans (hb3.mono Hb2.o.size);have hy:=HS.o.y;rw[FN (by have:=Hq.o;omega) HX.o.symm]at hy;have H0i:=hid (show EaT B w3 bs (cJ rest).2 ao2 c2 n (.slice ta ts.length tcp) ts ts k pre/\J pre w3 from
      ⟨⟨HI2.o.later hb3,by have:=T2.o.to (ScK.below HI2.o.lt hb3);rw[H2.o.2]at this;exact this,by have:=H2.o;omega,⟨by omega,by omega⟩,hsn,hy⟩,HJ.o _ _ _ HJp.o hb23⟩)
     have Hkn0:=hid hkn;clear hR3 hq0 htl hcl hcl2 hmf hkn hlr hsl hsn hb3 hb23 hy;go_wp2
     go_loopw [3,52] (fun v3 v52 wr=>∃(k' j:Nat) (pre':List Yl) (us:List Tok),v3= .int .i64 (k':Int)/\v52= .int .i64 (j:Int)/\Hid (j+us.length=ts.length/\ts.drop j=us/\EaT B wr bs (cJ rest).2 ao2 c2 n (.slice ta ts.length tcp) ts us k' pre'/\J pre' wr)) (fun _ v52 _=>ts.length-(intOf v52).toNat)
     case atStart=>exact ⟨k,0,pre,ts,rfl,rfl,hid ⟨Nat.zero_add _,rfl,H0i.o⟩⟩
     case round=>
      clear H0i;obtain ⟨k',j,pre',us,rfl,rfl,Hrel⟩:=hrel;obtain ⟨hj,hdr,hE,hJp'⟩:=Hrel.o;have htl:=Htl.o;cases us with
      |nil=>
       have tj:decide (j<ts.length)=false:=dF (by simp at hj;omega);have bj:¬(j:Int)<(ts.length:Int):=by simp at hj;omega
       have HE:=hid hE;have HJp':=hid hJp';have Hj:=hid hj;clear Hrel hj hdr hE hJp' htl;go_wp2;go_roundw
       case rel=>
        have hE:=HE.o;have hmk:k'+cl ([]:List Tok)=k':=rfl;exact ⟨pre',k',n+1,n2,(cJ rest).2,ao2,c2,rfl,by rw[Int.natCast_add];rfl,rfl,hid ⟨H2.o.2,⟨hE.i,hE.t,hE.c,⟨by have:=hE.kn.1;rw[hmk]at this;exact this,hE.kn.2⟩,by have:=hE.y;rw[hmk]at this;exact this⟩,HJp'.o⟩⟩
       case measure=>
        show n2<q
        have h1:=iN rest (List.length_pos_iff.1 (by have:=Hq.o;have:=tq;simp at this;omega));have h2:=H2.o.2;have h3:=Hq.o;omega
      |cons t us'=>
      have hlt:j<ts.length:=by simp only[aAd]at hj;omega
      have tj:decide (j<ts.length)=true:=dT hlt;have bj:(j:Int)<(ts.length:Int):=by omega
      have ht:ts[j]? =some t:=by
       have:=congrArg List.head? hdr;rw[List.head?_drop]at this;exact this
      obtain ⟨ta',tcp',e1,-,hat⟩:=hE.s.sl;injection e1 with e1 e2 e3
      subst e1;obtain ⟨b,o,hta,hb,hc⟩:=hat (by omega);have c0:=hc j t ht 0 _ rfl;have c1:=hc j t ht 1 _ rfl;have c2':=hc j t ht 2 _ rfl;have c3:=hc j t ht 3 _ rfl;have c4:=hc j t ht 4 _ rfl;simp only[Nat.add_zero]at c0;have HE:=hid hE;have HJp':=hid hJp';have Hj:=hid hj;have Hdr:=hid hdr;subst hta;have Hlt:=hid hlt;obtain ⟨W5,hW5⟩:=ex (wr.alloc (.cells #[.int .i64 t.kind,.int .i64 t.line,.int .i64 t.col,.string ⟨t.text.toArray⟩,.bool t.quoted] 121))
      have hb5:Below wr.heap.size wr W5:=by rw[hW5];exact (aAb _ _).alloc (aAa _) _
      have hn5:W5.heap[wr.heap.size]? =some (.cells #[.int .i64 t.kind,.int .i64 t.line,.int .i64 t.col,.string ⟨t.text.toArray⟩,.bool t.quoted] 121 (0,0)):=by rw[hW5];exact ah _
      have hK5:=ScK.below (B:=B) hE.i.lt hb5;have hp:=vV (show fF bs=pre'++(yTok t::_) from hE.y);obtain ⟨fn,tmps,assign,body,hy1,hR⟩:=HY.o pre' (yTok t) W5 (HJ.o _ _ _ hJp' hb5) hp.2;have hy2:(Instr.yield l #[.agg #[.int .i64 t.kind,.int .i64 t.line,.int .i64 t.col,.string ⟨t.text.toArray⟩,.bool t.quoted],.agg #[.int .i64 0,.int .i64 0,.int .i64 0]]).run Tryz.prog W5= .ok (.round l fn tmps assign body) W5:=hy1
      have HR:=hid hR;have Hp:=hid hp;have HI5:=hid (hE.i.to hK5);have HT5:=hid (hE.t.to hK5);have HS5:=hid (hE.s.to hK5);have HC:=hid hE.c;have Hkn:=hid hE.kn;have Hy:=hid hE.y;obtain ⟨d0,d1,d2,d3,d4⟩:=cB5 hn5;simp at d0 d1 d2 d3 d4;have Hnt:=hid hE.kn;clear Hrel hj hdr hE hJp' htl hat hc hb hlt ht e2 e3 hb5 hn5 hK5 hp hy1 hR HE HJp';go_upto_region 15 with (fail)
      rw[<-hW5];clear hW5 c0 c1 c2' c3 c4;cases hk1:(t.kind==1) with
      |true=>
       have Hk1:=hid hk1;have hmk:cl (t::us')=1+cl us':=by rw[oP,hk1];simp
       have hb16:=Hkn.o;rw[hmk]at hb16;have wk:wrap64 ((k':Int)+1)=(k':Int)+1:=aW (by omega) (by omega);clear hb16;go_upto_region 17 with (fail)
       refine (wpIn_wide (n:=m+1)).1 ?_
       gi_wp2
       refine HR.o.mono ?_;rintro e W' (⟨rfl,hJ',hk⟩|⟨rfl,hJx⟩)
       ·have HJ':=hid hJ';have Hk:=hid hk;clear hJ' hk HR hy2
        gi_wp2
        go_wp2;go_roundw
        case rel=>
         have hk:=Hk.o;exact ⟨k'+1,j+1,pre'++[yTok t],us',by rw[Int.natCast_add];rfl,fh (aW (by omega) (by have:=Htl.o;have:=Hlt.o;omega)),hid ⟨by have:=Hj.o;simp only[aAd]at this;omega,by rw[<-List.drop_drop,Hdr.o];rfl,⟨HI5.o.to hk,HT5.o.to hk,HC.o,⟨by have:=Hkn.o.1;rw[hmk]at this;omega,Hkn.o.2⟩,HS5.o.to hk,by rw[Hy.o,hmk];simp[Nat.add_assoc]⟩,HJ'.o⟩⟩
        case measure=>
         have:=Hj.o;simp only[aAd]at this;exact df (n:=ts.length) (k:=j) (by omega) (aW (by omega) (by have:=Htl.o;omega))
       ·have HJ':=hid hJx;clear hJx HR hy2
        gi_wp2
        go_wp2;refine bodyPost_ret (results_none rfl _ _ _) rfl ?_;exact ⟨⟨_,rfl⟩,.inr ⟨_,Hp.o.1,HJ'.o⟩⟩
      |false=>
       have Hk1:=hid hk1;have hmk:cl (t::us')=cl us':=by rw[oP,hk1];simp
       have hb16:=Hkn.o;rw[hmk]at hb16;clear hb16;go_upto_region 17 with (fail)
       refine (wpIn_wide (n:=m+1)).1 ?_
       gi_wp2
       refine HR.o.mono ?_;rintro e W' (⟨rfl,hJ',hk⟩|⟨rfl,hJx⟩)
       ·have HJ':=hid hJ';have Hk:=hid hk;clear hJ' hk HR hy2
        gi_wp2
        go_wp2;go_roundw
        case rel=>
         have hk:=Hk.o;exact ⟨k',j+1,pre'++[yTok t],us',rfl,fh (aW (by omega) (by have:=Htl.o;have:=Hlt.o;omega)),hid ⟨by have:=Hj.o;simp only[aAd]at this;omega,by rw[<-List.drop_drop,Hdr.o];rfl,⟨HI5.o.to hk,HT5.o.to hk,HC.o,⟨by have:=Hkn.o.1;rw[hmk]at this;omega,Hkn.o.2⟩,HS5.o.to hk,by rw[Hy.o,hmk];simp⟩,HJ'.o⟩⟩
        case measure=>
         have:=Hj.o;simp only[aAd]at this;exact df (n:=ts.length) (k:=j) (by omega) (aW (by omega) (by have:=Htl.o;omega))
       ·have HJ':=hid hJx;clear hJx HR hy2
        gi_wp2
        go_wp2;refine bodyPost_ret (results_none rfl _ _ _) rfl ?_;exact ⟨⟨_,rfl⟩,.inr ⟨_,Hp.o.1,HJ'.o⟩⟩
   ·obtain ⟨hqr,hS,hJp⟩:=H.o;obtain rfl:q=0:=by omega
    have tq:decide (0<0)=false:=rfl;have hy:=hS.y;rw[Jr (List.eq_nil_of_length_eq_zero hqr.symm),List.append_nil]at hy;have Hy:=hid hy;have HJp:=hid hJp;clear H hqr hS hJp hy hq;go_wp2
    go_end0
    exact ⟨⟨_,rfl⟩,.inl ⟨_,Hy.o.symm,HJp.o⟩⟩
