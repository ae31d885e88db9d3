/-
Parts of a proof.
-/
import Derived.Test.YtfenoaeoedobmaaGreatDoorOn15
set_option linter.unusedVariables false
set_option linter.unusedSimpArgs false
set_option maxHeartbeats 16000000
set_option maxRecDepth 100000
namespace Go.Proofs.YtfenoaeoedobmaaGreatDoor
open Go Go.RowKit
theorem uq {l:List UInt8} {k:Nat} (h:l.length<=k):cE (l.drop k)=false:=by
 rw[fC h];rfl
theorem rj {l:List UInt8} {k:Nat} {c:UInt8} (h:l[k]? =some c) (h2:l.length<=k+1):cE (l.drop k)=decide (c.toNat=58):=by
 rw[cG h,fC h2];rfl
theorem kM {l:List UInt8} {k:Nat} {c d:UInt8} (h:l[k]? =some c) (h2:l[k+1]? =some d):cE (l.drop k)=decide (c.toNat=58/\d.toNat=32):=by
 rw[cG h,cG h2];rfl
theorem xC {l:List UInt8} {k:Nat} {c:UInt8} (h:l[k]? =some c) (hc:¬c.toNat=58):cE (l.drop k)=false:=by
 rw[cG h];cases l.drop (k+1) with
 |nil=>exact dF hc
 |cons d r=>exact dF (fun q=>hc q.1)
theorem lN {w0 w w2:World} {T:TypeId} {v:Value} {ts:List Tok} {o:Obj} (hR:RT w0 w T v ts) (hg:Glob w0) (bC:(w.alloc o).grownBy w2 v.ownBlock):Glob w2:=by
 have hb:=hR.below.alloc hR.below.size o;have hm:Mod (fun k=>v.ownBlock=some k) (w.alloc o) w2:=(Mod.refl _ _).grown bC (fun k e _=>e);exact hg.later (hb.trans (hm.below hb.size fun k hk=>hR.new k hk))
theorem JA {l:List UInt8} {n:Int} {ts:List Tok} {i:Nat} (h:bW (l.drop i)=false) (hq:eY (l.drop i)=true) (hn:dZ (l.drop i)=none):eR l n ts i= .error 82:=by
 unfold eR pE;rw[if_neg (by rw[h];decide),if_pos hq,hn]
theorem EF {l:List UInt8} {n:Int} {ts:List Tok} {i m:Nat} {x:List UInt8} (h:bW (l.drop i)=false) (hq:eY (l.drop i)=true) (hn:dZ (l.drop i)=some (x,m)):
 eR l n ts i=if cE (l.drop (i+m))=true then dN l n (ts++[⟨3,n,(i:Int),x,true⟩]) (i+m+1+aP (l.drop (i+m+1))) else dN l n ts i:=by
 unfold eR pE;rw[if_neg (by rw[h];decide),if_pos hq,hn];simp only[List.drop_drop];by_cases hc:cE (l.drop (i+m))=true
 ·rw[if_pos hc,if_pos hc];simp only[<-Nat.add_assoc]
 ·rw[if_neg hc,if_neg hc]
theorem EG {l:List UInt8} {n:Int} {ts:List Tok} {i:Nat} (h:bW (l.drop i)=false) (hq:eY (l.drop i)=false):
 eR l n ts i=if 0<cZ (l.drop i)/\cZ (l.drop i)<=64/\cE (l.drop (i+cZ (l.drop i)))=true then
  dN l n (ts++[⟨3,n,(i:Int),(l.drop i).take (cZ (l.drop i)),false⟩]) (i+cZ (l.drop i)+1+aP (l.drop (i+cZ (l.drop i)+1))) else dN l n ts i:=by
 unfold eR pE;rw[if_neg (by rw[h];decide),if_neg (by rw[hq];decide)];simp only[List.drop_drop];by_cases hc:0<cZ (l.drop i)/\cZ (l.drop i)<=64/\cE (l.drop (i+cZ (l.drop i)))=true
 ·rw[if_pos hc,if_pos hc];simp only[<-Nat.add_assoc]
 ·rw[if_neg hc,if_neg hc]
theorem nV (w:World) (s:ByteArray) (k:Nat) (hs:s.size<=1048576) (hk:k+1<=s.size):
 Calls Tryz.prog 141 #[.string s,.int .i64 ((k:Int)+1)] w fun r w'=>r= .returned (.int .i64 ((k+1+aP (s.data.toList.drop (k+1)):Nat):Int))/\w'=w:=ry w s (k+1) hs hk
section
variable {w0 w:World} {a:Act} {s:ByteArray} {n:Int} {v:Value} {i:Nat} {ts:List Tok} {x:Except Int (List Tok)} {Q:Exit->Act->World->Prop}
def Xp (w0:World) (s:ByteArray) (n:Int) (ts:List Tok) (x:Except Int (List Tok)) (Q:Exit->Act->World->Prop):Prop:=
 ∀a' w' v' zV i',LnF a' s n v' ((i':Nat):Int)->i'<=s.size->RT w0 w' 121 v' zV->zV.length<=ts.length+1->x=dN s.data.toList n zV i'->Glob w'->Q (.goto 1) a' w'
theorem CE {c:UInt8} (hs:s.size<=1048576) (hf:LnG a s n v (i:Int)) (hc:s.data.toList[i]? =some c) (rS:Glob w0) (hg:Glob w) (hR:RT w0 w 121 v ts) (gA:ts.length<=100000000) (hx:x=eR s.data.toList n ts i) (dp:lQ w0 x Q) (hJ:Xp w0 s n ts x Q)
 (h:bW (s.data.toList.drop i)=false) (kK:c.toNat=34\/c.toNat=39):ik.wp Tryz.prog Q a w:=by
 have hi:i<s.size:=by rw[<-aq];exact (aBo hc).1
 have ib:=aU (s:=s) (i:Int) rfl hc;have hq:eY (s.data.toList.drop i)=true:=by rw[oA hc];exact dT kK
 have Hp:=hid (Co w s i c hs hc kK);have rL:=hid dp;have HJ:=hid hJ;have Gk:=hid (show ts.length<=1000000000 by omega);have T1:Hid ((((c.toNat:Int)==34)=true)\/(((c.toNat:Int)==34)=false/\((c.toNat:Int)==39)=true)):=hid (by
  rcases kK with e|e
  ·exact .inl (by rw[e];rfl)
  ·exact .inr ⟨by rw[e];rfl,by rw[e];rfl⟩)
 cases hp:dZ (s.data.toList.drop i) with
 |none=>
  have He:=hid (fun w1 (hb:Below w.heap.size w w1)=>nB (T:= 121) (hx.trans (JA h hq hp)) (hR.below.trans (hb.mono hR.below.size)));unfold jE at Hp;rw[hp]at Hp;clear hs hc rS hg hR gA hx dp hJ h kK hi hq hp;rcases T1.o with t1|⟨t1,t2⟩
  all_goals
   clear T1;obtain ⟨vv,rfl,eE⟩:=hf.shape;simp only[gY,eE];clear eE;clear hf;dsimp only[ik,cQ,ncr,ncs,ncx,Tryz.f105]
   go_wp2_with fail
   refine Hp.o.mono ?_;rintro r w1 ⟨hb,rfl⟩;have XA:=hid (He.o _ hb);clear hb Hp He;go_wp2;exact rL.o _ _ _ _ rfl rfl rfl XA.o
 |some p=>
  obtain ⟨y,m⟩:=p;have hm:=np hp;rw[List.length_drop,aq]at hm;have fX:=hx.trans (EF h hq hp);obtain ⟨k,hk⟩:=ex (i+m);rw[<-hk]at fX;have hks:k<=s.size:=by omega
  have wk1:=bK (z:=(k:Int)+1) (by omega) (by omega);have mr:=hid (fun w1 (hb:Below w.heap.size w w1)=>hR.later hb);have DY:=hid (fun w1 (hb:Below w.heap.size w w1)=>hg.later hb);have HG:=hid rS;have HiS:=hid (show i<=s.size by omega);unfold jE at Hp;rw[hp]at Hp;simp only at Hp;rw[<-hk]at Hp;have ew:∀(hn:cE (s.data.toList.drop k)=false),Hid (x=dN s.data.toList n ts i):=fun hn=>hid (by rw[fX,if_neg (by rw[hn];decide)])
  by_cases aN:k<s.size
  ·obtain ⟨d,hd⟩:=fi aN;have uf:=aU (s:=s) (k:Int) rfl hd;have t3:((k:Int)==(s.size:Int))=false:=bF (by omega);by_cases C9:d.toNat=58
   ·have t4:((d.toNat:Int) != 58)=false:=by rw[bne_eq_false_iff_eq];omega
    by_cases vj:k+1<s.size
    ·obtain ⟨e,he⟩:=fi vj;have OP:=aU (s:=s) ((k:Int)+1) (by omega) he;have t5:decide ((k:Int)+1<(s.size:Int))=true:=dT (by omega);by_cases mV:e.toNat=32
     ·have t6:((e.toNat:Int) != 32)=false:=by rw[bne_eq_false_iff_eq];omega
      have HC:cE (s.data.toList.drop k)=true:=by rw[kM hd he];exact dT ⟨C9,mV⟩
      obtain ⟨j,hj⟩:=ex (k+1+aP (s.data.toList.drop (k+1)));have Hj:=hid (show j<=s.size by rw[hj,<-aq];exact jX (by rw[aq];omega));have Hx:=hid (show x=dN s.data.toList n (ts++[⟨3,n,(i:Int),y,true⟩]) j by rw[fX,if_pos HC,hj]);have Hb:=hid (fun w1=>nV w1 s k hs (by omega));rw[<-hj]at Hb;have Hl:=hid (show (ts++[(⟨3,n,(i:Int),y,true⟩:Tok)]).length<=ts.length+1 by simp);have Uv:=hid (show ((k+1:Nat):Int)=(k:Int)+1 from rfl)
      clear hs hc rS hg hR gA hx dp hJ h kK hi hq hp hm hk hks fX ew hj aN hd C9 vj he mV HC;rcases T1.o with t1|⟨t1,t2⟩
      all_goals
       clear T1;obtain ⟨vv,rfl,eE⟩:=hf.shape;simp only[gY,eE];clear eE;clear hf;dsimp only[ik,cQ,ncr,ncs,ncx,Tryz.f105]
       go_wp2_with fail
       refine Hp.o.mono ?_;rintro r w1 ⟨hb,rfl⟩;have b9:=hid (fun o=>(mr.o _ hb).row.alloc o);have Bw:=hid (mr.o _ hb);clear hb Hp mr DY
       go_wp2_with (first|(go_at_call 141;refine cS (Hb.o _) ?_)|(at_builtin;refine fR rfl _ _ 67 121 rfl Tryz.underlying67 gw v ts rfl (b9.o _) _ ⟨3,n,(i:Int),y,true⟩ rfl (ag _) Gk.o ?_;intro v' w2 aB bC aA;have mX:=hid (RT.app Bw.o aB bC aA);have Eb:=hid (lN Bw.o HG.o bC);clear aB bC aA))
       first|exact HJ.o _ _ _ _ j ⟨rfl,rfl,rfl,rfl,rfl,rfl⟩ Hj.o mX.o Hl.o Hx.o Eb.o|go_step3
       exact HJ.o _ _ _ _ j ⟨rfl,rfl,rfl,rfl,rfl,rfl⟩ Hj.o mX.o Hl.o Hx.o Eb.o
     ·have t6:((e.toNat:Int) != 32)=true:=by rw[bne_iff_ne];omega
      have HN:cE (s.data.toList.drop k)=false:=by rw[kM hd he];exact dF (fun q=>mV q.2)
      have Hx:=ew HN;clear hs hc rS hg hR gA hx dp hJ h kK hi hq hp hm hk hks fX ew aN hd C9 vj he mV HN;rcases T1.o with t1|⟨t1,t2⟩
      all_goals
       clear T1;obtain ⟨vv,rfl,eE⟩:=hf.shape;simp only[gY,eE];clear eE;clear hf;dsimp only[ik,cQ,ncr,ncs,ncx,Tryz.f105]
       go_wp2_with fail
       refine Hp.o.mono ?_;rintro r w1 ⟨hb,rfl⟩;have Hb:=hid hb;clear hb Hp;go_wp2
       go_step3
       exact HJ.o _ _ v ts i ⟨rfl,rfl,rfl,rfl,rfl,rfl⟩ HiS.o (mr.o _ Hb.o) (Nat.le_succ _) Hx.o (DY.o _ Hb.o)
    ·have t5:decide ((k:Int)+1<(s.size:Int))=false:=dF (by omega);have HC:cE (s.data.toList.drop k)=true:=by rw[rj hd (by rw[aq];omega)];exact dT C9
     obtain ⟨j,hj⟩:=ex (k+1+aP (s.data.toList.drop (k+1)));have Hj:=hid (show j<=s.size by rw[hj,<-aq];exact jX (by rw[aq];omega));have Hx:=hid (show x=dN s.data.toList n (ts++[⟨3,n,(i:Int),y,true⟩]) j by rw[fX,if_pos HC,hj]);have Hb:=hid (fun w1=>nV w1 s k hs (by omega));rw[<-hj]at Hb;have Hl:=hid (show (ts++[(⟨3,n,(i:Int),y,true⟩:Tok)]).length<=ts.length+1 by simp);have Uv:=hid (show ((k+1:Nat):Int)=(k:Int)+1 from rfl)
     clear hs hc rS hg hR gA hx dp hJ h kK hi hq hp hm hk hks fX ew hj aN hd C9 vj HC;rcases T1.o with t1|⟨t1,t2⟩
     all_goals
      clear T1;obtain ⟨vv,rfl,eE⟩:=hf.shape;simp only[gY,eE];clear eE;clear hf;dsimp only[ik,cQ,ncr,ncs,ncx,Tryz.f105]
      go_wp2_with fail
      refine Hp.o.mono ?_;rintro r w1 ⟨hb,rfl⟩;have b9:=hid (fun o=>(mr.o _ hb).row.alloc o);have Bw:=hid (mr.o _ hb);clear hb Hp mr DY
      go_wp2_with (first|(go_at_call 141;refine cS (Hb.o _) ?_)|(at_builtin;refine fR rfl _ _ 67 121 rfl Tryz.underlying67 gw v ts rfl (b9.o _) _ ⟨3,n,(i:Int),y,true⟩ rfl (ag _) Gk.o ?_;intro v' w2 aB bC aA;have mX:=hid (RT.app Bw.o aB bC aA);have Eb:=hid (lN Bw.o HG.o bC);clear aB bC aA))
      first|exact HJ.o _ _ _ _ j ⟨rfl,rfl,rfl,rfl,rfl,rfl⟩ Hj.o mX.o Hl.o Hx.o Eb.o|go_step3
      exact HJ.o _ _ _ _ j ⟨rfl,rfl,rfl,rfl,rfl,rfl⟩ Hj.o mX.o Hl.o Hx.o Eb.o
   ·have t4:((d.toNat:Int) != 58)=true:=by rw[bne_iff_ne];omega
    have HN:=xC hd C9;have Hx:=ew HN;clear hs hc rS hg hR gA hx dp hJ h kK hi hq hp hm hk hks fX ew aN hd C9 HN;rcases T1.o with t1|⟨t1,t2⟩
    all_goals
     clear T1;obtain ⟨vv,rfl,eE⟩:=hf.shape;simp only[gY,eE];clear eE;clear hf;dsimp only[ik,cQ,ncr,ncs,ncx,Tryz.f105]
     go_wp2_with fail
     refine Hp.o.mono ?_;rintro r w1 ⟨hb,rfl⟩;have Hb:=hid hb;clear hb Hp;go_wp2
     go_step3
     exact HJ.o _ _ v ts i ⟨rfl,rfl,rfl,rfl,rfl,rfl⟩ HiS.o (mr.o _ Hb.o) (Nat.le_succ _) Hx.o (DY.o _ Hb.o)
  ·have t3:((k:Int)==(s.size:Int))=true:=by rw[beq_iff_eq];omega
   have HN:cE (s.data.toList.drop k)=false:=uq (by rw[aq];omega);have Hx:=ew HN;clear hs hc rS hg hR gA hx dp hJ h kK hi hq hp hm hk hks fX ew aN HN;rcases T1.o with t1|⟨t1,t2⟩
   all_goals
    clear T1;obtain ⟨vv,rfl,eE⟩:=hf.shape;simp only[gY,eE];clear eE;clear hf;dsimp only[ik,cQ,ncr,ncs,ncx,Tryz.f105]
    go_wp2_with fail
    refine Hp.o.mono ?_;rintro r w1 ⟨hb,rfl⟩;have Hb:=hid hb;clear hb Hp;go_wp2
    go_step3
    exact HJ.o _ _ v ts i ⟨rfl,rfl,rfl,rfl,rfl,rfl⟩ HiS.o (mr.o _ Hb.o) (Nat.le_succ _) Hx.o (DY.o _ Hb.o)
theorem CF {c:UInt8} (hs:s.size<=1048576) (hf:LnG a s n v (i:Int)) (hc:s.data.toList[i]? =some c) (rS:Glob w0) (hg:Glob w) (hR:RT w0 w 121 v ts) (gA:ts.length<=100000000) (hx:x=eR s.data.toList n ts i) (dp:lQ w0 x Q)
 (h:bW (s.data.toList.drop i)=false) (kK:¬c.toNat=34) (yj:¬c.toNat=39):ik.wp Tryz.prog Q a w:=by
 have hi:i<s.size:=by rw[<-aq];exact (aBo hc).1
 have ib:=aU (s:=s) (i:Int) rfl hc;have t1:((c.toNat:Int)==34)=false:=bF (by omega);have t2:((c.toNat:Int)==39)=false:=bF (by omega);have hq:eY (s.data.toList.drop i)=false:=by rw[oA hc];exact dF (by omega)
 have fX:=hx.trans (EG h hq);have Ea:=hid (R8 w s i hs (by omega));obtain ⟨m,hm⟩:=ex (cZ (s.data.toList.drop i));rw[<-hm]at fX;rw[<-hm]at Ea;have mj:i+m<=s.size:=by rw[hm,<-aq];exact NF (by rw[aq];omega)
 obtain ⟨k,hk⟩:=ex (i+m);rw[<-hk]at fX;rw[<-hk]at Ea;have wk1:=bK (z:=(k:Int)+1) (by omega) (by omega);have wki:wrap64 ((k:Int)-(i:Int))=(k:Int)-(i:Int):=bK (by omega) (by omega);have Bw:=hid hR;have b9:=hid (fun o=>hR.row.alloc o);have HG:=hid rS;have Gk:=hid (show ts.length<=1000000000 by omega);have rK:=hid (fun (a':Act) (w':World) (v':Value) (zV:List Tok) (i':Nat) (im:LnF a' s n v' (i':Int)) (h1:i'<=s.size) (h2:RT w0 w' 121 v' zV) (h3:zV.length<=ts.length+1) (h4:x=dN s.data.toList n zV i') (h5:Glob w')=>
  G3 hs im h1 h5 h2 (by omega) h4 dp)
 have ew:∀(hn:¬(0<m/\m<=64/\cE (s.data.toList.drop k)=true)),Hid (i<=s.size/\RT w0 w 121 v ts/\x=dN s.data.toList n ts i/\Glob w):=fun hn=>hid ⟨by omega,hR,by rw[fX,if_neg hn],hg⟩;by_cases h0:0<m
 ·have t3:decide (i<k)=true:=dT (by omega);by_cases sL:m<=64
  ·have t4:decide ((k:Int)-(i:Int)<=64)=true:=dT (by omega);by_cases aN:k<s.size
   ·obtain ⟨d,hd⟩:=fi aN;have uf:=aU (s:=s) (k:Int) rfl hd;have t5:decide (k<s.size)=true:=dT aN;by_cases C9:d.toNat=58
    ·have t6:((d.toNat:Int)==58)=true:=by rw[beq_iff_eq];omega
     by_cases vj:k+1<s.size
     ·obtain ⟨e,he⟩:=fi vj;have OP:=aU (s:=s) ((k:Int)+1) (by omega) he;have t7:((k:Int)+1==(s.size:Int))=false:=bF (by omega);by_cases mV:e.toNat=32
      ·have t8:((e.toNat:Int)==32)=true:=by rw[beq_iff_eq];omega
       have HC:cE (s.data.toList.drop k)=true:=by rw[kM hd he];exact dT ⟨C9,mV⟩
       obtain ⟨j,hj⟩:=ex (k+1+aP (s.data.toList.drop (k+1)));have Hj:=hid (show j<=s.size by rw[hj,<-aq];exact jX (by rw[aq];omega));obtain ⟨y,hy⟩:=ex ((s.data.toList.drop i).take m);have Hx:=hid (show x=dN s.data.toList n (ts++[⟨3,n,(i:Int),y,false⟩]) j by rw[fX,if_pos ⟨h0,sL,HC⟩,hj,hy]);have Hb:=hid (fun w1=>nV w1 s k hs (by omega));rw[<-hj]at Hb;have jg:=jW (s:=s) (i:=i) (j:=k) (zi:=(i:Int)) (zj:=(k:Int)) rfl rfl (by omega) (by omega)
       rw[sN (x:=y) (by rw[show k-i=m by omega];exact hy.symm)]at jg;have Hl:=hid (show (ts++[(⟨3,n,(i:Int),y,false⟩:Tok)]).length<=ts.length+1 by simp);clear hs hc rS hg hR gA hx dp h kK yj hi hq fX hm mj hk ew hj hy h0 sL aN hd C9 vj he mV HC;obtain ⟨vv,rfl,eE⟩:=hf.shape;simp only[gY,eE];clear eE;clear hf;dsimp only[ik,cQ,ncr,ncs,ncx,Tryz.f105]
       go_wp2_with fail
       refine cS Ea.o ?_;clear Ea
       go_wp2_with (first|(go_at_call 141;refine cS (Hb.o _) ?_)|(at_builtin;refine fR rfl _ _ 67 121 rfl Tryz.underlying67 gw v ts rfl (b9.o _) _ ⟨3,n,(i:Int),y,false⟩ rfl (ag _) Gk.o ?_;intro v' w2 aB bC aA;have mX:=hid (RT.app Bw.o aB bC aA);have Eb:=hid (lN Bw.o HG.o bC);clear aB bC aA))
       refine wp_label ?_
       rename_i hK
       refine hK _ _ ?_;exact rK.o _ _ _ _ j ⟨rfl,rfl,rfl,rfl,rfl,rfl⟩ Hj.o mX.o Hl.o Hx.o Eb.o
      ·have t8:((e.toNat:Int)==32)=false:=bF (by omega);have HN:¬(0<m/\m<=64/\cE (s.data.toList.drop k)=true):=fun q=>by rw[kM hd he]at q;exact mV (of_decide_eq_true q.2.2).2
       have mW:=ew HN;clear hs hc rS hg hR gA hx dp h kK yj hi hq fX hm mj hk ew h0 sL aN hd C9 vj he mV HN;obtain ⟨vv,rfl,eE⟩:=hf.shape;simp only[gY,eE];clear eE;clear hf;dsimp only[ik,cQ,ncr,ncs,ncx,Tryz.f105]
       go_wp2_with fail
       refine cS Ea.o ?_;clear Ea;go_wp2;refine wp_label ?_
       rename_i hK
       refine hK _ _ ?_;exact rK.o _ _ _ _ i ⟨rfl,rfl,rfl,rfl,rfl,rfl⟩ mW.o.1 mW.o.2.1 (Nat.le_succ _) mW.o.2.2.1 mW.o.2.2.2
     ·have t7:((k:Int)+1==(s.size:Int))=true:=by rw[beq_iff_eq];omega
      have HC:cE (s.data.toList.drop k)=true:=by rw[rj hd (by rw[aq];omega)];exact dT C9
      obtain ⟨j,hj⟩:=ex (k+1+aP (s.data.toList.drop (k+1)));have Hj:=hid (show j<=s.size by rw[hj,<-aq];exact jX (by rw[aq];omega));obtain ⟨y,hy⟩:=ex ((s.data.toList.drop i).take m);have Hx:=hid (show x=dN s.data.toList n (ts++[⟨3,n,(i:Int),y,false⟩]) j by rw[fX,if_pos ⟨h0,sL,HC⟩,hj,hy]);have Hb:=hid (fun w1=>nV w1 s k hs (by omega));rw[<-hj]at Hb;have jg:=jW (s:=s) (i:=i) (j:=k) (zi:=(i:Int)) (zj:=(k:Int)) rfl rfl (by omega) (by omega)
      rw[sN (x:=y) (by rw[show k-i=m by omega];exact hy.symm)]at jg;have Hl:=hid (show (ts++[(⟨3,n,(i:Int),y,false⟩:Tok)]).length<=ts.length+1 by simp);clear hs hc rS hg hR gA hx dp h kK yj hi hq fX hm mj hk ew hj hy h0 sL aN hd C9 vj HC;obtain ⟨vv,rfl,eE⟩:=hf.shape;simp only[gY,eE];clear eE;clear hf;dsimp only[ik,cQ,ncr,ncs,ncx,Tryz.f105]
      go_wp2_with fail
      refine cS Ea.o ?_;clear Ea
      go_wp2_with (first|(go_at_call 141;refine cS (Hb.o _) ?_)|(at_builtin;refine fR rfl _ _ 67 121 rfl Tryz.underlying67 gw v ts rfl (b9.o _) _ ⟨3,n,(i:Int),y,false⟩ rfl (ag _) Gk.o ?_;intro v' w2 aB bC aA;have mX:=hid (RT.app Bw.o aB bC aA);have Eb:=hid (lN Bw.o HG.o bC);clear aB bC aA))
      refine wp_label ?_
      rename_i hK
      refine hK _ _ ?_;exact rK.o _ _ _ _ j ⟨rfl,rfl,rfl,rfl,rfl,rfl⟩ Hj.o mX.o Hl.o Hx.o Eb.o
    ·have t6:((d.toNat:Int)==58)=false:=bF (by omega);have HN:¬(0<m/\m<=64/\cE (s.data.toList.drop k)=true):=fun q=>by rw[xC hd C9]at q;cases q.2.2
     have mW:=ew HN;clear hs hc rS hg hR gA hx dp h kK yj hi hq fX hm mj hk ew h0 sL aN hd C9 HN;obtain ⟨vv,rfl,eE⟩:=hf.shape;simp only[gY,eE];clear eE;clear hf;dsimp only[ik,cQ,ncr,ncs,ncx,Tryz.f105]
     go_wp2_with fail
     refine cS Ea.o ?_;clear Ea;go_wp2;refine wp_label ?_
     rename_i hK
     refine hK _ _ ?_;exact rK.o _ _ _ _ i ⟨rfl,rfl,rfl,rfl,rfl,rfl⟩ mW.o.1 mW.o.2.1 (Nat.le_succ _) mW.o.2.2.1 mW.o.2.2.2
   ·have t5:decide (k<s.size)=false:=dF aN;have HN:¬(0<m/\m<=64/\cE (s.data.toList.drop k)=true):=fun q=>by rw[uq (by rw[aq];omega)]at q;cases q.2.2
    have mW:=ew HN;clear hs hc rS hg hR gA hx dp h kK yj hi hq fX hm mj hk ew h0 sL aN HN;obtain ⟨vv,rfl,eE⟩:=hf.shape;simp only[gY,eE];clear eE;clear hf;dsimp only[ik,cQ,ncr,ncs,ncx,Tryz.f105]
    go_wp2_with fail
    refine cS Ea.o ?_;clear Ea;go_wp2;refine wp_label ?_
    rename_i hK
    refine hK _ _ ?_;exact rK.o _ _ _ _ i ⟨rfl,rfl,rfl,rfl,rfl,rfl⟩ mW.o.1 mW.o.2.1 (Nat.le_succ _) mW.o.2.2.1 mW.o.2.2.2
  ·have t4:decide ((k:Int)-(i:Int)<=64)=false:=dF (by omega);have HN:¬(0<m/\m<=64/\cE (s.data.toList.drop k)=true):=fun q=>sL q.2.1;have mW:=ew HN;clear hs hc rS hg hR gA hx dp h kK yj hi hq fX hm mj hk ew h0 sL HN;obtain ⟨vv,rfl,eE⟩:=hf.shape;simp only[gY,eE];clear eE;clear hf;dsimp only[ik,cQ,ncr,ncs,ncx,Tryz.f105]
   go_wp2_with fail
   refine cS Ea.o ?_;clear Ea;go_wp2;refine wp_label ?_
   rename_i hK
   refine hK _ _ ?_;exact rK.o _ _ _ _ i ⟨rfl,rfl,rfl,rfl,rfl,rfl⟩ mW.o.1 mW.o.2.1 (Nat.le_succ _) mW.o.2.2.1 mW.o.2.2.2
 ·have t3:decide (i<k)=false:=dF (by omega);have HN:¬(0<m/\m<=64/\cE (s.data.toList.drop k)=true):=fun q=>h0 q.1;have mW:=ew HN;clear hs hc rS hg hR gA hx dp h kK yj hi hq fX hm mj hk ew h0 HN;obtain ⟨vv,rfl,eE⟩:=hf.shape;simp only[gY,eE];clear eE;clear hf;dsimp only[ik,cQ,ncr,ncs,ncx,Tryz.f105]
  go_wp2_with fail
  refine cS Ea.o ?_;clear Ea;go_wp2;refine wp_label ?_
  rename_i hK
  refine hK _ _ ?_;exact rK.o _ _ _ _ i ⟨rfl,rfl,rfl,rfl,rfl,rfl⟩ mW.o.1 mW.o.2.1 (Nat.le_succ _) mW.o.2.2.1 mW.o.2.2.2
end
