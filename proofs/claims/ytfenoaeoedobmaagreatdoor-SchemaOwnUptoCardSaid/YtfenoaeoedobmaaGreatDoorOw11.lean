/-
Parts of a proof.
-/
import Derived.Test.YtfenoaeoedobmaaGreatDoorOw10
set_option linter.unusedVariables false
set_option linter.unusedSimpArgs false
set_option maxHeartbeats 16000000
set_option maxRecDepth 100000
namespace Go.Proofs.YtfenoaeoedobmaaGreatDoor
open Go Go.RowKit
theorem nu {l:List UInt8} {k:Nat} (h:l.length<=k):bZ (l.drop k)=false:=by
 rw[dropEnd h];rfl
theorem lH {l:List UInt8} {k:Nat} {c:UInt8} (h:l[k]? =some c) (h2:l.length<=k+1):bZ (l.drop k)=decide (c.toNat=58):=by
 rw[bT h,dropEnd h2];rfl
theorem ia {l:List UInt8} {k:Nat} {c d:UInt8} (h:l[k]? =some c) (h2:l[k+1]? =some d):bZ (l.drop k)=decide (c.toNat=58/\d.toNat=32):=by
 rw[bT h,bT h2];rfl
theorem pA {l:List UInt8} {k:Nat} {c:UInt8} (h:l[k]? =some c) (hc:¬c.toNat=58):bZ (l.drop k)=false:=by
 rw[bT h];cases l.drop (k+1) with
 |nil=>exact dF hc
 |cons d r=>exact dF (fun q=>hc q.1)
theorem iO {w0 w w2:World} {T:TypeId} {v:Value} {ts:List Tok} {o:Obj} (hR:RT w0 w T v ts) (hg:Glob w0) (gr2:(w.alloc o).grownBy w2 v.ownBlock):Glob w2:=by
 have hb:=hR.below.alloc hR.below.size o;have hm:Mod (fun k=>v.ownBlock=some k) (w.alloc o) w2:=(Mod.refl _ _).grown gr2 (fun k e _=>e);exact hg.later (hb.trans (hm.below hb.size fun k hk=>hR.new k hk))
theorem zh {l:List UInt8} {n:Int} {ts:List Tok} {i:Nat} (h:bP (l.drop i)=false) (hq:isQuot (l.drop i)=true) (hn:de (l.drop i)=none):fI l n ts i= .error 82:=by
 unfold fI rT;rw[if_neg (by rw[h];decide),if_pos hq,hn]
theorem vN {l:List UInt8} {n:Int} {ts:List Tok} {i m:Nat} {x:List UInt8} (h:bP (l.drop i)=false) (hq:isQuot (l.drop i)=true) (hn:de (l.drop i)=some (x,m)):
 fI l n ts i=if bZ (l.drop (i+m))=true then dP l n (ts++[⟨3,n,(i:Int),x,true⟩]) (i+m+1+aT (l.drop (i+m+1))) else dP l n ts i:=by
 unfold fI rT;rw[if_neg (by rw[h];decide),if_pos hq,hn];simp only[List.drop_drop];by_cases hc:bZ (l.drop (i+m))=true
 ·rw[if_pos hc,if_pos hc];simp only[<-Nat.add_assoc]
 ·rw[if_neg hc,if_neg hc]
theorem vO {l:List UInt8} {n:Int} {ts:List Tok} {i:Nat} (h:bP (l.drop i)=false) (hq:isQuot (l.drop i)=false):
 fI l n ts i=if 0<cI (l.drop i)/\cI (l.drop i)<=64/\bZ (l.drop (i+cI (l.drop i)))=true then
  dP l n (ts++[⟨3,n,(i:Int),(l.drop i).take (cI (l.drop i)),false⟩]) (i+cI (l.drop i)+1+aT (l.drop (i+cI (l.drop i)+1))) else dP l n ts i:=by
 unfold fI rT;rw[if_neg (by rw[h];decide),if_neg (by rw[hq];decide)];simp only[List.drop_drop];by_cases hc:0<cI (l.drop i)/\cI (l.drop i)<=64/\bZ (l.drop (i+cI (l.drop i)))=true
 ·rw[if_pos hc,if_pos hc];simp only[<-Nat.add_assoc]
 ·rw[if_neg hc,if_neg hc]
theorem jJ (w:World) (s:ByteArray) (k:Nat) (hs:s.size<=1048576) (hk:k+1<=s.size):
 Calls Tryz.prog 141 #[.string s,.int .i64 ((k:Int)+1)] w fun r w'=>r= .returned (.int .i64 ((k+1+aT (s.data.toList.drop (k+1)):Nat):Int))/\w'=w:=lK w s (k+1) hs hk
section
variable {w0 w:World} {a:Act} {s:ByteArray} {n:Int} {v:Value} {i:Nat} {ts:List Tok} {x:Except Int (List Tok)} {Q:Exit->Act->World->Prop}
def JM (w0:World) (s:ByteArray) (n:Int) (ts:List Tok) (x:Except Int (List Tok)) (Q:Exit->Act->World->Prop):Prop:=
 ∀a' w' v' ts' i',LnF a' s n v' ((i':Nat):Int)->i'<=s.size->RT w0 w' 121 v' ts'->ts'.length<=ts.length+1->x=dP s.data.toList n ts' i'->Glob w'->Q (.goto 1) a' w'
theorem tV {c:UInt8} (hs:s.size<=1048576) (hf:LnG a s n v (i:Int)) (hc:s.data.toList[i]? =some c) (hg0:Glob w0) (hg:Glob w) (hR:RT w0 w 121 v ts) (hts:ts.length<=100000000) (hx:x=fI s.data.toList n ts i) (hret:iR w0 x Q) (hJ:JM w0 s n ts x Q)
 (h:bP (s.data.toList.drop i)=false) (h34:c.toNat=34\/c.toNat=39):fo.wp Tryz.prog Q a w:=by
 have hi:i<s.size:=by rw[<-an];exact (aAh hc).1
 have hidx:=aN (s:=s) (i:Int) rfl hc;have hq:isQuot (s.data.toList.drop i)=true:=by rw[j0 hc];exact dT h34
 have Hp:=hid (tI w s i c hs hc h34);have Hret:=hid hret;have HJ:=hid hJ;have Hts:=hid (show ts.length<=1000000000 by omega);have T1:Hid ((((c.toNat:Int)==34)=true)\/(((c.toNat:Int)==34)=false/\((c.toNat:Int)==39)=true)):=hid (by
  rcases h34 with e|e
  ·exact .inl (by rw[e];rfl)
  ·exact .inr ⟨by rw[e];rfl,by rw[e];rfl⟩)
 cases hp:de (s.data.toList.drop i) with
 |none=>
  have He:=hid (fun w1 (hb:Below w.heap.size w w1)=>jy (T:= 121) (hx.trans (zh h hq hp)) (hR.below.trans (hb.mono hR.below.size)));unfold gv at Hp;rw[hp]at Hp;clear hs hc hg0 hg hR hts hx hret hJ h h34 hi hq hp;rcases T1.o with t1|⟨t1,t2⟩
  all_goals
   clear T1;obtain ⟨vv,rfl,eE⟩:=hf.shape;simp only[fa,eE];clear eE;clear hf;dsimp only[fo,cd,ncr,ncs,ncx,Tryz.f105]
   go_wp2_with fail
   refine Hp.o.mono ?_;rintro r w1 ⟨hb,rfl⟩;have He2:=hid (He.o _ hb);clear hb Hp He;go_wp2;exact Hret.o _ _ _ _ rfl rfl rfl He2.o
 |some p=>
  obtain ⟨y,m⟩:=p;have hm:=jv hp;rw[List.length_drop,an]at hm;have hrest:=hx.trans (vN h hq hp);obtain ⟨k,hk⟩:=ex (i+m);rw[<-hk]at hrest;have hks:k<=s.size:=by omega
  have wk1:=aW (z:=(k:Int)+1) (by omega) (by omega);have Hlat:=hid (fun w1 (hb:Below w.heap.size w w1)=>hR.later hb);have Hglat:=hid (fun w1 (hb:Below w.heap.size w w1)=>hg.later hb);have HG:=hid hg0;have HiS:=hid (show i<=s.size by omega);unfold gv at Hp;rw[hp]at Hp;simp only at Hp;rw[<-hk]at Hp;have plainQ:∀(hn:bZ (s.data.toList.drop k)=false),Hid (x=dP s.data.toList n ts i):=fun hn=>hid (by rw[hrest,if_neg (by rw[hn];decide)])
  by_cases hlt:k<s.size
  ·obtain ⟨d,hd⟩:=dL hlt;have hidx2:=aN (s:=s) (k:Int) rfl hd;have t3:((k:Int)==(s.size:Int))=false:=bF (by omega);by_cases h58:d.toNat=58
   ·have t4:((d.toNat:Int) != 58)=false:=by rw[bne_eq_false_iff_eq];omega
    by_cases hl1:k+1<s.size
    ·obtain ⟨e,he⟩:=dL hl1;have hidx3:=aN (s:=s) ((k:Int)+1) (by omega) he;have t5:decide ((k:Int)+1<(s.size:Int))=true:=dT (by omega);by_cases h32:e.toNat=32
     ·have t6:((e.toNat:Int) != 32)=false:=by rw[bne_eq_false_iff_eq];omega
      have HC:bZ (s.data.toList.drop k)=true:=by rw[ia hd he];exact dT ⟨h58,h32⟩
      obtain ⟨j,hj⟩:=ex (k+1+aT (s.data.toList.drop (k+1)));have Hj:=hid (show j<=s.size by rw[hj,<-an];exact gL (by rw[an];omega));have Hx:=hid (show x=dP s.data.toList n (ts++[⟨3,n,(i:Int),y,true⟩]) j by rw[hrest,if_pos HC,hj]);have Hb:=hid (fun w1=>jJ w1 s k hs (by omega));rw[<-hj]at Hb;have Hl:=hid (show (ts++[(⟨3,n,(i:Int),y,true⟩:Tok)]).length<=ts.length+1 by simp);have Hk1:=hid (show ((k+1:Nat):Int)=(k:Int)+1 from rfl)
      clear hs hc hg0 hg hR hts hx hret hJ h h34 hi hq hp hm hk hks hrest plainQ hj hlt hd h58 hl1 he h32 HC;rcases T1.o with t1|⟨t1,t2⟩
      all_goals
       clear T1;obtain ⟨vv,rfl,eE⟩:=hf.shape;simp only[fa,eE];clear eE;clear hf;dsimp only[fo,cd,ncr,ncs,ncx,Tryz.f105]
       go_wp2_with fail
       refine Hp.o.mono ?_;rintro r w1 ⟨hb,rfl⟩;have Hown:=hid (fun o=>(Hlat.o _ hb).row.alloc o);have HR1:=hid (Hlat.o _ hb);clear hb Hp Hlat Hglat
       go_wp2_with (first|(go_at_call 141;refine cS (Hb.o _) ?_)|(at_builtin;refine ew rfl _ _ 67 121 rfl Tryz.underlying67 eI v ts rfl (Hown.o _) _ ⟨3,n,(i:Int),y,true⟩ rfl (ah _) Hts.o ?_;intro v' w2 own2 gr2 new2;have HR2:=hid (RT.app HR1.o own2 gr2 new2);have Hg2:=hid (iO HR1.o HG.o gr2);clear own2 gr2 new2))
       first|exact HJ.o _ _ _ _ j ⟨rfl,rfl,rfl,rfl,rfl,rfl⟩ Hj.o HR2.o Hl.o Hx.o Hg2.o|go_step3
       exact HJ.o _ _ _ _ j ⟨rfl,rfl,rfl,rfl,rfl,rfl⟩ Hj.o HR2.o Hl.o Hx.o Hg2.o
     ·have t6:((e.toNat:Int) != 32)=true:=by rw[bne_iff_ne];omega
      have HN:bZ (s.data.toList.drop k)=false:=by rw[ia hd he];exact dF (fun q=>h32 q.2)
      have Hx:=plainQ HN;clear hs hc hg0 hg hR hts hx hret hJ h h34 hi hq hp hm hk hks hrest plainQ hlt hd h58 hl1 he h32 HN;rcases T1.o with t1|⟨t1,t2⟩
      all_goals
       clear T1;obtain ⟨vv,rfl,eE⟩:=hf.shape;simp only[fa,eE];clear eE;clear hf;dsimp only[fo,cd,ncr,ncs,ncx,Tryz.f105]
       go_wp2_with fail
       refine Hp.o.mono ?_;rintro r w1 ⟨hb,rfl⟩;have Hb:=hid hb;clear hb Hp;go_wp2
       go_step3
       exact HJ.o _ _ v ts i ⟨rfl,rfl,rfl,rfl,rfl,rfl⟩ HiS.o (Hlat.o _ Hb.o) (Nat.le_succ _) Hx.o (Hglat.o _ Hb.o)
    ·have t5:decide ((k:Int)+1<(s.size:Int))=false:=dF (by omega);have HC:bZ (s.data.toList.drop k)=true:=by rw[lH hd (by rw[an];omega)];exact dT h58
     obtain ⟨j,hj⟩:=ex (k+1+aT (s.data.toList.drop (k+1)));have Hj:=hid (show j<=s.size by rw[hj,<-an];exact gL (by rw[an];omega));have Hx:=hid (show x=dP s.data.toList n (ts++[⟨3,n,(i:Int),y,true⟩]) j by rw[hrest,if_pos HC,hj]);have Hb:=hid (fun w1=>jJ w1 s k hs (by omega));rw[<-hj]at Hb;have Hl:=hid (show (ts++[(⟨3,n,(i:Int),y,true⟩:Tok)]).length<=ts.length+1 by simp);have Hk1:=hid (show ((k+1:Nat):Int)=(k:Int)+1 from rfl)
     clear hs hc hg0 hg hR hts hx hret hJ h h34 hi hq hp hm hk hks hrest plainQ hj hlt hd h58 hl1 HC;rcases T1.o with t1|⟨t1,t2⟩
     all_goals
      clear T1;obtain ⟨vv,rfl,eE⟩:=hf.shape;simp only[fa,eE];clear eE;clear hf;dsimp only[fo,cd,ncr,ncs,ncx,Tryz.f105]
      go_wp2_with fail
      refine Hp.o.mono ?_;rintro r w1 ⟨hb,rfl⟩;have Hown:=hid (fun o=>(Hlat.o _ hb).row.alloc o);have HR1:=hid (Hlat.o _ hb);clear hb Hp Hlat Hglat
      go_wp2_with (first|(go_at_call 141;refine cS (Hb.o _) ?_)|(at_builtin;refine ew rfl _ _ 67 121 rfl Tryz.underlying67 eI v ts rfl (Hown.o _) _ ⟨3,n,(i:Int),y,true⟩ rfl (ah _) Hts.o ?_;intro v' w2 own2 gr2 new2;have HR2:=hid (RT.app HR1.o own2 gr2 new2);have Hg2:=hid (iO HR1.o HG.o gr2);clear own2 gr2 new2))
      first|exact HJ.o _ _ _ _ j ⟨rfl,rfl,rfl,rfl,rfl,rfl⟩ Hj.o HR2.o Hl.o Hx.o Hg2.o|go_step3
      exact HJ.o _ _ _ _ j ⟨rfl,rfl,rfl,rfl,rfl,rfl⟩ Hj.o HR2.o Hl.o Hx.o Hg2.o
   ·have t4:((d.toNat:Int) != 58)=true:=by rw[bne_iff_ne];omega
    have HN:=pA hd h58;have Hx:=plainQ HN;clear hs hc hg0 hg hR hts hx hret hJ h h34 hi hq hp hm hk hks hrest plainQ hlt hd h58 HN;rcases T1.o with t1|⟨t1,t2⟩
    all_goals
     clear T1;obtain ⟨vv,rfl,eE⟩:=hf.shape;simp only[fa,eE];clear eE;clear hf;dsimp only[fo,cd,ncr,ncs,ncx,Tryz.f105]
     go_wp2_with fail
     refine Hp.o.mono ?_;rintro r w1 ⟨hb,rfl⟩;have Hb:=hid hb;clear hb Hp;go_wp2
     go_step3
     exact HJ.o _ _ v ts i ⟨rfl,rfl,rfl,rfl,rfl,rfl⟩ HiS.o (Hlat.o _ Hb.o) (Nat.le_succ _) Hx.o (Hglat.o _ Hb.o)
  ·have t3:((k:Int)==(s.size:Int))=true:=by rw[beq_iff_eq];omega
   have HN:bZ (s.data.toList.drop k)=false:=nu (by rw[an];omega);have Hx:=plainQ HN;clear hs hc hg0 hg hR hts hx hret hJ h h34 hi hq hp hm hk hks hrest plainQ hlt HN;rcases T1.o with t1|⟨t1,t2⟩
   all_goals
    clear T1;obtain ⟨vv,rfl,eE⟩:=hf.shape;simp only[fa,eE];clear eE;clear hf;dsimp only[fo,cd,ncr,ncs,ncx,Tryz.f105]
    go_wp2_with fail
    refine Hp.o.mono ?_;rintro r w1 ⟨hb,rfl⟩;have Hb:=hid hb;clear hb Hp;go_wp2
    go_step3
    exact HJ.o _ _ v ts i ⟨rfl,rfl,rfl,rfl,rfl,rfl⟩ HiS.o (Hlat.o _ Hb.o) (Nat.le_succ _) Hx.o (Hglat.o _ Hb.o)
theorem tW {c:UInt8} (hs:s.size<=1048576) (hf:LnG a s n v (i:Int)) (hc:s.data.toList[i]? =some c) (hg0:Glob w0) (hg:Glob w) (hR:RT w0 w 121 v ts) (hts:ts.length<=100000000) (hx:x=fI s.data.toList n ts i) (hret:iR w0 x Q)
 (h:bP (s.data.toList.drop i)=false) (h34:¬c.toNat=34) (h39:¬c.toNat=39):fo.wp Tryz.prog Q a w:=by
 have hi:i<s.size:=by rw[<-an];exact (aAh hc).1
 have hidx:=aN (s:=s) (i:Int) rfl hc;have t1:((c.toNat:Int)==34)=false:=bF (by omega);have t2:((c.toNat:Int)==39)=false:=bF (by omega);have hq:isQuot (s.data.toList.drop i)=false:=by rw[j0 hc];exact dF (by omega)
 have hrest:=hx.trans (vO h hq);have Hnm:=hid (Fs w s i hs (by omega));obtain ⟨m,hm⟩:=ex (cI (s.data.toList.drop i));rw[<-hm]at hrest;rw[<-hm]at Hnm;have hml:i+m<=s.size:=by rw[hm,<-an];exact Cs (by rw[an];omega)
 obtain ⟨k,hk⟩:=ex (i+m);rw[<-hk]at hrest;rw[<-hk]at Hnm;have wk1:=aW (z:=(k:Int)+1) (by omega) (by omega);have wki:wrap64 ((k:Int)-(i:Int))=(k:Int)-(i:Int):=aW (by omega) (by omega);have HR1:=hid hR;have Hown:=hid (fun o=>hR.row.alloc o);have HG:=hid hg0;have Hts:=hid (show ts.length<=1000000000 by omega);have Htail:=hid (fun (a':Act) (w':World) (v':Value) (ts':List Tok) (i':Nat) (hf':LnF a' s n v' (i':Int)) (h1:i'<=s.size) (h2:RT w0 w' 121 v' ts') (h3:ts'.length<=ts.length+1) (h4:x=dP s.data.toList n ts' i') (h5:Glob w')=>
  xU hs hf' h1 h5 h2 (by omega) h4 hret)
 have plainQ:∀(hn:¬(0<m/\m<=64/\bZ (s.data.toList.drop k)=true)),Hid (i<=s.size/\RT w0 w 121 v ts/\x=dP s.data.toList n ts i/\Glob w):=fun hn=>hid ⟨by omega,hR,by rw[hrest,if_neg hn],hg⟩;by_cases h0:0<m
 ·have t3:decide (i<k)=true:=dT (by omega);by_cases h64:m<=64
  ·have t4:decide ((k:Int)-(i:Int)<=64)=true:=dT (by omega);by_cases hlt:k<s.size
   ·obtain ⟨d,hd⟩:=dL hlt;have hidx2:=aN (s:=s) (k:Int) rfl hd;have t5:decide (k<s.size)=true:=dT hlt;by_cases h58:d.toNat=58
    ·have t6:((d.toNat:Int)==58)=true:=by rw[beq_iff_eq];omega
     by_cases hl1:k+1<s.size
     ·obtain ⟨e,he⟩:=dL hl1;have hidx3:=aN (s:=s) ((k:Int)+1) (by omega) he;have t7:((k:Int)+1==(s.size:Int))=false:=bF (by omega);by_cases h32:e.toNat=32
      ·have t8:((e.toNat:Int)==32)=true:=by rw[beq_iff_eq];omega
       have HC:bZ (s.data.toList.drop k)=true:=by rw[ia hd he];exact dT ⟨h58,h32⟩
       obtain ⟨j,hj⟩:=ex (k+1+aT (s.data.toList.drop (k+1)));have Hj:=hid (show j<=s.size by rw[hj,<-an];exact gL (by rw[an];omega));obtain ⟨y,hy⟩:=ex ((s.data.toList.drop i).take m);have Hx:=hid (show x=dP s.data.toList n (ts++[⟨3,n,(i:Int),y,false⟩]) j by rw[hrest,if_pos ⟨h0,h64,HC⟩,hj,hy]);have Hb:=hid (fun w1=>jJ w1 s k hs (by omega));rw[<-hj]at Hb;have hsl:=gK (s:=s) (i:=i) (j:=k) (zi:=(i:Int)) (zj:=(k:Int)) rfl rfl (by omega) (by omega)
       rw[mB (x:=y) (by rw[show k-i=m by omega];exact hy.symm)]at hsl;have Hl:=hid (show (ts++[(⟨3,n,(i:Int),y,false⟩:Tok)]).length<=ts.length+1 by simp);clear hs hc hg0 hg hR hts hx hret h h34 h39 hi hq hrest hm hml hk plainQ hj hy h0 h64 hlt hd h58 hl1 he h32 HC;obtain ⟨vv,rfl,eE⟩:=hf.shape;simp only[fa,eE];clear eE;clear hf;dsimp only[fo,cd,ncr,ncs,ncx,Tryz.f105]
       go_wp2_with fail
       refine cS Hnm.o ?_;clear Hnm
       go_wp2_with (first|(go_at_call 141;refine cS (Hb.o _) ?_)|(at_builtin;refine ew rfl _ _ 67 121 rfl Tryz.underlying67 eI v ts rfl (Hown.o _) _ ⟨3,n,(i:Int),y,false⟩ rfl (ah _) Hts.o ?_;intro v' w2 own2 gr2 new2;have HR2:=hid (RT.app HR1.o own2 gr2 new2);have Hg2:=hid (iO HR1.o HG.o gr2);clear own2 gr2 new2))
       refine wp_label ?_
       rename_i hK
       refine hK _ _ ?_;exact Htail.o _ _ _ _ j ⟨rfl,rfl,rfl,rfl,rfl,rfl⟩ Hj.o HR2.o Hl.o Hx.o Hg2.o
      ·have t8:((e.toNat:Int)==32)=false:=bF (by omega);have HN:¬(0<m/\m<=64/\bZ (s.data.toList.drop k)=true):=fun q=>by rw[ia hd he]at q;exact h32 (of_decide_eq_true q.2.2).2
       have Hpl:=plainQ HN;clear hs hc hg0 hg hR hts hx hret h h34 h39 hi hq hrest hm hml hk plainQ h0 h64 hlt hd h58 hl1 he h32 HN;obtain ⟨vv,rfl,eE⟩:=hf.shape;simp only[fa,eE];clear eE;clear hf;dsimp only[fo,cd,ncr,ncs,ncx,Tryz.f105]
       go_wp2_with fail
       refine cS Hnm.o ?_;clear Hnm;go_wp2;refine wp_label ?_
       rename_i hK
       refine hK _ _ ?_;exact Htail.o _ _ _ _ i ⟨rfl,rfl,rfl,rfl,rfl,rfl⟩ Hpl.o.1 Hpl.o.2.1 (Nat.le_succ _) Hpl.o.2.2.1 Hpl.o.2.2.2
     ·have t7:((k:Int)+1==(s.size:Int))=true:=by rw[beq_iff_eq];omega
      have HC:bZ (s.data.toList.drop k)=true:=by rw[lH hd (by rw[an];omega)];exact dT h58
      obtain ⟨j,hj⟩:=ex (k+1+aT (s.data.toList.drop (k+1)));have Hj:=hid (show j<=s.size by rw[hj,<-an];exact gL (by rw[an];omega));obtain ⟨y,hy⟩:=ex ((s.data.toList.drop i).take m);have Hx:=hid (show x=dP s.data.toList n (ts++[⟨3,n,(i:Int),y,false⟩]) j by rw[hrest,if_pos ⟨h0,h64,HC⟩,hj,hy]);have Hb:=hid (fun w1=>jJ w1 s k hs (by omega));rw[<-hj]at Hb;have hsl:=gK (s:=s) (i:=i) (j:=k) (zi:=(i:Int)) (zj:=(k:Int)) rfl rfl (by omega) (by omega)
      rw[mB (x:=y) (by rw[show k-i=m by omega];exact hy.symm)]at hsl;have Hl:=hid (show (ts++[(⟨3,n,(i:Int),y,false⟩:Tok)]).length<=ts.length+1 by simp);clear hs hc hg0 hg hR hts hx hret h h34 h39 hi hq hrest hm hml hk plainQ hj hy h0 h64 hlt hd h58 hl1 HC;obtain ⟨vv,rfl,eE⟩:=hf.shape;simp only[fa,eE];clear eE;clear hf;dsimp only[fo,cd,ncr,ncs,ncx,Tryz.f105]
      go_wp2_with fail
      refine cS Hnm.o ?_;clear Hnm
      go_wp2_with (first|(go_at_call 141;refine cS (Hb.o _) ?_)|(at_builtin;refine ew rfl _ _ 67 121 rfl Tryz.underlying67 eI v ts rfl (Hown.o _) _ ⟨3,n,(i:Int),y,false⟩ rfl (ah _) Hts.o ?_;intro v' w2 own2 gr2 new2;have HR2:=hid (RT.app HR1.o own2 gr2 new2);have Hg2:=hid (iO HR1.o HG.o gr2);clear own2 gr2 new2))
      refine wp_label ?_
      rename_i hK
      refine hK _ _ ?_;exact Htail.o _ _ _ _ j ⟨rfl,rfl,rfl,rfl,rfl,rfl⟩ Hj.o HR2.o Hl.o Hx.o Hg2.o
    ·have t6:((d.toNat:Int)==58)=false:=bF (by omega);have HN:¬(0<m/\m<=64/\bZ (s.data.toList.drop k)=true):=fun q=>by rw[pA hd h58]at q;cases q.2.2
     have Hpl:=plainQ HN;clear hs hc hg0 hg hR hts hx hret h h34 h39 hi hq hrest hm hml hk plainQ h0 h64 hlt hd h58 HN;obtain ⟨vv,rfl,eE⟩:=hf.shape;simp only[fa,eE];clear eE;clear hf;dsimp only[fo,cd,ncr,ncs,ncx,Tryz.f105]
     go_wp2_with fail
     refine cS Hnm.o ?_;clear Hnm;go_wp2;refine wp_label ?_
     rename_i hK
     refine hK _ _ ?_;exact Htail.o _ _ _ _ i ⟨rfl,rfl,rfl,rfl,rfl,rfl⟩ Hpl.o.1 Hpl.o.2.1 (Nat.le_succ _) Hpl.o.2.2.1 Hpl.o.2.2.2
   ·have t5:decide (k<s.size)=false:=dF hlt;have HN:¬(0<m/\m<=64/\bZ (s.data.toList.drop k)=true):=fun q=>by rw[nu (by rw[an];omega)]at q;cases q.2.2
    have Hpl:=plainQ HN;clear hs hc hg0 hg hR hts hx hret h h34 h39 hi hq hrest hm hml hk plainQ h0 h64 hlt HN;obtain ⟨vv,rfl,eE⟩:=hf.shape;simp only[fa,eE];clear eE;clear hf;dsimp only[fo,cd,ncr,ncs,ncx,Tryz.f105]
    go_wp2_with fail
    refine cS Hnm.o ?_;clear Hnm;go_wp2;refine wp_label ?_
    rename_i hK
    refine hK _ _ ?_;exact Htail.o _ _ _ _ i ⟨rfl,rfl,rfl,rfl,rfl,rfl⟩ Hpl.o.1 Hpl.o.2.1 (Nat.le_succ _) Hpl.o.2.2.1 Hpl.o.2.2.2
  ·have t4:decide ((k:Int)-(i:Int)<=64)=false:=dF (by omega);have HN:¬(0<m/\m<=64/\bZ (s.data.toList.drop k)=true):=fun q=>h64 q.2.1;have Hpl:=plainQ HN;clear hs hc hg0 hg hR hts hx hret h h34 h39 hi hq hrest hm hml hk plainQ h0 h64 HN;obtain ⟨vv,rfl,eE⟩:=hf.shape;simp only[fa,eE];clear eE;clear hf;dsimp only[fo,cd,ncr,ncs,ncx,Tryz.f105]
   go_wp2_with fail
   refine cS Hnm.o ?_;clear Hnm;go_wp2;refine wp_label ?_
   rename_i hK
   refine hK _ _ ?_;exact Htail.o _ _ _ _ i ⟨rfl,rfl,rfl,rfl,rfl,rfl⟩ Hpl.o.1 Hpl.o.2.1 (Nat.le_succ _) Hpl.o.2.2.1 Hpl.o.2.2.2
 ·have t3:decide (i<k)=false:=dF (by omega);have HN:¬(0<m/\m<=64/\bZ (s.data.toList.drop k)=true):=fun q=>h0 q.1;have Hpl:=plainQ HN;clear hs hc hg0 hg hR hts hx hret h h34 h39 hi hq hrest hm hml hk plainQ h0 HN;obtain ⟨vv,rfl,eE⟩:=hf.shape;simp only[fa,eE];clear eE;clear hf;dsimp only[fo,cd,ncr,ncs,ncx,Tryz.f105]
  go_wp2_with fail
  refine cS Hnm.o ?_;clear Hnm;go_wp2;refine wp_label ?_
  rename_i hK
  refine hK _ _ ?_;exact Htail.o _ _ _ _ i ⟨rfl,rfl,rfl,rfl,rfl,rfl⟩ Hpl.o.1 Hpl.o.2.1 (Nat.le_succ _) Hpl.o.2.2.1 Hpl.o.2.2.2
end
