/-
Parts of a proof.
-/
import Derived.Lib.Bytealg
import Derived.Test.YtfenoaeoedobmaaGreatDoorOn16
set_option linter.unusedVariables false
set_option linter.unusedSimpArgs false
set_option maxHeartbeats 8000000
set_option maxRecDepth 100000
namespace Go.Proofs.YtfenoaeoedobmaaGreatDoor
open Go Go.RowKit
theorem PR {l:List UInt8} {i:Nat} {c:UInt8} (h:l[i]? =some c) (h2:l.length<=i+1):eB (l.drop i)=decide (c.toNat=45):=by
 rw[cG h,fC h2];rfl
theorem DC {l:List UInt8} {i:Nat} {c d:UInt8} (h:l[i]? =some c) (h2:l[i+1]? =some d):eB (l.drop i)=decide (c.toNat=45/\d.toNat=32):=by
 rw[cG h,cG h2];rfl
theorem S5 {l:List UInt8} {i:Nat} {c:UInt8} (h:l[i]? =some c) (hc:¬c.toNat=45):eB (l.drop i)=false:=by
 rw[cG h];cases l.drop (i+1) with
 |nil=>exact dF hc
 |cons d r=>exact dF (fun q=>hc q.1)
theorem CM {l:List UInt8} {n:Int} {ts:List Tok} {i:Nat} (h:bW (l.drop i)=true):gi l n ts i= .ok ts:=by
 rw[xc (fun q=>by rw[h]at q;cases q.1)];unfold eR;rw[if_pos h]
section
variable {w0 w:World} {a:Act} {s:ByteArray} {n:Int} {v:Value} {i:Nat} {ts:List Tok} {x:Except Int (List Tok)} {Q:Exit->Act->World->Prop}
def LnJ0 (w0:World) (s:ByteArray) (n:Int) (i:Nat) (ts:List Tok) (x:Except Int (List Tok)) (Q:Exit->Act->World->Prop):Prop:=
 ∀a' w' v' zV i',LnF a' s n v' ((i':Nat):Int)->i<i'->i'<=s.size->RT w0 w' 121 v' zV->zV.length<=ts.length+1->x=gi s.data.toList n zV i'->Glob w'->Q (.goto 0) a' w'
theorem AD (hf:LnF a s n v (i:Int)) (hi:i<=s.size) (hR:RT w0 w 121 v ts) (hx:x=gi s.data.toList n ts i) (dp:lQ w0 x Q) (h:bW (s.data.toList.drop i)=true):je.wp Tryz.prog Q a w:=by
 have Ho:=hid (sk w s i hi);rw[h]at Ho;have He:=hid (oz (hx.trans (CM h)) hR);have rL:=hid dp;clear hi hR hx dp h;obtain ⟨vv,rfl,eE⟩:=hf.shape;simp only[gY,eE];clear eE;clear hf;dsimp only[je,cQ,ncr,ncs,ncx,Tryz.f105]
 go_wp2_with fail
 refine cS Ho.o ?_;clear Ho;go_wp2;exact rL.o _ _ _ _ rfl rfl rfl He.o
theorem AE {c:UInt8} (hs:s.size<=1048576) (hf:LnF a s n v (i:Int)) (hc:s.data.toList[i]? =some c) (rS:Glob w0) (hR:RT w0 w 121 v ts) (gA:ts.length<=100000000) (hx:x=gi s.data.toList n ts i) (hJ:LnJ0 w0 s n i ts x Q)
 (h:bW (s.data.toList.drop i)=false) (hd:eB (s.data.toList.drop i)=true):je.wp Tryz.prog Q a w:=by
 have hi:i<s.size:=by rw[<-aq];exact (aBo hc).1
 have Ho:=hid (sk w s i (by omega));rw[h]at Ho;have ib:=aU (s:=s) (i:Int) rfl hc;have wi1:=bK (z:=(i:Int)+1) (by omega) (by omega);have HJ:=hid hJ;have HG:=hid rS;have Bw:=hid hR;have b9:=hid (fun o=>hR.row.alloc o);have Gk:=hid (show ts.length<=1000000000 by omega);obtain ⟨j,hj⟩:=ex (i+1+aP (s.data.toList.drop (i+1)));have Hj:=hid (show j<=s.size by rw[hj,<-aq];exact jX (by rw[aq];omega))
 have Hij:=hid (show i<j by omega);have Hx:=hid (show x=gi s.data.toList n (ts++[⟨2,n,(i:Int),[],false⟩]) j by rw[hx,CL h hd,hj]);have Hb:=hid (fun w1=>nV w1 s i hs (by omega));rw[<-hj]at Hb;have Hl:=hid (show (ts++[(⟨2,n,(i:Int),[],false⟩:Tok)]).length<=ts.length+1 by simp);have t1:((c.toNat:Int)==45)=true:=by
  rw[beq_iff_eq];by_cases LL:c.toNat=45
  ·omega
  ·rw[S5 hc LL]at hd;cases hd
 have T2:Hid ((((i:Int)+1==(s.size:Int))=true)\/(((i:Int)+1==(s.size:Int))=false/\∃d:UInt8,s.data.toList[i+1]? =some d/\((d.toNat:Int)==32)=true)):=hid (by
  by_cases vj:i+1=s.size
  ·exact .inl (by rw[beq_iff_eq];omega)
  ·obtain ⟨d,mH⟩:=fi (s:=s) (k:=i+1) (by omega);rw[DC hc mH]at hd;have:=(of_decide_eq_true hd).2;exact .inr ⟨bF (by omega),d,mH,by rw[beq_iff_eq];omega⟩)
 clear hs hc rS hR gA hx hJ h hd hi hj;rcases T2.o with t2|⟨t2,d,mH,t3⟩
 ·clear T2;obtain ⟨vv,rfl,eE⟩:=hf.shape;simp only[gY,eE];clear eE;clear hf;dsimp only[je,cQ,ncr,ncs,ncx,Tryz.f105]
  go_wp2_with fail
  refine cS Ho.o ?_;clear Ho
  go_wp2_with (first|(go_at_call 141;refine cS (Hb.o _) ?_)|(at_builtin;refine fR rfl _ _ 67 121 rfl Tryz.underlying67 gw v ts rfl (b9.o _) _ ⟨2,n,(i:Int),[],false⟩ rfl (ag _) Gk.o ?_;intro v' w2 aB bC aA;have mX:=hid (RT.app Bw.o aB bC aA);have Eb:=hid (lN Bw.o HG.o bC);clear aB bC aA))
  go_step3
  exact HJ.o _ _ _ _ j ⟨rfl,rfl,rfl,rfl,rfl,rfl⟩ Hij.o Hj.o mX.o Hl.o Hx.o Eb.o
 ·have zq:=aU (s:=s) ((i:Int)+1) (by omega) mH;clear T2 mH;obtain ⟨vv,rfl,eE⟩:=hf.shape;simp only[gY,eE];clear eE;clear hf;dsimp only[je,cQ,ncr,ncs,ncx,Tryz.f105]
  go_wp2_with fail
  refine cS Ho.o ?_;clear Ho
  go_wp2_with (first|(go_at_call 141;refine cS (Hb.o _) ?_)|(at_builtin;refine fR rfl _ _ 67 121 rfl Tryz.underlying67 gw v ts rfl (b9.o _) _ ⟨2,n,(i:Int),[],false⟩ rfl (ag _) Gk.o ?_;intro v' w2 aB bC aA;have mX:=hid (RT.app Bw.o aB bC aA);have Eb:=hid (lN Bw.o HG.o bC);clear aB bC aA))
  go_step3
  exact HJ.o _ _ _ _ j ⟨rfl,rfl,rfl,rfl,rfl,rfl⟩ Hij.o Hj.o mX.o Hl.o Hx.o Eb.o
theorem AB {c:UInt8} (hs:s.size<=1048576) (hf:LnF a s n v (i:Int)) (hc:s.data.toList[i]? =some c) (rS:Glob w0) (hg:Glob w) (hR:RT w0 w 121 v ts) (gA:ts.length<=100000000) (hx:x=gi s.data.toList n ts i) (dp:lQ w0 x Q) (hJ:Xp w0 s n ts x Q)
 (h:bW (s.data.toList.drop i)=false) (hd:eB (s.data.toList.drop i)=false):je.wp Tryz.prog Q a w:=by
 have hi:i<s.size:=by rw[<-aq];exact (aBo hc).1
 have Ho:=hid (sk w s i (by omega));rw[h]at Ho;have ib:=aU (s:=s) (i:Int) rfl hc;have wi1:=bK (z:=(i:Int)+1) (by omega) (by omega);have Ib:x=eR s.data.toList n ts i:=by rw[hx,xc (fun q=>by rw[hd]at q;cases q.2)]
 have yq:=hid (fun (a':Act) (im:LnG a' s n v (i:Int))=>(show ik.wp Tryz.prog Q a' w from by
  by_cases hq:c.toNat=34\/c.toNat=39
  ·exact CE hs im hc rS hg hR gA Ib dp hJ h hq
  ·exact CF hs im hc rS hg hR gA Ib dp h (fun e=>hq (.inl e)) (fun e=>hq (.inr e))))
 have T1:Hid ((((c.toNat:Int)==45)=false)\/(((c.toNat:Int)==45)=true/\((i:Int)+1==(s.size:Int))=false/\∃d:UInt8,s.data.toList[i+1]? =some d/\((d.toNat:Int)==32)=false)):=hid (by
  by_cases LL:c.toNat=45
  ·by_cases vj:i+1=s.size
   ·rw[PR hc (by rw[aq];omega),dT LL]at hd;cases hd
   ·obtain ⟨d,mH⟩:=fi (s:=s) (k:=i+1) (by omega);rw[DC hc mH]at hd;have:=of_decide_eq_false hd;exact .inr ⟨by rw[beq_iff_eq];omega,bF (by omega),d,mH,bF (by omega)⟩
  ·exact .inl (bF (by omega)))
 clear hs hc rS hg hR gA hx dp hJ h hd hi Ib;rcases T1.o with t1|⟨t1,t2,d,mH,t3⟩
 ·clear T1;obtain ⟨vv,rfl,eE⟩:=hf.shape;simp only[gY,eE];clear eE;clear hf;dsimp only[je,cQ,ncr,ncs,ncx,Tryz.f105]
  go_wp2_with fail
  refine cS Ho.o ?_;clear Ho
  go_upto_if 61 with (fail)
  refine wp_cond_false rfl ?_;refine wp_skip ?_;refine (by assumption:∀(a:Act) (w:World),ik.wp Tryz.prog Q a w->_) _ _ ?_;exact yq.o _ ⟨rfl,rfl,rfl,rfl,rfl,rfl,rfl⟩
 ·have zq:=aU (s:=s) ((i:Int)+1) (by omega) mH;clear T1 mH;obtain ⟨vv,rfl,eE⟩:=hf.shape;simp only[gY,eE];clear eE;clear hf;dsimp only[je,cQ,ncr,ncs,ncx,Tryz.f105]
  go_wp2_with fail
  refine cS Ho.o ?_;clear Ho
  go_upto_if 61 with (fail)
  refine wp_cond_false rfl ?_;refine wp_skip ?_;refine (by assumption:∀(a:Act) (w:World),ik.wp Tryz.prog Q a w->_) _ _ ?_;exact yq.o _ ⟨rfl,rfl,rfl,rfl,rfl,rfl,rfl⟩
theorem G5 (hs:s.size<=1048576) (hf:LnF a s n v (i:Int)) (hi:i<=s.size) (rS:Glob w0) (hg:Glob w) (hR:RT w0 w 121 v ts) (gA:ts.length<=100000000) (hx:x=gi s.data.toList n ts i) (dp:lQ w0 x Q) (hJ0:LnJ0 w0 s n i ts x Q) (hJ1:Xp w0 s n ts x Q):je.wp Tryz.prog Q a w:=by
 cases h:bW (s.data.toList.drop i) with
 |true=>exact AD hf hi hR hx dp h
 |false=>
  have aN:i<s.size:=by
   rcases Nat.lt_or_ge i s.size with q|q
   ·exact q
   ·rw[nw (by rw[aq];omega)]at h;cases h
  obtain ⟨c,hc⟩:=fi aN;cases hd:eB (s.data.toList.drop i) with
  |true=>exact AE hs hf hc rS hR gA hx hJ0 h hd
  |false=>exact AB hs hf hc rS hg hR gA hx dp hJ1 h hd
def rH (w0:World) (s:ByteArray) (n:Int) (x:Except Int (List Tok)) (l:Nat) (a:Act) (w:World):Prop:=
 ∃(v:Value) (ts:List Tok) (i:Nat),LnF a s n v ((i:Nat):Int)/\i<=s.size/\Glob w/\RT w0 w 121 v ts/\((l=0/\ts.length<=i/\x=gi s.data.toList n ts i)\/(l=1/\ts.length<=s.size+1/\x=dN s.data.toList n ts i))
def kT (s:ByteArray) (l:Nat) (a:Act) (_:World):Nat:=if l=0 then s.size+2-(intOf (a.tmps.getD 6 undef)).toNat else 0
theorem G4 {s:ByteArray} {n:Int} {v:Value} {i:Nat} {a:Act} {w:World} (h:LnF a s n v (i:Int)):kT s 0 a w=s.size+2-i:=by
 unfold kT;rw[if_pos rfl,vq h.s6];rfl
theorem R9 (hs:s.size<=1048576) (rS:Glob w0) {Q0:Exit->Act->World->Prop} (dp:lQ w0 x Q0) {body:Code} (h0:findLabel body 0=some (Code.skip.seq je)) (h1:findLabel body 1=some (Code.skip.seq gZ)) (l:Nat) (hI:rH w0 s n x l a w):
 ∃rest,findLabel body l=some rest/\rest.wp Tryz.prog (Exit.jumps (fun l' a' w'=>rH w0 s n x l' a' w'/\kT s l' a' w'<kT s l a w) Q0) a w:=by
 obtain ⟨v,ts,i,hf,hi,hg,hR,⟨rfl,hl,hx⟩|⟨rfl,hl,hx⟩⟩:=hI
 ·have hm:=G4 (w:=w) hf;refine ⟨_,h0,wp_seq (wp_skip (G5 hs hf hi rS hg hR (by omega) hx (fun a' w' v e q1 q2 q3 q4=>dp a' w' v e q1 q2 q3 q4) ?_ ?_))⟩
  ·intro a' w' v' zV i' f' h1 h2 h3 h4 h5 h6;refine ⟨⟨v',zV,i',f',h2,h6,h3,.inl ⟨rfl,by omega,h5⟩⟩,?_⟩;rw[hm,G4 f'];omega
  ·intro a' w' v' zV i' f' h1 h2 h3 h4 h5;refine ⟨⟨v',zV,i',f',h1,h5,h2,.inr ⟨rfl,by omega,h4⟩⟩,?_⟩;rw[hm];unfold kT;rw[if_neg (by decide)];omega
 ·exact ⟨_,h1,wp_seq (wp_skip (G3 hs hf hi hg hR (by omega) hx (fun a' w' v e q1 q2 q3 q4=>dp a' w' v e q1 q2 q3 q4)))⟩
theorem RZ (l:List UInt8):fW l=(Lib.hasPrefix l [45,45,45]&&(l.drop (3+aP (l.drop 3))==[]||(decide (0<aP (l.drop 3))&&bW (l.drop (3+aP (l.drop 3)))))):=by
 match l with
 |[]=>rfl
 |[a]=>simp[fW,Lib.hasPrefix,List.isPrefixOf]
 |[a,b]=>simp[fW,Lib.hasPrefix,List.isPrefixOf]
 |a::b::c::r=>
  have h1:Lib.hasPrefix (a::b::c::r) [45,45,45]=decide (a.toNat=45/\b.toNat=45/\c.toNat=45):=by
   have key:∀z:UInt8,((45:UInt8)==z)=decide (z.toNat=45):=fun z=>by
    rw[Bool.eq_iff_iff,beq_iff_eq,decide_eq_true_eq];exact ⟨fun h=>by rw[<-h];rfl,fun h=>by apply UInt8.toNat_inj.1;rw[h];rfl⟩
   simp only[Lib.hasPrefix,List.isPrefixOf,key,Bool.and_true];simp
  rw[h1]
  show (decide (a.toNat=45/\b.toNat=45/\c.toNat=45)&&(r.drop (aP r)==[]||(decide (0<aP r)&&bW (r.drop (aP r)))))=_
  have h2:(a::b::c::r).drop 3=r:=rfl;rw[h2,show (a::b::c::r).drop (3+aP r)=r.drop (aP r) by rw[Nat.add_comm];rfl]
theorem Ru {w:World} {T:TypeId} (t:Tok):(w.alloc (.cells t.cells.toArray T)).ownsRow 0 T 5 (.slice (some ⟨w.heap.size,0,none⟩) 1 1) 1 t.cells:=
 ⟨rfl,.inr ⟨w.heap.size,1,t.cells.toArray,rfl,Nat.zero_le _,ag _,aBh _,by unfold maxLen;omega,rfl,rfl⟩⟩
theorem Vz {w w1:World} {T:TypeId} (hb:Below w.heap.size w w1) (t:Tok):RT w (w1.alloc (.cells t.cells.toArray T)) T (.slice (some ⟨w1.heap.size,0,none⟩) 1 1) [t]:=by
 refine ⟨hb.alloc hb.size _,?_,fun g hg=> ?_⟩
 ·show (w1.alloc _).ownsRow 0 T 5 _ 1 (lX [t])
  rw[show lX [t]=t.cells by simp[lX]];exact Ru t
 ·obtain rfl:w1.heap.size=g:=aBm hg;exact hb.size
theorem iM {w0:World} {x:Except Int (List Tok)}:lQ w0 x (bodyPost Tryz.prog Tryz.f105 fun r w'=>iT w0 121 x r w'):=by
 intro a' w' v e hd h4 h5 hp;refine bodyPost_ret (v:= .tuple #[v,.int .i64 e]) ?_ hd hp;rw[results_tmp2 rfl,vq h4,vq h5]
end
theorem NT (w:World) (s:ByteArray) (n:Int) (hs:s.size<=1048576) (hg:Glob w):
 Calls Tryz.prog 105 #[.string s,.int .i64 n] w (iT w 121 (cM s.data.toList n)):=by
 obtain ⟨x,hx⟩:=ex (cM s.data.toList n);have Ln:=hid (Re w s hs);rw[<-hx];by_cases KE:dJ s.data.toList≠0
 ·have t0:(dJ s.data.toList != 0)=true:=by rw[bne_iff_ne];exact KE
  have He:=hid (nB (w:=w) (T:= 121) (show x= .error (dJ s.data.toList) by rw[hx];unfold cM;rw[if_pos KE]) (aBi _ w));generalize dJ s.data.toList=z at*;clear hx KE hs hg;go_enter Tryz.func105,Tryz.ntmps105
  go_wp2_with fail
  refine dU (fun _ _ _=>False) (fun _ _ _=>0) ?_ (fun _ _ _ h=>h.elim)
  go_wp2_with fail
  refine cS Ln.o ?_;clear Ln;go_wp2;simp only[Exit.jumps]
  go_ret2
  exact He.o
 have FC:dJ s.data.toList=0:=Decidable.not_not.1 KE;rw[FC]at Ln;have Gl:=hid (Tryz.strings_HasPrefix s ⟨#[45,45,45]⟩ w);have cN:=RZ s.data.toList;have xN:=hid (show fW s.data.toList=false->∀a',LnF a' s n (.slice none 0 0) ((aP s.data.toList:Nat):Int)->∀(Q0:Exit->Act->World->Prop),lQ w x Q0->je.wp Tryz.prog (Exit.jumps (rH w s n x) Q0) a' w from fun hm a' hf Q0 dp=>by
  have hxi:x=gi s.data.toList n [] (aP s.data.toList):=by rw[hx,Fq FC hm]
  have hsk:aP s.data.toList<=s.size:=by rw[<-aq];exact vP _
  refine G5 hs hf hsk hg hg (RO.first _ _ _) (by simp) hxi (fun a' w' v e q1 q2 q3 q4=>dp a' w' v e q1 q2 q3 q4) ?_ ?_
  ·intro a' w' v' zV i' f' h1 h2 h3 h4 h5 h6;exact ⟨v',zV,i',f',h2,h6,h3,.inl ⟨rfl,by simp at h4;omega,h5⟩⟩
  ·intro a' w' v' zV i' f' h1 h2 h3 h4 h5;exact ⟨v',zV,i',f',h1,h5,h2,.inr ⟨rfl,by simp at h3;omega,h4⟩⟩)
 have DW:=hid (fun (Q0:Exit->Act->World->Prop) (dp:lQ w x Q0) (body:Code) (h0:findLabel body 0=some (Code.skip.seq je)) (h1:findLabel body 1=some (Code.skip.seq gZ)) (l:Nat) (a':Act) (w':World) (hI:rH w s n x l a' w')=>R9 hs hg dp h0 h1 l hI);have lW:=hid (show Calls Tryz.prog 141 #[.string s,.int .i64 0] w fun r w'=>r= .returned (.int .i64 ((aP s.data.toList:Nat):Int))/\w'=w from by
  have:=ry w s 0 hs (Nat.zero_le _);rw[Nat.zero_add,List.drop_zero]at this;exact this)
 cases mO:Lib.hasPrefix s.data.toList [45,45,45] with
 |false=>
  have HM:fW s.data.toList=false:=by rw[cN,mO];rfl
  have uc:Lib.hasPrefix s.data.toList (⟨#[45,45,45]⟩:ByteArray).data.toList=false:=mO;rw[uc]at Gl;have HM:=HM;clear cN mO uc hx KE FC hs hg;go_enter Tryz.func105,Tryz.ntmps105
  go_wp2_with fail
  refine dU (rH w s n x) (kT s) ?_ (fun l a' w' hI=>DW.o _ iM _ rfl rfl l a' w' hI)
  go_wp2_with fail
  refine cS Ln.o ?_;clear Ln
  go_wp2_with fail
  refine cS Gl.o ?_;clear Gl
  go_wp2_with fail
  refine cS lW.o ?_;clear lW;go_wp2;refine wp_label ?_
  rename_i hK
  refine hK _ _ ?_;exact xN.o HM _ ⟨rfl,rfl,rfl,rfl,rfl,rfl⟩ _ iM
 |true=>
  have uc:Lib.hasPrefix s.data.toList (⟨#[45,45,45]⟩:ByteArray).data.toList=true:=mO;rw[uc]at Gl;have h3:3<=s.size:=by
   have h1:=List.IsPrefix.length_le (by simpa[Lib.hasPrefix] using mO:[45,45,45] <+:s.data.toList);rw[aq]at h1;exact h1
  rw[mO,Bool.true_and]at cN;obtain ⟨k,hk⟩:=ex (3+aP (s.data.toList.drop 3));have hks:k<=s.size:=by rw[hk,<-aq];exact jX (by rw[aq];omega)
  have iF:=hid (show Calls Tryz.prog 141 #[.string s,.int .i64 3] w fun r w'=>r= .returned (.int .i64 (k:Int))/\w'=w from by
   have:=ry w s 3 hs h3;rw[<-hk]at this;exact this)
  rw[<-hk]at cN;have Kx:fW s.data.toList=true->Hid (iT w 121 x (.returned (.tuple #[.slice (some ⟨w.heap.size,0,none⟩) 1 1,.int .i64 0])) (w.alloc (.cells (Tok.cells ⟨1,n,0,[],false⟩).toArray 121))):=fun hm=>hid (oz (by rw[hx];unfold cM;rw[if_neg (by omega),if_pos hm]) (Vz (aBi _ _) _));by_cases FK:k=s.size
  ·have t1:((k:Int)==(s.size:Int))=true:=by rw[beq_iff_eq];omega
   have hm:fW s.data.toList=true:=by rw[cN,fC (by rw[aq];omega)];rfl
   have He:=Kx hm;clear Kx hm cN mO uc hx KE FC hs hg h3 hk hks FK lW xN;go_enter Tryz.func105,Tryz.ntmps105
   go_wp2_with fail
   refine dU (rH w s n x) (kT s) ?_ (fun l a' w' hI=>DW.o _ iM _ rfl rfl l a' w' hI)
   go_wp2_with fail
   refine cS Ln.o ?_;clear Ln
   go_wp2_with fail
   refine cS Gl.o ?_;clear Gl
   go_wp2_with fail
   refine cS iF.o ?_;clear iF;go_wp2;simp only[Exit.jumps]
   go_ret2
   exact He.o
  ·have t1:((k:Int)==(s.size:Int))=false:=bF (by omega);obtain ⟨d,hd⟩:=fi (s:=s) (k:=k) (by omega);have ib:=aU (s:=s) (k:Int) rfl hd;have ZC:=uX hd;have rT:(s.data.toList.drop k==[])=false:=by rw[cG hd];rfl
   by_cases h30:3<k
   ·have t2:decide ((3:Int)<(k:Int))=true:=dT (by omega);by_cases SJ:d.toNat=35
    ·have t3:((d.toNat:Int)==35)=true:=by rw[beq_iff_eq];omega
     have hm:fW s.data.toList=true:=by rw[cN,ZC,dT SJ,dT (show 0<aP (s.data.toList.drop 3) by omega)];simp
     have He:=Kx hm;clear Kx hm cN mO uc hx KE FC hs hg h3 hk hks FK hd ZC rT h30 SJ lW xN;go_enter Tryz.func105,Tryz.ntmps105
     go_wp2_with fail
     refine dU (rH w s n x) (kT s) ?_ (fun l a' w' hI=>DW.o _ iM _ rfl rfl l a' w' hI)
     go_wp2_with fail
     refine cS Ln.o ?_;clear Ln
     go_wp2_with fail
     refine cS Gl.o ?_;clear Gl
     go_wp2_with fail
     refine cS iF.o ?_;clear iF;go_wp2;simp only[Exit.jumps]
     go_ret2
     exact He.o
    ·have t3:((d.toNat:Int)==35)=false:=bF (by omega);have HM:fW s.data.toList=false:=by rw[cN,ZC,dF SJ,rT];simp
     clear Kx cN mO uc hx KE FC hs hg h3 hk hks FK hd ZC rT h30 SJ;go_enter Tryz.func105,Tryz.ntmps105
     go_wp2_with fail
     refine dU (rH w s n x) (kT s) ?_ (fun l a' w' hI=>DW.o _ iM _ rfl rfl l a' w' hI)
     go_wp2_with fail
     refine cS Ln.o ?_;clear Ln
     go_wp2_with fail
     refine cS Gl.o ?_;clear Gl
     go_wp2_with fail
     refine cS iF.o ?_;clear iF
     go_wp2_with fail
     refine cS lW.o ?_;clear lW;go_wp2;refine wp_label ?_
     rename_i hK
     refine hK _ _ ?_;exact xN.o HM _ ⟨rfl,rfl,rfl,rfl,rfl,rfl⟩ _ iM
   ·have t2:decide ((3:Int)<(k:Int))=false:=dF (by omega);have HM:fW s.data.toList=false:=by rw[cN,rT,dF (show ¬0<aP (s.data.toList.drop 3) by omega)];rfl
    clear Kx cN mO uc hx KE FC hs hg h3 hk hks FK hd ZC rT h30;go_enter Tryz.func105,Tryz.ntmps105
    go_wp2_with fail
    refine dU (rH w s n x) (kT s) ?_ (fun l a' w' hI=>DW.o _ iM _ rfl rfl l a' w' hI)
    go_wp2_with fail
    refine cS Ln.o ?_;clear Ln
    go_wp2_with fail
    refine cS Gl.o ?_;clear Gl
    go_wp2_with fail
    refine cS iF.o ?_;clear iF
    go_wp2_with fail
    refine cS lW.o ?_;clear lW;go_wp2;refine wp_label ?_
    rename_i hK
    refine hK _ _ ?_;exact xN.o HM _ ⟨rfl,rfl,rfl,rfl,rfl,rfl⟩ _ iM
def dt:Nat->List UInt8->Nat->Nat->List Tok×Option (Nat×Nat×Int)
 |0,_,_,_=>([],none)
 |f+1,l,k,n=>
  if l=[] then ([],none)
  else match cM (dd l).1 ((n+1:Nat):Int) with
   | .error c=>([],some (k,n+1,c))
   | .ok ts=>(ts++(dt f (dd l).2 (k+cU ts) (n+1)).1,(dt f (dd l).2 (k+cU ts) (n+1)).2)
def Am (acc:List Tok) (p:List Tok×Option (Nat×Nat×Int)):Except (Nat×Nat×Int) (List Tok):=
 match p.2 with
 |none=> .ok (acc++p.1)
 |some e=> .error e
theorem Ca:∀(f:Nat) (l:List UInt8) (k n:Nat) (acc:List Tok),iZ f l k n acc=Am acc (dt f l k n)
 |0,l,k,n,acc=>by unfold iZ dt Am;simp
 |f+1,l,k,n,acc=>by
  unfold iZ dt
  split
  ·unfold Am;simp
  ·cases h:cM (dd l).1 ((n+1:Nat):Int) with
   |error c=>rfl
   |ok ts=>
    simp only;rw[Ca f];unfold Am;simp only;cases (dt f (dd l).2 (k+cU ts) (n+1)).2<;>simp
theorem po:∀(f g:Nat) (l:List UInt8) (k n:Nat),l.length<=f->l.length<=g->dt f l k n=dt g l k n
 |0,0,_,_,_,_,_=>rfl
 |0,g+1,l,k,n,h,_=>by
  have:l=[]:=List.eq_nil_of_length_eq_zero (by omega);unfold dt;rw[if_pos this]
 |f+1,0,l,k,n,_,h=>by
  have:l=[]:=List.eq_nil_of_length_eq_zero (by omega);unfold dt;rw[if_pos this]
 |f+1,g+1,l,k,n,hf,hg=>by
  unfold dt
  split
  ·rfl
  ·rename_i hl
   have:=lM l hl
   split
   ·rfl
   ·rename_i ts h
    rw[po f g (dd l).2 (k+cU ts) (n+1) (by omega) (by omega)]
abbrev Yl:=Tok×(Int×Int×Int)
def yTok (t:Tok):Yl:=(t,(0,0,0))
def zO (e:Nat×Nat×Int):Yl:=(⟨0,0,0,[],false⟩,((e.1:Int),(e.2.1:Int),e.2.2))
def yE (p:List Tok×Option (Nat×Nat×Int)):List Yl:=p.1.map yTok++(match p.2 with|none=>[]|some e=>[zO e])
def iK (l:List UInt8):List Yl:=if 65536<l.length then [zO (0,0,3)] else yE (dt l.length l 0 0)
theorem Al {l:List UInt8} {i:Nat} (h:bW (l.drop i)=false):i<l.length:=by
 rcases Nat.lt_or_ge i l.length with q|q
 ·exact q
 ·rw[List.drop_eq_nil_of_le q]at h;cases h
theorem tX {l:List UInt8}:∀(f i:Nat),(∀c∈(cB l f i).1,c<l.length)/\(cB l f i).1.length<=l.length-i
 |0,i=>⟨fun c h=>(by cases h),Nat.zero_le _⟩
 |f+1,i=>by
  unfold cB
  split
  ·rename_i h
   have hi:=Al h.1;obtain ⟨q1,q2⟩:=tX (l:=l) f (i+1+aP (l.drop (i+1)));refine ⟨fun c hc=> ?_,by simp only[aBk];omega⟩;rcases List.mem_cons.1 hc with rfl|hc
   ·exact hi
   ·exact q1 c hc
  ·exact ⟨fun c h=>(by cases h),Nat.zero_le _⟩
theorem Et {t x:List UInt8} {q:Bool} (hq:∀y m,dZ t=some (y,m)->y.length<=t.length) (h:ig t= .ok (some (x,q))):x.length<=t.length/\bW t=false:=by
 unfold ig at h
 split at h
 ·cases h
 ·rename_i ho
  refine ⟨?_,by simpa using ho⟩
  split at h
  ·split at h
   ·cases h
   ·rename_i y m hy
    split at h
    ·cases h
    ·injection h with h
     injection h with h
     injection h with h _
     subst h;exact hq _ _ hy
  ·split at h
   ·cases h
   ·rename_i y hy
    injection h with h
    injection h with h
    injection h with h _
    subst h;exact Cu hy
theorem Kq {t x:List UInt8} {q:Bool} {m:Nat} (hq:∀y m,dZ t=some (y,m)->y.length<=t.length) (h:pE t= .ok (some (x,q,m))):x.length<=t.length:=by
 unfold pE at h
 split at h
 ·split at h
  ·cases h
  ·rename_i y k hy
   injection h with h
   split at h
   ·injection h with h
    injection h with h _
    subst h;exact hq _ _ hy
   ·cases h
 ·injection h with h
  split at h
  ·injection h with h
   injection h with h _
   subst h;rw[List.length_take];omega
  ·cases h
structure TokB (n:Int) (L:Nat) (t:Tok):Prop where
 kind:2<=t.kind/\t.kind<=4
 line:t.line=n
 col:0<=t.col/\t.col<=(L:Int)
 text:t.text.length<=L
theorem zw {l:List UInt8} {n:Int} {ts us:List Tok} {i:Nat} (hq:∀t y m,dZ t=some (y,m)->y.length<=t.length) (gA:∀t∈ts,TokB n l.length t) (h:dN l n ts i= .ok us):(∀t∈us,TokB n l.length t)/\us.length<=ts.length+1:=by
 unfold dN at h
 split at h
 ·cases h
 ·injection h with h;subst h;exact ⟨gA,by omega⟩
 ·rename_i x q hs
  injection h with h
  subst h;obtain ⟨h1,h2⟩:=Et (hq _) hs;have hi:=Al h2;rw[List.length_drop]at h1;refine ⟨fun t ht=> ?_,by simp⟩;rcases List.mem_append.1 ht with ht|ht
  ·exact gA t ht
  ·obtain rfl:=List.mem_singleton.1 ht;exact ⟨⟨by show (2:Int)<=4;decide,by show (4:Int)<=4;decide⟩,rfl,⟨by show (0:Int)<=(i:Int);omega,by show (i:Int)<=_;omega⟩,by show x.length<=_;omega⟩
theorem EE {l:List UInt8} {n:Int} {ts us:List Tok} {i:Nat} (hq:∀t y m,dZ t=some (y,m)->y.length<=t.length) (gA:∀t∈ts,TokB n l.length t) (h:eR l n ts i= .ok us):(∀t∈us,TokB n l.length t)/\us.length<=ts.length+2:=by
 unfold eR at h
 split at h
 ·injection h with h;subst h;exact ⟨gA,by omega⟩
 ·rename_i ho
  have hi:=Al (l:=l) (i:=i) (by simpa using ho)
  split at h
  ·cases h
  ·have:=zw hq gA h;exact ⟨this.1,by omega⟩
  ·rename_i x q m hk
   have h1:=Kq (hq _) hk;rw[List.length_drop]at h1;have:=zw hq (fun t ht=>by
    rcases List.mem_append.1 ht with ht|ht
    ·exact gA t ht
    ·obtain rfl:=List.mem_singleton.1 ht;exact ⟨⟨by show (2:Int)<=3;decide,by show (3:Int)<=4;decide⟩,rfl,⟨by show (0:Int)<=(i:Int);omega,by show (i:Int)<=_;omega⟩,by show x.length<=_;omega⟩) h
   rw[aBj]at this;exact ⟨this.1,by have:=this.2;simp at this;omega⟩
theorem oy {l:List UInt8} {n:Int} {us:List Tok} (hq:∀t y m,dZ t=some (y,m)->y.length<=t.length) (h:cM l n= .ok us):(us=[⟨1,n,0,[],false⟩]\/∀t∈us,TokB n l.length t)/\us.length<=l.length+2:=by
 unfold cM at h
 split at h
 ·cases h
 ·split at h
  ·injection h with h;subst h;exact ⟨.inl rfl,by simp⟩
  ·obtain ⟨q1,q2⟩:=tX (l:=l) (l.length+1) (aP l);have:=EE hq (fun t ht=>by
    obtain ⟨c,hc,rfl⟩:=List.mem_map.1 ht;have:=q1 c hc;exact ⟨⟨by show (2:Int)<=2;decide,by show (2:Int)<=4;decide⟩,rfl,⟨by show (0:Int)<=(c:Int);omega,by show (c:Int)<=_;omega⟩,Nat.zero_le _⟩) h
   rw[List.length_map]at this;exact ⟨.inr this.1,by omega⟩
theorem J8 {l:List UInt8} {n:Int} {us:List Tok} (hq:∀t y m,dZ t=some (y,m)->y.length<=t.length) (h:cM l n= .ok us):cU us<=1:=by
 rcases (oy hq h).1 with rfl|h
 ·simp[cU]
 ·have:us.filter (fun t=>t.kind==1)=[]:=by
   rw[List.filter_eq_nil_iff];intro t ht;have:=(h t ht).kind;simp only[beq_iff_eq];omega
  unfold cU;rw[this];exact Nat.zero_le _
theorem MA {t:List UInt8} {c:Int} (h:ig t= .error c):c=82\/c=83:=by
 unfold ig at h
 split at h
 ·cases h
 ·split at h
  ·split at h
   ·injection h with h;exact .inl h.symm
   ·split at h
    ·injection h with h;exact .inl h.symm
    ·cases h
  ·split at h
   ·injection h with h;exact .inr h.symm
   ·cases h
theorem tQ {l:List UInt8} {n c:Int} (h:cM l n= .error c):c≠0:=by
 have he:∀ts i,dN l n ts i= .error c->c≠0:=by
  intro ts i h;unfold dN at h
  split at h
  ·rename_i e hs
   injection h with h
   have:=MA hs;omega
  ·cases h
  ·cases h
 unfold cM at h
 split at h
 ·rename_i hs
  injection h with h
  rw[<-h];exact hs
 ·split at h
  ·cases h
  ·unfold eR at h
   split at h
   ·cases h
   ·split at h
    ·rename_i e hk
     injection h with h
     subst h;unfold pE at hk
     split at hk
     ·split at hk
      ·injection hk with hk;omega
      ·cases hk
     ·cases hk
    ·exact he _ _ h
    ·exact he _ _ h
theorem vS:∀(f:Nat) (l:List UInt8) (k n:Nat) (e:Nat×Nat×Int),(dt f l k n).2=some e->e.2.2≠0
 |0,_,_,_,e,h=>by cases h
 |f+1,l,k,n,e,h=>by
  unfold dt at h
  split at h
  ·cases h
  ·cases hl:cM (dd l).1 ((n+1:Nat):Int) with
   |error c=>
    rw[hl]at h;have h2:=aBm h;rw[<-h2];exact tQ hl
   |ok ts=>
    rw[hl]at h;exact vS f _ _ _ e h
theorem uQ {bs:List UInt8} (hl:¬65536<bs.length):iK bs=yE (dt bs.length bs 0 0)/\jn bs=Am [] (dt bs.length bs 0 0):=by
 refine ⟨by unfold iK;rw[if_neg hl],?_⟩;unfold jn;rw[if_neg hl,Ca,po (bs.length+1) bs.length bs 0 0 (by omega) (aBh _)]
theorem P7 {bs:List UInt8} (h:∀x∈iK bs,x.2.2.2=0):jn bs= .ok ((iK bs).map (·.1)):=by
 by_cases hl:65536<bs.length
 ·have:=h (zO (0,0,3)) (by unfold iK;rw[if_pos hl];exact List.mem_singleton.2 rfl);simp[zO]at this
 ·obtain ⟨h1,h2⟩:=uQ hl;rw[h1]at h |-;rw[h2];unfold yE Am at*;cases he:(dt bs.length bs 0 0).2 with
  |none=>
   simp only[List.append_nil,List.nil_append,List.map_map];congr 1
   conv=>lhs;rw[<-List.map_id (dt bs.length bs 0 0).1]
   rfl
  |some e=>
   rw[he]at h;have h4:e.2.2=0:=h (zO e) (List.mem_append_right _ (List.mem_singleton.2 rfl));exact absurd h4 (vS _ _ _ _ e he)
theorem My {bs:List UInt8} {x:Yl} (hx:x∈iK bs) (h:x.2.2.2≠0):∃e,jn bs= .error e/\x.2=((e.1:Int),(e.2.1:Int),e.2.2):=by
 by_cases hl:65536<bs.length
 ·unfold iK at hx;rw[if_pos hl]at hx;obtain rfl:=List.mem_singleton.1 hx;exact ⟨(0,0,3),by unfold jn;rw[if_pos hl],rfl⟩
 ·obtain ⟨h1,h2⟩:=uQ hl;rw[h1]at hx;rw[h2];unfold yE Am at*;rcases List.mem_append.1 hx with hx|hx
  ·obtain ⟨t,-,rfl⟩:=List.mem_map.1 hx;exact absurd rfl h
  ·cases he:(dt bs.length bs 0 0).2 with
   |none=>rw[he]at hx;cases hx
   |some e=>
    rw[he]at hx;obtain rfl:=List.mem_singleton.1 hx;exact ⟨e,rfl,rfl⟩
theorem DE:∀l:List UInt8,l≠[]->(dd l).1.length+1+(dd l).2.length<=l.length\/((dd l).2=[]/\(dd l).1.length=l.length)
 |[],h=>absurd rfl h
 |c::r,_=>by
  unfold dd
  split
  ·left;simp;omega
  ·by_cases hr:r=[]
   ·right;subst hr;exact ⟨rfl,rfl⟩
   ·rcases DE r hr with h|⟨h1,h2⟩
    ·left;simp only[aBk];omega
    ·right;exact ⟨h1,by simp only[aBk];omega⟩
theorem rY (hq:∀t y m,dZ t=some (y,m)->y.length<=t.length):∀(f:Nat) (l:List UInt8) (k n:Nat),(dt f l k n).1.length<=3*l.length
 |0,_,_,_=>Nat.zero_le _
 |f+1,l,k,n=>by
  unfold dt
  split
  ·exact Nat.zero_le _
  ·rename_i hl
   cases h:cM (dd l).1 ((n+1:Nat):Int) with
   |error c=>exact Nat.zero_le _
   |ok ts=>
    simp only[aBj];have h1:=(oy hq h).2;have h2:=rY hq f (dd l).2 (k+cU ts) (n+1);have h3:=List.length_pos_iff.2 hl;rcases DE l hl with h4|⟨h4,h5⟩
    ·omega
    ·rw[h4]at h2 |-;simp only[List.length_nil,Nat.mul_zero]at h2;omega
theorem LU (hq:∀t y m,dZ t=some (y,m)->y.length<=t.length) (bs:List UInt8):(iK bs).length<=200000:=by
 unfold iK
 split
 ·simp
 ·have:=rY hq bs.length bs 0 0;unfold yE;rw[aBj,List.length_map]
  split<;>simp<;>omega
theorem vy:∀l:List UInt8,(∃j:Nat,Lib.indexByte l 10=(j:Int)/\j<l.length/\dd l=(l.take j,l.drop (j+1)))\/(Lib.indexByte l 10= -1/\dd l=(l,[]))
 |[]=> .inr ⟨rfl,rfl⟩
 |c::r=>by
  unfold Lib.indexByte dd;by_cases hc:c=10
  ·left
   exact ⟨0,by rw[if_pos (by simpa using hc)];rfl,by simp,by rw[if_pos hc];rfl⟩
  ·have hb:¬(c==10)=true:=by simpa using hc
   rw[if_neg hb,if_neg hc];rcases vy r with ⟨j,h1,h2,h3⟩|⟨h1,h2⟩
   ·left
    refine ⟨j+1,by rw[h1,if_neg (by simp)];omega,by simp;omega,by rw[h3];rfl⟩
   ·right
    refine ⟨by rw[h1];rfl,by rw[h2]⟩
theorem Sf {t:List UInt8} {e:Int} (h:pE t= .error e):e=82:=by
 unfold pE at h
 split at h
 ·split at h
  ·cases h;rfl
  ·cases h
 ·cases h
theorem MC {t:List UInt8} {e:Int} (h:ig t= .error e):e≠0:=by
 unfold ig at h
 split at h
 ·cases h
 ·split at h
  ·split at h
   ·cases h;decide
   ·split at h
    ·cases h;decide
    ·cases h
  ·split at h
   ·cases h;decide
   ·cases h
theorem IA {l:List UInt8} {n:Int} {ts:List Tok} {i:Nat} {e:Int} (h:dN l n ts i= .error e):e≠0:=by
 unfold dN at h
 split at h
 ·rename_i e' he
  have:=MC he;cases h;exact this
 ·cases h
 ·cases h
theorem NU {l:List UInt8} {n e:Int} (h:cM l n= .error e):e≠0:=by
 unfold cM at h
 split at h
 ·rename_i h0
  cases h;exact h0
 ·split at h
  ·cases h
  ·unfold eR at h
   split at h
   ·cases h
   ·split at h
    ·rename_i e' he
     have:=Sf he;cases h;omega
    ·exact IA h
    ·exact IA h
def xL (s:ByteArray) (x:Except Int (List Tok)):Bool:=
 match x with
 | .ok [t]=>decide (t.kind=4)&& !t.quoted&&decide (t.text=s.data.toList)
 |_=>false
theorem EZ (s:ByteArray):ey s.data.toList=xL s (cM s.data.toList 1):=by
 unfold ey xL;cases cM s.data.toList 1 with
 |error e=>rfl
 |ok ts=>
  match ts with
  |[]=>rfl
  |[t]=>rfl
  |a::b::r=>rfl
theorem zW {w0 w:World} {T:TypeId} {v:Value} {t:Tok} (h:RT w0 w T v [t]):∃g c,v= .slice (some ⟨g,0,none⟩) 1 c/\w.cell? ⟨g,0,none⟩=some (.int .i64 t.kind)/\w.cell? ⟨g,4,none⟩=some (.bool t.quoted)/\w.cell? ⟨g,3,none⟩=some (.string ⟨t.text.toArray⟩):=by
 have hr:w.ownsRow 0 T 5 v 1 (lX [t]):=h.row;rcases hr.2 with ⟨_,h0⟩|⟨g,cap,cur,hv,_⟩
 ·omega
 ·subst hv;exact ⟨g,cap,rfl,by rw[hr.cellAt 0 (by omega)];rfl,by rw[hr.cellAt 4 (by omega)];rfl,by rw[hr.cellAt 3 (by omega)];rfl⟩
theorem eI {w:World} {B T sz n:Nat} {v:Value} {xs:List Value} (h:w.ownsRow B T sz v n xs):∃ao c,v= .slice ao n c:=by
 rcases h.2 with ⟨hv,h0⟩|⟨g,cap,cur,hv,_⟩
 ·exact ⟨none,0,by rw[hv,h0]⟩
 ·exact ⟨_,_,hv⟩
theorem Cr (w:World) (s:ByteArray) (hs:s.size<=1048576) (hg:Glob w):
 Calls Tryz.prog 111 #[.string s] w fun r w'=>r= .returned (.bool (ey s.data.toList))/\Below w.heap.size w w':=by
 have Hl:=hid (NT w s 1 hs hg);rw[EZ];obtain ⟨x,hx⟩:=ex (cM s.data.toList 1);have Yk:=hid (fun e (h:x= .error e)=>NU (hx.symm.trans h));rw[<-hx]at Hl |-;clear hx hs hg;go_enter Tryz.func111,Tryz.ntmps111;cases x with
 |error e=>
  have t1:(e==0)=false:=by rw[beq_eq_false_iff_ne];exact Yk.o e rfl
  clear Yk
  go_wp2_with fail
  refine Hl.o.mono ?_;rintro r w1 ⟨hb,rfl⟩;have Hb:=hid hb;clear hb Hl;go_wp2;go_ret;exact ⟨rfl,Hb.o⟩
 |ok ts=>
  clear Yk;rcases ts with _|⟨t,_|⟨b,tl⟩⟩
  ·go_wp2_with fail
   refine Hl.o.mono ?_;rintro r w1 ⟨v,hr,rfl⟩;obtain ⟨ao,cap,rfl⟩:=eI hr.row;have Hb:=hid hr.below;clear hr Hl;go_wp2;go_ret;exact ⟨rfl,Hb.o⟩
  ·have HP:=hid (show (t.kind==4&& !t.quoted&&t.text==s.toList)=xL s (.ok [t]) from by
    rw[Lib.toList_data]
    show _=(decide (t.kind=4)&& !t.quoted&&decide (t.text=s.data.toList))
    rw[show (t.kind==4)=decide (t.kind=4) by rw[Bool.eq_iff_iff,beq_iff_eq,decide_eq_true_eq],show (t.text==s.data.toList)=decide (t.text=s.data.toList) by rw[Bool.eq_iff_iff,beq_iff_eq,decide_eq_true_eq]])
   cases hk:(t.kind==4) with
   |false=>
    rw[hk]at HP
    go_wp2_with fail
    refine Hl.o.mono ?_;rintro r w1 ⟨v,hr,rfl⟩;obtain ⟨g,cap,rfl,c0,c4,c3⟩:=zW hr;have Hb:=hid hr.below;clear hr Hl;go_wp2;go_ret;exact ⟨fV HP.o,Hb.o⟩
   |true=>
    cases hq:t.quoted with
    |true=>
     rw[hk,hq]at HP
     go_wp2_with fail
     refine Hl.o.mono ?_;rintro r w1 ⟨v,hr,rfl⟩;obtain ⟨g,cap,rfl,c0,c4,c3⟩:=zW hr;have Hb:=hid hr.below;rw[hq]at c4;clear hr Hl;go_wp2;go_ret;exact ⟨fV HP.o,Hb.o⟩
    |false=>
     cases hx:(t.text==s.toList) with
     |true=>
      rw[hk,hq,hx]at HP
      go_wp2_with fail
      refine Hl.o.mono ?_;rintro r w1 ⟨v,hr,rfl⟩;obtain ⟨g,cap,rfl,c0,c4,c3⟩:=zW hr;have Hb:=hid hr.below;rw[hq]at c4;clear hr Hl;go_wp2;go_ret;exact ⟨fV HP.o,Hb.o⟩
     |false=>
      rw[hk,hq,hx]at HP
      go_wp2_with fail
      refine Hl.o.mono ?_;rintro r w1 ⟨v,hr,rfl⟩;obtain ⟨g,cap,rfl,c0,c4,c3⟩:=zW hr;have Hb:=hid hr.below;rw[hq]at c4;clear hr Hl;go_wp2;go_ret;exact ⟨fV HP.o,Hb.o⟩
  ·go_wp2_with fail
   refine Hl.o.mono ?_;rintro r w1 ⟨v,hr,rfl⟩;obtain ⟨ao,cap,rfl⟩:=eI hr.row;have Hb:=hid hr.below;obtain ⟨m,hm⟩:=ex ((t::b::tl).length);have t1:((m:Int)==1)=false:=by rw[beq_eq_false_iff_ne,hm];simp only[aBk];omega
   rw[<-hm];clear hr Hl hm;go_wp2;go_ret;exact ⟨rfl,Hb.o⟩
theorem jJ {s:ByteArray} (h:s=⟨#[]⟩):s.toList=[]/\s.toList.isEmpty=true/\(!s.toList.isEmpty)=false:=by
 have h0:s.toList=[]:=by rw[Lib.toList_data,h]
 exact ⟨h0,by rw[h0];rfl,by rw[h0];rfl⟩
theorem jT {s:ByteArray} (h:s≠⟨#[]⟩):¬s.toList=[]/\s.toList.isEmpty=false/\(!s.toList.isEmpty)=true:=by
 have h0:¬s.toList=[]:=fun q=>h (by
  rw[Lib.toList_data]at q;apply ByteArray.ext;apply Array.ext';exact q)
 have h1:s.toList.isEmpty=false:=by cases hq:s.toList with|nil=>exact absurd hq h0|cons a b=>rfl
 exact ⟨h0,h1,by rw[h1];rfl⟩
theorem j6 {w:World} {v:Value} {l:List Int} (h:SlR w v 1 l dM):∃ao c,v= .slice ao l.length c/\l.length<=1048576:=by
 obtain ⟨ao,c,hv,hl,_⟩:=h;exact ⟨ao,c,hv,hl⟩
theorem K0 (w:World) (m:NdM) (hm:m.Ok w) (hg:Glob w):
 Calls Tryz.prog 95 #[m.v] w fun r w'=>r= .returned (.bool (dY m.nd))/\Below w.heap.size w w':=by
 obtain ⟨ao,c,cI,_⟩:=j6 hm.kids;have gA:=hm.text;obtain ⟨⟨kind,key,text,quoted,line,kids⟩,kv⟩:=m;simp only at cI gA;subst cI;unfold NdM.v;simp only;have hv:dY ⟨kind,key,text,quoted,line,kids⟩=(decide (kids=[])&&(quoted||decide (text=⟨#[]⟩)||ey text.data.toList)):=rfl;have mW:=hid (fun w1 (hb:Below w.heap.size w w1)=>Cr w1 text gA (hg.later hb));have lW:=hid (fun o=>(aBi w.heap.size w).alloc (aBh _) o)
 rw[hv];clear hv hm hg;by_cases hk:kids=[]
 ·have t0:((kids.length:Int)==0)=true:=by rw[hk];rfl
  rw[dT hk,Bool.true_and];clear hk gA;generalize kids.length=n at*;cases quoted with
  |true=>
   clear mW;go_enter Tryz.func95,Tryz.ntmps95;go_wp2;go_ret;exact ⟨rfl,lW.o _⟩
  |false=>
   by_cases ht:text=⟨#[]⟩
   ·obtain ⟨e1,e2,e3⟩:=jJ ht;have E1:=hid e1;rw[dT ht];clear ht mW;go_enter Tryz.func95,Tryz.ntmps95;go_wp2;go_ret;exact ⟨rfl,lW.o _⟩
   ·obtain ⟨e1,e2,e3⟩:=jT ht;rw[dF ht];clear ht;generalize ey text.data.toList=pb at*;go_enter Tryz.func95,Tryz.ntmps95
    go_wp2_with fail
    refine (mW.o _ (lW.o _)).mono ?_;rintro r w1 ⟨rfl,hb⟩;have Hb:=hid ((lW.o _).trans (hb.mono (lW.o _).size));clear hb mW;go_wp2;go_ret;exact ⟨rfl,Hb.o⟩
 ·have t0:((kids.length:Int)==0)=false:=by
   rw[beq_eq_false_iff_ne];intro q;exact hk (List.eq_nil_of_length_eq_zero (by omega))
  rw[dF hk];clear hk gA mW;generalize kids.length=n at*;go_enter Tryz.func95,Tryz.ntmps95;go_wp2;go_ret;exact ⟨rfl,lW.o _⟩
