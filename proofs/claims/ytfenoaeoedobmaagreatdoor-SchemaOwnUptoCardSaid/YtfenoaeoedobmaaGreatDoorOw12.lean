/-
Parts of a proof.
-/
import Derived.Test.YtfenoaeoedobmaaGreatDoorOw11
set_option linter.unusedVariables false
set_option linter.unusedSimpArgs false
set_option maxHeartbeats 8000000
set_option maxRecDepth 100000
namespace Go.Proofs.YtfenoaeoedobmaaGreatDoor
open Go Go.RowKit
theorem DD {l:List UInt8} {i:Nat} {c:UInt8} (h:l[i]? =some c) (h2:l.length<=i+1):eW (l.drop i)=decide (c.toNat=45):=by
 rw[bT h,dropEnd h2];rfl
theorem uN {l:List UInt8} {i:Nat} {c d:UInt8} (h:l[i]? =some c) (h2:l[i+1]? =some d):eW (l.drop i)=decide (c.toNat=45/\d.toNat=32):=by
 rw[bT h,bT h2];rfl
theorem FY {l:List UInt8} {i:Nat} {c:UInt8} (h:l[i]? =some c) (hc:¬c.toNat=45):eW (l.drop i)=false:=by
 rw[bT h];cases l.drop (i+1) with
 |nil=>exact dF hc
 |cons d r=>exact dF (fun q=>hc q.1)
theorem uf {l:List UInt8} {n:Int} {ts:List Tok} {i:Nat} (h:bP (l.drop i)=true):eH l n ts i= .ok ts:=by
 rw[pc (fun q=>by rw[h]at q;cases q.1)];unfold fI;rw[if_pos h]
section
variable {w0 w:World} {a:Act} {s:ByteArray} {n:Int} {v:Value} {i:Nat} {ts:List Tok} {x:Except Int (List Tok)} {Q:Exit->Act->World->Prop}
def Lm (w0:World) (s:ByteArray) (n:Int) (i:Nat) (ts:List Tok) (x:Except Int (List Tok)) (Q:Exit->Act->World->Prop):Prop:=
 ∀a' w' v' ts' i',LnF a' s n v' ((i':Nat):Int)->i<i'->i'<=s.size->RT w0 w' 121 v' ts'->ts'.length<=ts.length+1->x=eH s.data.toList n ts' i'->Glob w'->Q (.goto 0) a' w'
theorem rP (hf:LnF a s n v (i:Int)) (hi:i<=s.size) (hR:RT w0 w 121 v ts) (hx:x=eH s.data.toList n ts i) (hret:iR w0 x Q) (h:bP (s.data.toList.drop i)=true):fY.wp Tryz.prog Q a w:=by
 have Ho:=hid (me w s i hi);rw[h]at Ho;have He:=hid (jZ (hx.trans (uf h)) hR);have Hret:=hid hret;clear hi hR hx hret h;obtain ⟨vv,rfl,eE⟩:=hf.shape;simp only[fa,eE];clear eE;clear hf;dsimp only[fY,cd,ncr,ncs,ncx,Tryz.f105]
 go_wp2_with fail
 refine cS Ho.o ?_;clear Ho;go_wp2;exact Hret.o _ _ _ _ rfl rfl rfl He.o
theorem rQ {c:UInt8} (hs:s.size<=1048576) (hf:LnF a s n v (i:Int)) (hc:s.data.toList[i]? =some c) (hg0:Glob w0) (hR:RT w0 w 121 v ts) (hts:ts.length<=100000000) (hx:x=eH s.data.toList n ts i) (hJ:Lm w0 s n i ts x Q)
 (h:bP (s.data.toList.drop i)=false) (hd:eW (s.data.toList.drop i)=true):fY.wp Tryz.prog Q a w:=by
 have hi:i<s.size:=by rw[<-an];exact (aAh hc).1
 have Ho:=hid (me w s i (by omega));rw[h]at Ho;have hidx:=aN (s:=s) (i:Int) rfl hc;have wi1:=aW (z:=(i:Int)+1) (by omega) (by omega);have HJ:=hid hJ;have HG:=hid hg0;have HR1:=hid hR;have Hown:=hid (fun o=>hR.row.alloc o);have Hts:=hid (show ts.length<=1000000000 by omega);obtain ⟨j,hj⟩:=ex (i+1+aT (s.data.toList.drop (i+1)));have Hj:=hid (show j<=s.size by rw[hj,<-an];exact gL (by rw[an];omega))
 have Hij:=hid (show i<j by omega);have Hx:=hid (show x=eH s.data.toList n (ts++[⟨2,n,(i:Int),[],false⟩]) j by rw[hx,ue h hd,hj]);have Hb:=hid (fun w1=>jJ w1 s i hs (by omega));rw[<-hj]at Hb;have Hl:=hid (show (ts++[(⟨2,n,(i:Int),[],false⟩:Tok)]).length<=ts.length+1 by simp);have t1:((c.toNat:Int)==45)=true:=by
  rw[beq_iff_eq];by_cases h45:c.toNat=45
  ·omega
  ·rw[FY hc h45]at hd;cases hd
 have T2:Hid ((((i:Int)+1==(s.size:Int))=true)\/(((i:Int)+1==(s.size:Int))=false/\∃d:UInt8,s.data.toList[i+1]? =some d/\((d.toNat:Int)==32)=true)):=hid (by
  by_cases hl1:i+1=s.size
  ·exact .inl (by rw[beq_iff_eq];omega)
  ·obtain ⟨d,hdd⟩:=dL (s:=s) (k:=i+1) (by omega);rw[uN hc hdd]at hd;have:=(of_decide_eq_true hd).2;exact .inr ⟨bF (by omega),d,hdd,by rw[beq_iff_eq];omega⟩)
 clear hs hc hg0 hR hts hx hJ h hd hi hj;rcases T2.o with t2|⟨t2,d,hdd,t3⟩
 ·clear T2;obtain ⟨vv,rfl,eE⟩:=hf.shape;simp only[fa,eE];clear eE;clear hf;dsimp only[fY,cd,ncr,ncs,ncx,Tryz.f105]
  go_wp2_with fail
  refine cS Ho.o ?_;clear Ho
  go_wp2_with (first|(go_at_call 141;refine cS (Hb.o _) ?_)|(at_builtin;refine ew rfl _ _ 67 121 rfl Tryz.underlying67 eI v ts rfl (Hown.o _) _ ⟨2,n,(i:Int),[],false⟩ rfl (ah _) Hts.o ?_;intro v' w2 own2 gr2 new2;have HR2:=hid (RT.app HR1.o own2 gr2 new2);have Hg2:=hid (iO HR1.o HG.o gr2);clear own2 gr2 new2))
  go_step3
  exact HJ.o _ _ _ _ j ⟨rfl,rfl,rfl,rfl,rfl,rfl⟩ Hij.o Hj.o HR2.o Hl.o Hx.o Hg2.o
 ·have hidx1:=aN (s:=s) ((i:Int)+1) (by omega) hdd;clear T2 hdd;obtain ⟨vv,rfl,eE⟩:=hf.shape;simp only[fa,eE];clear eE;clear hf;dsimp only[fY,cd,ncr,ncs,ncx,Tryz.f105]
  go_wp2_with fail
  refine cS Ho.o ?_;clear Ho
  go_wp2_with (first|(go_at_call 141;refine cS (Hb.o _) ?_)|(at_builtin;refine ew rfl _ _ 67 121 rfl Tryz.underlying67 eI v ts rfl (Hown.o _) _ ⟨2,n,(i:Int),[],false⟩ rfl (ah _) Hts.o ?_;intro v' w2 own2 gr2 new2;have HR2:=hid (RT.app HR1.o own2 gr2 new2);have Hg2:=hid (iO HR1.o HG.o gr2);clear own2 gr2 new2))
  go_step3
  exact HJ.o _ _ _ _ j ⟨rfl,rfl,rfl,rfl,rfl,rfl⟩ Hij.o Hj.o HR2.o Hl.o Hx.o Hg2.o
theorem rO {c:UInt8} (hs:s.size<=1048576) (hf:LnF a s n v (i:Int)) (hc:s.data.toList[i]? =some c) (hg0:Glob w0) (hg:Glob w) (hR:RT w0 w 121 v ts) (hts:ts.length<=100000000) (hx:x=eH s.data.toList n ts i) (hret:iR w0 x Q) (hJ:JM w0 s n ts x Q)
 (h:bP (s.data.toList.drop i)=false) (hd:eW (s.data.toList.drop i)=false):fY.wp Tryz.prog Q a w:=by
 have hi:i<s.size:=by rw[<-an];exact (aAh hc).1
 have Ho:=hid (me w s i (by omega));rw[h]at Ho;have hidx:=aN (s:=s) (i:Int) rfl hc;have wi1:=aW (z:=(i:Int)+1) (by omega) (by omega);have hx2:x=fI s.data.toList n ts i:=by rw[hx,pc (fun q=>by rw[hd]at q;cases q.2)]
 have Hkey:=hid (fun (a':Act) (hf':LnG a' s n v (i:Int))=>(show fo.wp Tryz.prog Q a' w from by
  by_cases hq:c.toNat=34\/c.toNat=39
  ·exact tV hs hf' hc hg0 hg hR hts hx2 hret hJ h hq
  ·exact tW hs hf' hc hg0 hg hR hts hx2 hret h (fun e=>hq (.inl e)) (fun e=>hq (.inr e))))
 have T1:Hid ((((c.toNat:Int)==45)=false)\/(((c.toNat:Int)==45)=true/\((i:Int)+1==(s.size:Int))=false/\∃d:UInt8,s.data.toList[i+1]? =some d/\((d.toNat:Int)==32)=false)):=hid (by
  by_cases h45:c.toNat=45
  ·by_cases hl1:i+1=s.size
   ·rw[DD hc (by rw[an];omega),dT h45]at hd;cases hd
   ·obtain ⟨d,hdd⟩:=dL (s:=s) (k:=i+1) (by omega);rw[uN hc hdd]at hd;have:=of_decide_eq_false hd;exact .inr ⟨by rw[beq_iff_eq];omega,bF (by omega),d,hdd,bF (by omega)⟩
  ·exact .inl (bF (by omega)))
 clear hs hc hg0 hg hR hts hx hret hJ h hd hi hx2;rcases T1.o with t1|⟨t1,t2,d,hdd,t3⟩
 ·clear T1;obtain ⟨vv,rfl,eE⟩:=hf.shape;simp only[fa,eE];clear eE;clear hf;dsimp only[fY,cd,ncr,ncs,ncx,Tryz.f105]
  go_wp2_with fail
  refine cS Ho.o ?_;clear Ho
  go_upto_if 61 with (fail)
  refine wp_cond_false rfl ?_;refine wp_skip ?_;refine (by assumption:∀(a:Act) (w:World),fo.wp Tryz.prog Q a w->_) _ _ ?_;exact Hkey.o _ ⟨rfl,rfl,rfl,rfl,rfl,rfl,rfl⟩
 ·have hidx1:=aN (s:=s) ((i:Int)+1) (by omega) hdd;clear T1 hdd;obtain ⟨vv,rfl,eE⟩:=hf.shape;simp only[fa,eE];clear eE;clear hf;dsimp only[fY,cd,ncr,ncs,ncx,Tryz.f105]
  go_wp2_with fail
  refine cS Ho.o ?_;clear Ho
  go_upto_if 61 with (fail)
  refine wp_cond_false rfl ?_;refine wp_skip ?_;refine (by assumption:∀(a:Act) (w:World),fo.wp Tryz.prog Q a w->_) _ _ ?_;exact Hkey.o _ ⟨rfl,rfl,rfl,rfl,rfl,rfl,rfl⟩
theorem xW (hs:s.size<=1048576) (hf:LnF a s n v (i:Int)) (hi:i<=s.size) (hg0:Glob w0) (hg:Glob w) (hR:RT w0 w 121 v ts) (hts:ts.length<=100000000) (hx:x=eH s.data.toList n ts i) (hret:iR w0 x Q) (hJ0:Lm w0 s n i ts x Q) (hJ1:JM w0 s n ts x Q):fY.wp Tryz.prog Q a w:=by
 cases h:bP (s.data.toList.drop i) with
 |true=>exact rP hf hi hR hx hret h
 |false=>
  have hlt:i<s.size:=by
   rcases Nat.lt_or_ge i s.size with q|q
   ·exact q
   ·rw[jx (by rw[an];omega)]at h;cases h
  obtain ⟨c,hc⟩:=dL hlt;cases hd:eW (s.data.toList.drop i) with
  |true=>exact rQ hs hf hc hg0 hR hts hx hJ0 h hd
  |false=>exact rO hs hf hc hg0 hg hR hts hx hret hJ1 h hd
def lP (w0:World) (s:ByteArray) (n:Int) (x:Except Int (List Tok)) (l:Nat) (a:Act) (w:World):Prop:=
 ∃(v:Value) (ts:List Tok) (i:Nat),LnF a s n v ((i:Nat):Int)/\i<=s.size/\Glob w/\RT w0 w 121 v ts/\((l=0/\ts.length<=i/\x=eH s.data.toList n ts i)\/(l=1/\ts.length<=s.size+1/\x=dP s.data.toList n ts i))
def im (s:ByteArray) (l:Nat) (a:Act) (_:World):Nat:=if l=0 then s.size+2-(intOf (a.tmps.getD 6 undef)).toNat else 0
theorem xV {s:ByteArray} {n:Int} {v:Value} {i:Nat} {a:Act} {w:World} (h:LnF a s n v (i:Int)):im s 0 a w=s.size+2-i:=by
 unfold im;rw[if_pos rfl,nW h.s6];rfl
theorem Ft (hs:s.size<=1048576) (hg0:Glob w0) {Q0:Exit->Act->World->Prop} (hret:iR w0 x Q0) {body:Code} (h0:findLabel body 0=some (Code.skip.seq fY)) (h1:findLabel body 1=some (Code.skip.seq fg)) (l:Nat) (hI:lP w0 s n x l a w):
 ∃rest,findLabel body l=some rest/\rest.wp Tryz.prog (Exit.jumps (fun l' a' w'=>lP w0 s n x l' a' w'/\im s l' a' w'<im s l a w) Q0) a w:=by
 obtain ⟨v,ts,i,hf,hi,hg,hR,⟨rfl,hl,hx⟩|⟨rfl,hl,hx⟩⟩:=hI
 ·have hm:=xV (w:=w) hf;refine ⟨_,h0,wp_seq (wp_skip (xW hs hf hi hg0 hg hR (by omega) hx (fun a' w' v e q1 q2 q3 q4=>hret a' w' v e q1 q2 q3 q4) ?_ ?_))⟩
  ·intro a' w' v' ts' i' f' h1 h2 h3 h4 h5 h6;refine ⟨⟨v',ts',i',f',h2,h6,h3,.inl ⟨rfl,by omega,h5⟩⟩,?_⟩;rw[hm,xV f'];omega
  ·intro a' w' v' ts' i' f' h1 h2 h3 h4 h5;refine ⟨⟨v',ts',i',f',h1,h5,h2,.inr ⟨rfl,by omega,h4⟩⟩,?_⟩;rw[hm];unfold im;rw[if_neg (by decide)];omega
 ·exact ⟨_,h1,wp_seq (wp_skip (xU hs hf hi hg hR (by omega) hx (fun a' w' v e q1 q2 q3 q4=>hret a' w' v e q1 q2 q3 q4)))⟩
theorem Fh (l:List UInt8):je l=(Lib.hasPrefix l [45,45,45]&&(l.drop (3+aT (l.drop 3))==[]||(decide (0<aT (l.drop 3))&&bP (l.drop (3+aT (l.drop 3)))))):=by
 match l with
 |[]=>rfl
 |[a]=>simp[je,Lib.hasPrefix,List.isPrefixOf]
 |[a,b]=>simp[je,Lib.hasPrefix,List.isPrefixOf]
 |a::b::c::r=>
  have h1:Lib.hasPrefix (a::b::c::r) [45,45,45]=decide (a.toNat=45/\b.toNat=45/\c.toNat=45):=by
   have key:∀z:UInt8,((45:UInt8)==z)=decide (z.toNat=45):=fun z=>by
    rw[Bool.eq_iff_iff,beq_iff_eq,decide_eq_true_eq];exact ⟨fun h=>by rw[<-h];rfl,fun h=>by apply UInt8.toNat_inj.1;rw[h];rfl⟩
   simp only[Lib.hasPrefix,List.isPrefixOf,key,Bool.and_true];simp
  rw[h1]
  show (decide (a.toNat=45/\b.toNat=45/\c.toNat=45)&&(r.drop (aT r)==[]||(decide (0<aT r)&&bP (r.drop (aT r)))))=_
  have h2:(a::b::c::r).drop 3=r:=rfl;rw[h2,show (a::b::c::r).drop (3+aT r)=r.drop (aT r) by rw[Nat.add_comm];rfl]
theorem row_one {w:World} {T:TypeId} (t:Tok):(w.alloc (.cells t.cells.toArray T)).ownsRow 0 T 5 (.slice (some ⟨w.heap.size,0,none⟩) 1 1) 1 t.cells:=
 ⟨rfl,.inr ⟨w.heap.size,1,t.cells.toArray,rfl,Nat.zero_le _,ah _,aAa _,by unfold maxLen;omega,rfl,rfl⟩⟩
theorem Iy {w w1:World} {T:TypeId} (hb:Below w.heap.size w w1) (t:Tok):RT w (w1.alloc (.cells t.cells.toArray T)) T (.slice (some ⟨w1.heap.size,0,none⟩) 1 1) [t]:=by
 refine ⟨hb.alloc hb.size _,?_,fun g hg=> ?_⟩
 ·show (w1.alloc _).ownsRow 0 T 5 _ 1 (toks [t])
  rw[show toks [t]=t.cells by simp[toks]];exact row_one t
 ·obtain rfl:w1.heap.size=g:=aAf hg;exact hb.size
theorem fH {w0:World} {x:Except Int (List Tok)}:iR w0 x (bodyPost Tryz.prog Tryz.f105 fun r w'=>fS w0 121 x r w'):=by
 intro a' w' v e hd h4 h5 hp;refine bodyPost_ret (v:= .tuple #[v,.int .i64 e]) ?_ hd hp;rw[results_tmp2 rfl,nW h4,nW h5]
end
theorem CE (w:World) (s:ByteArray) (n:Int) (hs:s.size<=1048576) (hg:Glob w):
 Calls Tryz.prog 105 #[.string s,.int .i64 n] w (fS w 121 (du s.data.toList n)):=by
 obtain ⟨x,hx⟩:=ex (du s.data.toList n);have Hsd:=hid (Eu w s hs);rw[<-hx];by_cases hso:eG s.data.toList≠0
 ·have t0:(eG s.data.toList != 0)=true:=by rw[bne_iff_ne];exact hso
  have He:=hid (jy (w:=w) (T:= 121) (show x= .error (eG s.data.toList) by rw[hx];unfold du;rw[if_pos hso]) (aAb _ w));generalize eG s.data.toList=z at*;clear hx hso hs hg;go_enter Tryz.func105,Tryz.ntmps105
  go_wp2_with fail
  refine cP (fun _ _ _=>False) (fun _ _ _=>0) ?_ (fun _ _ _ h=>h.elim)
  go_wp2_with fail
  refine cS Hsd.o ?_;clear Hsd;go_wp2;simp only[Exit.jumps]
  go_ret2
  exact He.o
 have hso0:eG s.data.toList=0:=Decidable.not_not.1 hso;rw[hso0]at Hsd;have Hpf:=hid (Tryz.strings_HasPrefix s ⟨#[45,45,45]⟩ w);have hmk:=Fh s.data.toList;have Hlater:=hid (show je s.data.toList=false->∀a',LnF a' s n (.slice none 0 0) ((aT s.data.toList:Nat):Int)->∀(Q0:Exit->Act->World->Prop),iR w x Q0->fY.wp Tryz.prog (Exit.jumps (lP w s n x) Q0) a' w from fun hm a' hf Q0 hret=>by
  have hxi:x=eH s.data.toList n [] (aT s.data.toList):=by rw[hx,wM hso0 hm]
  have hsk:aT s.data.toList<=s.size:=by rw[<-an];exact sV _
  refine xW hs hf hsk hg hg (RO.first _ _ _) (by simp) hxi (fun a' w' v e q1 q2 q3 q4=>hret a' w' v e q1 q2 q3 q4) ?_ ?_
  ·intro a' w' v' ts' i' f' h1 h2 h3 h4 h5 h6;exact ⟨v',ts',i',f',h2,h6,h3,.inl ⟨rfl,by simp at h4;omega,h5⟩⟩
  ·intro a' w' v' ts' i' f' h1 h2 h3 h4 h5;exact ⟨v',ts',i',f',h1,h5,h2,.inr ⟨rfl,by simp at h3;omega,h4⟩⟩)
 have Hpass:=hid (fun (Q0:Exit->Act->World->Prop) (hret:iR w x Q0) (body:Code) (h0:findLabel body 0=some (Code.skip.seq fY)) (h1:findLabel body 1=some (Code.skip.seq fg)) (l:Nat) (a':Act) (w':World) (hI:lP w s n x l a' w')=>Ft hs hg hret h0 h1 l hI);have Hb0:=hid (show Calls Tryz.prog 141 #[.string s,.int .i64 0] w fun r w'=>r= .returned (.int .i64 ((aT s.data.toList:Nat):Int))/\w'=w from by
  have:=lK w s 0 hs (Nat.zero_le _);rw[Nat.zero_add,List.drop_zero]at this;exact this)
 cases hpre:Lib.hasPrefix s.data.toList [45,45,45] with
 |false=>
  have HM:je s.data.toList=false:=by rw[hmk,hpre];rfl
  have hpre':Lib.hasPrefix s.data.toList (⟨#[45,45,45]⟩:ByteArray).data.toList=false:=hpre;rw[hpre']at Hpf;have HM:=HM;clear hmk hpre hpre' hx hso hso0 hs hg;go_enter Tryz.func105,Tryz.ntmps105
  go_wp2_with fail
  refine cP (lP w s n x) (im s) ?_ (fun l a' w' hI=>Hpass.o _ fH _ rfl rfl l a' w' hI)
  go_wp2_with fail
  refine cS Hsd.o ?_;clear Hsd
  go_wp2_with fail
  refine cS Hpf.o ?_;clear Hpf
  go_wp2_with fail
  refine cS Hb0.o ?_;clear Hb0;go_wp2;refine wp_label ?_
  rename_i hK
  refine hK _ _ ?_;exact Hlater.o HM _ ⟨rfl,rfl,rfl,rfl,rfl,rfl⟩ _ fH
 |true=>
  have hpre':Lib.hasPrefix s.data.toList (⟨#[45,45,45]⟩:ByteArray).data.toList=true:=hpre;rw[hpre']at Hpf;have h3:3<=s.size:=by
   have h1:=List.IsPrefix.length_le (by simpa[Lib.hasPrefix] using hpre:[45,45,45] <+:s.data.toList);rw[an]at h1;exact h1
  rw[hpre,Bool.true_and]at hmk;obtain ⟨k,hk⟩:=ex (3+aT (s.data.toList.drop 3));have hks:k<=s.size:=by rw[hk,<-an];exact gL (by rw[an];omega)
  have Hb3:=hid (show Calls Tryz.prog 141 #[.string s,.int .i64 3] w fun r w'=>r= .returned (.int .i64 (k:Int))/\w'=w from by
   have:=lK w s 3 hs h3;rw[<-hk]at this;exact this)
  rw[<-hk]at hmk;have hyes:je s.data.toList=true->Hid (fS w 121 x (.returned (.tuple #[.slice (some ⟨w.heap.size,0,none⟩) 1 1,.int .i64 0])) (w.alloc (.cells (Tok.cells ⟨1,n,0,[],false⟩).toArray 121))):=fun hm=>hid (jZ (by rw[hx];unfold du;rw[if_neg (by omega),if_pos hm]) (Iy (aAb _ _) _));by_cases hend:k=s.size
  ·have t1:((k:Int)==(s.size:Int))=true:=by rw[beq_iff_eq];omega
   have hm:je s.data.toList=true:=by rw[hmk,dropEnd (by rw[an];omega)];rfl
   have He:=hyes hm;clear hyes hm hmk hpre hpre' hx hso hso0 hs hg h3 hk hks hend Hb0 Hlater;go_enter Tryz.func105,Tryz.ntmps105
   go_wp2_with fail
   refine cP (lP w s n x) (im s) ?_ (fun l a' w' hI=>Hpass.o _ fH _ rfl rfl l a' w' hI)
   go_wp2_with fail
   refine cS Hsd.o ?_;clear Hsd
   go_wp2_with fail
   refine cS Hpf.o ?_;clear Hpf
   go_wp2_with fail
   refine cS Hb3.o ?_;clear Hb3;go_wp2;simp only[Exit.jumps]
   go_ret2
   exact He.o
  ·have t1:((k:Int)==(s.size:Int))=false:=bF (by omega);obtain ⟨d,hd⟩:=dL (s:=s) (k:=k) (by omega);have hidx:=aN (s:=s) (k:Int) rfl hd;have hov:=nS hd;have hdr:(s.data.toList.drop k==[])=false:=by rw[bT hd];rfl
   by_cases h30:3<k
   ·have t2:decide ((3:Int)<(k:Int))=true:=dT (by omega);by_cases h35:d.toNat=35
    ·have t3:((d.toNat:Int)==35)=true:=by rw[beq_iff_eq];omega
     have hm:je s.data.toList=true:=by rw[hmk,hov,dT h35,dT (show 0<aT (s.data.toList.drop 3) by omega)];simp
     have He:=hyes hm;clear hyes hm hmk hpre hpre' hx hso hso0 hs hg h3 hk hks hend hd hov hdr h30 h35 Hb0 Hlater;go_enter Tryz.func105,Tryz.ntmps105
     go_wp2_with fail
     refine cP (lP w s n x) (im s) ?_ (fun l a' w' hI=>Hpass.o _ fH _ rfl rfl l a' w' hI)
     go_wp2_with fail
     refine cS Hsd.o ?_;clear Hsd
     go_wp2_with fail
     refine cS Hpf.o ?_;clear Hpf
     go_wp2_with fail
     refine cS Hb3.o ?_;clear Hb3;go_wp2;simp only[Exit.jumps]
     go_ret2
     exact He.o
    ·have t3:((d.toNat:Int)==35)=false:=bF (by omega);have HM:je s.data.toList=false:=by rw[hmk,hov,dF h35,hdr];simp
     clear hyes hmk hpre hpre' hx hso hso0 hs hg h3 hk hks hend hd hov hdr h30 h35;go_enter Tryz.func105,Tryz.ntmps105
     go_wp2_with fail
     refine cP (lP w s n x) (im s) ?_ (fun l a' w' hI=>Hpass.o _ fH _ rfl rfl l a' w' hI)
     go_wp2_with fail
     refine cS Hsd.o ?_;clear Hsd
     go_wp2_with fail
     refine cS Hpf.o ?_;clear Hpf
     go_wp2_with fail
     refine cS Hb3.o ?_;clear Hb3
     go_wp2_with fail
     refine cS Hb0.o ?_;clear Hb0;go_wp2;refine wp_label ?_
     rename_i hK
     refine hK _ _ ?_;exact Hlater.o HM _ ⟨rfl,rfl,rfl,rfl,rfl,rfl⟩ _ fH
   ·have t2:decide ((3:Int)<(k:Int))=false:=dF (by omega);have HM:je s.data.toList=false:=by rw[hmk,hdr,dF (show ¬0<aT (s.data.toList.drop 3) by omega)];rfl
    clear hyes hmk hpre hpre' hx hso hso0 hs hg h3 hk hks hend hd hov hdr h30;go_enter Tryz.func105,Tryz.ntmps105
    go_wp2_with fail
    refine cP (lP w s n x) (im s) ?_ (fun l a' w' hI=>Hpass.o _ fH _ rfl rfl l a' w' hI)
    go_wp2_with fail
    refine cS Hsd.o ?_;clear Hsd
    go_wp2_with fail
    refine cS Hpf.o ?_;clear Hpf
    go_wp2_with fail
    refine cS Hb3.o ?_;clear Hb3
    go_wp2_with fail
    refine cS Hb0.o ?_;clear Hb0;go_wp2;refine wp_label ?_
    rename_i hK
    refine hK _ _ ?_;exact Hlater.o HM _ ⟨rfl,rfl,rfl,rfl,rfl,rfl⟩ _ fH
theorem Fy {t:List UInt8} {e:Int} (h:rT t= .error e):e=82:=by
 unfold rT at h
 split at h
 ·split at h
  ·cases h;rfl
  ·cases h
 ·cases h
theorem Bs {t:List UInt8} {e:Int} (h:iC t= .error e):e≠0:=by
 unfold iC at h
 split at h
 ·cases h
 ·split at h
  ·split at h
   ·cases h;decide
   ·split at h
    ·cases h;decide
    ·cases h
  ·split at h
   ·cases h;decide
   ·cases h
theorem yo {l:List UInt8} {n:Int} {ts:List Tok} {i:Nat} {e:Int} (h:dP l n ts i= .error e):e≠0:=by
 unfold dP at h
 split at h
 ·rename_i e' he
  have:=Bs he;cases h;exact this
 ·cases h
 ·cases h
theorem CF {l:List UInt8} {n e:Int} (h:du l n= .error e):e≠0:=by
 unfold du at h
 split at h
 ·rename_i h0
  cases h;exact h0
 ·split at h
  ·cases h
  ·unfold fI at h
   split at h
   ·cases h
   ·split at h
    ·rename_i e' he
     have:=Fy he;cases h;omega
    ·exact yo h
    ·exact yo h
def pN (s:ByteArray) (x:Except Int (List Tok)):Bool:=
 match x with
 | .ok [t]=>decide (t.kind=4)&& !t.quoted&&decide (t.text=s.data.toList)
 |_=>false
theorem we (s:ByteArray):fV s.data.toList=pN s (du s.data.toList 1):=by
 unfold fV pN;cases du s.data.toList 1 with
 |error e=>rfl
 |ok ts=>
  match ts with
  |[]=>rfl
  |[t]=>rfl
  |a::b::r=>rfl
theorem tok_at {w0 w:World} {T:TypeId} {v:Value} {t:Tok} (h:RT w0 w T v [t]):∃g c,v= .slice (some ⟨g,0,none⟩) 1 c/\w.cell? ⟨g,0,none⟩=some (.int .i64 t.kind)/\w.cell? ⟨g,4,none⟩=some (.bool t.quoted)/\w.cell? ⟨g,3,none⟩=some (.string ⟨t.text.toArray⟩):=by
 have hr:w.ownsRow 0 T 5 v 1 (toks [t]):=h.row;rcases hr.2 with ⟨_,h0⟩|⟨g,cap,cur,hv,_⟩
 ·omega
 ·subst hv;exact ⟨g,cap,rfl,by rw[hr.cellAt 0 (by omega)];rfl,by rw[hr.cellAt 4 (by omega)];rfl,by rw[hr.cellAt 3 (by omega)];rfl⟩
theorem cR {w:World} {B T sz n:Nat} {v:Value} {xs:List Value} (h:w.ownsRow B T sz v n xs):∃ao c,v= .slice ao n c:=by
 rcases h.2 with ⟨hv,h0⟩|⟨g,cap,cur,hv,_⟩
 ·exact ⟨none,0,by rw[hv,h0]⟩
 ·exact ⟨_,_,hv⟩
theorem tL (w:World) (s:ByteArray) (hs:s.size<=1048576) (hg:Glob w):
 Calls Tryz.prog 111 #[.string s] w fun r w'=>r= .returned (.bool (fV s.data.toList))/\Below w.heap.size w w':=by
 have Hl:=hid (CE w s 1 hs hg);rw[we];obtain ⟨x,hx⟩:=ex (du s.data.toList 1);have Hne:=hid (fun e (h:x= .error e)=>CF (hx.symm.trans h));rw[<-hx]at Hl |-;clear hx hs hg;go_enter Tryz.func111,Tryz.ntmps111;cases x with
 |error e=>
  have t1:(e==0)=false:=by rw[beq_eq_false_iff_ne];exact Hne.o e rfl
  clear Hne
  go_wp2_with fail
  refine Hl.o.mono ?_;rintro r w1 ⟨hb,rfl⟩;have Hb:=hid hb;clear hb Hl;go_wp2;go_ret;exact ⟨rfl,Hb.o⟩
 |ok ts=>
  clear Hne;rcases ts with _|⟨t,_|⟨b,tl⟩⟩
  ·go_wp2_with fail
   refine Hl.o.mono ?_;rintro r w1 ⟨v,hr,rfl⟩;obtain ⟨ao,cap,rfl⟩:=cR hr.row;have Hb:=hid hr.below;clear hr Hl;go_wp2;go_ret;exact ⟨rfl,Hb.o⟩
  ·have HP:=hid (show (t.kind==4&& !t.quoted&&t.text==s.toList)=pN s (.ok [t]) from by
    rw[Lib.toList_data]
    show _=(decide (t.kind=4)&& !t.quoted&&decide (t.text=s.data.toList))
    rw[show (t.kind==4)=decide (t.kind=4) by rw[Bool.eq_iff_iff,beq_iff_eq,decide_eq_true_eq],show (t.text==s.data.toList)=decide (t.text=s.data.toList) by rw[Bool.eq_iff_iff,beq_iff_eq,decide_eq_true_eq]])
   cases hk:(t.kind==4) with
   |false=>
    rw[hk]at HP
    go_wp2_with fail
    refine Hl.o.mono ?_;rintro r w1 ⟨v,hr,rfl⟩;obtain ⟨g,cap,rfl,c0,c4,c3⟩:=tok_at hr;have Hb:=hid hr.below;clear hr Hl;go_wp2;go_ret;exact ⟨eD HP.o,Hb.o⟩
   |true=>
    cases hq:t.quoted with
    |true=>
     rw[hk,hq]at HP
     go_wp2_with fail
     refine Hl.o.mono ?_;rintro r w1 ⟨v,hr,rfl⟩;obtain ⟨g,cap,rfl,c0,c4,c3⟩:=tok_at hr;have Hb:=hid hr.below;rw[hq]at c4;clear hr Hl;go_wp2;go_ret;exact ⟨eD HP.o,Hb.o⟩
    |false=>
     cases hx:(t.text==s.toList) with
     |true=>
      rw[hk,hq,hx]at HP
      go_wp2_with fail
      refine Hl.o.mono ?_;rintro r w1 ⟨v,hr,rfl⟩;obtain ⟨g,cap,rfl,c0,c4,c3⟩:=tok_at hr;have Hb:=hid hr.below;rw[hq]at c4;clear hr Hl;go_wp2;go_ret;exact ⟨eD HP.o,Hb.o⟩
     |false=>
      rw[hk,hq,hx]at HP
      go_wp2_with fail
      refine Hl.o.mono ?_;rintro r w1 ⟨v,hr,rfl⟩;obtain ⟨g,cap,rfl,c0,c4,c3⟩:=tok_at hr;have Hb:=hid hr.below;rw[hq]at c4;clear hr Hl;go_wp2;go_ret;exact ⟨eD HP.o,Hb.o⟩
  ·go_wp2_with fail
   refine Hl.o.mono ?_;rintro r w1 ⟨v,hr,rfl⟩;obtain ⟨ao,cap,rfl⟩:=cR hr.row;have Hb:=hid hr.below;obtain ⟨m,hm⟩:=ex ((t::b::tl).length);have t1:((m:Int)==1)=false:=by rw[beq_eq_false_iff_ne,hm];simp only[aAd];omega
   rw[<-hm];clear hr Hl hm;go_wp2;go_ret;exact ⟨rfl,Hb.o⟩
theorem gz {s:ByteArray} (h:s=⟨#[]⟩):s.toList=[]/\s.toList.isEmpty=true/\(!s.toList.isEmpty)=false:=by
 have h0:s.toList=[]:=by rw[Lib.toList_data,h]
 exact ⟨h0,by rw[h0];rfl,by rw[h0];rfl⟩
theorem gH {s:ByteArray} (h:s≠⟨#[]⟩):¬s.toList=[]/\s.toList.isEmpty=false/\(!s.toList.isEmpty)=true:=by
 have h0:¬s.toList=[]:=fun q=>h (by
  rw[Lib.toList_data]at q;apply ByteArray.ext;apply Array.ext';exact q)
 have h1:s.toList.isEmpty=false:=by cases hq:s.toList with|nil=>exact absurd hq h0|cons a b=>rfl
 exact ⟨h0,h1,by rw[h1];rfl⟩
theorem gQ {w:World} {v:Value} {l:List Int} (h:SlR w v 1 l aP):∃ao c,v= .slice ao l.length c/\l.length<=1048576:=by
 obtain ⟨ao,c,hv,hl,_⟩:=h;exact ⟨ao,c,hv,hl⟩
theorem Ao (w:World) (m:NdM) (hm:m.Ok w) (hg:Glob w):
 Calls Tryz.prog 95 #[m.v] w fun r w'=>r= .returned (.bool (dd m.nd))/\Below w.heap.size w w':=by
 obtain ⟨ao,c,hkv,_⟩:=gQ hm.kids;have hts:=hm.text;obtain ⟨⟨kind,key,text,quoted,line,kids⟩,kv⟩:=m;simp only at hkv hts;subst hkv;unfold NdM.v;simp only;have hv:dd ⟨kind,key,text,quoted,line,kids⟩=(decide (kids=[])&&(quoted||decide (text=⟨#[]⟩)||fV text.data.toList)):=rfl;have Hpl:=hid (fun w1 (hb:Below w.heap.size w w1)=>tL w1 text hts (hg.later hb));have Hb0:=hid (fun o=>(aAb w.heap.size w).alloc (aAa _) o)
 rw[hv];clear hv hm hg;by_cases hk:kids=[]
 ·have t0:((kids.length:Int)==0)=true:=by rw[hk];rfl
  rw[dT hk,Bool.true_and];clear hk hts;generalize kids.length=n at*;cases quoted with
  |true=>
   clear Hpl;go_enter Tryz.func95,Tryz.ntmps95;go_wp2;go_ret;exact ⟨rfl,Hb0.o _⟩
  |false=>
   by_cases ht:text=⟨#[]⟩
   ·obtain ⟨e1,e2,e3⟩:=gz ht;have E1:=hid e1;rw[dT ht];clear ht Hpl;go_enter Tryz.func95,Tryz.ntmps95;go_wp2;go_ret;exact ⟨rfl,Hb0.o _⟩
   ·obtain ⟨e1,e2,e3⟩:=gH ht;rw[dF ht];clear ht;generalize fV text.data.toList=pb at*;go_enter Tryz.func95,Tryz.ntmps95
    go_wp2_with fail
    refine (Hpl.o _ (Hb0.o _)).mono ?_;rintro r w1 ⟨rfl,hb⟩;have Hb:=hid ((Hb0.o _).trans (hb.mono (Hb0.o _).size));clear hb Hpl;go_wp2;go_ret;exact ⟨rfl,Hb.o⟩
 ·have t0:((kids.length:Int)==0)=false:=by
   rw[beq_eq_false_iff_ne];intro q;exact hk (List.eq_nil_of_length_eq_zero (by omega))
  rw[dF hk];clear hk hts Hpl;generalize kids.length=n at*;go_enter Tryz.func95,Tryz.ntmps95;go_wp2;go_ret;exact ⟨rfl,Hb0.o _⟩
structure NdAt (w:World) (b p:Nat) (m:NdM):Prop where
 c0:w.cell? ⟨b,p,none⟩=some (.int .i64 m.nd.kind)
 c1:w.cell? ⟨b,p+1,none⟩=some (.string m.nd.key)
 c2:w.cell? ⟨b,p+2,none⟩=some (.string m.nd.text)
 c3:w.cell? ⟨b,p+3,none⟩=some (.bool m.nd.quoted)
 c4:w.cell? ⟨b,p+4,none⟩=some (.int .i64 m.nd.line)
 c5:w.cell? ⟨b,p+5,none⟩=some m.kv
theorem Nds.open {w:World} {v:Value} {ms:List NdM} (h:Nds w v ms):∃ao cap,v= .slice ao ms.length cap/\ms.length<=1048576/\
 (0<ms.length->∃b o,ao=some ⟨b,o,none⟩/\b<w.heap.size/\∀i m,ms[i]? =some m->NdAt w b (o+i*6) m/\m.Ok w):=by
 obtain ⟨ao,cap,hv,hl,hat⟩:=h.sl;refine ⟨ao,cap,hv,hl,fun h0=> ?_⟩;obtain ⟨b,o,ha,hlt,hc⟩:=hat h0;exact ⟨b,o,ha,hlt,fun i m hm=>⟨⟨hc i m hm 0 _ rfl,hc i m hm 1 _ rfl,hc i m hm 2 _ rfl,hc i m hm 3 _ rfl,hc i m hm 4 _ rfl,hc i m hm 5 _ rfl⟩,h.each m (List.mem_of_getElem? hm)⟩⟩
theorem aF {w:World} {v:Value} {l:List Int} (h:SlR w v 1 l aP):∃ao c,v= .slice ao l.length c/\l.length<=1048576/\
 (0<l.length->∃b o,ao=some ⟨b,o,none⟩/\b<w.heap.size/\∀i x,l[i]? =some x->w.cell? ⟨b,o+i,none⟩=some (.int .i64 x)):=by
 obtain ⟨ao,c,hv,hl,hat⟩:=h;refine ⟨ao,c,hv,hl,fun h0=> ?_⟩;obtain ⟨b,o,ha,hlt,hc⟩:=hat h0;refine ⟨b,o,ha,hlt,fun i x hx=> ?_⟩;have:=hc i x hx 0 _ rfl;rw[Nat.mul_one,Nat.add_zero]at this;exact this
theorem aM {k n:Nat} (h:k<n) (hk:k<=1048576):Hid (n-(intOf (.int .i64 (wrap64 ((k:Int)+1)))).toNat<n-(intOf (.int .i64 (k:Int))).toNat)/\Hid (Value.int .i64 (wrap64 ((k:Int)+1))= .int .i64 ((k+1:Nat):Int)):=by
 have wk:wrap64 ((k:Int)+1)=(k:Int)+1:=by unfold wrap64;omega
 exact ⟨hid (df h wk),hid (fh wk)⟩
theorem Bw {a b:ByteArray} (h:a=b):(a.toList==b.toList)=true:=by rw[h,beq_iff_eq]
theorem EE {a b:ByteArray} (h:¬a=b):(a.toList==b.toList)=false:=by
 rw[beq_eq_false_iff_ne];intro q;rw[Lib.toList_data,Lib.toList_data]at q;exact h (ByteArray.ext (Array.ext' q))
