/-
Parts of a proof, one behind the other (laid dense by a program of mine: pack.py).
-/
import Derived.Test.YtfenoaeoedobmaaGreatDoorRd14
set_option linter.unusedVariables false
set_option linter.unusedSimpArgs false
set_option maxHeartbeats 16000000
set_option maxRecDepth 100000
namespace Go.Proofs.YtfenoaeoedobmaaGreatDoor
open Go Go.RowKit
theorem dash_end {l:List UInt8} {i:Nat} {c:UInt8} (h:l[i]? =some c) (h2:l.length≤i+1):dashL (l.drop i)=decide (c.toNat=45):=by
 rw[dropAt h,dropEnd h2];rfl
theorem dash_two {l:List UInt8} {i:Nat} {c d:UInt8} (h:l[i]? =some c) (h2:l[i+1]? =some d):dashL (l.drop i)=decide (c.toNat=45∧d.toNat=32):=by
 rw[dropAt h,dropAt h2];rfl
theorem dash_no {l:List UInt8} {i:Nat} {c:UInt8} (h:l[i]? =some c) (hc:¬c.toNat=45):dashL (l.drop i)=false:=by
 rw[dropAt h];cases l.drop (i+1) with
 |nil=>exact dF hc
 |cons d r=>exact dF (fun q=>hc q.1)
theorem itemsR_over {l:List UInt8} {n:Int} {ts:List Tok} {i:Nat} (h:overL (l.drop i)=true):itemsR l n ts i= .ok ts:=by
 rw[itemsR_end (fun q=>by rw[h]at q;cases q.1)];unfold restL;rw[if_pos h]
section
variable {w0 w:World} {a:Act} {s:ByteArray} {n:Int} {v:Value} {i:Nat} {ts:List Tok} {x:Except Int (List Tok)} {Q:Exit→Act→World→Prop}
def LnJ0 (w0:World) (s:ByteArray) (n:Int) (i:Nat) (ts:List Tok) (x:Except Int (List Tok)) (Q:Exit→Act→World→Prop):Prop:=
 ∀a' w' v' ts' i',LnF a' s n v' ((i':Nat):Int)→i<i'→i'≤s.size→RT w0 w' 121 v' ts'→ts'.length≤ts.length+1→x=itemsR s.data.toList n ts' i'→Glob w'→Q (.goto 0) a' w'
theorem ln_item_over (hf:LnF a s n v (i:Int)) (hi:i≤s.size) (hR:RT w0 w 121 v ts) (hx:x=itemsR s.data.toList n ts i) (hret:LnRet w0 x Q) (h:overL (s.data.toList.drop i)=true):lnItem.wp Tryz.prog Q a w:=by
 have Ho:=hid (over_c w s i hi);rw[h]at Ho;have He:=hid (line_ok (hx.trans (itemsR_over h)) hR);have Hret:=hid hret;clear hi hR hx hret h;obtain ⟨vv,rfl⟩:=hf.shape;clear hf;dsimp only[lnItem,ncl,ncr,ncb,nco,nct,nce,ncs,ncx,Tryz.f105]
 go_wp2_with fail
 refine cS Ho.out ?_;clear Ho;go_wp2;exact Hret.out _ _ _ _ rfl rfl rfl He.out
theorem ln_item_dash {c:UInt8} (hs:s.size≤1048576) (hf:LnF a s n v (i:Int)) (hc:s.data.toList[i]? =some c) (hg0:Glob w0) (hR:RT w0 w 121 v ts) (hts:ts.length≤100000000) (hx:x=itemsR s.data.toList n ts i) (hJ:LnJ0 w0 s n i ts x Q)
 (h:overL (s.data.toList.drop i)=false) (hd:dashL (s.data.toList.drop i)=true):lnItem.wp Tryz.prog Q a w:=by
 have hi:i<s.size:=by rw[←len_str];exact (List.getElem?_eq_some_iff.1 hc).1
 have Ho:=hid (over_c w s i (by omega));rw[h]at Ho;have hidx:=idx_run' (s:=s) (i:Int) rfl hc;have wi1:=wrap_ok (z:=(i:Int)+1) (by omega) (by omega);have HJ:=hid hJ;have HG:=hid hg0;have HR1:=hid hR;have Hown:=hid (fun o=>hR.row.alloc o);have Hts:=hid (show ts.length≤1000000000 by omega);obtain ⟨j,hj⟩:∃j,j=i+1+skipN (s.data.toList.drop (i+1)):=⟨_,rfl⟩;have Hj:=hid (show j≤s.size by rw[hj,←len_str];exact skip_fit (by rw[len_str];omega))
 have Hij:=hid (show i<j by omega);have Hx:=hid (show x=itemsR s.data.toList n (ts++[⟨2,n,(i:Int),[],false⟩]) j by rw[hx,itemsR_step h hd,hj]);have Hb:=hid (fun w1=>blanks_k w1 s i hs (by omega));rw[←hj]at Hb;have Hl:=hid (show (ts++[(⟨2,n,(i:Int),[],false⟩:Tok)]).length≤ts.length+1 by simp);have t1:((c.toNat:Int)==45)=true:=by
  rw[beq_iff_eq];by_cases h45:c.toNat=45
  ·omega
  ·rw[dash_no hc h45]at hd;cases hd
 have T2:Hid ((((i:Int)+1==(s.size:Int))=true)∨(((i:Int)+1==(s.size:Int))=false∧∃d:UInt8,s.data.toList[i+1]? =some d∧((d.toNat:Int)==32)=true)):=hid (by
  by_cases hl1:i+1=s.size
  ·exact .inl (by rw[beq_iff_eq];omega)
  ·obtain ⟨d,hdd⟩:=at_lt (s:=s) (k:=i+1) (by omega);rw[dash_two hc hdd]at hd;have:=(of_decide_eq_true hd).2;exact .inr ⟨bF (by omega),d,hdd,by rw[beq_iff_eq];omega⟩)
 clear hs hc hg0 hR hts hx hJ h hd hi hj;rcases T2.out with t2|⟨t2,d,hdd,t3⟩
 ·clear T2;obtain ⟨vv,rfl⟩:=hf.shape;clear hf;dsimp only[lnItem,ncl,ncr,ncb,nco,nct,nce,ncs,ncx,Tryz.f105]
  go_wp2_with fail
  refine cS Ho.out ?_;clear Ho
  go_wp2_with (first|(go_at_call 141;refine cS (Hb.out _) ?_)|(at_builtin;refine tokAppend rfl _ _ 67 121 rfl Tryz.underlying67 tok_info v ts rfl (Hown.out _) _ ⟨2,n,(i:Int),[],false⟩ rfl (alloc_new _) Hts.out ?_;intro v' w2 own2 gr2 new2;have HR2:=hid (RT.app HR1.out own2 gr2 new2);have Hg2:=hid (app_glob HR1.out HG.out gr2);clear own2 gr2 new2))
  go_step3
  exact HJ.out _ _ _ _ j ⟨rfl,rfl,rfl,rfl,rfl,rfl⟩ Hij.out Hj.out HR2.out Hl.out Hx.out Hg2.out
 ·have hidx1:=idx_run' (s:=s) ((i:Int)+1) (by omega) hdd;clear T2 hdd;obtain ⟨vv,rfl⟩:=hf.shape;clear hf;dsimp only[lnItem,ncl,ncr,ncb,nco,nct,nce,ncs,ncx,Tryz.f105]
  go_wp2_with fail
  refine cS Ho.out ?_;clear Ho
  go_wp2_with (first|(go_at_call 141;refine cS (Hb.out _) ?_)|(at_builtin;refine tokAppend rfl _ _ 67 121 rfl Tryz.underlying67 tok_info v ts rfl (Hown.out _) _ ⟨2,n,(i:Int),[],false⟩ rfl (alloc_new _) Hts.out ?_;intro v' w2 own2 gr2 new2;have HR2:=hid (RT.app HR1.out own2 gr2 new2);have Hg2:=hid (app_glob HR1.out HG.out gr2);clear own2 gr2 new2))
  go_step3
  exact HJ.out _ _ _ _ j ⟨rfl,rfl,rfl,rfl,rfl,rfl⟩ Hij.out Hj.out HR2.out Hl.out Hx.out Hg2.out
theorem ln_item_rest {c:UInt8} (hs:s.size≤1048576) (hf:LnF a s n v (i:Int)) (hc:s.data.toList[i]? =some c) (hg0:Glob w0) (hg:Glob w) (hR:RT w0 w 121 v ts) (hts:ts.length≤100000000) (hx:x=itemsR s.data.toList n ts i) (hret:LnRet w0 x Q) (hJ:LnJ1 w0 s n ts x Q)
 (h:overL (s.data.toList.drop i)=false) (hd:dashL (s.data.toList.drop i)=false):lnItem.wp Tryz.prog Q a w:=by
 have hi:i<s.size:=by rw[←len_str];exact (List.getElem?_eq_some_iff.1 hc).1
 have Ho:=hid (over_c w s i (by omega));rw[h]at Ho;have hidx:=idx_run' (s:=s) (i:Int) rfl hc;have wi1:=wrap_ok (z:=(i:Int)+1) (by omega) (by omega);have hx2:x=restL s.data.toList n ts i:=by rw[hx,itemsR_end (fun q=>by rw[hd]at q;cases q.2)]
 have Hkey:=hid (fun (a':Act) (hf':LnG a' s n v (i:Int))=>(show lnKey.wp Tryz.prog Q a' w from by
  by_cases hq:c.toNat=34∨c.toNat=39
  ·exact ln_key_quot hs hf' hc hg0 hg hR hts hx2 hret hJ h hq
  ·exact ln_key_name hs hf' hc hg0 hg hR hts hx2 hret h (fun e=>hq (.inl e)) (fun e=>hq (.inr e))))
 have T1:Hid ((((c.toNat:Int)==45)=false)∨(((c.toNat:Int)==45)=true∧((i:Int)+1==(s.size:Int))=false∧∃d:UInt8,s.data.toList[i+1]? =some d∧((d.toNat:Int)==32)=false)):=hid (by
  by_cases h45:c.toNat=45
  ·by_cases hl1:i+1=s.size
   ·rw[dash_end hc (by rw[len_str];omega),dT h45]at hd;cases hd
   ·obtain ⟨d,hdd⟩:=at_lt (s:=s) (k:=i+1) (by omega);rw[dash_two hc hdd]at hd;have:=of_decide_eq_false hd;exact .inr ⟨by rw[beq_iff_eq];omega,bF (by omega),d,hdd,bF (by omega)⟩
  ·exact .inl (bF (by omega)))
 clear hs hc hg0 hg hR hts hx hret hJ h hd hi hx2;rcases T1.out with t1|⟨t1,t2,d,hdd,t3⟩
 ·clear T1;obtain ⟨vv,rfl⟩:=hf.shape;clear hf;dsimp only[lnItem,ncl,ncr,ncb,nco,nct,nce,ncs,ncx,Tryz.f105]
  go_wp2_with fail
  refine cS Ho.out ?_;clear Ho
  go_upto_if 61 with (fail)
  refine wp_cond_false rfl ?_;refine wp_skip ?_;refine (by assumption:∀(a:Act) (w:World),lnKey.wp Tryz.prog Q a w→_) _ _ ?_;exact Hkey.out _ ⟨rfl,rfl,rfl,rfl,rfl,rfl,rfl⟩
 ·have hidx1:=idx_run' (s:=s) ((i:Int)+1) (by omega) hdd;clear T1 hdd;obtain ⟨vv,rfl⟩:=hf.shape;clear hf;dsimp only[lnItem,ncl,ncr,ncb,nco,nct,nce,ncs,ncx,Tryz.f105]
  go_wp2_with fail
  refine cS Ho.out ?_;clear Ho
  go_upto_if 61 with (fail)
  refine wp_cond_false rfl ?_;refine wp_skip ?_;refine (by assumption:∀(a:Act) (w:World),lnKey.wp Tryz.prog Q a w→_) _ _ ?_;exact Hkey.out _ ⟨rfl,rfl,rfl,rfl,rfl,rfl,rfl⟩
theorem ln_item (hs:s.size≤1048576) (hf:LnF a s n v (i:Int)) (hi:i≤s.size) (hg0:Glob w0) (hg:Glob w) (hR:RT w0 w 121 v ts) (hts:ts.length≤100000000) (hx:x=itemsR s.data.toList n ts i) (hret:LnRet w0 x Q) (hJ0:LnJ0 w0 s n i ts x Q) (hJ1:LnJ1 w0 s n ts x Q):lnItem.wp Tryz.prog Q a w:=by
 cases h:overL (s.data.toList.drop i) with
 |true=>exact ln_item_over hf hi hR hx hret h
 |false=>
  have hlt:i<s.size:=by
   rcases Nat.lt_or_ge i s.size with q|q
   ·exact q
   ·rw[over_end (by rw[len_str];omega)]at h;cases h
  obtain ⟨c,hc⟩:=at_lt hlt;cases hd:dashL (s.data.toList.drop i) with
  |true=>exact ln_item_dash hs hf hc hg0 hR hts hx hJ0 h hd
  |false=>exact ln_item_rest hs hf hc hg0 hg hR hts hx hret hJ1 h hd
def LnInv (w0:World) (s:ByteArray) (n:Int) (x:Except Int (List Tok)) (l:Nat) (a:Act) (w:World):Prop:=
 ∃(v:Value) (ts:List Tok) (i:Nat),LnF a s n v ((i:Nat):Int)∧i≤s.size∧Glob w∧RT w0 w 121 v ts∧((l=0∧ts.length≤i∧x=itemsR s.data.toList n ts i)∨(l=1∧ts.length≤s.size+1∧x=endL s.data.toList n ts i))
def lnMeas (s:ByteArray) (l:Nat) (a:Act) (_:World):Nat:=if l=0 then s.size+2-(intOf (a.tmps.getD 6 undef)).toNat else 0
theorem ln_meas {s:ByteArray} {n:Int} {v:Value} {i:Nat} {a:Act} {w:World} (h:LnF a s n v (i:Int)):lnMeas s 0 a w=s.size+2-i:=by
 unfold lnMeas;rw[if_pos rfl,getD_of h.s6];rfl
theorem ln_pass (hs:s.size≤1048576) (hg0:Glob w0) {Q0:Exit→Act→World→Prop} (hret:LnRet w0 x Q0) {body:Code} (h0:findLabel body 0=some (Code.skip.seq lnItem)) (h1:findLabel body 1=some (Code.skip.seq lnTail)) (l:Nat) (hI:LnInv w0 s n x l a w):
 ∃rest,findLabel body l=some rest∧rest.wp Tryz.prog (Exit.jumps (fun l' a' w'=>LnInv w0 s n x l' a' w'∧lnMeas s l' a' w'<lnMeas s l a w) Q0) a w:=by
 obtain ⟨v,ts,i,hf,hi,hg,hR,⟨rfl,hl,hx⟩|⟨rfl,hl,hx⟩⟩:=hI
 ·have hm:=ln_meas (w:=w) hf;refine ⟨_,h0,wp_seq (wp_skip (ln_item hs hf hi hg0 hg hR (by omega) hx (fun a' w' v e q1 q2 q3 q4=>hret a' w' v e q1 q2 q3 q4) ?_ ?_))⟩
  ·intro a' w' v' ts' i' f' h1 h2 h3 h4 h5 h6;refine ⟨⟨v',ts',i',f',h2,h6,h3,.inl ⟨rfl,by omega,h5⟩⟩,?_⟩;rw[hm,ln_meas f'];omega
  ·intro a' w' v' ts' i' f' h1 h2 h3 h4 h5;refine ⟨⟨v',ts',i',f',h1,h5,h2,.inr ⟨rfl,by omega,h4⟩⟩,?_⟩;rw[hm];unfold lnMeas;rw[if_neg (by decide)];omega
 ·exact ⟨_,h1,wp_seq (wp_skip (ln_tail hs hf hi hg hR (by omega) hx (fun a' w' v e q1 q2 q3 q4=>hret a' w' v e q1 q2 q3 q4)))⟩
theorem mark_eq (l:List UInt8):markL l=(Lib.hasPrefix l [45,45,45]&&(l.drop (3+skipN (l.drop 3))==[]||(decide (0<skipN (l.drop 3))&&overL (l.drop (3+skipN (l.drop 3)))))):=by
 match l with
 |[]=>rfl
 |[a]=>simp[markL,Lib.hasPrefix,List.isPrefixOf]
 |[a,b]=>simp[markL,Lib.hasPrefix,List.isPrefixOf]
 |a::b::c::r=>
  have h1:Lib.hasPrefix (a::b::c::r) [45,45,45]=decide (a.toNat=45∧b.toNat=45∧c.toNat=45):=by
   have key:∀z:UInt8,((45:UInt8)==z)=decide (z.toNat=45):=fun z=>by
    rw[Bool.eq_iff_iff,beq_iff_eq,decide_eq_true_eq];exact ⟨fun h=>by rw[←h];rfl,fun h=>by apply UInt8.toNat_inj.1;rw[h];rfl⟩
   simp only[Lib.hasPrefix,List.isPrefixOf,key,Bool.and_true];simp
  rw[h1]
  show (decide (a.toNat=45∧b.toNat=45∧c.toNat=45)&&(r.drop (skipN r)==[]||(decide (0<skipN r)&&overL (r.drop (skipN r)))))=_
  have h2:(a::b::c::r).drop 3=r:=rfl;rw[h2,show (a::b::c::r).drop (3+skipN r)=r.drop (skipN r) by rw[Nat.add_comm];rfl]
theorem row_one {w:World} {T:TypeId} (t:Tok):(w.alloc (.cells t.cells.toArray T)).ownsRow 0 T 5 (.slice (some ⟨w.heap.size,0,none⟩) 1 1) 1 t.cells:=
 ⟨rfl,.inr ⟨w.heap.size,1,t.cells.toArray,rfl,Nat.zero_le _,alloc_new _,Nat.le_refl _,by unfold maxLen;omega,rfl,rfl⟩⟩
theorem rt_one {w w1:World} {T:TypeId} (hb:Below w.heap.size w w1) (t:Tok):RT w (w1.alloc (.cells t.cells.toArray T)) T (.slice (some ⟨w1.heap.size,0,none⟩) 1 1) [t]:=by
 refine ⟨hb.alloc hb.size _,?_,fun g hg=> ?_⟩
 ·show (w1.alloc _).ownsRow 0 T 5 _ 1 (toks [t])
  rw[show toks [t]=t.cells by simp[toks]];exact row_one t
 ·obtain rfl:w1.heap.size=g:=Option.some.inj hg;exact hb.size
theorem ret_line {w0:World} {x:Except Int (List Tok)}:LnRet w0 x (bodyPost Tryz.prog Tryz.f105 fun r w'=>LinePost w0 121 x r w'):=by
 intro a' w' v e hd h4 h5 hp;refine bodyPost_ret (v:= .tuple #[v,.int .i64 e]) ?_ hd hp;rw[results_tmp2 rfl,getD_of h4,getD_of h5]
end
theorem line_c (w:World) (s:ByteArray) (n:Int) (hs:s.size≤1048576) (hg:Glob w):
 Calls Tryz.prog 105 #[.string s,.int .i64 n] w (LinePost w 121 (lineL s.data.toList n)):=by
 obtain ⟨x,hx⟩:∃x,x=lineL s.data.toList n:=⟨_,rfl⟩;have Hsd:=hid (sound_c w s hs);rw[←hx];by_cases hso:soundL s.data.toList≠0
 ·have t0:(soundL s.data.toList != 0)=true:=by rw[bne_iff_ne];exact hso
  have He:=hid (line_err (w:=w) (T:= 121) (show x= .error (soundL s.data.toList) by rw[hx];unfold lineL;rw[if_pos hso]) (Below.refl _ w));generalize soundL s.data.toList=z at*;clear hx hso hs hg;go_enter Tryz.func105,Tryz.ntmps105
  go_wp2_with fail
  refine wp_scope_labels (fun _ _ _=>False) (fun _ _ _=>0) ?_ (fun _ _ _ h=>h.elim)
  go_wp2_with fail
  refine cS Hsd.out ?_;clear Hsd;go_wp2;simp only[Exit.jumps]
  go_ret2
  exact He.out
 have hso0:soundL s.data.toList=0:=Decidable.not_not.1 hso;rw[hso0]at Hsd;have Hpf:=hid (Tryz.strings_HasPrefix s ⟨#[45,45,45]⟩ w);have hmk:=mark_eq s.data.toList;have Hlater:=hid (show markL s.data.toList=false→∀a',LnF a' s n (.slice none 0 0) ((skipN s.data.toList:Nat):Int)→∀(Q0:Exit→Act→World→Prop),LnRet w x Q0→lnItem.wp Tryz.prog (Exit.jumps (LnInv w s n x) Q0) a' w from fun hm a' hf Q0 hret=>by
  have hxi:x=itemsR s.data.toList n [] (skipN s.data.toList):=by rw[hx,line_items hso0 hm]
  have hsk:skipN s.data.toList≤s.size:=by rw[←len_str];exact skipN_le _
  refine ln_item hs hf hsk hg hg (RO.first _ _ _) (by simp) hxi (fun a' w' v e q1 q2 q3 q4=>hret a' w' v e q1 q2 q3 q4) ?_ ?_
  ·intro a' w' v' ts' i' f' h1 h2 h3 h4 h5 h6;exact ⟨v',ts',i',f',h2,h6,h3,.inl ⟨rfl,by simp at h4;omega,h5⟩⟩
  ·intro a' w' v' ts' i' f' h1 h2 h3 h4 h5;exact ⟨v',ts',i',f',h1,h5,h2,.inr ⟨rfl,by simp at h3;omega,h4⟩⟩)
 have Hpass:=hid (fun (Q0:Exit→Act→World→Prop) (hret:LnRet w x Q0) (body:Code) (h0:findLabel body 0=some (Code.skip.seq lnItem)) (h1:findLabel body 1=some (Code.skip.seq lnTail)) (l:Nat) (a':Act) (w':World) (hI:LnInv w s n x l a' w')=>ln_pass hs hg hret h0 h1 l hI);have Hb0:=hid (show Calls Tryz.prog 141 #[.string s,.int .i64 0] w fun r w'=>r= .returned (.int .i64 ((skipN s.data.toList:Nat):Int))∧w'=w from by
  have:=blanks_c w s 0 hs (Nat.zero_le _);rw[Nat.zero_add,List.drop_zero]at this;exact this)
 cases hpre:Lib.hasPrefix s.data.toList [45,45,45] with
 |false=>
  have HM:markL s.data.toList=false:=by rw[hmk,hpre];rfl
  have hpre':Lib.hasPrefix s.data.toList (⟨#[45,45,45]⟩:ByteArray).data.toList=false:=hpre;rw[hpre']at Hpf;have HM:=HM;clear hmk hpre hpre' hx hso hso0 hs hg;go_enter Tryz.func105,Tryz.ntmps105
  go_wp2_with fail
  refine wp_scope_labels (LnInv w s n x) (lnMeas s) ?_ (fun l a' w' hI=>Hpass.out _ ret_line _ rfl rfl l a' w' hI)
  go_wp2_with fail
  refine cS Hsd.out ?_;clear Hsd
  go_wp2_with fail
  refine cS Hpf.out ?_;clear Hpf
  go_wp2_with fail
  refine cS Hb0.out ?_;clear Hb0;go_wp2;refine wp_label ?_
  rename_i hK
  refine hK _ _ ?_;exact Hlater.out HM _ ⟨rfl,rfl,rfl,rfl,rfl,rfl⟩ _ ret_line
 |true=>
  have hpre':Lib.hasPrefix s.data.toList (⟨#[45,45,45]⟩:ByteArray).data.toList=true:=hpre;rw[hpre']at Hpf;have h3:3≤s.size:=by
   have h1:=List.IsPrefix.length_le (by simpa[Lib.hasPrefix] using hpre:[45,45,45] <+:s.data.toList);rw[len_str]at h1;exact h1
  rw[hpre,Bool.true_and]at hmk;obtain ⟨k,hk⟩:∃k,k=3+skipN (s.data.toList.drop 3):=⟨_,rfl⟩;have hks:k≤s.size:=by rw[hk,←len_str];exact skip_fit (by rw[len_str];omega)
  have Hb3:=hid (show Calls Tryz.prog 141 #[.string s,.int .i64 3] w fun r w'=>r= .returned (.int .i64 (k:Int))∧w'=w from by
   have:=blanks_c w s 3 hs h3;rw[←hk]at this;exact this)
  rw[←hk]at hmk;have hyes:markL s.data.toList=true→Hid (LinePost w 121 x (.returned (.tuple #[.slice (some ⟨w.heap.size,0,none⟩) 1 1,.int .i64 0])) (w.alloc (.cells (Tok.cells ⟨1,n,0,[],false⟩).toArray 121))):=fun hm=>hid (line_ok (by rw[hx];unfold lineL;rw[if_neg (by omega),if_pos hm]) (rt_one (Below.refl _ _) _));by_cases hend:k=s.size
  ·have t1:((k:Int)==(s.size:Int))=true:=by rw[beq_iff_eq];omega
   have hm:markL s.data.toList=true:=by rw[hmk,dropEnd (by rw[len_str];omega)];rfl
   have He:=hyes hm;clear hyes hm hmk hpre hpre' hx hso hso0 hs hg h3 hk hks hend Hb0 Hlater;go_enter Tryz.func105,Tryz.ntmps105
   go_wp2_with fail
   refine wp_scope_labels (LnInv w s n x) (lnMeas s) ?_ (fun l a' w' hI=>Hpass.out _ ret_line _ rfl rfl l a' w' hI)
   go_wp2_with fail
   refine cS Hsd.out ?_;clear Hsd
   go_wp2_with fail
   refine cS Hpf.out ?_;clear Hpf
   go_wp2_with fail
   refine cS Hb3.out ?_;clear Hb3;go_wp2;simp only[Exit.jumps]
   go_ret2
   exact He.out
  ·have t1:((k:Int)==(s.size:Int))=false:=bF (by omega);obtain ⟨d,hd⟩:=at_lt (s:=s) (k:=k) (by omega);have hidx:=idx_run' (s:=s) (k:Int) rfl hd;have hov:=over_at hd;have hdr:(s.data.toList.drop k==[])=false:=by rw[dropAt hd];rfl
   by_cases h30:3<k
   ·have t2:decide ((3:Int)<(k:Int))=true:=dT (by omega);by_cases h35:d.toNat=35
    ·have t3:((d.toNat:Int)==35)=true:=by rw[beq_iff_eq];omega
     have hm:markL s.data.toList=true:=by rw[hmk,hov,dT h35,dT (show 0<skipN (s.data.toList.drop 3) by omega)];simp
     have He:=hyes hm;clear hyes hm hmk hpre hpre' hx hso hso0 hs hg h3 hk hks hend hd hov hdr h30 h35 Hb0 Hlater;go_enter Tryz.func105,Tryz.ntmps105
     go_wp2_with fail
     refine wp_scope_labels (LnInv w s n x) (lnMeas s) ?_ (fun l a' w' hI=>Hpass.out _ ret_line _ rfl rfl l a' w' hI)
     go_wp2_with fail
     refine cS Hsd.out ?_;clear Hsd
     go_wp2_with fail
     refine cS Hpf.out ?_;clear Hpf
     go_wp2_with fail
     refine cS Hb3.out ?_;clear Hb3;go_wp2;simp only[Exit.jumps]
     go_ret2
     exact He.out
    ·have t3:((d.toNat:Int)==35)=false:=bF (by omega);have HM:markL s.data.toList=false:=by rw[hmk,hov,dF h35,hdr];simp
     clear hyes hmk hpre hpre' hx hso hso0 hs hg h3 hk hks hend hd hov hdr h30 h35;go_enter Tryz.func105,Tryz.ntmps105
     go_wp2_with fail
     refine wp_scope_labels (LnInv w s n x) (lnMeas s) ?_ (fun l a' w' hI=>Hpass.out _ ret_line _ rfl rfl l a' w' hI)
     go_wp2_with fail
     refine cS Hsd.out ?_;clear Hsd
     go_wp2_with fail
     refine cS Hpf.out ?_;clear Hpf
     go_wp2_with fail
     refine cS Hb3.out ?_;clear Hb3
     go_wp2_with fail
     refine cS Hb0.out ?_;clear Hb0;go_wp2;refine wp_label ?_
     rename_i hK
     refine hK _ _ ?_;exact Hlater.out HM _ ⟨rfl,rfl,rfl,rfl,rfl,rfl⟩ _ ret_line
   ·have t2:decide ((3:Int)<(k:Int))=false:=dF (by omega);have HM:markL s.data.toList=false:=by rw[hmk,hdr,dF (show ¬0<skipN (s.data.toList.drop 3) by omega)];rfl
    clear hyes hmk hpre hpre' hx hso hso0 hs hg h3 hk hks hend hd hov hdr h30;go_enter Tryz.func105,Tryz.ntmps105
    go_wp2_with fail
    refine wp_scope_labels (LnInv w s n x) (lnMeas s) ?_ (fun l a' w' hI=>Hpass.out _ ret_line _ rfl rfl l a' w' hI)
    go_wp2_with fail
    refine cS Hsd.out ?_;clear Hsd
    go_wp2_with fail
    refine cS Hpf.out ?_;clear Hpf
    go_wp2_with fail
    refine cS Hb3.out ?_;clear Hb3
    go_wp2_with fail
    refine cS Hb0.out ?_;clear Hb0;go_wp2;refine wp_label ?_
    rename_i hK
    refine hK _ _ ?_;exact Hlater.out HM _ ⟨rfl,rfl,rfl,rfl,rfl,rfl⟩ _ ret_line
noncomputable def rlRest:Code:=(ncr (ncr (ncr (ncr (ncx Tryz.f123.body)))))
theorem rl_act (a:Act) (hs:a.tmps.size=139) (hd:a.defers=[]):∃v:Nat→Value,(∀(i:Nat) (x:Value),a.tmps[i]? =some x→v i=x)∧a=⟨#[v 0,v 1,v 2,v 3,v 4,v 5,v 6,v 7,v 8,v 9,v 10,v 11,v 12,v 13,v 14,v 15,v 16,v 17,v 18,v 19,v 20,v 21,v 22,v 23,v 24,v 25,v 26,v 27,v 28,v 29,v 30,v 31,v 32,v 33,v 34,v 35,v 36,v 37,v 38,v 39,v 40,v 41,v 42,v 43,v 44,v 45,v 46,v 47,v 48,v 49,v 50,v 51,v 52,v 53,v 54,v 55,v 56,v 57,v 58,v 59,v 60,v 61,v 62,v 63,v 64,v 65,v 66,v 67,v 68,v 69,v 70,v 71,v 72,v 73,v 74,v 75,v 76,v 77,v 78,v 79,v 80,v 81,v 82,v 83,v 84,v 85,v 86,v 87,v 88,v 89,v 90,v 91,v 92,v 93,v 94,v 95,v 96,v 97,v 98,v 99,v 100,v 101,v 102,v 103,v 104,v 105,v 106,v 107,v 108,v 109,v 110,v 111,v 112,v 113,v 114,v 115,v 116,v 117,v 118,v 119,v 120,v 121,v 122,v 123,v 124,v 125,v 126,v 127,v 128,v 129,v 130,v 131,v 132,v 133,v 134,v 135,v 136,v 137,v 138],[]⟩:=by
 obtain ⟨t,d⟩:=a;obtain ⟨l⟩:=t;obtain rfl:d=[]:=hd;have hl:l.length=139:=hs;refine ⟨fun i=>l.getD i undef,fun i x hx=> ?_,?_⟩
 ·have hx':l[i]? =some x:=by simpa using hx
  simp[List.getD,hx']
 ·have e:l=(List.range 139).map (fun i=>l.getD i undef):=by
   apply List.ext_getElem
   ·simp[hl]
   ·intro i h1 h2;simp[List.getD,h1]
  generalize (fun i=>l.getD i undef)=v at e ⊢;subst e;rfl
structure RlF (a:Act) (s:ByteArray) (n:Int):Prop where
 size:a.tmps.size=139
 dfr:a.defers=[]
 s0:a.tmps[0]? =some (.string s)
 s1:a.tmps[1]? =some (.int .i64 n)
theorem RlF.shape {a:Act} {s:ByteArray} {n:Int} (h:RlF a s n):∃v:Nat→Value,a=⟨#[.string s,.int .i64 n,v 2,v 3,v 4,v 5,v 6,v 7,v 8,v 9,v 10,v 11,v 12,v 13,v 14,v 15,v 16,v 17,v 18,v 19,v 20,v 21,v 22,v 23,v 24,v 25,v 26,v 27,v 28,v 29,v 30,v 31,v 32,v 33,v 34,v 35,v 36,v 37,v 38,v 39,v 40,v 41,v 42,v 43,v 44,v 45,v 46,v 47,v 48,v 49,v 50,v 51,v 52,v 53,v 54,v 55,v 56,v 57,v 58,v 59,v 60,v 61,v 62,v 63,v 64,v 65,v 66,v 67,v 68,v 69,v 70,v 71,v 72,v 73,v 74,v 75,v 76,v 77,v 78,v 79,v 80,v 81,v 82,v 83,v 84,v 85,v 86,v 87,v 88,v 89,v 90,v 91,v 92,v 93,v 94,v 95,v 96,v 97,v 98,v 99,v 100,v 101,v 102,v 103,v 104,v 105,v 106,v 107,v 108,v 109,v 110,v 111,v 112,v 113,v 114,v 115,v 116,v 117,v 118,v 119,v 120,v 121,v 122,v 123,v 124,v 125,v 126,v 127,v 128,v 129,v 130,v 131,v 132,v 133,v 134,v 135,v 136,v 137,v 138],[]⟩:=by
 obtain ⟨v,hv,hd⟩:=rl_act a h.size h.dfr;have e0:=hv 0 _ h.s0;have e1:=hv 1 _ h.s1;refine ⟨v,?_⟩;rw[hd];simp only[e0,e1]
theorem line_form {w w':World} {T:TypeId} {x:Except Int (List Tok)} {r:Ending} (h:LinePost w T x r w'):∃p e,r= .returned (.tuple #[p,.int .i64 e]):=by
 cases x with
 |error e=>exact ⟨_,_,h.2⟩
 |ok ts=>
  obtain ⟨v,_,hr⟩:=h;exact ⟨_,_,hr⟩
theorem keyL_82 {t:List UInt8} {e:Int} (h:keyL t= .error e):e=82:=by
 unfold keyL at h
 split at h
 ·split at h
  ·cases h;rfl
  ·cases h
 ·cases h
theorem colonAt_pos {t:List UInt8} {k:Nat} (h:colonAt (t.drop k)=true):k<t.length:=by
 rcases Nat.lt_or_ge k t.length with q|q
 ·exact q
 ·rw[colonAt_end q]at h;cases h
theorem keyL_fit {t y:List UInt8} {q:Bool} {m:Nat} (h:keyL t= .ok (some (y,q,m))):m≤t.length:=by
 unfold keyL at h
 split at h
 ·split at h
  ·cases h
  ·rename_i x k _
   split at h
   ·rename_i hc
    have:=colonAt_pos hc;injection h with h
    injection h with h
    simp only[Prod.mk.injEq]at h;omega
   ·cases h
 ·split at h
  ·rename_i hc
   have:=colonAt_pos hc.2.2;injection h with h
   injection h with h
   simp only[Prod.mk.injEq]at h;omega
  ·cases h
theorem restL_key {l:List UInt8} {n:Int} {ts:List Tok} {i:Nat} (h:overL (l.drop i)=false):restL l n ts i=(match keyL (l.drop i) with
 | .error e=> .error e
 | .ok none=>endL l n ts i
 | .ok (some (x,q,m))=>endL l n (ts++[⟨3,n,(i:Int),x,q⟩]) (i+m+skipN (l.drop (i+m)))):=by
 unfold restL;rw[if_neg (by rw[h];decide)];cases keyL (l.drop i) with
 |error e=>rfl
 |ok o=>
  cases o with
  |none=>rfl
  |some p=>rfl
structure II (w0 w:World) (s:ByteArray) (n:Int) (x:Except Int (List Tok)) (v:Value) (ts:List Tok) (i:Nat):Prop where
 hi:i≤s.size
 row:RT w0 w 196 v ts
 len:ts.length≤i
 eq:x=itemsR s.data.toList n ts i
section
variable {w0 w:World} {a:Act} {s:ByteArray} {n:Int} {x:Except Int (List Tok)} {Q:Exit→Act→World→Prop}
def RlRet (w0:World) (x:Except Int (List Tok)) (Q:Exit→Act→World→Prop):Prop:=
 ∀a' w' v e,a'.defers=[]→a'.tmps[4]? =some v→a'.tmps[5]? =some (.int .i64 e)→LinePost w0 196 x (.returned (.tuple #[v,.int .i64 e])) w'→Q .ret a' w'
theorem rl_rest (hs:s.size≤1048576) (hf:RlF a s n) (hb:Below w0.heap.size w0 w) (hx:x=itemsR s.data.toList n [] (skipN s.data.toList)) (hret:RlRet w0 x Q):rlRest.wp Tryz.prog Q a w:=by
 have Hs:=hid hs;have Hret:=hid hret;have Hsk0:=hid (show Calls Tryz.prog 160 #[.string s,.int .i64 0] w fun r w'=>r= .returned (.int .i64 ((skipN s.data.toList:Nat):Int))∧w'=w from by
  have:=skip_c w s 0 hs (Nat.zero_le _);rw[Nat.zero_add,List.drop_zero]at this;exact this)
 have HI:=hid (show II w0 w s n x (.slice none 0 0) [] (skipN s.data.toList) from ⟨by rw[←len_str];exact skipN_le _,RO.start hb,Nat.zero_le _,hx⟩);clear hs hb hx hret;obtain ⟨vv,rfl⟩:=hf.shape;clear hf;dsimp only[rlRest,ncl,ncr,ncb,nco,nct,nce,ncs,ncx,Tryz.f123]
 go_wp2_with fail
 refine cS Hsk0.out ?_;clear Hsk0;go_wp2
 go_loopw [9,10] (fun vo vi wr=>∃(v:Value) (ts:List Tok) (i:Nat),v=vo∧vi= .int .i64 (i:Int)∧Hid (II w0 wr s n x v ts i)) (fun _ vi _=>s.size+1-(intOf vi).toNat)
 case atStart=>exact ⟨_,[],_,rfl,rfl,HI⟩
 case round=>
  obtain ⟨v,ts,i,rfl,rfl,H⟩:=hrel;have hs:=Hs.out;have hi:=H.out.hi;clear HI;have Hno:=hid (fun w1=>nothing_c w1 s i);cases hov:overL (s.data.toList.drop i) with
  |true=>
   rw[hov]at Hno;have He:=hid (line_ok (H.out.eq.trans (itemsR_over hov)) H.out.row);clear hs hi hov H
   go_wp2_with (go_at_call 161;refine cS (Hno.out _) ?_)
   exact Hret.out _ _ _ _ rfl rfl rfl He.out
  |false=>
   have hlt:i<s.size:=by
    rcases Nat.lt_or_ge i s.size with q|q
    ·exact q
    ·rw[over_end (by rw[len_str];omega)]at hov;cases hov
   obtain ⟨c,hc⟩:=at_lt hlt;have hidx:=idx_run' (s:=s) (i:Int) rfl hc;have Wi1:=hid (wrap_ok (z:=(i:Int)+1) (by omega) (by omega));rw[hov]at Hno;cases hd:dashL (s.data.toList.drop i) with
   |true=>
    obtain ⟨j,hj⟩:∃j,j=i+1+skipN (s.data.toList.drop (i+1)):=⟨_,rfl⟩;have hjs:j≤s.size:=by rw[hj,←len_str];exact skip_fit (by rw[len_str];omega)
    have Hb:=hid (show ∀w1,Calls Tryz.prog 160 #[.string s,.int .i64 ((i:Int)+1)] w1 fun r w'=>r= .returned (.int .i64 (j:Int))∧w'=w1 from fun w1=>by rw[hj];exact skip_c w1 s (i+1) hs (by omega));have Hts:=hid (show ts.length≤1000000000 by have:=H.out.len;omega);have HR1:=hid H.out.row;have Hown:=hid (fun o=>H.out.row.row.alloc o);have Hend:=hid (fun w2 v' (hr:RT w0 w2 196 v' (ts++[⟨2,n,(i:Int),[],false⟩]))=>show II w0 w2 s n x v' (ts++[⟨2,n,(i:Int),[],false⟩]) j from ⟨hjs,hr,by have:=H.out.len;simp;omega,by rw[H.out.eq,itemsR_step hov hd,hj]⟩)
    have Hms:=hid (show s.size+1-(intOf (.int .i64 (j:Int))).toNat<s.size+1-(intOf (.int .i64 (i:Int))).toNat by show s.size+1-((j:Nat):Int).toNat<s.size+1-((i:Nat):Int).toNat;omega);have t1:((c.toNat:Int)==45)=true:=by
     rw[beq_iff_eq];by_cases h45:c.toNat=45
     ·omega
     ·rw[dash_no hc h45]at hd;cases hd
    have T2:Hid ((((i:Int)+1==(s.size:Int))=true)∨(((i:Int)+1==(s.size:Int))=false∧∃d:UInt8,s.data.toList[i+1]? =some d∧((d.toNat:Int)==32)=true)):=hid (by
     by_cases hl1:i+1=s.size
     ·exact .inl (by rw[beq_iff_eq];omega)
     ·obtain ⟨d,hdd⟩:=at_lt (s:=s) (k:=i+1) (by omega);rw[dash_two hc hdd]at hd;have:=(of_decide_eq_true hd).2;exact .inr ⟨bF (by omega),d,hdd,by rw[beq_iff_eq];omega⟩)
    clear hs hi hov hlt hc hd hj hjs H;have wi1:=Wi1.out;rcases T2.out with t2|⟨t2,d,hdd,t3⟩
    ·clear T2
     go_wp2_with (first|(go_at_call 161;refine cS (Hno.out _) ?_)|(go_at_call 160;refine cS (Hb.out _) ?_)|(at_builtin;refine tokAppend rfl _ _ 193 196 rfl Tryz.underlying193 rtok_info v ts rfl (Hown.out _) _ ⟨2,n,(i:Int),[],false⟩ rfl (alloc_new _) Hts.out ?_;intro v' w2 own2 gr2 new2;have HR2:=hid (RT.app HR1.out own2 gr2 new2);clear own2 gr2 new2))
     go_roundw
     case rel=>exact ⟨_,_,j,rfl,rfl,hid (Hend.out _ _ HR2.out)⟩
     case measure=>exact Hms.out
    ·have hidx1:=idx_run' (s:=s) ((i:Int)+1) rfl hdd;clear T2 hdd
     go_wp2_with (first|(go_at_call 161;refine cS (Hno.out _) ?_)|(go_at_call 160;refine cS (Hb.out _) ?_)|(at_builtin;refine tokAppend rfl _ _ 193 196 rfl Tryz.underlying193 rtok_info v ts rfl (Hown.out _) _ ⟨2,n,(i:Int),[],false⟩ rfl (alloc_new _) Hts.out ?_;intro v' w2 own2 gr2 new2;have HR2:=hid (RT.app HR1.out own2 gr2 new2);clear own2 gr2 new2))
     go_roundw
     case rel=>exact ⟨_,_,j,rfl,rfl,hid (Hend.out _ _ HR2.out)⟩
     case measure=>exact Hms.out
   |false=>
    have hx2:x=restL s.data.toList n ts i:=by rw[H.out.eq,itemsR_end (fun q=>by rw[hd]at q;cases q.2)]
    rw[restL_key hov]at hx2;have T1:Hid ((((c.toNat:Int)==45)=false)∨(((c.toNat:Int)==45)=true∧((i:Int)+1==(s.size:Int))=false∧∃d:UInt8,s.data.toList[i+1]? =some d∧((d.toNat:Int)==32)=false)):=hid (by
     by_cases h45:c.toNat=45
     ·by_cases hl1:i+1=s.size
      ·rw[dash_end hc (by rw[len_str];omega),dT h45]at hd;cases hd
      ·obtain ⟨d,hdd⟩:=at_lt (s:=s) (k:=i+1) (by omega);rw[dash_two hc hdd]at hd;have:=of_decide_eq_false hd;exact .inr ⟨by rw[beq_iff_eq];omega,bF (by omega),d,hdd,bF (by omega)⟩
     ·exact .inl (bF (by omega)))
    have HT:Hid ((((c.toNat:Int)==45)=false∧True)∨(((c.toNat:Int)==45)=true∧((i:Int)+1==(s.size:Int))=false∧∃d:UInt8,(∀w,(Instr.index 9 (.string s) (.int .i64 ((i:Int)+1))).run Tryz.prog w= .ok (.int .u8 (d.toNat:Int)) w)∧((d.toNat:Int)==32)=false)):=hid (by
     rcases T1.out with h|⟨h1,h2,d,hdd,h3⟩
     ·exact .inl ⟨h,trivial⟩
     ·exact .inr ⟨h1,h2,d,idx_run' (s:=s) ((i:Int)+1) rfl hdd,h3⟩)
    have Hky:=hid (key_c wr s i c hs hc);have HRl:=hid (fun w1 (hb:Below wr.heap.size wr w1)=>RO.later H.out.row hb);have Hrow:=hid (fun w1 (hb:Below wr.heap.size wr w1) o=>(RO.later H.out.row hb).row.alloc o);have Hts:=hid (show ts.length≤100000000 by have:=H.out.len;omega);unfold KeyPost at Hky;cases hk:keyL (s.data.toList.drop i) with
    |error e=>
     obtain rfl:=keyL_82 hk;rw[hk]at hx2 Hky;have He:=hid (fun w1 (hb:Below wr.heap.size wr w1)=>line_err (T:= 196) hx2 (HRl.out w1 hb).below);clear hs hi hov hlt hc hd H hk T1 HRl Hrow hx2;have wi1:=Wi1.out;rcases HT.out with ⟨t1,_⟩|⟨t1,t2,d,hidx1,t3⟩
     all_goals
      clear HT
      go_wp2_with (go_at_call 161;refine cS (Hno.out _) ?_)
      refine Hky.out.mono ?_;rintro r w2 ⟨hb,rfl⟩;have He2:=hid (He.out _ hb);clear hb Hky He;unfold keyV;go_wp2;exact Hret.out _ _ _ _ rfl rfl rfl He2.out
    |ok ov=>
     cases ov with
     |none=>
      rw[hk]at hx2 Hky;have Hsc:=hid (fun w1 (hb:Below wr.heap.size wr w1)=>(show Calls Tryz.prog 163 #[v,.string s,.int .i64 (i:Int),.int .i64 n] w1 (LinePost w0 196 x) from by rw[hx2];exact scal_c hs hi (HRl.out w1 hb) (by have:=Hts.out;omega)));clear hs hi hov hlt hc hd H hk T1 HRl Hrow hx2;have wi1:=Wi1.out;rcases HT.out with ⟨t1,_⟩|⟨t1,t2,d,hidx1,t3⟩
      all_goals
       clear HT
       go_wp2_with (go_at_call 161;refine cS (Hno.out _) ?_)
       refine Hky.out.mono ?_;rintro r w2 ⟨hb,rfl⟩;have Hs2:=hid (Hsc.out _ hb);clear hb Hky Hsc;unfold keyV
       go_wp2_with fail
       refine Hs2.out.mono ?_;rintro r w3 hp;obtain ⟨p,e,rfl⟩:=line_form hp;have Hp:=hid hp;clear hp Hs2;go_wp2;exact Hret.out _ _ _ _ rfl rfl rfl Hp.out
     |some p=>
      obtain ⟨y,q,m⟩:=p;rw[hk]at hx2 Hky;have hm:=keyL_fit hk;rw[List.length_drop,len_str]at hm;obtain ⟨k,hkk⟩:∃k,k=i+m:=⟨_,rfl⟩;obtain ⟨j,hj⟩:∃j,j=k+skipN (s.data.toList.drop k):=⟨_,rfl⟩;have hjs:j≤s.size:=by rw[hj,←len_str];exact skip_fit (by rw[len_str];omega)
      have Hb:=hid (show ∀w1,Calls Tryz.prog 160 #[.string s,.int .i64 (k:Int)] w1 fun r w'=>r= .returned (.int .i64 (j:Int))∧w'=w1 from fun w1=>by rw[hj];exact skip_c w1 s k hs (by omega));have t9:decide ((0:Int)≤(k:Int))=true:=dT (by omega);have Hsc:=hid (fun w1 v' (hr:RT w0 w1 196 v' (ts++[⟨3,n,(i:Int),y,q⟩]))=>(show Calls Tryz.prog 163 #[v',.string s,.int .i64 (j:Int),.int .i64 n] w1 (LinePost w0 196 x) from by
       subst hj;subst hkk;rw[hx2];exact scal_c hs hjs hr (by have:=Hts.out;simp;omega)))
      have hkv:keyV i (.ok (some (y,q,m)))= .tuple #[.string ⟨y.toArray⟩,.bool q,.int .i64 (k:Int),.int .i64 0]:=by rw[hkk];rfl
      rw[hkv]at Hky;clear hkv hs hi hov hlt hc hd H hk T1 hm hj hjs hkk hx2;have Hts2:=hid (show ts.length≤1000000000 by have:=Hts.out;omega);have wi1:=Wi1.out;rcases HT.out with ⟨t1,_⟩|⟨t1,t2,d,hidx1,t3⟩
      all_goals
       clear HT
       go_wp2_with (go_at_call 161;refine cS (Hno.out _) ?_)
       refine Hky.out.mono ?_;rintro r w2 ⟨hb,rfl⟩;have Hown:=hid (Hrow.out _ hb);have HR1:=hid (HRl.out _ hb);clear hb Hky Hrow HRl
       go_wp2_with (first|(go_at_call 160;refine cS (Hb.out _) ?_)|(at_builtin;refine tokAppend rfl _ _ 193 196 rfl Tryz.underlying193 rtok_info v ts rfl (Hown.out _) _ ⟨3,n,(i:Int),y,q⟩ rfl (alloc_new _) Hts2.out ?_;intro v' w2 own2 gr2 new2;have Hs2:=hid (Hsc.out _ _ (RT.app HR1.out own2 gr2 new2));clear own2 gr2 new2))
       refine Hs2.out.mono ?_;rintro r w3 hp;obtain ⟨p,e,rfl⟩:=line_form hp;have Hp:=hid hp;clear hp Hs2;go_wp2;exact Hret.out _ _ _ _ rfl rfl rfl Hp.out
end
end Go.Proofs.YtfenoaeoedobmaaGreatDoor
