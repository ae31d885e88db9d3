/-
Parts of a proof, one behind the other (laid dense by a program of mine: pack.py).
-/
import Derived.Test.YtfenoaeoedobmaaGreatDoorRd13
set_option linter.unusedVariables false
set_option linter.unusedSimpArgs false
set_option maxHeartbeats 16000000
set_option maxRecDepth 100000
namespace Go.Proofs.YtfenoaeoedobmaaGreatDoor
open Go Go.RowKit
theorem rtok_info:(Tryz.prog.info? 196).map (fun i=>(i.zero,i.size,i.bytes))=some (some (.agg #[.int .i64 0,.int .i64 0,.int .i64 0,.string ⟨#[]⟩,.bool false]),5,48):=by kernel_rfl
theorem colon_bad:∀{u:List UInt8} {j:Nat} {c:UInt8},u[j]? =some c→c.toNat=58→(j+1=u.length∨∃d:UInt8,u[j+1]? =some d∧d.toNat=32)→colonL u=true
 |[],j,c,h,_,_=>by simp at h
 |[a],j,c,h,hc,_=>by
  cases j with
  |zero=>
   simp only[List.getElem?_cons_zero,Option.some.injEq]at h;subst h;exact dT hc
  |succ j=>simp at h
 |a::b::r,j,c,h,hc,hh=>by
  show (decide (a.toNat=58∧b.toNat=32)||colonL (b::r))=true
  cases j with
  |zero=>
   simp only[List.getElem?_cons_zero,Option.some.injEq]at h;subst h;rcases hh with hh|⟨d,hd,h32⟩
   ·simp at hh
   ·simp only[Nat.zero_add,List.getElem?_cons_succ,List.getElem?_cons_zero,Option.some.injEq]at hd;subst hd;rw[dT ⟨hc,h32⟩];rfl
  |succ j=>
   rw[List.getElem?_cons_succ]at h;have:=colon_bad (u:=b::r) h hc (by
    rcases hh with hh|⟨d,hd,h32⟩
    ·left;simp only[List.length_cons]at hh ⊢;omega
    ·right;rw[List.getElem?_cons_succ]at hd;exact ⟨d,hd,h32⟩)
   rw[this,Bool.or_true]
theorem colon_good:∀{u:List UInt8},(∀(j:Nat) (c:UInt8),u[j]? =some c→¬(c.toNat=58∧(j+1=u.length∨∃d:UInt8,u[j+1]? =some d∧d.toNat=32)))→colonL u=false
 |[],_=>rfl
 |[a],h=>dF fun hc=>h 0 a rfl ⟨hc,.inl rfl⟩
 |a::b::r,h=>by
  show (decide (a.toNat=58∧b.toNat=32)||colonL (b::r))=false
  rw[dF (fun q=>h 0 a rfl ⟨q.1,.inr ⟨b,rfl,q.2⟩⟩),Bool.false_or];refine colon_good fun j c hj q=>h (j+1) c (by rw[List.getElem?_cons_succ];exact hj) ⟨q.1,?_⟩;rcases q.2 with hh|⟨d,hd,h32⟩
  ·left;simp only[List.length_cons]at hh ⊢;omega
  ·right;exact ⟨d,by rw[List.getElem?_cons_succ];exact hd,h32⟩
theorem cut_step {c:UInt8} {r:List UInt8} (h:¬(c.toNat=32∧r.head? =some 35)):cutHash (c::r)=c::cutHash r:=by
 rw[cutHash.eq_def];simp only;rw[if_neg h]
theorem cut_stop {c:UInt8} {r:List UInt8} (h:c.toNat=32∧r.head? =some 35):cutHash (c::r)=[]:=by
 rw[cutHash.eq_def];simp only;rw[if_pos h]
structure EI (l:List UInt8) (i k e:Nat):Prop where
 ik:i≤k
 ie:i≤e
 ek:e≤k
 kn:k≤l.length
 cut:cutHash (l.drop i)=(l.drop i).take (k-i)++cutHash (l.drop k)
 strip:stripB ((l.drop i).take (k-i))=(l.drop i).take (e-i)
theorem EI.first {l:List UInt8} {i:Nat} (h:i≤l.length):EI l i i i:=⟨Nat.le_refl _,Nat.le_refl _,Nat.le_refl _,h,by simp,by simp[stripB]⟩
theorem EI.next {l:List UInt8} {i k e:Nat} {c:UInt8} (h:EI l i k e) (hc:l[k]? =some c) (hn:¬(c.toNat=32∧(l.drop (k+1)).head? =some 35)):EI l i (k+1) (if c.toNat=32 then e else k+1):=by
 have hk:=(List.getElem?_eq_some_iff.1 hc).1;have h1:=h.ik;have h2:=h.ie;have h3:=h.ek;have hd:(l.drop i)[k-i]? =some c:=by rw[List.getElem?_drop,show i+(k-i)=k by omega];exact hc
 have ht:=take_snoc hd;rw[show k-i+1=k+1-i by omega]at ht;refine ⟨by omega,by split<;>omega,by split<;>omega,hk,?_,?_⟩
 ·rw[h.cut,dropAt hc,cut_step hn,ht,List.append_assoc];rfl
 ·rw[ht,strip_snoc];by_cases h32:c.toNat=32
  ·rw[if_pos h32,if_pos h32];exact h.strip
  ·rw[if_neg h32,if_neg h32,←ht]
theorem EI.last {l:List UInt8} {i k e:Nat} (h:EI l i k e) (hs:cutHash (l.drop k)=[]):stripB (cutHash (l.drop i))=(l.drop i).take (e-i):=by
 rw[h.cut,hs,List.append_nil,h.strip]
section
variable {w0 w:World} {s:ByteArray} {n:Int} {v:Value} {i:Nat} {ts:List Tok}
theorem sc_ret2 {fn:Func} (h:fn.results=#[.tmp 8,.tmp 9]) {P:Program} {R:Ending→World→Prop} {a:Act} {w:World} {p q:Value} (h4:a.tmps[8]? =some p) (h5:a.tmps[9]? =some q) (hd:a.defers=[]) (hR:R (.returned (.tuple #[p,q])) w):bodyPost P fn R .ret a w:=
 bodyPost_ret (by rw[results_tmp2 h,getD_of h4,getD_of h5]) hd hR
theorem scal_over (hi:i≤s.size) (hR:RT w0 w 196 v ts) (h:overL (s.data.toList.drop i)=true):Calls Tryz.prog 163 #[v,.string s,.int .i64 (i:Int),.int .i64 n] w (LinePost w0 196 (endL s.data.toList n ts i)):=by
 have Ho:=hid (nothing_c w s i);rw[h]at Ho;have He:=hid (line_ok (endL_over (n:=n) (ts:=ts) h) hR);clear hi hR h;go_enter Tryz.func163,Tryz.ntmps163
 go_wp2_with fail
 refine cS Ho.out ?_;clear Ho;go_wp2;refine sc_ret2 rfl rfl rfl rfl ?_;exact He.out
theorem scal_quot {c:UInt8} (hs:s.size≤1048576) (hc:s.data.toList[i]? =some c) (hR:RT w0 w 196 v ts) (hts:ts.length≤1000000000) (h:overL (s.data.toList.drop i)=false) (h34:c.toNat=34∨c.toNat=39):Calls Tryz.prog 163 #[v,.string s,.int .i64 (i:Int),.int .i64 n] w (LinePost w0 196 (endL s.data.toList n ts i)):=by
 have hi:i<s.size:=by rw[←len_str];exact (List.getElem?_eq_some_iff.1 hc).1
 have Ho:=hid (nothing_c w s i);rw[h]at Ho;have hidx:=idx_run' (s:=s) (i:Int) rfl hc;have hq:isQuot (s.data.toList.drop i)=true:=by rw[isQuot_at hc];exact dT h34
 have Hp:=hid (rquoted_c w s i c hs hc h34);have Hts:=hid hts;have T1:Hid ((((c.toNat:Int)==34)=true)∨(((c.toNat:Int)==34)=false∧((c.toNat:Int)==39)=true)):=hid (by
  rcases h34 with e|e
  ·exact .inl (by rw[e];rfl)
  ·exact .inr ⟨by rw[e];rfl,by rw[e];rfl⟩)
 cases hp:quotL (s.data.toList.drop i) with
 |none=>
  have He:=hid (fun w1 (hb:Below w.heap.size w w1)=>line_err (T:= 196) (endL_quot (n:=n) (ts:=ts) h hq hp) (hR.below.trans (hb.mono hR.below.size)));unfold RQuoPost at Hp;rw[hp]at Hp;clear hs hc hR hts h h34 hi hq hp;rcases T1.out with t1|⟨t1,t2⟩
  all_goals
   clear T1;go_enter Tryz.func163,Tryz.ntmps163
   go_wp2_with fail
   refine cS Ho.out ?_;clear Ho
   go_wp2_with fail
   refine Hp.out.mono ?_;rintro r w1 ⟨hb,rfl⟩;have He2:=hid (He.out _ hb);clear hb Hp He;go_wp2;refine sc_ret2 rfl rfl rfl rfl ?_;exact He2.out
 |some p=>
  obtain ⟨y,m⟩:=p;have hm:=quotL_le hp;rw[List.length_drop,len_str]at hm;obtain ⟨k,hk⟩:∃k,k=i+m:=⟨_,rfl⟩;have Hb:=hid (fun w1=>skip_c w1 s k hs (by omega));obtain ⟨j,hj⟩:∃j,j=k+skipN (s.data.toList.drop k):=⟨_,rfl⟩;have hjl:j≤s.size:=by rw[hj,←len_str];exact skip_fit (by rw[len_str];omega)
  have t0:decide ((k:Int)<0)=false:=dF (by omega);have HR:=hid hR;have Hrow:=hid (fun w1 (hb:Below w.heap.size w w1) o=>(hR.later hb).row.alloc o);have Hlat:=hid (fun w1 (hb:Below w.heap.size w w1)=>hR.later hb);unfold RQuoPost at Hp;rw[hp]at Hp;simp only at Hp;rw[←hk]at Hp;rw[←hj]at Hb;have bad:∀(hB:s.data.toList.drop j≠[]∧(skipN (s.data.toList.drop k)=0∨overL (s.data.toList.drop j)=false)),Hid (∀w1,Below w.heap.size w w1→LinePost w0 196 (endL s.data.toList n ts i) (.returned (.tuple #[.slice none 0 0,.int .i64 82])) w1):=fun hB=>hid fun w1 hb=>by
   subst hj;subst hk;exact line_err (endL_bad h hq hp hB) (hR.below.trans (hb.mono hR.below.size))
  have good:∀(hB:¬(s.data.toList.drop j≠[]∧(skipN (s.data.toList.drop k)=0∨overL (s.data.toList.drop j)=false))),Hid (endL s.data.toList n ts i= .ok (ts++[⟨4,n,(i:Int),y,true⟩])):=fun hB=>hid (by
   subst hj;subst hk;exact endL_good h hq hp hB)
  generalize endL s.data.toList n ts i=x at*;by_cases hlt:j<s.size
  ·obtain ⟨d,hd⟩:=at_lt hlt;have hdj:=dropAt hd;have hidx2:=idx_run' (s:=s) (j:Int) rfl hd;have t3:decide (j<s.size)=true:=dT hlt;by_cases hjk:j=k
   ·have t4:((j:Int)==(k:Int))=true:=by rw[beq_iff_eq];omega
    have He:=bad ⟨by rw[hdj];simp,.inl (by omega)⟩;clear hlt hd hdj hjk;clear hs hc hR hts h h34 hi hq hp hm hk hj hjl bad good;rcases T1.out with t1|⟨t1,t2⟩
    all_goals
     clear T1;go_enter Tryz.func163,Tryz.ntmps163
     go_wp2_with fail
     refine cS Ho.out ?_;clear Ho
     go_wp2_with fail
     refine Hp.out.mono ?_;rintro r w1 ⟨hb,rfl⟩;have Hbw:=hid hb;clear hb Hp
     go_wp2_with fail
     refine cS (Hb.out _) ?_;clear Hb;have He2:=hid (He.out _ Hbw.out);clear He Hbw Hlat Hrow HR;go_wp2;refine sc_ret2 rfl rfl rfl rfl ?_;exact He2.out
   ·have t4:((j:Int)==(k:Int))=false:=bF (by omega);by_cases h35:d.toNat=35
    ·have t5:((d.toNat:Int) != 35)=false:=by rw[bne_eq_false_iff_eq];omega
     have He:=good (fun q=>by
      rcases q.2 with q|q
      ·omega
      ·rw[over_at hd,dT h35]at q;cases q)
     clear hlt hd hdj hjk h35;clear hs hc hR hts h h34 hi hq hp hm hk hj hjl bad good;rcases T1.out with t1|⟨t1,t2⟩
     all_goals
      clear T1;go_enter Tryz.func163,Tryz.ntmps163
      go_wp2_with fail
      refine cS Ho.out ?_;clear Ho
      go_wp2_with fail
      refine Hp.out.mono ?_;rintro r w1 ⟨hb,rfl⟩;have Hbw:=hid hb;clear hb Hp
      go_wp2_with fail
      refine cS (Hb.out _) ?_;clear Hb;have Hown:=hid (Hrow.out _ Hbw.out);have HR1:=hid (Hlat.out _ Hbw.out);clear Hbw Hlat Hrow HR
      go_wp2_with (at_builtin;refine tokAppend rfl _ _ 193 196 rfl Tryz.underlying193 rtok_info v ts rfl (Hown.out _) _ ⟨4,n,(i:Int),y,true⟩ rfl (alloc_new _) Hts.out ?_;intro v' w2 own2 gr2 new2;have Hend:=hid (line_ok He.out (RT.app HR1.out own2 gr2 new2));clear own2 gr2 new2)
      refine sc_ret2 rfl rfl rfl rfl ?_;exact Hend.out
    ·have t5:((d.toNat:Int) != 35)=true:=by rw[bne_iff_ne];omega
     have He:=bad ⟨by rw[hdj];simp,.inr (by rw[over_at hd];exact dF h35)⟩;clear hlt hd hdj hjk h35;clear hs hc hR hts h h34 hi hq hp hm hk hj hjl bad good;rcases T1.out with t1|⟨t1,t2⟩
     all_goals
      clear T1;go_enter Tryz.func163,Tryz.ntmps163
      go_wp2_with fail
      refine cS Ho.out ?_;clear Ho
      go_wp2_with fail
      refine Hp.out.mono ?_;rintro r w1 ⟨hb,rfl⟩;have Hbw:=hid hb;clear hb Hp
      go_wp2_with fail
      refine cS (Hb.out _) ?_;clear Hb;have He2:=hid (He.out _ Hbw.out);clear He Hbw Hlat Hrow HR;go_wp2;refine sc_ret2 rfl rfl rfl rfl ?_;exact He2.out
  ·have t3:decide (j<s.size)=false:=dF hlt;have He:=good (fun q=>q.1 (dropEnd (by rw[len_str];omega)));clear hlt;clear hs hc hR hts h h34 hi hq hp hm hk hj hjl bad good;rcases T1.out with t1|⟨t1,t2⟩
   all_goals
    clear T1;go_enter Tryz.func163,Tryz.ntmps163
    go_wp2_with fail
    refine cS Ho.out ?_;clear Ho
    go_wp2_with fail
    refine Hp.out.mono ?_;rintro r w1 ⟨hb,rfl⟩;have Hbw:=hid hb;clear hb Hp
    go_wp2_with fail
    refine cS (Hb.out _) ?_;clear Hb;have Hown:=hid (Hrow.out _ Hbw.out);have HR1:=hid (Hlat.out _ Hbw.out);clear Hbw Hlat Hrow HR
    go_wp2_with (at_builtin;refine tokAppend rfl _ _ 193 196 rfl Tryz.underlying193 rtok_info v ts rfl (Hown.out _) _ ⟨4,n,(i:Int),y,true⟩ rfl (alloc_new _) Hts.out ?_;intro v' w2 own2 gr2 new2;have Hend:=hid (line_ok He.out (RT.app HR1.out own2 gr2 new2));clear own2 gr2 new2)
    refine sc_ret2 rfl rfl rfl rfl ?_;exact Hend.out
theorem scal_bad {c:UInt8} (hs:s.size≤1048576) (hc:s.data.toList[i]? =some c) (hR:RT w0 w 196 v ts) (h:overL (s.data.toList.drop i)=false) (h34:¬c.toNat=34) (h39:¬c.toNat=39) (hb:(badCh c||dashL (s.data.toList.drop i))=true):Calls Tryz.prog 163 #[v,.string s,.int .i64 (i:Int),.int .i64 n] w (LinePost w0 196 (endL s.data.toList n ts i)):=by
 have Ho:=hid (nothing_c w s i);rw[h]at Ho;have hidx:=idx_run' (s:=s) (i:Int) rfl hc;have t1:((c.toNat:Int)==34)=false:=bF (by omega);have t2:((c.toNat:Int)==39)=false:=bF (by omega);have hq:isQuot (s.data.toList.drop i)=false:=by rw[isQuot_at hc];exact dF (by omega)
 have Hf:=hid (first_c w s i c hs hc);rw[hb]at Hf;have hpl:plainL (s.data.toList.drop i)=none:=plainL_bad (by
  rw[Bool.or_eq_true]at hb;rcases hb with q|q
  ·left;rw[dropAt hc];exact q
  ·exact .inr q)
 have He:=hid (fun w1 (hd:Drew w w1)=>line_err (T:= 196) (endL_no (n:=n) (ts:=ts) h hq hpl) (hR.below.trans (hd.below.mono hR.below.size)));clear hs hc hR h h34 h39 hb hq hpl;go_enter Tryz.func163,Tryz.ntmps163
 go_wp2_with fail
 refine cS Ho.out ?_;clear Ho
 go_wp2_with fail
 refine Hf.out.mono ?_;rintro r w1 ⟨rfl,hd⟩;have Hdr:=hid hd;clear hd Hf;have He2:=hid (He.out _ Hdr.out);clear He Hdr;go_wp2;refine sc_ret2 rfl rfl rfl rfl ?_;exact He2.out
theorem ci_end {k i e n:Nat} (h:n=e-i) (hke:k+1=e) (hi:i≤k):k-i+1=n:=by omega
theorem ci_end2 {k i e n:Nat} (h:n=e-i) (q:k-i+1=n) (hi:i≤k) (hk:k<e):k+1=e:=by omega
structure CI (l:List UInt8) (i k e:Nat) (x:List UInt8):Prop where
 ik:i≤k
 ke:k≤e
 en:e≤l.length
 eq:x=(l.drop i).take (e-i)
 no:∀(j:Nat) (c:UInt8),j<k-i→x[j]? =some c→¬(c.toNat=58∧(j+1=x.length∨∃d:UInt8,x[j+1]? =some d∧d.toNat=32))
theorem CI.at {l:List UInt8} {i k e:Nat} {x:List UInt8} (h:CI l i k e x) {j:Nat} (hj:i+j<e):x[j]? =l[i+j]? :=by
 rw[h.eq,List.getElem?_take,if_pos (by omega),List.getElem?_drop]
theorem CI.len {l:List UInt8} {i k e:Nat} {x:List UInt8} (h:CI l i k e x):x.length=e-i:=by
 have:=h.en;rw[h.eq,List.length_take,List.length_drop];omega
theorem scal_good {c:UInt8} (hs:s.size≤1048576) (hc:s.data.toList[i]? =some c) (hR:RT w0 w 196 v ts) (hts:ts.length≤1000000000) (h:overL (s.data.toList.drop i)=false) (h34:¬c.toNat=34) (h39:¬c.toNat=39) (hb:(badCh c||dashL (s.data.toList.drop i))=false):Calls Tryz.prog 163 #[v,.string s,.int .i64 (i:Int),.int .i64 n] w (LinePost w0 196 (endL s.data.toList n ts i)):=by
 have Ho:=hid (nothing_c w s i);rw[h]at Ho;have hidx:=idx_run' (s:=s) (i:Int) rfl hc;have t1:((c.toNat:Int)==34)=false:=bF (by omega);have t2:((c.toNat:Int)==39)=false:=bF (by omega);have hq:isQuot (s.data.toList.drop i)=false:=by rw[isQuot_at hc];exact dF (by omega)
 have Hf:=hid (first_c w s i c hs hc);rw[hb]at Hf;have hbl:badL (s.data.toList.drop i)=false:=by rw[dropAt hc];exact (Bool.or_eq_false_iff.1 hb).1
 have hdl:=(Bool.or_eq_false_iff.1 hb).2;obtain ⟨l,hl⟩:∃l,l=s.data.toList:=⟨_,rfl⟩;have Hl:=hid hl;have Hs:=hid hs;have Hts:=hid hts;rw[←hl]at h hq hbl hdl ⊢;obtain ⟨x,hx⟩:∃x,x=endL l n ts i:=⟨_,rfl⟩;have Hno:=hid (fun (u:List UInt8) (hu:stripB (cutHash (l.drop i))=u) (hh:colonL u=true∨u=[45,45,45])=>show x= .error 83 from hx.trans (endL_no h hq (plainL_colon hbl hdl (by rw[hu];exact hh))));have Hyes:=hid (fun (u:List UInt8) (hu:stripB (cutHash (l.drop i))=u) (hh:¬(colonL u=true∨u=[45,45,45]))=>show x= .ok (ts++[⟨4,n,(i:Int),u,false⟩]) from hx.trans (endL_plain h hq (by rw[plainL_ok hbl hdl (by rw[hu];exact hh),hu])))
 have Hlt:=hid (show i<l.length by rw[hl];exact (List.getElem?_eq_some_iff.1 hc).1);have HR:=hid hR;rw[←hx];clear hs hc hR hts h h34 h39 hb hq hbl hdl hl hx;go_enter Tryz.func163,Tryz.ntmps163
 go_wp2_with fail
 refine cS Ho.out ?_;clear Ho
 go_wp2_with fail
 refine Hf.out.mono ?_;rintro r w1 ⟨rfl,hd⟩;have Hdr:=hid hd;clear hd Hf;have HRd:=hid (RO.later HR.out Hdr.out.below);clear HR Hdr;go_wp2
 go_loop [13,14] (fun ve vk=>∃k e:Nat,ve= .int .i64 (e:Int)∧vk= .int .i64 (k:Int)∧Hid (EI l i k e)) (fun _ vk=>l.length-(intOf vk).toNat)
 case atStart=>exact ⟨i,i,rfl,rfl,hid (EI.first (Nat.le_of_lt Hlt.out))⟩
 case round=>
  obtain ⟨k,e,rfl,rfl,H⟩:=hrel;have hl:l=s.data.toList:=Hl.out;have hs:=Hs.out;have hlen:l.length=s.size:=by rw[hl,len_str]
  have hi1:=H.out.ik;have hi2:=H.out.ie;have hi3:=H.out.ek;have hi4:=H.out.kn;clear hidx t1 t2;by_cases hgo:k<s.size∧¬(∃d:UInt8,s.data.toList[k]? =some d∧d.toNat=32∧s.data.toList[k+1]? =some 35)
  ·obtain ⟨hk,hg⟩:=hgo;obtain ⟨d,hd⟩:=at_lt hk;have hdl:l[k]? =some d:=by rw[hl];exact hd
   have hidx2:=idx_run' (s:=s) (k:Int) rfl hd;have b3:decide (k<s.size)=true:=dT hk;have wk:=wrap_ok (z:=(k:Int)+1) (by omega) (by omega);have Hms:=hid (meas_step (n:=l.length) (k:=k) (by omega) wk);have Hgo:=hid (go_step wk);have hnx:¬(d.toNat=32∧(l.drop (k+1)).head? =some 35):=fun q=>hg ⟨d,hd,q.1,by rw[←hl,←List.head?_drop];exact q.2⟩;have He:=hid (H.out.next hdl hnx);by_cases h32:d.toNat=32
   ·have t3:((d.toNat:Int)==32)=true:=by rw[beq_iff_eq];omega
    have t4:((d.toNat:Int) != 32)=false:=by rw[bne_eq_false_iff_eq];omega
    rw[if_pos h32]at He;by_cases hk1:k+1<s.size
    ·obtain ⟨g,hg2⟩:=at_lt hk1;have hidx3:=idx_run' (s:=s) ((k:Int)+1) (by omega) hg2;have t5:decide ((k:Int)+1<(s.size:Int))=true:=dT (by omega);have t6:((g.toNat:Int)==35)=false:=by
      rw[beq_eq_false_iff_ne];intro q;have:g=35:=by apply UInt8.toNat_inj.1;show g.toNat=35;omega
      exact hg ⟨d,hd,h32,by rw[hg2,this]⟩
     clear hl hs hlen hi1 hi2 hi3 hi4 hk hg hd hdl hnx h32 hk1 hg2 H;go_wp2;go_round
     case rel=>exact ⟨k+1,e,rfl,Hgo.out,He⟩
     case measure=>exact Hms.out
    ·have t5:decide ((k:Int)+1<(s.size:Int))=false:=dF (by omega);clear hl hs hlen hi1 hi2 hi3 hi4 hk hg hd hdl hnx h32 hk1 H;go_wp2;go_round
     case rel=>exact ⟨k+1,e,rfl,Hgo.out,He⟩
     case measure=>exact Hms.out
   ·have t3:((d.toNat:Int)==32)=false:=bF (by omega);have t4:((d.toNat:Int) != 32)=true:=by rw[bne_iff_ne];omega
    rw[if_neg h32]at He;clear hl hs hlen hi1 hi2 hi3 hi4 hk hg hd hdl hnx h32 H;go_wp2;go_round
    case rel=>exact ⟨k+1,k+1,Hgo.out,Hgo.out,He⟩
    case measure=>exact Hms.out
  ·have hlast:cutHash (l.drop k)=[]:=by
    rcases Nat.lt_or_ge k s.size with q|q
    ·have hex:∃d:UInt8,s.data.toList[k]? =some d∧d.toNat=32∧s.data.toList[k+1]? =some 35:=Decidable.not_not.1 fun hh=>hgo ⟨q,hh⟩;obtain ⟨d,hd,h32,h35⟩:=hex;rw[dropAt (show l[k]? =some d by rw[hl];exact hd)];exact cut_stop ⟨h32,by rw[List.head?_drop,hl];exact h35⟩
    ·rw[dropEnd (by omega)];rfl
   have HW:Hid ((decide (k<s.size)=false)∨(∃d:UInt8,s.data.toList[k]? =some d∧((d.toNat:Int)==32)=true∧s.data.toList[k+1]? =some 35∧decide (k<s.size)=true∧decide ((k:Int)+1<(s.size:Int))=true∧wrap64 ((k:Int)+1)=(k:Int)+1)):=hid (by
    rcases Nat.lt_or_ge k s.size with q|q
    ·have hex:∃d:UInt8,s.data.toList[k]? =some d∧d.toNat=32∧s.data.toList[k+1]? =some 35:=Decidable.not_not.1 fun hh=>hgo ⟨q,hh⟩;obtain ⟨d,hd,h32,h35⟩:=hex;have hk1:k+1<s.size:=by rw[←len_str];exact (List.getElem?_eq_some_iff.1 h35).1
     exact .inr ⟨d,hd,by rw[beq_iff_eq];omega,h35,dT q,dT (by omega),wrap_ok (by omega) (by omega)⟩
    ·exact .inl (dF (by omega)))
   have hstrip:=H.out.last hlast;obtain ⟨u,hu⟩:∃u,u=(l.drop i).take (e-i):=⟨_,rfl⟩;rw[←hu]at hstrip;have hN:=hid (fun hh=>Hno.out u hstrip hh);have hY:=hid (fun hh=>Hyes.out u hstrip hh);have HC0:=hid (show CI l i i e u from ⟨Nat.le_refl _,hi2,by omega,hu,fun j c hj=>absurd hj (by omega)⟩);have hsl:=sl_run (s:=s) (i:=i) (j:=e) (zi:=(i:Int)) (zj:=(e:Int)) rfl rfl hi2 (by omega);rw[ext_bytes (x:=u) (by rw[←hl];exact hu.symm)]at hsl
   have hIE:i≤e:=hi2;have HIE:=hid (And.intro hi2 (show e≤l.length by omega));clear hgo hlast hs hlen hi1 hi2 hi3 hi4 H hstrip hu Hno Hyes hl hIE Hlt;rcases HW.out with b3|⟨d,hd,t3,h35,b3,b4,wk⟩
   ·clear HW;go_wp2
    go_loop [15] (fun vk=>∃k:Nat,vk= .int .i64 (k:Int)∧Hid (CI l i k e u)) (fun vk=>e-(intOf vk).toNat)
    case atStart=>exact ⟨i,rfl,HC0⟩
    case round=>
     obtain ⟨k2,rfl,H⟩:=hrel;have hl:l=s.data.toList:=Hl.out;have hs:=Hs.out;have hlen:l.length=s.size:=by rw[hl,len_str]
     have c1:=H.out.ik;have c2:=H.out.ke;have c3:=H.out.en;by_cases hk:k2<e
     ·obtain ⟨d,hd⟩:=at_lt (s:=s) (k:=k2) (by omega);have hidx4:=idx_run' (s:=s) (k2:Int) rfl hd;have b5:decide (k2<e)=true:=dT hk;have Wk2:=hid (wrap_ok (z:=(k2:Int)+1) (by omega) (by omega));have Hms:=hid (meas_step (n:=e) (k:=k2) hk Wk2.out);have Hgo:=hid (go_step Wk2.out);have hud:u[k2-i]? =some d:=by rw[H.out.at (by omega),show i+(k2-i)=k2 by omega,hl];exact hd
      have hul:=H.out.len;have step:¬(d.toNat=58∧(k2-i+1=u.length∨∃d:UInt8,u[k2-i+1]? =some d∧d.toNat=32))→Hid (CI l i (k2+1) e u):=fun hn=>hid ⟨by omega,hk,c3,H.out.eq,fun j c hj hc=>by
       by_cases q:j=k2-i
       ·subst q;rw[hud]at hc;obtain rfl:=Option.some.inj hc;exact hn
       ·exact H.out.no j c (by omega) hc⟩
      by_cases h58:d.toNat=58
      ·have t7:((d.toNat:Int)==58)=true:=by rw[beq_iff_eq];omega
       by_cases hke:k2+1=e
       ·have t8:((k2:Int)+1==(e:Int))=true:=by rw[beq_iff_eq];omega
        have He:=hid (line_err (T:= 196) (hN.out (.inl (colon_bad hud h58 (.inl (ci_end hul hke c1))))) HRd.out.below);clear hl hs hlen c1 c2 c3 hk hd hud hul step h58 hke H;have wk2:=Wk2.out;go_wp2;refine sc_ret2 rfl rfl rfl rfl ?_;exact He.out
       ·have t8:((k2:Int)+1==(e:Int))=false:=bF (by omega);obtain ⟨g,hg⟩:=at_lt (s:=s) (k:=k2+1) (by omega);have hidx5:=idx_run' (s:=s) ((k2:Int)+1) (by omega) hg;have hug:u[k2-i+1]? =some g:=by rw[H.out.at (by omega),show i+(k2-i+1)=k2+1 by omega,hl];exact hg
        by_cases h32:g.toNat=32
        ·have t9:((g.toNat:Int)==32)=true:=by rw[beq_iff_eq];omega
         have He:=hid (line_err (T:= 196) (hN.out (.inl (colon_bad hud h58 (.inr ⟨g,hug,h32⟩)))) HRd.out.below);clear hl hs hlen c1 c2 c3 hk hd hud hul step h58 hke hg hug h32 H;have wk2:=Wk2.out;go_wp2;refine sc_ret2 rfl rfl rfl rfl ?_;exact He.out
        ·have t9:((g.toNat:Int)==32)=false:=bF (by omega);have He:=step (fun q=>by
          rcases q.2 with q|⟨d2,q,q2⟩
          ·exact hke (ci_end2 hul q c1 hk)
          ·rw[hug]at q;obtain rfl:=Option.some.inj q;exact h32 q2)
         clear hl hs hlen c1 c2 c3 hk hd hud hul step h58 hke hg hug h32 H;have wk2:=Wk2.out;go_wp2;go_round
         case rel=>exact ⟨k2+1,Hgo.out,He⟩
         case measure=>exact Hms.out
      ·have t7:((d.toNat:Int)==58)=false:=bF (by omega);have He:=step (fun q=>h58 q.1);clear hl hs hlen c1 c2 c3 hk hd hud hul step h58 H;have wk2:=Wk2.out;go_wp2;go_round
       case rel=>exact ⟨k2+1,Hgo.out,He⟩
       case measure=>exact Hms.out
     ·have b5:decide (k2<e)=false:=dF hk;have hcol:colonL u=false:=colon_good fun j c hj hq=>H.out.no j c (by have:=H.out.len;have:=(List.getElem?_eq_some_iff.1 hj).1;omega) hj hq;have hsx:(u==[45,45,45])=decide (u=[45,45,45]):=by rw[Bool.eq_iff_iff,beq_iff_eq,decide_eq_true_eq]
      by_cases h3:u=[45,45,45]
      ·rw[dT h3]at hsx;have He:=hid (line_err (T:= 196) (hN.out (.inr h3)) HRd.out.below);clear hl hs hlen c1 c2 c3 hk hcol h3 H;go_wp2;refine sc_ret2 rfl rfl rfl rfl ?_;exact He.out
      ·rw[dF h3]at hsx;have Hx:=hid (hY.out (by rintro (q|q);rw[hcol]at q;cases q;exact h3 q));have Hown:=hid (fun o=>HRd.out.row.alloc o);clear hl hs hlen c1 c2 c3 hk hcol h3 H
       go_wp2_with (at_builtin;refine tokAppend rfl _ _ 193 196 rfl Tryz.underlying193 rtok_info v ts rfl (Hown.out _) _ ⟨4,n,(i:Int),u,false⟩ rfl (alloc_new _) Hts.out ?_;intro v' w2 own2 gr2 new2;have Hend:=hid (line_ok Hx.out (RT.app HRd.out own2 gr2 new2));clear own2 gr2 new2)
       refine sc_ret2 rfl rfl rfl rfl ?_;exact Hend.out
   ·have hidx2:=idx_run' (s:=s) (k:Int) rfl hd;have hidx3:=idx_run' (s:=s) (k:=k+1) ((k:Int)+1) (by omega) h35;have t6:(((35:UInt8).toNat:Int)==35)=true:=rfl;clear HW hd h35;go_wp2;clear hidx2 hidx3 t3 t6 b3 b4 wk
    go_loop [15] (fun vk=>∃k:Nat,vk= .int .i64 (k:Int)∧Hid (CI l i k e u)) (fun vk=>e-(intOf vk).toNat)
    case atStart=>exact ⟨i,rfl,HC0⟩
    case round=>
     obtain ⟨k2,rfl,H⟩:=hrel;have hl:l=s.data.toList:=Hl.out;have hs:=Hs.out;have hlen:l.length=s.size:=by rw[hl,len_str]
     have c1:=H.out.ik;have c2:=H.out.ke;have c3:=H.out.en;by_cases hk:k2<e
     ·obtain ⟨d,hd⟩:=at_lt (s:=s) (k:=k2) (by omega);have hidx4:=idx_run' (s:=s) (k2:Int) rfl hd;have b5:decide (k2<e)=true:=dT hk;have Wk2:=hid (wrap_ok (z:=(k2:Int)+1) (by omega) (by omega));have Hms:=hid (meas_step (n:=e) (k:=k2) hk Wk2.out);have Hgo:=hid (go_step Wk2.out);have hud:u[k2-i]? =some d:=by rw[H.out.at (by omega),show i+(k2-i)=k2 by omega,hl];exact hd
      have hul:=H.out.len;have step:¬(d.toNat=58∧(k2-i+1=u.length∨∃d:UInt8,u[k2-i+1]? =some d∧d.toNat=32))→Hid (CI l i (k2+1) e u):=fun hn=>hid ⟨by omega,hk,c3,H.out.eq,fun j c hj hc=>by
       by_cases q:j=k2-i
       ·subst q;rw[hud]at hc;obtain rfl:=Option.some.inj hc;exact hn
       ·exact H.out.no j c (by omega) hc⟩
      by_cases h58:d.toNat=58
      ·have t7:((d.toNat:Int)==58)=true:=by rw[beq_iff_eq];omega
       by_cases hke:k2+1=e
       ·have t8:((k2:Int)+1==(e:Int))=true:=by rw[beq_iff_eq];omega
        have He:=hid (line_err (T:= 196) (hN.out (.inl (colon_bad hud h58 (.inl (ci_end hul hke c1))))) HRd.out.below);clear hl hs hlen c1 c2 c3 hk hd hud hul step h58 hke H;have wk2:=Wk2.out;go_wp2;refine sc_ret2 rfl rfl rfl rfl ?_;exact He.out
       ·have t8:((k2:Int)+1==(e:Int))=false:=bF (by omega);obtain ⟨g,hg⟩:=at_lt (s:=s) (k:=k2+1) (by omega);have hidx5:=idx_run' (s:=s) ((k2:Int)+1) (by omega) hg;have hug:u[k2-i+1]? =some g:=by rw[H.out.at (by omega),show i+(k2-i+1)=k2+1 by omega,hl];exact hg
        by_cases h32:g.toNat=32
        ·have t9:((g.toNat:Int)==32)=true:=by rw[beq_iff_eq];omega
         have He:=hid (line_err (T:= 196) (hN.out (.inl (colon_bad hud h58 (.inr ⟨g,hug,h32⟩)))) HRd.out.below);clear hl hs hlen c1 c2 c3 hk hd hud hul step h58 hke hg hug h32 H;have wk2:=Wk2.out;go_wp2;refine sc_ret2 rfl rfl rfl rfl ?_;exact He.out
        ·have t9:((g.toNat:Int)==32)=false:=bF (by omega);have He:=step (fun q=>by
          rcases q.2 with q|⟨d2,q,q2⟩
          ·exact hke (ci_end2 hul q c1 hk)
          ·rw[hug]at q;obtain rfl:=Option.some.inj q;exact h32 q2)
         clear hl hs hlen c1 c2 c3 hk hd hud hul step h58 hke hg hug h32 H;have wk2:=Wk2.out;go_wp2;go_round
         case rel=>exact ⟨k2+1,Hgo.out,He⟩
         case measure=>exact Hms.out
      ·have t7:((d.toNat:Int)==58)=false:=bF (by omega);have He:=step (fun q=>h58 q.1);clear hl hs hlen c1 c2 c3 hk hd hud hul step h58 H;have wk2:=Wk2.out;go_wp2;go_round
       case rel=>exact ⟨k2+1,Hgo.out,He⟩
       case measure=>exact Hms.out
     ·have b5:decide (k2<e)=false:=dF hk;have hcol:colonL u=false:=colon_good fun j c hj hq=>H.out.no j c (by have:=H.out.len;have:=(List.getElem?_eq_some_iff.1 hj).1;omega) hj hq;have hsx:(u==[45,45,45])=decide (u=[45,45,45]):=by rw[Bool.eq_iff_iff,beq_iff_eq,decide_eq_true_eq]
      by_cases h3:u=[45,45,45]
      ·rw[dT h3]at hsx;have He:=hid (line_err (T:= 196) (hN.out (.inr h3)) HRd.out.below);clear hl hs hlen c1 c2 c3 hk hcol h3 H;go_wp2;refine sc_ret2 rfl rfl rfl rfl ?_;exact He.out
      ·rw[dF h3]at hsx;have Hx:=hid (hY.out (by rintro (q|q);rw[hcol]at q;cases q;exact h3 q));have Hown:=hid (fun o=>HRd.out.row.alloc o);clear hl hs hlen c1 c2 c3 hk hcol h3 H
       go_wp2_with (at_builtin;refine tokAppend rfl _ _ 193 196 rfl Tryz.underlying193 rtok_info v ts rfl (Hown.out _) _ ⟨4,n,(i:Int),u,false⟩ rfl (alloc_new _) Hts.out ?_;intro v' w2 own2 gr2 new2;have Hend:=hid (line_ok Hx.out (RT.app HRd.out own2 gr2 new2));clear own2 gr2 new2)
       refine sc_ret2 rfl rfl rfl rfl ?_;exact Hend.out
theorem scal_c (hs:s.size≤1048576) (hi:i≤s.size) (hR:RT w0 w 196 v ts) (hts:ts.length≤1000000000):Calls Tryz.prog 163 #[v,.string s,.int .i64 (i:Int),.int .i64 n] w (LinePost w0 196 (endL s.data.toList n ts i)):=by
 cases h:overL (s.data.toList.drop i) with
 |true=>exact scal_over hi hR h
 |false=>
  have hlt:i<s.size:=by
   rcases Nat.lt_or_ge i s.size with q|q
   ·exact q
   ·rw[over_end (by rw[len_str];omega)]at h;cases h
  obtain ⟨c,hc⟩:=at_lt hlt;by_cases hq:c.toNat=34∨c.toNat=39
  ·exact scal_quot hs hc hR hts h hq
  ·cases hb:(badCh c||dashL (s.data.toList.drop i)) with
   |true=>exact scal_bad hs hc hR h (fun e=>hq (.inl e)) (fun e=>hq (.inr e)) hb
   |false=>exact scal_good hs hc hR hts h (fun e=>hq (.inl e)) (fun e=>hq (.inr e)) hb
end
end Go.Proofs.YtfenoaeoedobmaaGreatDoor
