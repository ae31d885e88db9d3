/-
Parts of a proof, one behind the other (laid dense by a program of mine: pack.py).
-/
import Derived.Test.YtfenoaeoedobmaaGreatDoorRd15
set_option linter.unusedVariables false
set_option linter.unusedSimpArgs false
set_option maxHeartbeats 16000000
set_option maxRecDepth 100000
namespace Go.Proofs.YtfenoaeoedobmaaGreatDoor
open Go Go.RowKit
theorem rl_ret {w0:World} {x:Except Int (List Tok)}:RlRet w0 x (bodyPost Tryz.prog Tryz.f123 fun r w'=>LinePost w0 196 x r w'):=by
 intro a' w' v e hd h4 h5 hp;refine bodyPost_ret (v:= .tuple #[v,.int .i64 e]) ?_ hd hp;rw[results_tmp2 rfl,getD_of h4,getD_of h5]
theorem pre_three {s:ByteArray} (h:3≤s.size):((s.extract 0 3).toList==[45,45,45])=Lib.hasPrefix s.data.toList [45,45,45]:=by
 rw[Lib.toList_data,ext_lst,List.drop_zero];have hl:=len_str s
 match hd:s.data.toList with
 |[]=>rw[hd]at hl;simp at hl;omega
 |[a]=>rw[hd]at hl;simp at hl;omega
 |[a,b]=>rw[hd]at hl;simp at hl;omega
 |a::b::c::r=>
  rw[Bool.eq_iff_iff,beq_iff_eq];simp only[Lib.hasPrefix,List.isPrefixOf,List.take,Bool.and_true,Bool.and_eq_true,beq_iff_eq]
  show [a,b,c]=[45,45,45]↔_
  simp only[List.cons.injEq,and_true];exact ⟨fun ⟨p,q,r⟩=>⟨p.symm,q.symm,r.symm⟩,fun ⟨p,q,r⟩=>⟨p.symm,q.symm,r.symm⟩⟩
theorem sl_three {s:ByteArray} (h:3≤s.size):∀w,(Instr.slice 9 (.string s) none (some (.int .i64 3)) none).run Tryz.prog w= .ok (.string (s.extract 0 3)) w:=by
 intro w;rw[run_slice_string_to_if (P:= Tryz.prog) w 9 s .i64 3 Tryz.underlying9,if_pos ⟨by omega,by omega⟩];rfl
theorem sound_80 {l:List UInt8} {k:Nat} {c:UInt8} (h:l[k]? =some c) (hc:c.toNat=9):soundL l=80:=by
 unfold soundL;rw[if_pos];rw[List.any_eq_true];exact ⟨c,List.mem_of_getElem? h,dT hc⟩
theorem sound_no9 {l:List UInt8} (h:∀(j:Nat) (c:UInt8),l[j]? =some c→¬c.toNat=9):soundL l=if l.any (fun c=>decide (c.toNat<32∨c.toNat=127))=true then 83 else 0:=by
 unfold soundL;rw[if_neg];rw[List.any_eq_true];rintro ⟨c,hm,hc⟩;obtain ⟨j,hj,e⟩:=List.getElem_of_mem hm;exact h j c (by rw[List.getElem?_eq_getElem hj,e]) (of_decide_eq_true hc)
theorem sound_ok {l:List UInt8} (h9:∀(j:Nat) (c:UInt8),l[j]? =some c→¬c.toNat=9) (h:∀(j:Nat) (c:UInt8),l[j]? =some c→¬(c.toNat<32∨c.toNat=127)):soundL l=0:=by
 rw[sound_no9 h9,if_neg];rw[List.any_eq_true];rintro ⟨c,hm,hc⟩;obtain ⟨j,hj,e⟩:=List.getElem_of_mem hm;exact h j c (by rw[List.getElem?_eq_getElem hj,e]) (of_decide_eq_true hc)
theorem rline_c (w:World) (s:ByteArray) (n:Int) (hs:s.size≤1048576):
 Calls Tryz.prog 123 #[.string s,.int .i64 n] w (LinePost w 196 (lineL s.data.toList n)):=by
 obtain ⟨x,hx⟩:∃x,x=lineL s.data.toList n:=⟨_,rfl⟩;obtain ⟨m,hm⟩:∃m,m=s.size:=⟨_,rfl⟩;have Hm:=hid hm;have Hs:=hid hs;have Hx:=hid hx;rw[←hx];clear hx hs hm;go_enter Tryz.func123,Tryz.ntmps123;go_wp2
 go_loop [6] (fun v=>∃k:Nat,v= .int .i64 (k:Int)∧Hid (k≤m∧∀(j:Nat) (c:UInt8),j<k→s.data.toList[j]? =some c→¬c.toNat=9)) (fun v=>m-(intOf v).toNat)
 case atStart=>exact ⟨0,rfl,hid ⟨Nat.zero_le _,fun j c h=>absurd h (Nat.not_lt_zero _)⟩⟩
 case round=>
  obtain ⟨k,rfl,H⟩:=hrel;have hm:=Hm.out;have hs:=Hs.out;by_cases hkn:k<m
  ·obtain ⟨c,hc⟩:=at_lt (s:=s) (k:=k) (by omega);have hidx:=idx_run' (s:=s) (k:Int) rfl hc;have b3:decide (k<s.size)=true:=dT (by omega);have wk:=wrap_ok (z:=(k:Int)+1) (by omega) (by omega);have Hms:=hid (meas_step hkn wk);have Hgo:=hid (go_step wk);by_cases h9:c.toNat=9
   ·have t1:((c.toNat:Int)==9)=true:=by rw[beq_iff_eq];omega
    have He:=hid (line_err (T:= 196) (show x= .error 80 by rw[Hx.out];unfold lineL;rw[sound_80 hc h9];rfl) (Below.refl _ w));clear hm hs hkn hc h9 H wk;go_wp2
    go_ret2
    exact He.out
   ·have t1:((c.toNat:Int)==9)=false:=bF (by omega);have He:=hid (show k+1≤m∧∀(j:Nat) (c:UInt8),j<k+1→s.data.toList[j]? =some c→¬c.toNat=9 from ⟨hkn,fun j d hj hd=>by
     by_cases e:j=k
     ·subst e;rw[hc]at hd;obtain rfl:=Option.some.inj hd;exact h9
     ·exact H.out.2 j d (by omega) hd⟩)
    clear hm hs hkn hc h9 H wk;go_wp2;go_round
    case rel=>exact ⟨k+1,Hgo.out,He⟩
    case measure=>exact Hms.out
  ·have b3:decide (k<s.size)=false:=dF (by omega);have H9:=hid (fun (j:Nat) (c:UInt8) (hc:s.data.toList[j]? =some c)=>H.out.2 j c (by have:=(List.getElem?_eq_some_iff.1 hc).1;rw[len_str]at this;omega) hc);clear hm hs hkn H;go_wp2
   go_loop [7] (fun v=>∃k:Nat,v= .int .i64 (k:Int)∧Hid (k≤m∧∀(j:Nat) (c:UInt8),j<k→s.data.toList[j]? =some c→¬(c.toNat<32∨c.toNat=127))) (fun v=>m-(intOf v).toNat)
   case atStart=>exact ⟨0,rfl,hid ⟨Nat.zero_le _,fun j c h=>absurd h (Nat.not_lt_zero _)⟩⟩
   case round=>
    obtain ⟨k2,rfl,H⟩:=hrel;have hm:=Hm.out;have hs:=Hs.out;by_cases hkn:k2<m
    ·obtain ⟨c,hc⟩:=at_lt (s:=s) (k:=k2) (by omega);have hidx:=idx_run' (s:=s) (k2:Int) rfl hc;have b4:decide (k2<s.size)=true:=dT (by omega);have wk:=wrap_ok (z:=(k2:Int)+1) (by omega) (by omega);have Hms:=hid (meas_step hkn wk);have Hgo:=hid (go_step wk);have bad:(c.toNat<32∨c.toNat=127)→Hid (LinePost w 196 x (.returned (.tuple #[.slice none 0 0,.int .i64 83])) w):=fun hb=>hid (line_err (T:= 196) (show x= .error 83 by
      rw[Hx.out];have:soundL s.data.toList=83:=by
       rw[sound_no9 H9.out,if_pos];rw[List.any_eq_true];exact ⟨c,List.mem_of_getElem? hc,dT hb⟩
      unfold lineL;rw[this];rfl) (Below.refl _ w))
     by_cases hlo:c.toNat<32
     ·have p1:decide ((c.toNat:Int)<32)=true:=dT (by omega);have He:=bad (.inl hlo);clear hm hs hkn hc hlo H wk bad;go_wp2
      go_ret2
      exact He.out
     ·have p1:decide ((c.toNat:Int)<32)=false:=dF (by omega);by_cases hhi:c.toNat=127
      ·have p2:((c.toNat:Int)==127)=true:=by rw[beq_iff_eq];omega
       have He:=bad (.inr hhi);clear hm hs hkn hc hlo hhi H wk bad;go_wp2
       go_ret2
       exact He.out
      ·have p2:((c.toNat:Int)==127)=false:=bF (by omega);have He:=hid (show k2+1≤m∧∀(j:Nat) (c:UInt8),j<k2+1→s.data.toList[j]? =some c→¬(c.toNat<32∨c.toNat=127) from ⟨hkn,fun j d hj hd=>by
        by_cases e:j=k2
        ·subst e;rw[hc]at hd;obtain rfl:=Option.some.inj hd;omega
        ·exact H.out.2 j d (by omega) hd⟩)
       clear hm hs hkn hc hlo hhi H wk bad;go_wp2;go_round
       case rel=>exact ⟨k2+1,Hgo.out,He⟩
       case measure=>exact Hms.out
    ·have b4:decide (k2<s.size)=false:=dF (by omega);have hso0:soundL s.data.toList=0:=sound_ok H9.out (fun j c hc=>H.out.2 j c (by have:=(List.getElem?_eq_some_iff.1 hc).1;rw[len_str]at this;omega) hc);have hmk:=mark_eq s.data.toList;have Hrest:=hid (fun (hmf:markL s.data.toList=false) (a':Act) (hf:RlF a' s n) (w1:World) (hb:Below w.heap.size w w1)=>rl_rest (w0:=w) (x:=x) hs hf hb (by rw[Hx.out,line_items hso0 hmf]) rl_ret)
     have hyes:markL s.data.toList=true→Hid (LinePost w 196 x (.returned (.tuple #[.slice (some ⟨w.heap.size,0,none⟩) 1 1,.int .i64 0])) (w.alloc (.cells (Tok.cells ⟨1,n,0,[],false⟩).toArray 196))):=fun hmt=>hid (line_ok (by rw[Hx.out];unfold lineL;rw[if_neg (by omega),if_pos hmt]) (rt_one (Below.refl _ _) _));clear H hkn;by_cases h3:3≤s.size
     ·have t1:decide ((3:Int)≤(s.size:Int))=true:=dT (by omega);have hsl:=sl_three h3;have hcmp:=pre_three h3;cases hpre:Lib.hasPrefix s.data.toList [45,45,45] with
      |false=>
       rw[hpre]at hcmp;have HM:markL s.data.toList=false:=by rw[hmk,hpre];rfl
       clear hm hs hso0 hmk hyes h3 hpre
       go_upto_if 48 with (fail)
       refine wp_cond_false rfl ?_;refine wp_skip ?_;refine (by assumption:∀(a:Act) (w:World),rlRest.wp Tryz.prog _ a w→_) _ _ ?_;exact Hrest.out HM _ ⟨rfl,rfl,rfl,rfl⟩ _ (Below.refl _ _)
      |true=>
       rw[hpre]at hcmp;rw[hpre,Bool.true_and]at hmk;obtain ⟨k,hk⟩:∃k,k=3+skipN (s.data.toList.drop 3):=⟨_,rfl⟩;have hks:k≤s.size:=by rw[hk,←len_str];exact skip_fit (by rw[len_str];omega)
       have Hb3:=hid (show Calls Tryz.prog 160 #[.string s,.int .i64 3] w fun r w'=>r= .returned (.int .i64 (k:Int))∧w'=w from by
        have:=skip_c w s 3 hs h3;rw[←hk]at this;exact this)
       rw[←hk]at hmk;by_cases hend:k=s.size
       ·have t2:((k:Int)==(s.size:Int))=true:=by rw[beq_iff_eq];omega
        have hmt:markL s.data.toList=true:=by rw[hmk,dropEnd (by rw[len_str];omega)];rfl
        have He:=hyes hmt;clear hm hs hso0 hmk hyes h3 hpre hk hks hend hmt Hrest
        go_wp2_with (go_at_call 160;refine cS Hb3.out ?_)
        go_ret2
        exact He.out
       ·have t2:((k:Int)==(s.size:Int))=false:=bF (by omega);obtain ⟨d,hd⟩:=at_lt (s:=s) (k:=k) (by omega);have hidx:=idx_run' (s:=s) (k:Int) rfl hd;have hov:=over_at hd;have hdr:(s.data.toList.drop k==[])=false:=by rw[dropAt hd];rfl
        by_cases h30:3<k
        ·have t3:decide ((3:Int)<(k:Int))=true:=dT (by omega);by_cases h35:d.toNat=35
         ·have t4:((d.toNat:Int)==35)=true:=by rw[beq_iff_eq];omega
          have hmt:markL s.data.toList=true:=by rw[hmk,hov,dT h35,dT (show 0<skipN (s.data.toList.drop 3) by omega)];simp
          have He:=hyes hmt;clear hm hs hso0 hmk hyes h3 hpre hk hks hend hmt hd hov hdr h30 h35 Hrest
          go_wp2_with (go_at_call 160;refine cS Hb3.out ?_)
          go_ret2
          exact He.out
         ·have t4:((d.toNat:Int)==35)=false:=bF (by omega);have HM:markL s.data.toList=false:=by rw[hmk,hov,dF h35,hdr];simp
          clear hm hs hso0 hmk hyes h3 hpre hk hks hend hd hov hdr h30 h35
          go_upto_if 64 with (go_at_call 160;refine cS Hb3.out ?_)
          refine wp_cond_false rfl ?_;refine wp_skip ?_;refine (by assumption:∀(a:Act) (w:World),rlRest.wp Tryz.prog _ a w→_) _ _ ?_;exact Hrest.out HM _ ⟨rfl,rfl,rfl,rfl⟩ _ (Below.refl _ _)
        ·have t3:decide ((3:Int)<(k:Int))=false:=dF (by omega);have HM:markL s.data.toList=false:=by rw[hmk,hdr,dF (show ¬0<skipN (s.data.toList.drop 3) by omega)];rfl
         clear hm hs hso0 hmk hyes h3 hpre hk hks hend hd hov hdr h30
         go_upto_if 64 with (go_at_call 160;refine cS Hb3.out ?_)
         refine wp_cond_false rfl ?_;refine wp_skip ?_;refine (by assumption:∀(a:Act) (w:World),rlRest.wp Tryz.prog _ a w→_) _ _ ?_;exact Hrest.out HM _ ⟨rfl,rfl,rfl,rfl⟩ _ (Below.refl _ _)
     ·have t1:decide ((3:Int)≤(s.size:Int))=false:=dF (by omega);have HM:markL s.data.toList=false:=by
       rw[hmk];have:Lib.hasPrefix s.data.toList [45,45,45]=false:=by
        cases hpre:Lib.hasPrefix s.data.toList [45,45,45] with
        |false=>rfl
        |true=>
         have h1:=List.IsPrefix.length_le (by simpa[Lib.hasPrefix] using hpre:[45,45,45] <+:s.data.toList);rw[len_str]at h1;exact absurd h1 h3
       rw[this];rfl
      clear hm hs hso0 hmk hyes h3
      go_upto_if 48 with (fail)
      refine wp_cond_false rfl ?_;refine wp_skip ?_;refine (by assumption:∀(a:Act) (w:World),rlRest.wp Tryz.prog _ a w→_) _ _ ?_;exact Hrest.out HM _ ⟨rfl,rfl,rfl,rfl⟩ _ (Below.refl _ _)
theorem scalL_ne {t:List UInt8} {e:Int} (h:scalL t= .error e):e≠0:=by
 unfold scalL at h
 split at h
 ·cases h
 ·split at h
  ·split at h
   ·cases h;decide
   ·split at h
    ·cases h;decide
    ·cases h
  ·split at h
   ·cases h;decide
   ·cases h
theorem endL_ne {l:List UInt8} {n:Int} {ts:List Tok} {i:Nat} {e:Int} (h:endL l n ts i= .error e):e≠0:=by
 unfold endL at h
 split at h
 ·rename_i e' he
  have:=scalL_ne he;cases h;exact this
 ·cases h
 ·cases h
theorem lineL_ne {l:List UInt8} {n e:Int} (h:lineL l n= .error e):e≠0:=by
 unfold lineL at h
 split at h
 ·rename_i h0
  cases h;exact h0
 ·split at h
  ·cases h
  ·unfold restL at h
   split at h
   ·cases h
   ·split at h
    ·rename_i e' he
     have:=keyL_82 he;cases h;omega
    ·exact endL_ne h
    ·exact endL_ne h
def PlainTok (s:ByteArray) (x:Except Int (List Tok)):Bool:=
 match x with
 | .ok [t]=>decide (t.kind=4)&& !t.quoted&&decide (t.text=s.data.toList)
 |_=>false
theorem plainB_tok (s:ByteArray):plainB s.data.toList=PlainTok s (lineL s.data.toList 1):=by
 unfold plainB PlainTok;cases lineL s.data.toList 1 with
 |error e=>rfl
 |ok ts=>
  match ts with
  |[]=>rfl
  |[t]=>rfl
  |a::b::r=>rfl
theorem tok_at {w0 w:World} {T:TypeId} {v:Value} {t:Tok} (h:RT w0 w T v [t]):∃g c,v= .slice (some ⟨g,0,none⟩) 1 c∧w.cell? ⟨g,0,none⟩=some (.int .i64 t.kind)∧w.cell? ⟨g,4,none⟩=some (.bool t.quoted)∧w.cell? ⟨g,3,none⟩=some (.string ⟨t.text.toArray⟩):=by
 have hr:w.ownsRow 0 T 5 v 1 (toks [t]):=h.row;rcases hr.2 with ⟨_,h0⟩|⟨g,cap,cur,hv,_⟩
 ·omega
 ·subst hv;exact ⟨g,cap,rfl,by rw[hr.cellAt 0 (by omega)];rfl,by rw[hr.cellAt 4 (by omega)];rfl,by rw[hr.cellAt 3 (by omega)];rfl⟩
theorem row_form {w:World} {B T sz n:Nat} {v:Value} {xs:List Value} (h:w.ownsRow B T sz v n xs):∃ao c,v= .slice ao n c:=by
 rcases h.2 with ⟨hv,h0⟩|⟨g,cap,cur,hv,_⟩
 ·exact ⟨none,0,by rw[hv,h0]⟩
 ·exact ⟨_,_,hv⟩
theorem plain_ten {s:ByteArray} {k:Nat} {c:UInt8} (h:s.data.toList[k]? =some c) (hc:c.toNat=10):plainB s.data.toList=false:=by
 have hs:soundL s.data.toList≠0:=by
  unfold soundL
  split
  ·decide
  ·rw[if_pos]
   ·decide
   ·rw[List.any_eq_true];exact ⟨c,List.mem_of_getElem? h,dT (by omega)⟩
 unfold plainB lineL;rw[if_pos hs]
theorem pplain_c (w:World) (s:ByteArray) (hs:s.size≤1048576) (hg:Glob w):
 Calls Tryz.prog 111 #[.string s] w fun r w'=>r= .returned (.bool (plainB s.data.toList))∧Below w.heap.size w w':=by
 have Hl:=hid (line_c w s 1 hs hg);rw[plainB_tok];obtain ⟨x,hx⟩:∃x,x=lineL s.data.toList 1:=⟨_,rfl⟩;have Hne:=hid (fun e (h:x= .error e)=>lineL_ne (hx.symm.trans h));rw[←hx]at Hl ⊢;clear hx hs hg;go_enter Tryz.func111,Tryz.ntmps111;cases x with
 |error e=>
  have t1:(e==0)=false:=by rw[beq_eq_false_iff_ne];exact Hne.out e rfl
  clear Hne
  go_wp2_with fail
  refine Hl.out.mono ?_;rintro r w1 ⟨hb,rfl⟩;have Hb:=hid hb;clear hb Hl;go_wp2;go_ret;exact ⟨rfl,Hb.out⟩
 |ok ts=>
  clear Hne;rcases ts with _|⟨t,_|⟨b,tl⟩⟩
  ·go_wp2_with fail
   refine Hl.out.mono ?_;rintro r w1 ⟨v,hr,rfl⟩;obtain ⟨ao,cap,rfl⟩:=row_form hr.row;have Hb:=hid hr.below;clear hr Hl;go_wp2;go_ret;exact ⟨rfl,Hb.out⟩
  ·have HP:=hid (show (t.kind==4&& !t.quoted&&t.text==s.toList)=PlainTok s (.ok [t]) from by
    rw[Lib.toList_data]
    show _=(decide (t.kind=4)&& !t.quoted&&decide (t.text=s.data.toList))
    rw[show (t.kind==4)=decide (t.kind=4) by rw[Bool.eq_iff_iff,beq_iff_eq,decide_eq_true_eq],show (t.text==s.data.toList)=decide (t.text=s.data.toList) by rw[Bool.eq_iff_iff,beq_iff_eq,decide_eq_true_eq]])
   cases hk:(t.kind==4) with
   |false=>
    rw[hk]at HP
    go_wp2_with fail
    refine Hl.out.mono ?_;rintro r w1 ⟨v,hr,rfl⟩;obtain ⟨g,cap,rfl,c0,c4,c3⟩:=tok_at hr;have Hb:=hid hr.below;clear hr Hl;go_wp2;go_ret;exact ⟨ret_b HP.out,Hb.out⟩
   |true=>
    cases hq:t.quoted with
    |true=>
     rw[hk,hq]at HP
     go_wp2_with fail
     refine Hl.out.mono ?_;rintro r w1 ⟨v,hr,rfl⟩;obtain ⟨g,cap,rfl,c0,c4,c3⟩:=tok_at hr;have Hb:=hid hr.below;rw[hq]at c4;clear hr Hl;go_wp2;go_ret;exact ⟨ret_b HP.out,Hb.out⟩
    |false=>
     cases hx:(t.text==s.toList) with
     |true=>
      rw[hk,hq,hx]at HP
      go_wp2_with fail
      refine Hl.out.mono ?_;rintro r w1 ⟨v,hr,rfl⟩;obtain ⟨g,cap,rfl,c0,c4,c3⟩:=tok_at hr;have Hb:=hid hr.below;rw[hq]at c4;clear hr Hl;go_wp2;go_ret;exact ⟨ret_b HP.out,Hb.out⟩
     |false=>
      rw[hk,hq,hx]at HP
      go_wp2_with fail
      refine Hl.out.mono ?_;rintro r w1 ⟨v,hr,rfl⟩;obtain ⟨g,cap,rfl,c0,c4,c3⟩:=tok_at hr;have Hb:=hid hr.below;rw[hq]at c4;clear hr Hl;go_wp2;go_ret;exact ⟨ret_b HP.out,Hb.out⟩
  ·go_wp2_with fail
   refine Hl.out.mono ?_;rintro r w1 ⟨v,hr,rfl⟩;obtain ⟨ao,cap,rfl⟩:=row_form hr.row;have Hb:=hid hr.below;obtain ⟨m,hm⟩:∃m,m=(t::b::tl).length:=⟨_,rfl⟩;have t1:((m:Int)==1)=false:=by rw[beq_eq_false_iff_ne,hm];simp only[List.length_cons];omega
   rw[←hm];clear hr Hl hm;go_wp2;go_ret;exact ⟨rfl,Hb.out⟩
theorem rplain_c (w:World) (s:ByteArray) (hs:s.size≤1048576):
 Calls Tryz.prog 85 #[.string s] w fun r w'=>r= .returned (.bool (plainB s.data.toList))∧Below w.heap.size w w':=by
 have Hl0:=hid (rline_c w s 1 hs);obtain ⟨m,hm⟩:∃m,m=s.size:=⟨_,rfl⟩;have Hm:=hid hm;have Hs:=hid hs;have HV:=hid (plainB_tok s);have Hten:=hid (fun (k:Nat) (c:UInt8) (h:s.data.toList[k]? =some c) (hc:c.toNat=10)=>plain_ten h hc);generalize plainB s.data.toList=PB at*;clear hm hs;go_enter Tryz.func85,Tryz.ntmps85;go_wp2
 go_loop [3] (fun v=>∃k:Nat,v= .int .i64 (k:Int)) (fun v=>m-(intOf v).toNat)
 case atStart=>exact ⟨0,rfl⟩
 case round=>
  obtain ⟨k,rfl⟩:=hrel;have hm:=Hm.out;have hs:=Hs.out;by_cases hkn:k<m
  ·obtain ⟨c,hc⟩:=at_lt (s:=s) (k:=k) (by omega);have hidx:=idx_run' (s:=s) (k:Int) rfl hc;have b3:decide (k<s.size)=true:=dT (by omega);have wk:=wrap_ok (z:=(k:Int)+1) (by omega) (by omega);have Hms:=hid (meas_step hkn wk);have Hgo:=hid (go_step wk);by_cases h10:c.toNat=10
   ·have t1:((c.toNat:Int)==10)=true:=by rw[beq_iff_eq];omega
    have He:=hid (Hten.out k c hc h10);clear hm hs hkn hc h10 wk;go_wp2;go_ret;exact ⟨ret_b He.out.symm,Below.refl _ _⟩
   ·have t1:((c.toNat:Int)==10)=false:=bF (by omega);clear hm hs hkn hc h10 wk;go_wp2;go_round
    case rel=>exact ⟨k+1,Hgo.out⟩
    case measure=>exact Hms.out
  ·have b3:decide (k<s.size)=false:=dF (by omega);have hPB:=HV.out;have Hl:=Hl0;obtain ⟨x,hx⟩:∃x,x=lineL s.data.toList 1:=⟨_,rfl⟩;have Hne:=hid (fun e (h:x= .error e)=>lineL_ne (hx.symm.trans h));rw[←hx]at Hl hPB;subst hPB;clear hx Hl0 HV Hten hm hs hkn;cases x with
   |error e=>
    have t1:(e==0)=false:=by rw[beq_eq_false_iff_ne];exact Hne.out e rfl
    clear Hne
    go_wp2_with fail
    refine Hl.out.mono ?_;rintro r w1 ⟨hb,rfl⟩;have Hb:=hid hb;clear hb Hl;go_wp2;go_ret;exact ⟨rfl,Hb.out⟩
   |ok ts=>
    clear Hne;rcases ts with _|⟨t,_|⟨b,tl⟩⟩
    ·go_wp2_with fail
     refine Hl.out.mono ?_;rintro r w1 ⟨v,hr,rfl⟩;obtain ⟨ao,cap,rfl⟩:=row_form hr.row;have Hb:=hid hr.below;clear hr Hl;go_wp2;go_ret;exact ⟨rfl,Hb.out⟩
    ·have HP:=hid (show (t.kind==4&& !t.quoted&&t.text==s.toList)=PlainTok s (.ok [t]) from by
      rw[Lib.toList_data]
      show _=(decide (t.kind=4)&& !t.quoted&&decide (t.text=s.data.toList))
      rw[show (t.kind==4)=decide (t.kind=4) by rw[Bool.eq_iff_iff,beq_iff_eq,decide_eq_true_eq],show (t.text==s.data.toList)=decide (t.text=s.data.toList) by rw[Bool.eq_iff_iff,beq_iff_eq,decide_eq_true_eq]])
     cases hk:(t.kind==4) with
     |false=>
      rw[hk]at HP
      go_wp2_with fail
      refine Hl.out.mono ?_;rintro r w1 ⟨v,hr,rfl⟩;obtain ⟨g,cap,rfl,c0,c4,c3⟩:=tok_at hr;have Hb:=hid hr.below;clear hr Hl;go_wp2;go_ret;exact ⟨ret_b HP.out,Hb.out⟩
     |true=>
      cases hq:t.quoted with
      |true=>
       rw[hk,hq]at HP
       go_wp2_with fail
       refine Hl.out.mono ?_;rintro r w1 ⟨v,hr,rfl⟩;obtain ⟨g,cap,rfl,c0,c4,c3⟩:=tok_at hr;have Hb:=hid hr.below;rw[hq]at c4;clear hr Hl;go_wp2;go_ret;exact ⟨ret_b HP.out,Hb.out⟩
      |false=>
       cases hx:(t.text==s.toList) with
       |true=>
        rw[hk,hq,hx]at HP
        go_wp2_with fail
        refine Hl.out.mono ?_;rintro r w1 ⟨v,hr,rfl⟩;obtain ⟨g,cap,rfl,c0,c4,c3⟩:=tok_at hr;have Hb:=hid hr.below;rw[hq]at c4;clear hr Hl;go_wp2;go_ret;exact ⟨ret_b HP.out,Hb.out⟩
       |false=>
        rw[hk,hq,hx]at HP
        go_wp2_with fail
        refine Hl.out.mono ?_;rintro r w1 ⟨v,hr,rfl⟩;obtain ⟨g,cap,rfl,c0,c4,c3⟩:=tok_at hr;have Hb:=hid hr.below;rw[hq]at c4;clear hr Hl;go_wp2;go_ret;exact ⟨ret_b HP.out,Hb.out⟩
    ·go_wp2_with fail
     refine Hl.out.mono ?_;rintro r w1 ⟨v,hr,rfl⟩;obtain ⟨ao,cap,rfl⟩:=row_form hr.row;have Hb:=hid hr.below;obtain ⟨m,hm⟩:∃m,m=(t::b::tl).length:=⟨_,rfl⟩;have t1:((m:Int)==1)=false:=by rw[beq_eq_false_iff_ne,hm];simp only[List.length_cons];omega
     rw[←hm];clear hr Hl hm;go_wp2;go_ret;exact ⟨rfl,Hb.out⟩
theorem str_empty {s:ByteArray} (h:s=⟨#[]⟩):s.toList=[]∧s.toList.isEmpty=true∧(!s.toList.isEmpty)=false:=by
 have h0:s.toList=[]:=by rw[Lib.toList_data,h]
 exact ⟨h0,by rw[h0];rfl,by rw[h0];rfl⟩
theorem str_full {s:ByteArray} (h:s≠⟨#[]⟩):¬s.toList=[]∧s.toList.isEmpty=false∧(!s.toList.isEmpty)=true:=by
 have h0:¬s.toList=[]:=fun q=>h (by
  rw[Lib.toList_data]at q;apply ByteArray.ext;apply Array.ext';exact q)
 have h1:s.toList.isEmpty=false:=by cases hq:s.toList with|nil=>exact absurd hq h0|cons a b=>rfl
 exact ⟨h0,h1,by rw[h1];rfl⟩
theorem kids_slice {w:World} {v:Value} {l:List Int} (h:SlR w v 1 l intCell):∃ao c,v= .slice ao l.length c∧l.length≤1048576:=by
 obtain ⟨ao,c,hv,hl,_⟩:=h;exact ⟨ao,c,hv,hl⟩
theorem escalar_c (w:World) (m:NdM) (hm:m.Ok w) (hg:Glob w):
 Calls Tryz.prog 95 #[m.v] w fun r w'=>r= .returned (.bool (scalarOk m.nd))∧Below w.heap.size w w':=by
 obtain ⟨ao,c,hkv,_⟩:=kids_slice hm.kids;have hts:=hm.text;obtain ⟨⟨kind,key,text,quoted,line,kids⟩,kv⟩:=m;simp only at hkv hts;subst hkv;unfold NdM.v;simp only;have hv:scalarOk ⟨kind,key,text,quoted,line,kids⟩=(decide (kids=[])&&(quoted||decide (text=⟨#[]⟩)||plainB text.data.toList)):=rfl;have Hpl:=hid (fun w1 (hb:Below w.heap.size w w1)=>pplain_c w1 text hts (hg.later hb));have Hb0:=hid (fun o=>(Below.refl w.heap.size w).alloc (Nat.le_refl _) o)
 rw[hv];clear hv hm hg;by_cases hk:kids=[]
 ·have t0:((kids.length:Int)==0)=true:=by rw[hk];rfl
  rw[dT hk,Bool.true_and];clear hk hts;generalize kids.length=n at*;cases quoted with
  |true=>
   clear Hpl;go_enter Tryz.func95,Tryz.ntmps95;go_wp2;go_ret;exact ⟨rfl,Hb0.out _⟩
  |false=>
   by_cases ht:text=⟨#[]⟩
   ·obtain ⟨e1,e2,e3⟩:=str_empty ht;have E1:=hid e1;rw[dT ht];clear ht Hpl;go_enter Tryz.func95,Tryz.ntmps95;go_wp2;go_ret;exact ⟨rfl,Hb0.out _⟩
   ·obtain ⟨e1,e2,e3⟩:=str_full ht;rw[dF ht];clear ht;generalize plainB text.data.toList=pb at*;go_enter Tryz.func95,Tryz.ntmps95
    go_wp2_with fail
    refine (Hpl.out _ (Hb0.out _)).mono ?_;rintro r w1 ⟨rfl,hb⟩;have Hb:=hid ((Hb0.out _).trans (hb.mono (Hb0.out _).size));clear hb Hpl;go_wp2;go_ret;exact ⟨rfl,Hb.out⟩
 ·have t0:((kids.length:Int)==0)=false:=by
   rw[beq_eq_false_iff_ne];intro q;exact hk (List.eq_nil_of_length_eq_zero (by omega))
  rw[dF hk];clear hk hts Hpl;generalize kids.length=n at*;go_enter Tryz.func95,Tryz.ntmps95;go_wp2;go_ret;exact ⟨rfl,Hb0.out _⟩
structure NdAt (w:World) (b p:Nat) (m:NdM):Prop where
 c0:w.cell? ⟨b,p,none⟩=some (.int .i64 m.nd.kind)
 c1:w.cell? ⟨b,p+1,none⟩=some (.string m.nd.key)
 c2:w.cell? ⟨b,p+2,none⟩=some (.string m.nd.text)
 c3:w.cell? ⟨b,p+3,none⟩=some (.bool m.nd.quoted)
 c4:w.cell? ⟨b,p+4,none⟩=some (.int .i64 m.nd.line)
 c5:w.cell? ⟨b,p+5,none⟩=some m.kv
theorem Nds.open {w:World} {v:Value} {ms:List NdM} (h:Nds w v ms):∃ao cap,v= .slice ao ms.length cap∧ms.length≤1048576∧
 (0<ms.length→∃b o,ao=some ⟨b,o,none⟩∧b<w.heap.size∧∀i m,ms[i]? =some m→NdAt w b (o+i*6) m∧m.Ok w):=by
 obtain ⟨ao,cap,hv,hl,hat⟩:=h.sl;refine ⟨ao,cap,hv,hl,fun h0=> ?_⟩;obtain ⟨b,o,ha,hlt,hc⟩:=hat h0;exact ⟨b,o,ha,hlt,fun i m hm=>⟨⟨hc i m hm 0 _ rfl,hc i m hm 1 _ rfl,hc i m hm 2 _ rfl,hc i m hm 3 _ rfl,hc i m hm 4 _ rfl,hc i m hm 5 _ rfl⟩,h.each m (List.mem_of_getElem? hm)⟩⟩
theorem ints_open {w:World} {v:Value} {l:List Int} (h:SlR w v 1 l intCell):∃ao c,v= .slice ao l.length c∧l.length≤1048576∧
 (0<l.length→∃b o,ao=some ⟨b,o,none⟩∧b<w.heap.size∧∀i x,l[i]? =some x→w.cell? ⟨b,o+i,none⟩=some (.int .i64 x)):=by
 obtain ⟨ao,c,hv,hl,hat⟩:=h;refine ⟨ao,c,hv,hl,fun h0=> ?_⟩;obtain ⟨b,o,ha,hlt,hc⟩:=hat h0;refine ⟨b,o,ha,hlt,fun i x hx=> ?_⟩;have:=hc i x hx 0 _ rfl;rw[Nat.mul_one,Nat.add_zero]at this;exact this
def ownJ (ns:List Nd) (k i j:Nat):List Nat:=ownL ns i k++(((ns[i]!).kids.take j).filter fun x=>decide (x=(k:Int))).map fun _=>i
theorem ownJ_zero (ns:List Nd) (k i:Nat):ownJ ns k i 0=ownL ns i k:=by
 unfold ownJ;simp
theorem ownJ_full {ns:List Nd} {k i j:Nat} (h:(ns[i]!).kids.length≤j):ownJ ns k i j=ownL ns (i+1) k:=by
 unfold ownJ;rw[List.take_of_length_le h,ownL_succ]
theorem ownJ_step {ns:List Nd} {k i j:Nat} {x:Int} (h:(ns[i]!).kids[j]? =some x):ownJ ns k i (j+1)=if x=(k:Int) then ownJ ns k i j++[i] else ownJ ns k i j:=by
 unfold ownJ;rw[List.take_add_one,h];simp only[Option.toList_some,List.filter_append,List.map_append];by_cases e:x=(k:Int)
 ·rw[if_pos e,List.append_assoc];simp[e]
 ·rw[if_neg e];simp[e]
theorem ownJ_pre {ns:List Nd} {k i:Nat} (j:Nat) (hi:i<k):∃r,owners ns k=ownJ ns k i j++r:=by
 obtain ⟨r,hr⟩:=ownL_grow ns k (k-(i+1)) (i+1);rw[show i+1+(k-(i+1))=k by omega]at hr;rw[owners_own,hr,ownL_succ];unfold ownJ;refine ⟨((((ns[i]!).kids.drop j).filter fun x=>decide (x=(k:Int))).map fun _=>i)++r,?_⟩;have e:(ns[i]!).kids=(ns[i]!).kids.take j++(ns[i]!).kids.drop j:=(List.take_append_drop ..).symm
 conv=>lhs;rw[e]
 rw[List.filter_append,List.map_append];simp only[List.append_assoc]
def PA (L:List Nat) (z:Int):Prop:=(L=[]∧z= -1)∨∃p:Nat,L=[p]∧z=(p:Int)
theorem PA.nil:PA [] (-1):= .inl ⟨rfl,rfl⟩
theorem PA.add {L:List Nat} {z:Int} {i:Nat} (h:PA L z) (hz:¬0≤z):PA (L++[i]) (i:Int):=by
 rcases h with ⟨rfl,_⟩|⟨p,_,rfl⟩
 ·exact .inr ⟨i,rfl,rfl⟩
 ·omega
theorem PA.two {ns:List Nd} {L r:List Nat} {z:Int} {i k:Nat} (h:PA L z) (hz:0≤z) (ho:owners ns k=(L++[i])++r):parentR ns k= -1:=by
 rcases h with ⟨_,rfl⟩|⟨p,rfl,_⟩
 ·omega
 ·unfold parentR;rw[ho];rfl
theorem PA.last {ns:List Nd} {z:Int} {k:Nat} (h:PA (ownL ns k k) z):parentR ns k=z:=by
 unfold parentR;rw[owners_own];rcases h with ⟨e,rfl⟩|⟨p,e,rfl⟩
 ·rw[e]
 ·rw[e]
theorem parent_c (w:World) (v:Value) (ms:List NdM) (k:Nat) (h:Nds w v ms) (hk:k<ms.length):
 Calls Tryz.prog 87 #[v,.int .i64 (k:Int)] w fun r w'=>r= .returned (.int .i64 (parentR (nds ms) k))∧w'=w:=by
 obtain ⟨ao,cap,rfl,hl,hat⟩:=h.open;obtain ⟨b,o,rfl,hlt,hat⟩:=hat (by omega);obtain ⟨n,hn⟩:∃n,n=ms.length:=⟨_,rfl⟩;have Hn:=hid hn;have Hat:=hid hat;have Hl:=hid (show n≤1048576 by omega);have Hk:=hid (show k<n by omega);rw[←hn];clear hn hat hl h hk hlt;go_enter Tryz.func87,Tryz.ntmps87;go_wp2
 go_loopw [5,6] (fun va vi wr=>∃(z:Int) (i:Nat),.int .i64 z=va∧vi= .int .i64 (i:Int)∧w=wr∧Hid (i≤k∧PA (ownL (nds ms) i k) z)) (fun _ vi _=>k-(intOf vi).toNat)
 case atStart=>exact ⟨-1,0,rfl,rfl,rfl,hid ⟨Nat.zero_le _,PA.nil⟩⟩
 case round=>
  obtain ⟨z,i,rfl,rfl,rfl,H⟩:=hrel;have hn:n=ms.length:=Hn.out;have hkn:=Hk.out;by_cases hik:i<k
  ·obtain ⟨m,hm⟩:∃m,ms[i]? =some m:=at_of_lt (by omega);obtain ⟨c,hok⟩:=Hat.out i m hm;have c5:=c.c5;obtain ⟨ao2,cap2,hkv,hl2,hat2⟩:=ints_open hok.kids;rw[hkv]at c5;have Hnd:=hid (nds_at hm);obtain ⟨q,hq⟩:∃q,q=m.nd.kids.length:=⟨_,rfl⟩;have Hq:=hid hq;rw[←hq]at c5;have Hat2:=hid hat2;have bi:(i:Int)<(n:Int):=by omega
   have ti:decide (i<k)=true:=dT hik;have wi:wrap64 ((i:Int)+1)=(i:Int)+1:=by have:=Hl.out;unfold wrap64;omega
   have Hms:=hid (meas_step hik wi);have Hgo:=hid (go_step wi);have Hik:=hid hik;clear c hok hkv hat2 hq hn hkn hik wi hm;go_wp2
   go_loopw [5,7] (fun va vj wr=>∃(z:Int) (j:Nat),.int .i64 z=va∧vj= .int .i64 (j:Int)∧w=wr∧Hid (j≤q∧PA (ownJ (nds ms) k i j) z)) (fun _ vj _=>q-(intOf vj).toNat)
   case atStart=>exact ⟨z,0,rfl,rfl,rfl,hid ⟨Nat.zero_le _,by rw[ownJ_zero];exact H.out.2⟩⟩
   case round=>
    obtain ⟨z1,j,rfl,rfl,rfl,H1⟩:=hrel;have hjq:j≤q:=H1.out.1;have hq:q=m.nd.kids.length:=Hq.out;by_cases hj:j<q
    ·obtain ⟨x,hx⟩:∃x,m.nd.kids[j]? =some x:=at_of_lt (by omega);obtain ⟨b2,o2,rfl,_,hc2⟩:=Hat2.out (by omega);have c2:=hc2 j x hx;have bj:(j:Int)<(q:Int):=by omega
     have tj:decide (j<q)=true:=dT hj;have wj:wrap64 ((j:Int)+1)=(j:Int)+1:=by have:=hl2;unfold wrap64;omega
     have Hms1:=hid (meas_step hj wj);have Hgo1:=hid (go_step wj);have hst:=ownJ_step (ns:=nds ms) (k:=k) (i:=i) (j:=j) (x:=x) (by rw[Hnd.out];exact hx);by_cases e:x=(k:Int)
     ·have te:(x==(k:Int))=true:=by rw[beq_iff_eq];exact e
      rw[if_pos e]at hst;by_cases hz:0≤z1
      ·have tz:decide (0≤z1)=true:=dT hz;have He:=hid (show parentR (nds ms) k= -1 by
        obtain ⟨r,hr⟩:=ownJ_pre (ns:=nds ms) (k:=k) (i:=i) (j+1) Hik.out;rw[hst]at hr;exact H1.out.2.two hz hr)
       clear hq hx hc2 hj wj hst e hz H1 hjq hl2;go_wp2;go_ret;exact ⟨(congrArg (fun z=>Ending.returned (.int .i64 z)) He.out).symm,rfl⟩
      ·have tz:decide (0≤z1)=false:=dF hz;have Hgo2:=hid (show j+1≤q∧PA (ownJ (nds ms) k i (j+1)) (i:Int) by
        rw[hst];exact ⟨hj,H1.out.2.add hz⟩)
       clear hq hx hc2 hj wj hst e hz H1 hjq hl2;go_wp2;go_roundw
       case rel=>exact ⟨_,j+1,rfl,Hgo1.out,trivial,Hgo2⟩
       case measure=>exact Hms1.out
     ·have te:(x==(k:Int))=false:=by rw[beq_eq_false_iff_ne];exact e
      rw[if_neg e]at hst;have Hgo2:=hid (show j+1≤q∧PA (ownJ (nds ms) k i (j+1)) z1 by
       rw[hst];exact ⟨hj,H1.out.2⟩)
      clear hq hx hc2 hj wj hst e H1 hjq hl2;go_wp2;go_roundw
      case rel=>exact ⟨_,j+1,rfl,Hgo1.out,trivial,Hgo2⟩
      case measure=>exact Hms1.out
    ·have tj:decide (j<q)=false:=dF hj;have bj:¬(j:Int)<(q:Int):=by omega
     have Hgo2:=hid (show i+1≤k∧PA (ownL (nds ms) (i+1) k) z1 by
      refine ⟨Hik.out,?_⟩;rw[←ownJ_full (j:=j) (by rw[Hnd.out];omega)];exact H1.out.2)
     clear hq hj H1 hjq hl2;go_wp2;go_roundw
     case rel=>exact ⟨_,i+1,rfl,Hgo.out,trivial,Hgo2⟩
     case measure=>exact Hms.out
  ·have ti:decide (i<k)=false:=dF hik;have He:=hid (show parentR (nds ms) k=z by
    have e:i=k:=by have:=H.out.1;omega
    have h2:=H.out.2;rw[e]at h2;exact h2.last)
   clear hn hkn hik H;go_wp2;go_ret;exact ⟨(congrArg (fun z=>Ending.returned (.int .i64 z)) He.out).symm,rfl⟩
end Go.Proofs.YtfenoaeoedobmaaGreatDoor
