/-
Parts of a proof, one behind the other (laid dense by a program of mine: pack.py).
-/
import Derived.Deep.CutRange
import Derived.Test.YtfenoaeoedobmaaGreatDoorAl07
set_option linter.unusedVariables false
set_option linter.unusedSimpArgs false
set_option maxHeartbeats 8000000
namespace Go.Proofs.YtfenoaeoedobmaaGreatDoor
open Go Go.RowKit
theorem chr_cases (c:UInt8):(nameCh c=true∧(((c.toNat:Int)<97∧(c.toNat:Int)<65∧(c.toNat:Int)<48∧(c.toNat:Int)≤122∧(c.toNat:Int)≤90∧(c.toNat:Int)≤57∧((c.toNat:Int)==95)=false∧((c.toNat:Int)==45)=true∧((c.toNat:Int)==46)=false)∨((c.toNat:Int)<97∧(c.toNat:Int)<65∧(c.toNat:Int)<48∧(c.toNat:Int)≤122∧(c.toNat:Int)≤90∧(c.toNat:Int)≤57∧((c.toNat:Int)==95)=false∧((c.toNat:Int)==45)=false∧((c.toNat:Int)==46)=true)∨((c.toNat:Int)<97∧(c.toNat:Int)<65∧(48:Int)≤(c.toNat:Int)∧(c.toNat:Int)≤122∧(c.toNat:Int)≤90∧(c.toNat:Int)≤57∧((c.toNat:Int)==95)=false∧((c.toNat:Int)==45)=false∧((c.toNat:Int)==46)=false)∨((c.toNat:Int)<97∧(65:Int)≤(c.toNat:Int)∧(48:Int)≤(c.toNat:Int)∧(c.toNat:Int)≤122∧(c.toNat:Int)≤90∧decide ((c.toNat:Int)≤57)=false∧((c.toNat:Int)==95)=false∧((c.toNat:Int)==45)=false∧((c.toNat:Int)==46)=false)∨((c.toNat:Int)<97∧(65:Int)≤(c.toNat:Int)∧(48:Int)≤(c.toNat:Int)∧(c.toNat:Int)≤122∧decide ((c.toNat:Int)≤90)=false∧decide ((c.toNat:Int)≤57)=false∧((c.toNat:Int)==95)=true∧((c.toNat:Int)==45)=false∧((c.toNat:Int)==46)=false)∨((97:Int)≤(c.toNat:Int)∧(65:Int)≤(c.toNat:Int)∧(48:Int)≤(c.toNat:Int)∧(c.toNat:Int)≤122∧decide ((c.toNat:Int)≤90)=false∧decide ((c.toNat:Int)≤57)=false∧((c.toNat:Int)==95)=false∧((c.toNat:Int)==45)=false∧((c.toNat:Int)==46)=false)))∨(nameCh c=false∧(((c.toNat:Int)<97∧(c.toNat:Int)<65∧(c.toNat:Int)<48∧(c.toNat:Int)≤122∧(c.toNat:Int)≤90∧(c.toNat:Int)≤57∧((c.toNat:Int)==95)=false∧((c.toNat:Int)==45)=false∧((c.toNat:Int)==46)=false)∨((c.toNat:Int)<97∧(c.toNat:Int)<65∧(c.toNat:Int)<48∧(c.toNat:Int)≤122∧(c.toNat:Int)≤90∧(c.toNat:Int)≤57∧((c.toNat:Int)==95)=false∧((c.toNat:Int)==45)=false∧((c.toNat:Int)==46)=false)∨((c.toNat:Int)<97∧(c.toNat:Int)<65∧(48:Int)≤(c.toNat:Int)∧(c.toNat:Int)≤122∧(c.toNat:Int)≤90∧decide ((c.toNat:Int)≤57)=false∧((c.toNat:Int)==95)=false∧((c.toNat:Int)==45)=false∧((c.toNat:Int)==46)=false)∨((c.toNat:Int)<97∧(65:Int)≤(c.toNat:Int)∧(48:Int)≤(c.toNat:Int)∧(c.toNat:Int)≤122∧decide ((c.toNat:Int)≤90)=false∧decide ((c.toNat:Int)≤57)=false∧((c.toNat:Int)==95)=false∧((c.toNat:Int)==45)=false∧((c.toNat:Int)==46)=false)∨((c.toNat:Int)<97∧(65:Int)≤(c.toNat:Int)∧(48:Int)≤(c.toNat:Int)∧(c.toNat:Int)≤122∧decide ((c.toNat:Int)≤90)=false∧decide ((c.toNat:Int)≤57)=false∧((c.toNat:Int)==95)=false∧((c.toNat:Int)==45)=false∧((c.toNat:Int)==46)=false)∨((97:Int)≤(c.toNat:Int)∧(65:Int)≤(c.toNat:Int)∧(48:Int)≤(c.toNat:Int)∧decide ((c.toNat:Int)≤122)=false∧decide ((c.toNat:Int)≤90)=false∧decide ((c.toNat:Int)≤57)=false∧((c.toNat:Int)==95)=false∧((c.toNat:Int)==45)=false∧((c.toNat:Int)==46)=false))):=by
 have hl:=c.toNat_lt;by_cases hy:(45≤c.toNat∧c.toNat≤45)∨(46≤c.toNat∧c.toNat≤46)∨(48≤c.toNat∧c.toNat≤57)∨(65≤c.toNat∧c.toNat≤90)∨(95≤c.toNat∧c.toNat≤95)∨(97≤c.toNat∧c.toNat≤122)
 ·refine .inl ⟨dT (by omega),?_⟩;rcases hy with h|h|h|h|h|h
  ·exact .inl (by simp;omega)
  ·exact .inr (.inl (by simp;omega))
  ·exact .inr (.inr (.inl (by simp;omega)))
  ·exact .inr (.inr (.inr (.inl (by simp;omega))))
  ·exact .inr (.inr (.inr (.inr (.inl (by simp;omega)))))
  ·exact .inr (.inr (.inr (.inr (.inr (by simp;omega)))))
 ·refine .inr ⟨dF (by omega),?_⟩;rcases (show (c.toNat≤44)∨c.toNat=47∨(58≤c.toNat∧c.toNat≤64)∨(91≤c.toNat∧c.toNat≤94)∨c.toNat=96∨123≤c.toNat by omega) with h|h|h|h|h|h
  ·exact .inl (by simp;omega)
  ·exact .inr (.inl (by simp;omega))
  ·exact .inr (.inr (.inl (by simp;omega)))
  ·exact .inr (.inr (.inr (.inl (by simp;omega))))
  ·exact .inr (.inr (.inr (.inr (.inl (by simp;omega)))))
  ·exact .inr (.inr (.inr (.inr (.inr (by simp;omega)))))
theorem lname_c (w:World) (s:ByteArray) (i:Nat) (hs:s.size≤1048576) (hi:i≤s.size):
 Calls Tryz.prog 144 #[.string s,.int .i64 (i:Int)] w fun r w'=>r= .returned (.int .i64 ((i+nameN (s.data.toList.drop i):Nat):Int))∧w'=w:=by
 obtain ⟨n,hn⟩:∃n,n=s.size:=⟨_,rfl⟩;have Hn:=hid hn;obtain ⟨l,hl⟩:∃l,l=s.data.toList:=⟨_,rfl⟩;have Hl:=hid hl;have Hs:=hid hs;have Hi:=hid hi;rw[←hl];clear hn hl hs hi;go_enter Tryz.func144,Tryz.ntmps144;go_wp2
 go_loop [1] (fun v=>∃k:Nat,v= .int .i64 (k:Int)∧Hid (k≤n∧i+nameN (l.drop i)=k+nameN (l.drop k))) (fun v=>n-(intOf v).toNat)
 case atStart=>exact ⟨i,rfl,hid ⟨by rw[Hn.out];exact Hi.out,rfl⟩⟩
 case round=>
  obtain ⟨k,rfl,H⟩:=hrel;have hn:n=s.size:=Hn.out;have hl:l=s.data.toList:=Hl.out;have hs:=Hs.out;by_cases hkn:k<n
  ·obtain ⟨c,hc⟩:=at_lt (s:=s) (by rw[←hn];exact hkn);have hidx:=idx_run' (s:=s) (k:Int) rfl hc;have b3:(k:Int)<(s.size:Int):=by omega
   have wk:=wrap_ok (z:=(k:Int)+1) (by omega) (by omega);have Hms:=hid (meas_step hkn wk);have Hgo:=hid (go_step wk);rcases chr_cases c with ⟨hch,h⟩|⟨hch,h⟩
   ·rcases h with ⟨g0,g1,g2,k0,k1,k2,e0,e1,e2⟩|⟨g0,g1,g2,k0,k1,k2,e0,e1,e2⟩|⟨g0,g1,g2,k0,k1,k2,e0,e1,e2⟩|⟨g0,g1,g2,k0,k1,k2,e0,e1,e2⟩|⟨g0,g1,g2,k0,k1,k2,e0,e1,e2⟩|⟨g0,g1,g2,k0,k1,k2,e0,e1,e2⟩
    all_goals
     have He:=hid (show k+1≤n∧i+nameN (l.drop i)=k+1+nameN (l.drop (k+1)) from ⟨hkn,by rw[H.out.2,name_at (by rw[hl];exact hc) hch];omega⟩);clear hn hl hs hkn hc hch H wk;go_wp2;go_round
     case rel=>exact ⟨k+1,Hgo.out,He⟩
     case measure=>exact Hms.out
   ·rcases h with ⟨g0,g1,g2,k0,k1,k2,e0,e1,e2⟩|⟨g0,g1,g2,k0,k1,k2,e0,e1,e2⟩|⟨g0,g1,g2,k0,k1,k2,e0,e1,e2⟩|⟨g0,g1,g2,k0,k1,k2,e0,e1,e2⟩|⟨g0,g1,g2,k0,k1,k2,e0,e1,e2⟩|⟨g0,g1,g2,k0,k1,k2,e0,e1,e2⟩
    all_goals
     have He:=hid (show k=i+nameN (l.drop i) by rw[H.out.2,name_no (by rw[hl];exact hc) (by rw[hch];decide)];omega);clear hn hl hs hkn hc hch H wk;go_wp2;go_ret;exact ⟨ret_i (by have:=He.out;omega),rfl⟩
  ·have b3:(s.size:Int)≤(k:Int):=by omega
   have He:=hid (show k=i+nameN (l.drop i) by rw[H.out.2,name_end (by rw[hl,len_str];omega)];omega);clear hn hl hs hkn H;go_wp2;go_ret;exact ⟨ret_i (by have:=He.out;omega),rfl⟩
theorem name_bad {s:ByteArray} {k:Nat} {c:UInt8} (hc:s.data.toList[k]? =some c) (h:nameCh c=false):isName s=false:=by
 unfold isName nameB;rw[Bool.and_eq_false_iff];refine .inl ?_;rw[List.all_eq_false];exact ⟨c,List.mem_of_getElem? hc,by rw[h];decide⟩
theorem name_all {l:List UInt8} (h:∀(j:Nat) (c:UInt8),j<l.length→l[j]? =some c→nameCh c=true):l.all nameCh=true:=by
 rw[List.all_eq_true];intro c hc;obtain ⟨j,hj,e⟩:=List.getElem_of_mem hc;exact h j c hj (by rw[List.getElem?_eq_getElem hj,e])
theorem sname_c (w:World) (s:ByteArray) (hs:s.size≤1048576):
 Calls Tryz.prog 42 #[.string s] w fun r w'=>r= .returned (.bool (isName s))∧w'=w:=by
 obtain ⟨n,hn⟩:∃n,n=s.size:=⟨_,rfl⟩;have Hn:=hid hn;obtain ⟨l,hl⟩:∃l,l=s.data.toList:=⟨_,rfl⟩;have Hl:=hid hl;have Hs:=hid hs;clear hn hl hs;go_enter Tryz.func42,Tryz.ntmps42;go_wp2
 go_loop [7] (fun v=>∃k:Nat,v= .int .i64 (k:Int)∧Hid (k≤n∧∀(j:Nat) (c:UInt8),j<k→l[j]? =some c→nameCh c=true)) (fun v=>n-(intOf v).toNat)
 case atStart=>exact ⟨0,rfl,hid ⟨Nat.zero_le _,fun j c h=>absurd h (Nat.not_lt_zero _)⟩⟩
 case round=>
  obtain ⟨k,rfl,H⟩:=hrel;have hn:n=s.size:=Hn.out;have hl:l=s.data.toList:=Hl.out;have hs:=Hs.out;by_cases hkn:k<n
  ·obtain ⟨c,hc⟩:=at_lt (s:=s) (by rw[←hn];exact hkn);have hidx:=idx_run' (s:=s) (k:Int) rfl hc;have b3:(k:Int)<(s.size:Int):=by omega
   have wk:=wrap_ok (z:=(k:Int)+1) (by omega) (by omega);have Hms:=hid (meas_step hkn wk);have Hgo:=hid (go_step wk);rcases chr_cases c with ⟨hch,h⟩|⟨hch,h⟩
   ·rcases h with ⟨g0,g1,g2,k0,k1,k2,e0,e1,e2⟩|⟨g0,g1,g2,k0,k1,k2,e0,e1,e2⟩|⟨g0,g1,g2,k0,k1,k2,e0,e1,e2⟩|⟨g0,g1,g2,k0,k1,k2,e0,e1,e2⟩|⟨g0,g1,g2,k0,k1,k2,e0,e1,e2⟩|⟨g0,g1,g2,k0,k1,k2,e0,e1,e2⟩
    all_goals
     have He:=hid (show k+1≤n∧∀(j:Nat) (c:UInt8),j<k+1→l[j]? =some c→nameCh c=true from ⟨hkn,fun j d hj hd=>by
      by_cases e:j=k
      ·subst e;rw[hl,hc]at hd;obtain rfl:=Option.some.inj hd;exact hch
      ·exact H.out.2 j d (by omega) hd⟩)
     clear hn hl hs hkn hc hch H wk;go_wp2;go_round
     case rel=>exact ⟨k+1,Hgo.out,He⟩
     case measure=>exact Hms.out
   ·rcases h with ⟨g0,g1,g2,k0,k1,k2,e0,e1,e2⟩|⟨g0,g1,g2,k0,k1,k2,e0,e1,e2⟩|⟨g0,g1,g2,k0,k1,k2,e0,e1,e2⟩|⟨g0,g1,g2,k0,k1,k2,e0,e1,e2⟩|⟨g0,g1,g2,k0,k1,k2,e0,e1,e2⟩|⟨g0,g1,g2,k0,k1,k2,e0,e1,e2⟩
    all_goals
     have He:=hid (show false=isName s from (name_bad hc hch).symm);clear hn hl hs hkn hc hch H wk;go_wp2;go_ret;exact ⟨ret_b He.out,rfl⟩
  ·have b3:(s.size:Int)≤(k:Int):=by omega
   have hall:s.data.toList.all nameCh=true:=name_all fun j c hj hc=>H.out.2 j c (by rw[len_str]at hj;omega) (by rw[hl];exact hc);have hv:isName s=decide (0<s.size∧s.size≤64):=by unfold isName nameB;rw[hall,len_str];rfl
   rcases Nat.eq_zero_or_pos s.size with h0|h0
   ·have q0:s.toList=[]:=by rw[Lib.toList_data];exact List.eq_nil_of_length_eq_zero (by rw[len_str];exact h0)
    have q1:s.toList.isEmpty=true:=by rw[q0];rfl
    have Q0:=hid q0;have q2:(s.size:Int)≤0:=by omega
    have q3:(!s.toList.isEmpty)=false:=by rw[q1];rfl
    have He:=hid (show false=isName s by rw[hv];exact (dF (by omega)).symm);clear hn hl hs hkn H hall hv h0 q2;go_wp2;go_ret;exact ⟨ret_b He.out,rfl⟩
   ·have q0:¬s.toList=[]:=by rw[Lib.toList_data];intro h;have q:=congrArg List.length h;rw[len_str]at q;exact absurd q (Nat.ne_of_gt h0)
    have q1:s.toList.isEmpty=false:=by cases h:s.toList with|nil=>exact absurd h q0|cons a b=>rfl
    have q3:(!s.toList.isEmpty)=true:=by rw[q1];rfl
    have q2:(0:Int)<(s.size:Int):=by omega
    by_cases h64:s.size≤64
    ·have b4:(s.size:Int)≤64:=by omega
     have He:=hid (show true=isName s by rw[hv];exact (dT (by omega)).symm);clear hn hl hs hkn H hall hv h0 h64 q2;go_wp2;go_ret;exact ⟨ret_b He.out,rfl⟩
    ·have b4:decide ((s.size:Int)≤64)=false:=dF (by omega);have He:=hid (show false=isName s by rw[hv];exact (dF (by omega)).symm);clear hn hl hs hkn H hall hv h0 h64 q2;go_wp2;go_ret;exact ⟨ret_b He.out,rfl⟩
theorem index_any:∀(l:List UInt8) (b:UInt8),0≤Lib.indexByte l b↔l.any (fun c=>decide (c=b))=true
 |[],b=>⟨fun h=>absurd (show (0:Int)≤ -1 from h) (by decide),fun h=>by cases h⟩
 |a::l,b=>by
  have ih:=index_any l b;have hg:=Lib.indexByte_ge l b;rw[List.any_cons];unfold Lib.indexByte;by_cases h:a=b
  ·rw[if_pos (beq_iff_eq.2 h),dT h];simp
  ·rw[if_neg (fun q=>h (eq_of_beq q)),dF h,Bool.false_or,←ih];by_cases h1:Lib.indexByte l b= -1
   ·rw[h1]
    decide
   ·rw[if_neg (fun q=>h1 (eq_of_beq q))];omega
theorem sound_c (w:World) (s:ByteArray) (hs:s.size≤1048576):
 Calls Tryz.prog 140 #[.string s] w fun r w'=>r= .returned (.int .i64 (soundL s.data.toList))∧w'=w:=by
 have Hx:=hid (Tryz.strings_IndexByte s 9 w);by_cases h9:s.data.toList.any (fun c=>decide (c.toNat=9))=true
 ·have hv:soundL s.data.toList=80:=by unfold soundL;rw[if_pos h9]
  have hi:(0:Int)≤Lib.indexByte s.data.toList (9:Int).toNat.toUInt8:=(index_any _ _).2 (by rw[←h9];congr 1;funext c;exact decide_eq_decide.2 ⟨fun h=>by rw[h];rfl,fun h=>by apply UInt8.toNat_inj.1;rw[h];rfl⟩);rw[hv];clear hv h9 hs;generalize Lib.indexByte s.data.toList (9:Int).toNat.toUInt8=z at*;go_enter Tryz.func140,Tryz.ntmps140
  go_wp2_with fail
  refine cS Hx.out ?_;clear Hx;go_wp2;go_ret;exact ⟨rfl,rfl⟩
 ·have hv:soundL s.data.toList=if s.data.toList.any (fun c=>decide (c.toNat<32∨c.toNat=127))=true then 83 else 0:=by unfold soundL;rw[if_neg h9]
  have hi:Lib.indexByte s.data.toList (9:Int).toNat.toUInt8<0:=by
   refine Int.not_le.1 fun h=>h9 ?_;rw[←(index_any _ _).1 h];congr 1;funext c;exact decide_eq_decide.2 ⟨fun h=>by apply UInt8.toNat_inj.1;rw[h];rfl,fun h=>by rw[h];rfl⟩
  have Hv:=hid hv;clear hv h9;generalize Lib.indexByte s.data.toList (9:Int).toNat.toUInt8=z at*;obtain ⟨n,hn⟩:∃n,n=s.size:=⟨_,rfl⟩;have Hn:=hid hn;obtain ⟨l,hl⟩:∃l,l=s.data.toList:=⟨_,rfl⟩;have Hl:=hid hl;have Hs:=hid hs;rw[←hl];rw[←hl]at Hv;clear hn hl hs;go_enter Tryz.func140,Tryz.ntmps140
  go_wp2_with fail
  refine cS Hx.out ?_;clear Hx;go_wp2
  go_loop [9] (fun v=>∃k:Nat,v= .int .i64 (k:Int)∧Hid (k≤n∧∀(j:Nat) (c:UInt8),j<k→l[j]? =some c→¬(c.toNat<32∨c.toNat=127))) (fun v=>n-(intOf v).toNat)
  case atStart=>exact ⟨0,rfl,hid ⟨Nat.zero_le _,fun j c h=>absurd h (Nat.not_lt_zero _)⟩⟩
  case round=>
   obtain ⟨k,rfl,H⟩:=hrel;have hn:n=s.size:=Hn.out;have hl:l=s.data.toList:=Hl.out;have hs:=Hs.out;by_cases hkn:k<n
   ·obtain ⟨c,hc⟩:=at_lt (s:=s) (by rw[←hn];exact hkn);have hidx:=idx_run' (s:=s) (k:Int) rfl hc;have b3:(k:Int)<(s.size:Int):=by omega
    have wk:=wrap_ok (z:=(k:Int)+1) (by omega) (by omega);have Hms:=hid (meas_step hkn wk);have Hgo:=hid (go_step wk);by_cases hlo:c.toNat<32
    ·have p1:(c.toNat:Int)<32:=by omega
     have He:=hid (show 83=soundL l by rw[Hv.out,if_pos];rw[List.any_eq_true];exact ⟨c,List.mem_of_getElem? (by rw[hl];exact hc),dT (.inl hlo)⟩);clear hn hl hs hkn hc hlo H wk;go_wp2;go_ret;exact ⟨ret_i He.out,rfl⟩
    ·have p1:(32:Int)≤(c.toNat:Int):=by omega
     by_cases hhi:c.toNat=127
     ·have p2:((c.toNat:Int)==127)=true:=by rw[beq_iff_eq];omega
      have He:=hid (show 83=soundL l by rw[Hv.out,if_pos];rw[List.any_eq_true];exact ⟨c,List.mem_of_getElem? (by rw[hl];exact hc),dT (.inr hhi)⟩);clear hn hl hs hkn hc hlo hhi H wk;go_wp2;go_ret;exact ⟨ret_i He.out,rfl⟩
     ·have p2:((c.toNat:Int)==127)=false:=bF (by omega);have He:=hid (show k+1≤n∧∀(j:Nat) (c:UInt8),j<k+1→l[j]? =some c→¬(c.toNat<32∨c.toNat=127) from ⟨hkn,fun j d hj hd=>by
       by_cases e:j=k
       ·subst e;rw[hl,hc]at hd;obtain rfl:=Option.some.inj hd;omega
       ·exact H.out.2 j d (by omega) hd⟩)
      clear hn hl hs hkn hc hlo hhi H wk;go_wp2;go_round
      case rel=>exact ⟨k+1,Hgo.out,He⟩
      case measure=>exact Hms.out
   ·have b3:(s.size:Int)≤(k:Int):=by omega
    have He:=hid (show 0=soundL l by
     rw[Hv.out,if_neg];rw[List.any_eq_true];rintro ⟨c,hm,hc⟩;obtain ⟨j,hj,e⟩:=List.getElem_of_mem hm;exact H.out.2 j c (by rw[hl,len_str]at hj;omega) (by rw[List.getElem?_eq_getElem hj,e]) (of_decide_eq_true hc))
    clear hn hl hs hkn H;go_wp2;go_ret;exact ⟨ret_i He.out,rfl⟩
structure RO (w wr:World) (e:TypeId) (sz:Nat) (v:Value) (n:Nat) (xs:List Value):Prop where
 below:Below w.heap.size w wr
 row:wr.ownsRow 0 e sz v n xs
 new:∀g,v.ownBlock=some g→w.heap.size≤g
theorem RO.first (w:World) (e:TypeId) (sz:Nat):RO w w e sz (.slice none 0 0) 0 []:=⟨Below.refl _ _,World.ownsRow_nil _ _ _ _,nofun⟩
theorem RO.later {w wr w2:World} {e:TypeId} {sz n:Nat} {v:Value} {xs:List Value} (h:RO w wr e sz v n xs) (hb:Below wr.heap.size wr w2):RO w w2 e sz v n xs:=
 ⟨h.below.trans (hb.mono h.below.size),own_later h.row hb,h.new⟩
theorem RO.start {w w1:World} {e:TypeId} {sz:Nat} (hb:Below w.heap.size w w1):RO w w1 e sz (.slice none 0 0) 0 []:=(RO.first w e sz).later hb
theorem RO.drewN {w wr:World} {e:TypeId} {sz n:Nat} {v:Value} {xs:List Value} (h:RO w wr e sz v n xs) (k:Nat):RO w (wr.drewN k) e sz v n xs:=⟨bdH h.below k,h.row,h.new⟩
theorem RO.drew {w wr:World} {e:TypeId} {sz n:Nat} {v:Value} {xs:List Value} (h:RO w wr e sz v n xs):RO w wr.drew e sz v n xs:=⟨h.below.drew,h.row,h.new⟩
theorem RO.app {w wr w1 w2:World} {e:TypeId} {sz n m:Nat} {v v':Value} {xs ys:List Value} (h:RO w wr e sz v n xs) (hb1:Below wr.heap.size wr w1) (own2:w2.ownsRow 0 e sz v' m ys) (gr2:w1.grownBy w2 v.ownBlock)
 (new2:∀g,v'.ownBlock=some g→v.ownBlock=some g∨w1.heap.size≤g):RO w w2 e sz v' m ys:=by
 have hb:Below w.heap.size w w1:=h.below.trans (hb1.mono h.below.size);have hm:Mod (fun k=>v.ownBlock=some k) w1 w2:=(Mod.refl _ _).grown gr2 (fun k e _=>e);refine ⟨hb.trans (hm.below hb.size fun k hk=>h.new k hk),own2,fun g hg=> ?_⟩;rcases new2 g hg with q|q
 ·exact h.new g q
 ·exact Nat.le_trans hb.size q
theorem binfo:(Tryz.prog.info? 5).map (fun i=>(i.zero,i.size,i.bytes))=some (some (.int .u8 0),1,1):=by kernel_rfl
theorem byteCells_snoc (l:List UInt8) (c:UInt8):Lib.byteCells (l++[c])=Lib.byteCells l++[.int .u8 (c.toNat:Int)]:=by simp[Lib.byteCells]
abbrev ByteRow (w:World) (B:Nat) (v:Value) (l:List UInt8):Prop:=w.ownsRow B 5 1 v l.length (Lib.byteCells l)
theorem conv_row {w:World} {B:Nat} {v:Value} {l:List UInt8} (h:ByteRow w B v l):(convert 42 9 v).run Tryz.prog w= .ok (.string ⟨l.toArray⟩) w:=by
 rcases h.2 with ⟨hv,hn⟩|⟨g,cap,cur,hv,_⟩
 ·have hl:l=[]:=List.eq_nil_of_length_eq_zero hn;subst hl;rw[hv];have:=run_convert_bytes_string (P:= Tryz.prog) w 42 9 5 none 0 0 Tryz.underlying42 Tryz.underlying5 Tryz.underlying9;rw[this];simp[Conv.bytesToString,go_sem];rfl
 ·rw[hv];refine run_convert_bytes_back (P:= Tryz.prog) w 42 9 5 ⟨g,0,none⟩ cap l Tryz.underlying42 Tryz.underlying5 Tryz.underlying9 (fun j hj=> ?_);refine h.cells (g:=g) (by rw[hv];rfl) j _ ?_;unfold Lib.byteCells;rw[List.getElem?_map,List.getElem?_eq_getElem hj];rfl
abbrev RB (w wr:World) (v:Value) (l:List UInt8):Prop:=RO w wr 5 1 v l.length (Lib.byteCells l)
theorem RB.app {w wr w2:World} {v v':Value} {l:List UInt8} {c:UInt8} {o:Obj} (h:RB w wr v l) (own2:w2.ownsRow 0 5 1 v' (l.length+1) (Lib.byteCells l++[.int .u8 (c.toNat:Int)])) (gr2:(wr.alloc o).grownBy w2 v.ownBlock) (new2:∀g,v'.ownBlock=some g→v.ownBlock=some g∨(wr.alloc o).heap.size≤g):RB w w2 v' (l++[c]):=by
 have:=RO.app h ((Below.refl _ wr).alloc (Nat.le_refl _) o) own2 gr2 new2
 show RO w w2 _ 1 v' (l++[c]).length (Lib.byteCells (l++[c]))
 rw[byteCells_snoc,List.length_append];exact this
theorem byteAppend {w:World} {ops:Array Oper} {rest:List Oper} {o:Oper} {a:Act} {Q:Exit→Act→World→Prop} (hgd:o.guard=none) (s x:Operand)
 (ho:o.op= .call {callee:= .builtin .append,args:=#[s,x],argTypes:=#[42,42]})
 (v:Value) (l:List UInt8) (hs:a.eval s=v) (hown:w.ownsRow 0 5 1 v l.length (Lib.byteCells l)) (g:Nat) (c:UInt8) (hx:a.eval x= .slice (some ⟨g,0,none⟩) 1 1)
 (hnew:w.cell? ⟨g,0,none⟩=some (.int .u8 (c.toNat:Int))) (hlen:l.length≤1000000000)
 (h:∀v' w',w'.ownsRow 0 5 1 v' (l.length+1) (Lib.byteCells l++[.int .u8 (c.toNat:Int)])→w.grownBy w' v.ownBlock→(∀g,v'.ownBlock=some g→v.ownBlock=some g∨w.heap.size≤g)→
  wpList Tryz.prog ops Q rest (a.put o.dst v') w'):wpList Tryz.prog ops Q (o::rest) a w:=by
 obtain ⟨i0,hi5,hz0,hz1,hz2⟩:=info_parts binfo;refine wpList_append_sl w hgd s x 42 ho 5 i0 (.int .u8 0) 1 1 Tryz.underlying42 hi5 hz0 hz1 hz2 rfl (by decide) v l.length (Lib.byteCells l) hs hown (some ⟨g,0,none⟩) 1 1 [.int .u8 (c.toNat:Int)] hx rfl
  (fun hn=>by cases hn) (fun ad had=> ?_) (fun u hu=>by simp at hu;subst hu;rfl) (by unfold maxLen;omega) (by omega) h
 obtain rfl:=Option.some.inj had;intro j u hj;cases j with
 |zero=>
  simp only[List.getElem?_cons_zero,Option.some.injEq]at hj;subst hj;exact hnew
 |succ j=>simp at hj
theorem RB.drewN {w wr:World} {v:Value} {l:List UInt8} (h:RB w wr v l) (k:Nat):RB w (wr.drewN k) v l:=RO.drewN h k
theorem RB.drew {w wr:World} {v:Value} {l:List UInt8} (h:RB w wr v l):RB w wr.drew v l:=RO.drew h
abbrev hexes:ByteArray:=⟨#[48,49,50,51,52,53,54,55,56,57,97,98,99,100,101,102]⟩
theorem hexD_fin:∀c:Fin 256,Lib.indexByte hexes.data.toList (UInt8.ofNat c.val)=hexD (UInt8.ofNat c.val):=by decide+kernel
theorem hexD_index (c:UInt8):Lib.indexByte hexes.data.toList c=hexD c:=by
 have:=hexD_fin ⟨c.toNat,c.toNat_lt⟩;rw[UInt8.ofNat_toNat]at this;exact this
theorem hexD_ge (c:UInt8): -1≤hexD c:=by
 unfold hexD
 split
 ·omega
 ·split<;>omega
theorem ix_call (x:UInt8) (w1:World):Calls Tryz.prog 177 #[.string hexes,.int .u8 (x.toNat:Int)] w1 fun r w'=>r= .returned (.int .i64 (hexD x))∧w'=w1:=
 (Tryz.strings_IndexByte hexes (x.toNat:Int) w1).mono fun r w' ⟨hr,hw⟩=>⟨by
  rw[hr];have e:((x.toNat:Int)).toNat.toUInt8=x:=by
   show (x.toNat).toUInt8=x
   simp
  rw[e,hexD_index],hw⟩
theorem or_key:∀a b:Fin 16,bits BinOp.or IntKind.i64 (wrap64 ((a.val:Int)*16)) (b.val:Int) % 256=16*(a.val:Int)+(b.val:Int):=by decide+kernel
theorem or_val {h o:UInt8} (h1:0≤hexD h) (h2:0≤hexD o):bits BinOp.or IntKind.i64 (wrap64 (hexD h*16)) (hexD o) % 256=((hexB h o).toNat:Int):=by
 rw[hexB_nat h1 h2];have q1:=hexD_le h;have q2:=hexD_le o;generalize hexD h=hi at*;generalize hexD o=lo at*;obtain ⟨a,rfl⟩:∃a:Fin 16,hi=(a.val:Int):=⟨⟨hi.toNat,by omega⟩,by show hi=(hi.toNat:Int);omega⟩;obtain ⟨b,rfl⟩:∃b:Fin 16,lo=(b.val:Int):=⟨⟨lo.toNat,by omega⟩,by show lo=(lo.toNat:Int);omega⟩;exact or_key a b
theorem new_val {W:World} {hi lo:Int} {B:UInt8} (h:bits BinOp.or IntKind.i64 (wrap64 (hi*16)) lo % 256=(B.toNat:Int)):
 (W.alloc (.cells #[.int .u8 (bits BinOp.or IntKind.i64 (wrap64 (hi*16)) lo % 256)] 5)).cell? ⟨W.heap.size,0,none⟩=some (.int .u8 (B.toNat:Int)):=by
 rw[World.cell?_alloc_new,h];rfl
theorem hex_pack (h o:UInt8):∃(hi lo:Int),(∀w1,Calls Tryz.prog 177 #[.string hexes,.int .u8 (h.toNat:Int)] w1 fun r w'=>r= .returned (.int .i64 hi)∧w'=w1)∧
 (∀w1,Calls Tryz.prog 177 #[.string hexes,.int .u8 (o.toNat:Int)] w1 fun r w'=>r= .returned (.int .i64 lo)∧w'=w1)∧
 (hi=hexD h∧lo=hexD o)∧(0≤hi→0≤lo→bits BinOp.or IntKind.i64 (wrap64 (hi*16)) lo % 256=((hexB h o).toNat:Int)):=
 ⟨hexD h,hexD o,ix_call h,ix_call o,⟨rfl,rfl⟩,or_val⟩
def putL (out s:List UInt8):List UInt8:=if out.length≤65536 then out++s else out
def hexL:List UInt8:=[48,49,50,51,52,53,54,55,56,57,97,98,99,100,101,102]
def escQ (c:UInt8):List UInt8:=
 if c.toNat=34∨c.toNat=92 then [92,c] else if c.toNat=10 then [92,110] else if c.toNat=9 then [92,116]
 else if c.toNat<32∨c.toNat=127 then [92,120,hexL[c.toNat / 16]!,hexL[c.toNat % 16]!] else [c]
def quoteL (l:List UInt8):List UInt8:=34::l.flatMap escQ++[34]
def keyQ (l:List UInt8):List UInt8:=if l≠[]∧l.length≤64∧l.all nameCh=true then l else quoteL l
def textN (n:Nd):List UInt8:=
 if n.quoted=true then 32::quoteL n.text.data.toList else if n.text.data.toList≠[] then 32::n.text.data.toList else []
def layK (ns:List Nd) (lay:Nat→Nat→Bool→List UInt8→List UInt8) (kind:Int) (indent:Nat):List Int→Bool→List UInt8→List UInt8
 |[],_,out=>out
 |k::r,there,out=>
  layK ns lay kind indent r false
   (if (ns[k.toNat]!).kind=1 then
    putL (putL (putL (if there=true then out else putL out (List.replicate indent 32)) (if kind=2 then keyQ (ns[k.toNat]!).key.data.toList++[58] else [45])) (textN (ns[k.toNat]!))) [10]
   else if kind=2 then
    lay k.toNat (indent+2) false (putL (putL (if there=true then out else putL out (List.replicate indent 32)) (keyQ (ns[k.toNat]!).key.data.toList++[58])) [10])
   else
    lay k.toNat (indent+2) true (putL (putL (if there=true then out else putL out (List.replicate indent 32)) [45]) [32]))
def layP (ns:List Nd):Nat→Nat→Nat→Bool→List UInt8→List UInt8
 |0,_,_,_,out=>out
 |f+1,i,indent,there,out=>
  if (ns[i]!).kind=1 then (if textN (ns[i]!)=[] then out else putL (putL out (textN (ns[i]!)).tail) [10])
  else layK ns (layP ns f) (ns[i]!).kind indent (ns[i]!).kids there out
def emitL (ns:List Nd):List UInt8:=layP ns ns.length 0 0 false []
end Go.Proofs.YtfenoaeoedobmaaGreatDoor
