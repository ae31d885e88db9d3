/-
Parts of a proof, one behind the other (laid dense by a program of mine: pack.py).
-/
import Derived.Test.YtfenoaeoedobmaaGreatDoorRd18
import Derived.Test.YtfenoaeoedobmaaGreatDoorRd24
set_option linter.unusedVariables false
set_option linter.unusedSimpArgs false
set_option maxHeartbeats 8000000
set_option maxRecDepth 20000
namespace Go.Proofs.YtfenoaeoedobmaaGreatDoor
open Go Go.RowKit
theorem all_of {l:List UInt8} {p:UInt8→Bool} (h:∀(j:Nat) (c:UInt8),j<l.length→l[j]? =some c→p c=true):l.all p=true:=by
 rw[List.all_eq_true];intro c hc;obtain ⟨j,hj,e⟩:=List.getElem_of_mem hc;exact h j c hj (by rw[List.getElem?_eq_getElem hj,e])
theorem all_no {l:List UInt8} {p:UInt8→Bool} {k:Nat} {c:UInt8} (hc:l[k]? =some c) (h:p c=false):l.all p=false:=by
 rw[List.all_eq_false];exact ⟨c,List.mem_of_getElem? hc,by rw[h];decide⟩
theorem meth_bad {s:ByteArray} {k:Nat} {c:UInt8} (hc:s.data.toList[k]? =some c) (h:upCh c=false):methL s.data.toList=false:=by
 unfold methL;rw[all_no hc h];rfl
theorem rmeth_bad {s:ByteArray} {k:Nat} {c:UInt8} (hc:s.data.toList[k]? =some c) (h:upCh c=false):methL s.data.toList=false:=meth_bad hc h
theorem meth_size {s:ByteArray} (h:s.data.toList.all upCh=true) (h2:¬(0<s.size∧s.size≤64)):methL s.data.toList=false:=by
 unfold methL;rw[h,len_str,dF h2];rfl
theorem meth_yes {s:ByteArray} (h:s.data.toList.all upCh=true) (h2:0<s.size∧s.size≤64):methL s.data.toList=true:=by
 unfold methL;rw[h,len_str,dT h2];rfl
theorem rpath_bad {s:ByteArray} {k:Nat} {c:UInt8} (hc:s.data.toList[k]? =some c) (h:pchar c=false):pathB s.data.toList=false:=by
 unfold pathB;rw[all_no hc h,Bool.and_false]
theorem rpath_size {s:ByteArray} (h:s.data.toList.all pchar=true) (h2:¬(1≤s.size∧s.size≤256∧s.data.toList[0]? =some 47)):pathB s.data.toList=false:=by
 unfold pathB;rw[h,len_str,dF h2];rfl
theorem rpath_yes {s:ByteArray} (h:s.data.toList.all pchar=true) (h2:1≤s.size∧s.size≤256∧s.data.toList[0]? =some 47):pathB s.data.toList=true:=by
 unfold pathB;rw[h,len_str,dT h2];rfl
theorem meth_c (w:World) (s:ByteArray) (hs:s.size≤1048576):
 Calls Tryz.prog 159 #[.string s] w fun r w'=>r= .returned (.bool (methL s.data.toList))∧w'=w:=by
 obtain ⟨n,hn⟩:∃n,n=s.size:=⟨_,rfl⟩;have Hn:=hid hn;obtain ⟨l,hl⟩:∃l,l=s.data.toList:=⟨_,rfl⟩;have Hl:=hid hl;have Hs:=hid hs;clear hn hl hs;go_enter Tryz.func159,Tryz.ntmps159;go_wp2
 go_loop [6] (fun v=>∃k:Nat,v= .int .i64 (k:Int)∧Hid (k≤n∧∀(j:Nat) (c:UInt8),j<k→l[j]? =some c→upCh c=true)) (fun v=>n-(intOf v).toNat)
 case atStart=>exact ⟨0,rfl,hid ⟨Nat.zero_le _,fun j c h=>absurd h (Nat.not_lt_zero _)⟩⟩
 case round=>
  obtain ⟨k,rfl,H⟩:=hrel;have hn:n=s.size:=Hn.out;have hl:l=s.data.toList:=Hl.out;have hs:=Hs.out;by_cases hkn:k<n
  ·obtain ⟨c,hc⟩:=at_lt (s:=s) (by rw[←hn];exact hkn);have hidx:=idx_run' (s:=s) (k:Int) rfl hc;have b3:(k:Int)<(s.size:Int):=by omega
   have wk:=wrap_ok (z:=(k:Int)+1) (by omega) (by omega);have Hms:=hid (meas_step hkn wk);have Hgo:=hid (go_step wk);by_cases h1:c.toNat<65
   ·have hch:upCh c=false:=dF (by omega);have g0:(c.toNat:Int)<65:=by omega
    have He:=hid (show false=methL s.data.toList from (meth_bad hc hch).symm);clear hn hl hs hkn hc H wk hch h1;go_wp2;go_ret;exact ⟨ret_b He.out,rfl⟩
   have g0:(65:Int)≤(c.toNat:Int):=by omega
   by_cases h2:90<c.toNat
   ·have hch:upCh c=false:=dF (by omega);have g1:(90:Int)<(c.toNat:Int):=by omega
    have He:=hid (show false=methL s.data.toList from (meth_bad hc hch).symm);clear hn hl hs hkn hc H wk hch h1 h2;go_wp2;go_ret;exact ⟨ret_b He.out,rfl⟩
   have g1:(c.toNat:Int)≤90:=by omega
   have hch:upCh c=true:=dT (by omega);have He:=hid (show k+1≤n∧∀(j:Nat) (c:UInt8),j<k+1→l[j]? =some c→upCh c=true from ⟨hkn,fun j d hj hd=>by
    by_cases e:j=k
    ·subst e;rw[hl,hc]at hd;obtain rfl:=Option.some.inj hd;exact hch
    ·exact H.out.2 j d (by omega) hd⟩)
   clear hn hl hs hkn hc H wk hch h1 h2;go_wp2;go_round
   case rel=>exact ⟨k+1,Hgo.out,He⟩
   case measure=>exact Hms.out
  ·have b3:(s.size:Int)≤(k:Int):=by omega
   have hall:s.data.toList.all upCh=true:=all_of fun j c hj hc=>H.out.2 j c (by rw[len_str]at hj;omega) (by rw[hl];exact hc);rcases Nat.eq_zero_or_pos s.size with h0|h0
   ·have q2:(s.size:Int)≤0:=by omega
    have q3:(s.size:Int)<1:=by omega
    have He:=hid (show false=methL s.data.toList from (meth_size hall (by omega)).symm);clear hn hl hs hkn H hall h0;go_wp2;go_ret;exact ⟨ret_b He.out,rfl⟩
   ·have q2:(0:Int)<(s.size:Int):=by omega
    have q3:(1:Int)≤(s.size:Int):=by omega
    by_cases h64:s.size≤64
    ·have b4:(s.size:Int)≤64:=by omega
     have He:=hid (show true=methL s.data.toList from (meth_yes hall (by omega)).symm);clear hn hl hs hkn H hall h0 h64;go_wp2;go_ret;exact ⟨ret_b He.out,rfl⟩
    ·have b4:decide ((s.size:Int)≤64)=false:=dF (by omega);have b5:(64:Int)<(s.size:Int):=by omega
     have He:=hid (show false=methL s.data.toList from (meth_size hall (by omega)).symm);clear hn hl hs hkn H hall h0 h64;go_wp2;go_ret;exact ⟨ret_b He.out,rfl⟩
theorem rmeth_c (w:World) (s:ByteArray) (hs:s.size≤1048576):
 Calls Tryz.prog 167 #[.string s] w fun r w'=>r= .returned (.bool (methL s.data.toList))∧w'=w:=by
 obtain ⟨n,hn⟩:∃n,n=s.size:=⟨_,rfl⟩;have Hn:=hid hn;obtain ⟨l,hl⟩:∃l,l=s.data.toList:=⟨_,rfl⟩;have Hl:=hid hl;have Hs:=hid hs;clear hn hl hs;go_enter Tryz.func167,Tryz.ntmps167;go_wp2
 go_loop [3] (fun v=>∃k:Nat,v= .int .i64 (k:Int)∧Hid (k≤n∧∀(j:Nat) (c:UInt8),j<k→l[j]? =some c→upCh c=true)) (fun v=>n-(intOf v).toNat)
 case atStart=>exact ⟨0,rfl,hid ⟨Nat.zero_le _,fun j c h=>absurd h (Nat.not_lt_zero _)⟩⟩
 case round=>
  obtain ⟨k,rfl,H⟩:=hrel;have hn:n=s.size:=Hn.out;have hl:l=s.data.toList:=Hl.out;have hs:=Hs.out;by_cases hkn:k<n
  ·obtain ⟨c,hc⟩:=at_lt (s:=s) (by rw[←hn];exact hkn);have hidx:=idx_run' (s:=s) (k:Int) rfl hc;have b3:(k:Int)<(s.size:Int):=by omega
   have wk:=wrap_ok (z:=(k:Int)+1) (by omega) (by omega);have Hms:=hid (meas_step hkn wk);have Hgo:=hid (go_step wk);by_cases h1:c.toNat<65
   ·have hch:upCh c=false:=dF (by omega);have g0:(c.toNat:Int)<65:=by omega
    have He:=hid (show false=methL s.data.toList from (rmeth_bad hc hch).symm);clear hn hl hs hkn hc H wk hch h1;go_wp2;go_ret;exact ⟨ret_b He.out,rfl⟩
   have g0:(65:Int)≤(c.toNat:Int):=by omega
   by_cases h2:90<c.toNat
   ·have hch:upCh c=false:=dF (by omega);have g1:(90:Int)<(c.toNat:Int):=by omega
    have He:=hid (show false=methL s.data.toList from (rmeth_bad hc hch).symm);clear hn hl hs hkn hc H wk hch h1 h2;go_wp2;go_ret;exact ⟨ret_b He.out,rfl⟩
   have g1:(c.toNat:Int)≤90:=by omega
   have hch:upCh c=true:=dT (by omega);have He:=hid (show k+1≤n∧∀(j:Nat) (c:UInt8),j<k+1→l[j]? =some c→upCh c=true from ⟨hkn,fun j d hj hd=>by
    by_cases e:j=k
    ·subst e;rw[hl,hc]at hd;obtain rfl:=Option.some.inj hd;exact hch
    ·exact H.out.2 j d (by omega) hd⟩)
   clear hn hl hs hkn hc H wk hch h1 h2;go_wp2;go_round
   case rel=>exact ⟨k+1,Hgo.out,He⟩
   case measure=>exact Hms.out
  ·have b3:(s.size:Int)≤(k:Int):=by omega
   have hall:s.data.toList.all upCh=true:=all_of fun j c hj hc=>H.out.2 j c (by rw[len_str]at hj;omega) (by rw[hl];exact hc);rcases Nat.eq_zero_or_pos s.size with h0|h0
   ·have q2:(s.size:Int)≤0:=by omega
    have q3:(s.size:Int)<1:=by omega
    have He:=hid (show false=methL s.data.toList from (meth_size hall (by omega)).symm);clear hn hl hs hkn H hall h0;go_wp2;go_ret;exact ⟨ret_b He.out,rfl⟩
   ·have q2:(0:Int)<(s.size:Int):=by omega
    have q3:(1:Int)≤(s.size:Int):=by omega
    by_cases h64:s.size≤64
    ·have b4:(s.size:Int)≤64:=by omega
     have He:=hid (show true=methL s.data.toList from (meth_yes hall (by omega)).symm);clear hn hl hs hkn H hall h0 h64;go_wp2;go_ret;exact ⟨ret_b He.out,rfl⟩
    ·have b4:decide ((s.size:Int)≤64)=false:=dF (by omega);have b5:(64:Int)<(s.size:Int):=by omega
     have He:=hid (show false=methL s.data.toList from (meth_size hall (by omega)).symm);clear hn hl hs hkn H hall h0 h64;go_wp2;go_ret;exact ⟨ret_b He.out,rfl⟩
theorem rpath_c (w:World) (s:ByteArray) (hs:s.size≤1048576):
 Calls Tryz.prog 166 #[.string s] w fun r w'=>r= .returned (.bool (pathB s.data.toList))∧w'=w:=by
 obtain ⟨n,hn⟩:∃n,n=s.size:=⟨_,rfl⟩;have Hn:=hid hn;obtain ⟨l,hl⟩:∃l,l=s.data.toList:=⟨_,rfl⟩;have Hl:=hid hl;have Hs:=hid hs;clear hn hl hs;go_enter Tryz.func166,Tryz.ntmps166;go_wp2
 go_loop [3] (fun v=>∃k:Nat,v= .int .i64 (k:Int)∧Hid (k≤n∧∀(j:Nat) (c:UInt8),j<k→l[j]? =some c→pchar c=true)) (fun v=>n-(intOf v).toNat)
 case atStart=>exact ⟨0,rfl,hid ⟨Nat.zero_le _,fun j c h=>absurd h (Nat.not_lt_zero _)⟩⟩
 case round=>
  obtain ⟨k,rfl,H⟩:=hrel;have hn:n=s.size:=Hn.out;have hl:l=s.data.toList:=Hl.out;have hs:=Hs.out;by_cases hkn:k<n
  ·obtain ⟨c,hc⟩:=at_lt (s:=s) (by rw[←hn];exact hkn);have hidx:=idx_run' (s:=s) (k:Int) rfl hc;have b3:(k:Int)<(s.size:Int):=by omega
   have wk:=wrap_ok (z:=(k:Int)+1) (by omega) (by omega);have Hms:=hid (meas_step hkn wk);have Hgo:=hid (go_step wk);by_cases h1:c.toNat<33
   ·have hch:pchar c=false:=dF (by omega);have g0:(c.toNat:Int)<33:=by omega
    have He:=hid (show false=pathB s.data.toList from (rpath_bad hc hch).symm);clear hn hl hs hkn hc H wk hch h1;go_wp2;go_ret;exact ⟨ret_b He.out,rfl⟩
   have g0:(33:Int)≤(c.toNat:Int):=by omega
   by_cases h2:126<c.toNat
   ·have hch:pchar c=false:=dF (by omega);have g1:(126:Int)<(c.toNat:Int):=by omega
    have He:=hid (show false=pathB s.data.toList from (rpath_bad hc hch).symm);clear hn hl hs hkn hc H wk hch h1 h2;go_wp2;go_ret;exact ⟨ret_b He.out,rfl⟩
   have g1:(c.toNat:Int)≤126:=by omega
   have hch:pchar c=true:=dT (by omega);have He:=hid (show k+1≤n∧∀(j:Nat) (c:UInt8),j<k+1→l[j]? =some c→pchar c=true from ⟨hkn,fun j d hj hd=>by
    by_cases e:j=k
    ·subst e;rw[hl,hc]at hd;obtain rfl:=Option.some.inj hd;exact hch
    ·exact H.out.2 j d (by omega) hd⟩)
   clear hn hl hs hkn hc H wk hch h1 h2;go_wp2;go_round
   case rel=>exact ⟨k+1,Hgo.out,He⟩
   case measure=>exact Hms.out
  ·have b3:(s.size:Int)≤(k:Int):=by omega
   have hall:s.data.toList.all pchar=true:=all_of fun j c hj hc=>H.out.2 j c (by rw[len_str]at hj;omega) (by rw[hl];exact hc);rcases Nat.eq_zero_or_pos s.size with h0|h0
   ·have q2:(s.size:Int)≤0:=by omega
    have q3:(s.size:Int)<1:=by omega
    have He:=hid (show false=pathB s.data.toList from (rpath_size hall (by omega)).symm);clear hn hl hs hkn H hall h0;go_wp2;go_ret;exact ⟨ret_b He.out,rfl⟩
   ·have q2:(0:Int)<(s.size:Int):=by omega
    have q3:(1:Int)≤(s.size:Int):=by omega
    by_cases h64:s.size≤256
    ·have b4:(s.size:Int)≤256:=by omega
     obtain ⟨c0,hc0⟩:=at_lt (s:=s) h0;have hi0:=idx_run' (s:=s) (k:=0) (0:Int) rfl hc0;have h0':(0:Int)<(s.size:Int):=by omega
     by_cases h47:c0.toNat=47
     ·have t1:((c0.toNat:Int)==47)=true:=by rw[beq_iff_eq];omega
      have He:=hid (show true=pathB s.data.toList from (rpath_yes hall ⟨by omega,h64,by rw[hc0];exact congrArg some (UInt8.toNat_inj.1 h47)⟩).symm);clear hn hl hs hkn H hall h0 h64 hc0 h47;go_wp2;go_ret;exact ⟨ret_b He.out,rfl⟩
     ·have t1:((c0.toNat:Int)==47)=false:=bF (by omega);have He:=hid (show false=pathB s.data.toList from (rpath_size hall (fun q=>h47 (by
       have e:=q.2.2;rw[hc0]at e;rw[Option.some.inj e];rfl))).symm)
      clear hn hl hs hkn H hall h0 h64 hc0 h47;go_wp2;go_ret;exact ⟨ret_b He.out,rfl⟩
    ·have b4:decide ((s.size:Int)≤256)=false:=dF (by omega);have b5:(256:Int)<(s.size:Int):=by omega
     have He:=hid (show false=pathB s.data.toList from (rpath_size hall (by omega)).symm);clear hn hl hs hkn H hall h0 h64;go_wp2;go_ret;exact ⟨ret_b He.out,rfl⟩
theorem pmethod_c (w:World) (s:ByteArray) (hs:s.size≤1048576):
 Calls Tryz.prog 122 #[.string s] w fun r w'=>r= .returned (.bool (methB s))∧w'=w:=by
 have Hm:=hid (meth_c w s hs);have hv:methB s=((s.toList==[42])||methL s.data.toList):=rfl;rw[hv];clear hs hv;cases h:(s.toList==[42]) with
 |true=>
  clear Hm;go_enter Tryz.func122,Tryz.ntmps122;go_wp2;go_ret;exact ⟨rfl,rfl⟩
 |false=>
  generalize methL s.data.toList=m at*;go_enter Tryz.func122,Tryz.ntmps122
  go_wp2_with fail
  refine Hm.out.mono ?_;rintro r w1 ⟨rfl,rfl⟩;clear Hm;go_wp2;go_ret;exact ⟨rfl,rfl⟩
theorem rmethod_c (w:World) (s:ByteArray) (hs:s.size≤1048576):
 Calls Tryz.prog 133 #[.string s] w fun r w'=>r= .returned (.bool (methB s))∧w'=w:=by
 have Hm:=hid (rmeth_c w s hs);have hv:methB s=((s.toList==[42])||methL s.data.toList):=rfl;rw[hv];clear hs hv;cases h:(s.toList==[42]) with
 |true=>
  clear Hm;go_enter Tryz.func133,Tryz.ntmps133;go_wp2;go_ret;exact ⟨rfl,rfl⟩
 |false=>
  generalize methL s.data.toList=m at*;go_enter Tryz.func133,Tryz.ntmps133
  go_wp2_with fail
  refine Hm.out.mono ?_;rintro r w1 ⟨rfl,rfl⟩;clear Hm;go_wp2;go_ret;exact ⟨rfl,rfl⟩
theorem phost_c (w:World) (s:ByteArray):
 Calls Tryz.prog 83 #[.string s] w fun r w'=>r= .returned (.bool (hostB s))∧Below w.heap.size w w':=by
 have Hh:=hid (host_c w s);unfold HostPost at Hh;have hv:hostB s=decide ((hostV s).1≠3):=rfl;rw[hv];clear hv;obtain ⟨z,hz⟩:∃z,z=(hostV s).1:=⟨_,rfl⟩;rw[←hz]at Hh ⊢;clear hz;by_cases h3:z=3
 ·have t1:(z==3)=true:=by rw[beq_iff_eq];exact h3
  have He:=hid (show false=decide (z≠3) from (dF (fun q=>q h3)).symm);have p3:z=3:=h3;clear h3;go_enter Tryz.func83,Tryz.ntmps83
  go_wp2_with fail
  refine Hh.out.mono ?_;rintro r w1 ⟨rfl,hb⟩;have Hb:=hid hb;have HE:=hid p3;clear hb Hh p3;go_wp2;go_ret;exact ⟨ret_b (by rw[←He.out];first|rfl|(rw[HE.out];rfl)|simp[HE.out]),Hb.out⟩
 ·have t1:(z==3)=false:=by rw[beq_eq_false_iff_ne];exact h3
  have He:=hid (show true=decide (z≠3) from (dT h3).symm);clear h3;go_enter Tryz.func83,Tryz.ntmps83
  go_wp2_with fail
  refine Hh.out.mono ?_;rintro r w1 ⟨rfl,hb⟩;have Hb:=hid hb;clear hb Hh;go_wp2;go_ret;exact ⟨ret_b (by rw[←He.out];first|rfl|(simp;exact beq_eq_false_iff_ne.1 t1)),Hb.out⟩
theorem beg_zero {s:ByteArray} (h:s.size=0):begB s=false:=by
 unfold begB;have e:s.data.toList=[]:=List.eq_nil_of_length_eq_zero (by rw[len_str];exact h);rw[e];rfl
theorem ext_listB (s:ByteArray) (i j:Nat):(s.extract i j).data.toList=(s.data.toList.drop i).take (j-i):=by
 rw[ByteArray.data_extract,Array.toList_extract,List.extract_eq_take_drop]
theorem beg_last {s:ByteArray} {m:Nat} (h:s.size=m+1):((s.extract m s.size).toList==[42])=begB s:=by
 rw[h];unfold begB Lib.hasSuffix;have hl:s.data.toList.length=m+1:=by rw[len_str,h]
 rw[Lib.toList_data,ext_listB,Nat.add_sub_cancel_left];obtain ⟨c,hc⟩:∃c,s.data.toList[m]? =some c:=at_of_lt (by omega);have hd:s.data.toList.drop m=[c]:=by
  have h1:=List.getElem?_eq_some_iff.1 hc;obtain ⟨h2,h3⟩:=h1;rw[List.drop_eq_getElem_cons h2,h3,List.drop_eq_nil_of_le (by omega)]
 rw[hd];have e:s.data.toList=s.data.toList.take m++[c]:=by
  have:=List.take_append_drop m s.data.toList;rw[hd]at this;exact this.symm
 rw[e];have e2:∀A:List UInt8,List.isSuffixOf [42] (A++[c])=(42==c):=fun A=>by
  unfold List.isSuffixOf;rw[List.reverse_append]
  show (42==c&&List.isPrefixOf [] A.reverse)=_
  cases A.reverse<;>simp[List.isPrefixOf]
 rw[e2]
 show ([c]==[42])=(42==c)
 by_cases h42:c=42
 ·rw[h42];rfl
 ·rw[beq_eq_false_iff_ne.2 (fun q=>h42 q.symm:(42:UInt8)≠c)];exact beq_eq_false_iff_ne.2 (fun q=>h42 (by injection q))
theorem begP_no {s:ByteArray} (h:begB s=false):begP s=s:=by
 unfold begP Lib.trimSuffix;unfold begB at h;rw[h];simp
theorem begP_yes {s:ByteArray} {m:Nat} (hs:s.size=m+1) (h:begB s=true):begP s=s.extract 0 m:=by
 unfold begP Lib.trimSuffix;unfold begB at h;rw[h,if_pos rfl];apply ba_list;rw[ext_listB];have hl:s.data.toList.length=m+1:=by rw[len_str,hs]
 simp[hs]
theorem rends_c (w:World) (s:ByteArray) (hs:s.size≤1048576):
 Calls Tryz.prog 194 #[.string s,.string ⟨#[42]⟩] w fun r w'=>r= .returned (.bool (begB s))∧w'=w:=by
 rcases Nat.eq_zero_or_pos s.size with h0|h0
 ·have He:=hid (beg_zero h0);have q1:decide (1≤(s.size:Int))=false:=dF (by omega);have q2:(s.size:Int)<1:=by omega
  clear hs h0;go_enter Tryz.func194,Tryz.ntmps194;go_wp2;go_ret;exact ⟨ret_b He.out.symm,rfl⟩
 ·obtain ⟨m,hm⟩:∃m,s.size=m+1:=⟨s.size-1,by omega⟩;have He:=hid (beg_last hm);have q1:(1:Int)≤(s.size:Int):=by omega
  have wm:wrap64 ((s.size:Int)-1)=(m:Int):=by unfold wrap64;omega
  have q2:(m:Int)≤(s.size:Int):=by omega
  have Hm:=hid hm;clear hs h0 hm;go_enter Tryz.func194,Tryz.ntmps194;go_wp2;go_ret;exact ⟨ret_b He.out,rfl⟩
theorem rstar_c (w:World) (s:ByteArray) (hs:s.size≤1048576):
 Calls Tryz.prog 165 #[.string s] w fun r w'=>r= .returned (.tuple #[.string (begP s),.bool (begB s)])∧w'=w:=by
 have Hc:=hid (rends_c w s hs);cases hb:begB s with
 |true=>
  have h0:0<s.size:=by
   rcases Nat.eq_zero_or_pos s.size with e|e
   ·rw[beg_zero e]at hb;cases hb
   ·exact e
  obtain ⟨m,hm⟩:∃m,s.size=m+1:=⟨s.size-1,by omega⟩;have hp:=begP_yes hm hb;rw[hp];rw[hb]at Hc;have wm:wrap64 ((s.size:Int)-1)=(m:Int):=by unfold wrap64;omega
  have q2:(m:Int)≤(s.size:Int):=by omega
  clear hs h0 hm hb hp;go_enter Tryz.func165,Tryz.ntmps165
  go_wp2_with fail
  refine Hc.out.mono ?_;rintro r w1 ⟨rfl,rfl⟩;clear Hc;go_wp2
  go_ret2
  exact ⟨rfl,rfl⟩
 |false=>
  have hp:=begP_no hb;rw[hp];rw[hb]at Hc;clear hs hb hp;go_enter Tryz.func165,Tryz.ntmps165
  go_wp2_with fail
  refine Hc.out.mono ?_;rintro r w1 ⟨rfl,rfl⟩;clear Hc;go_wp2
  go_ret2
  exact ⟨rfl,rfl⟩
theorem rpat_c (w:World) (s:ByteArray) (hs:s.size≤1048576):
 Calls Tryz.prog 132 #[.string s] w fun r w'=>r= .returned (.bool (patB s))∧w'=w:=by
 have Hc:=hid (rstar_c w s hs);have hle:(begP s).size≤1048576:=by
  cases hb:begB s with
  |false=>rw[begP_no hb];exact hs
  |true=>
   rcases Nat.eq_zero_or_pos s.size with e|e
   ·rw[beg_zero e]at hb;cases hb
   ·obtain ⟨m,hm⟩:∃m,s.size=m+1:=⟨s.size-1,by omega⟩;rw[begP_yes hm hb,ByteArray.size_extract];omega
 have Hp:=hid (rpath_c w (begP s) hle);have hv:patB s=((begB s&&(begP s).toList==[])||pathB (begP s).data.toList):=rfl;rw[hv];clear hv hs hle;generalize pathB (begP s).data.toList=pb at*;generalize begP s=p at*;cases hb:begB s with
 |true=>
  rw[hb]at Hc;by_cases h0:p=⟨#[]⟩
  ·obtain ⟨k4,k5,k6⟩:=str_empty h0;have He:=hid (show ((true&&p.toList==[])||pb)=true by rw[k4];rfl);clear hb h0 Hp;go_enter Tryz.func132,Tryz.ntmps132
   go_wp2_with fail
   refine Hc.out.mono ?_;rintro r w1 ⟨rfl,rfl⟩;clear Hc;go_wp2;go_ret;exact ⟨ret_b He.out.symm,rfl⟩
  ·obtain ⟨k4,k5,k6⟩:=str_full h0;have He:=hid (show ((true&&p.toList==[])||pb)=pb by
    have:(p.toList==[])=false:=by rw[beq_eq_false_iff_ne];exact k4
    rw[this];rfl)
   clear hb h0;go_enter Tryz.func132,Tryz.ntmps132
   go_wp2_with fail
   refine Hc.out.mono ?_;rintro r w1 ⟨rfl,rfl⟩;clear Hc
   go_wp2_with fail
   refine Hp.out.mono ?_;rintro r w1 ⟨rfl,rfl⟩;clear Hp;go_wp2;go_ret;exact ⟨ret_b He.out.symm,rfl⟩
 |false=>
  rw[hb]at Hc;have He:=hid (show ((false&&p.toList==[])||pb)=pb from rfl);clear hb;go_enter Tryz.func132,Tryz.ntmps132
  go_wp2_with fail
  refine Hc.out.mono ?_;rintro r w1 ⟨rfl,rfl⟩;clear Hc
  go_wp2_with fail
  refine Hp.out.mono ?_;rintro r w1 ⟨rfl,rfl⟩;clear Hp;go_wp2;go_ret;exact ⟨ret_b He.out.symm,rfl⟩
def foldPost (w:World) (s:ByteArray) (r:Ending) (w':World):Prop:=r= .returned (.tuple #[.string (foldV s).1,.bool (foldV s).2])∧Below w.heap.size w w'
theorem rfold_no {w w':World} {s:ByteArray} (h:¬(1≤s.size∧s.size≤64∧s.data.toList.all foldOk=true)) (hb:Below w.heap.size w w'):foldPost w s (.returned (.tuple #[.string ⟨#[]⟩,.bool false])) w':=by
 unfold foldPost foldV;rw[if_neg h];exact ⟨rfl,hb⟩
theorem rfold_yes {w w':World} {s:ByteArray} (h:1≤s.size∧s.size≤64∧s.data.toList.all foldOk=true) (hb:Below w.heap.size w w'):foldPost w s (.returned (.tuple #[.string ⟨(s.data.toList.map foldC).toArray⟩,.bool true])) w':=by
 unfold foldPost foldV;rw[if_pos h];exact ⟨rfl,hb⟩
theorem foldC_val {c:UInt8} (h1:65≤c.toNat) (h2:c.toNat≤90):((foldC c).toNat:Int)=(c.toNat:Int)-65+97:=by
 rw[foldC_up h1 h2];omega
theorem map_next {l:List UInt8} {k:Nat} {c:UInt8} (h:l[k]? =some c):(l.take (k+1)).map foldC=(l.take k).map foldC++[foldC c]:=by
 rw[List.take_add_one,h];simp
theorem rfolded_c (w:World) (s:ByteArray) (hs:s.size≤1048576):Calls Tryz.prog 164 #[.string s] w (foldPost w s):=by
 by_cases h0:s=⟨#[]⟩
 ·obtain ⟨k4,k5,k6⟩:=str_empty h0;have He:=hid (fun w' hb=>rfold_no (w:=w) (w':=w') (s:=s) (fun q=>by rw[h0]at q;exact absurd q.1 (by decide)) hb);clear h0 hs;go_enter Tryz.func164,Tryz.ntmps164;go_wp2
  go_ret2
  exact He.out _ (Below.refl _ _)
 ·obtain ⟨k4,k5,k6⟩:=str_full h0;have hp:1≤s.size:=by
   rcases Nat.eq_zero_or_pos s.size with e|e
   ·exact absurd (ba_list (s:=s) (t:=⟨#[]⟩) (List.eq_nil_of_length_eq_zero (by rw[len_str];exact e))) h0
   ·exact e
  by_cases h64:64<s.size
  ·have t1:decide (64<(s.size:Int))=true:=dT (by omega);have He:=hid (fun w' hb=>rfold_no (w:=w) (w':=w') (s:=s) (fun q=>by omega) hb);clear h0 hs hp h64;go_enter Tryz.func164,Tryz.ntmps164;go_wp2
   go_ret2
   exact He.out _ (Below.refl _ _)
  ·have t1:decide (64<(s.size:Int))=false:=dF (by omega);obtain ⟨n,hn⟩:∃n,n=s.size:=⟨_,rfl⟩;have Hn:=hid hn;have Hp:=hid hp;have H64:=hid (show n≤64 by omega);have H0:=hid (show RB w w (.slice none 0 0) ((s.data.toList.take 0).map foldC) from RO.first w _ _);have Hno:=hid (fun w' hb k c (hc:s.data.toList[k]? =some c) (h:foldOk c=false)=>rfold_no (w:=w) (w':=w') (s:=s) (fun q=>by
    have:=List.all_eq_true.1 q.2.2 c (List.mem_of_getElem? hc);rw[h]at this;cases this) hb)
   have Hyes:=hid (fun w' hb hall=>rfold_yes (w:=w) (w':=w') (s:=s) ⟨Hp.out,by have:=H64.out;omega,hall⟩ hb);clear hn hp h0 h64 hs;go_enter Tryz.func164,Tryz.ntmps164;go_wp2
   go_loopw [4,5] (fun vv vi wr=>∃(v2:Value) (k:Nat),v2=vv∧vi= .int .i64 (k:Int)∧Hid (k≤n∧RB w wr v2 ((s.data.toList.take k).map foldC)∧∀(j:Nat) (c:UInt8),j<k→s.data.toList[j]? =some c→foldOk c=true)) (fun _ vi _=>n-(intOf vi).toNat)
   case atStart=>exact ⟨_,0,rfl,rfl,hid ⟨Nat.zero_le _,H0.out,fun j c h=>absurd h (Nat.not_lt_zero _)⟩⟩
   case round=>
    clear H0 k4 k5 k6 t1;obtain ⟨v2,k,rfl,rfl,H⟩:=hrel;by_cases hkn:k<n
    ·obtain ⟨c,hc⟩:=at_lt (s:=s) (by rw[←Hn.out];exact hkn);have hidx:=idx_run' (s:=s) (k:Int) rfl hc;have b3:(k:Int)<(s.size:Int):=by have:=Hn.out;omega
     obtain ⟨Hms,Hgo⟩:=step_two (k:=k) (n:=n) hkn (by have:=H64.out;omega);have hcl:=c.toNat_lt;have Hbad:=hid (fun (h:foldOk c=false)=>Hno.out wr H.out.2.1.below k c hc h);have hnext:=map_next hc;have hrowlen:((s.data.toList.take k).map foldC).length≤1000000000:=by
      have:=List.length_take_le k s.data.toList;rw[List.length_map];have:=H64.out;omega
     have Hlen:=hid hrowlen;have Hown:=hid (fun o=>H.out.2.1.row.alloc o);have Hend:=hid (fun (hok:foldOk c=true) o v' w2 a1 a2 a3=>show k+1≤n∧RB w w2 v' ((s.data.toList.take (k+1)).map foldC)∧∀(j:Nat) (d:UInt8),j<k+1→s.data.toList[j]? =some d→foldOk d=true from
      ⟨hkn,by rw[hnext];exact H.out.2.1.app (o:=o) (v':=v') (w2:=w2) (c:=foldC c) a1 a2 a3,fun j d hj hd=>by
       by_cases e:j=k
       ·subst e;rw[hc]at hd;obtain rfl:=Option.some.inj hd;exact hok
       ·exact H.out.2.2 j d (by omega) hd⟩)
     clear hc hnext hrowlen H hkn Hno Hyes;have hcase:(0≤c.toNat∧c.toNat≤44)∨(45≤c.toNat∧c.toNat≤45)∨(46≤c.toNat∧c.toNat≤46)∨(47≤c.toNat∧c.toNat≤47)∨(48≤c.toNat∧c.toNat≤57)∨(58≤c.toNat∧c.toNat≤64)∨(65≤c.toNat∧c.toNat≤90)∨(91≤c.toNat∧c.toNat≤96)∨(97≤c.toNat∧c.toNat≤122)∨(123≤c.toNat∧c.toNat≤255):=by omega
     rcases hcase with h|h|h|h|h|h|h|h|h|h
     ·obtain ⟨h1,h2⟩:=h;have He:=hid (Hbad.out (dF (by omega)));have g1:(c.toNat:Int)<65:=by omega
      have g2:(c.toNat:Int)≤90:=by omega
      have g3:(c.toNat:Int)<97:=by omega
      have g4:(c.toNat:Int)<48:=by omega
      have g5:(c.toNat:Int)≤122:=by omega
      have g6:(c.toNat:Int)≤57:=by omega
      have g7:((c.toNat:Int)==45)=false:=bF (by omega);have g8:((c.toNat:Int)==46)=false:=bF (by omega);clear h1 h2 hcl Hbad;go_wp2
      go_ret2
      exact He.out
     ·obtain ⟨h1,h2⟩:=h;have HE1:=hid (Hend.out (dT (by omega)));have g1:(c.toNat:Int)<65:=by omega
      have g2:(c.toNat:Int)≤90:=by omega
      have g3:(c.toNat:Int)<97:=by omega
      have g4:(c.toNat:Int)<48:=by omega
      have g5:(c.toNat:Int)≤122:=by omega
      have g6:(c.toNat:Int)≤57:=by omega
      have g7:((c.toNat:Int)==45)=true:=by rw[beq_iff_eq];omega
      have g8:((c.toNat:Int)==46)=false:=bF (by omega);have Hv:=hid (show ((foldC c).toNat:Int)=(c.toNat:Int) from by rw[foldC_keep (by omega)]);have Hnew:=hid (show (wr.alloc (.cells #[.int .u8 (c.toNat:Int)] 5)).cell? ⟨wr.heap.size,0,none⟩=some (.int .u8 ((foldC c).toNat:Int)) by rw[World.cell?_alloc_new,Hv.out];rfl);clear h1 h2 hcl Hbad Hend
      go_wp2_with (at_builtin;refine byteAppend rfl _ _ rfl v2 ((s.data.toList.take k).map foldC) rfl (Hown.out _) wr.heap.size (foldC c) rfl Hnew.out Hlen.out ?_;intro v3 w2 own2 gr2 new2;have HE:=hid (HE1.out _ _ _ own2 gr2 new2);clear own2 gr2 new2)
      go_roundw
      case rel=>exact ⟨_,k+1,rfl,Hgo.out,HE⟩
      case measure=>exact Hms.out
     ·obtain ⟨h1,h2⟩:=h;have HE1:=hid (Hend.out (dT (by omega)));have g1:(c.toNat:Int)<65:=by omega
      have g2:(c.toNat:Int)≤90:=by omega
      have g3:(c.toNat:Int)<97:=by omega
      have g4:(c.toNat:Int)<48:=by omega
      have g5:(c.toNat:Int)≤122:=by omega
      have g6:(c.toNat:Int)≤57:=by omega
      have g7:((c.toNat:Int)==45)=false:=bF (by omega);have g8:((c.toNat:Int)==46)=true:=by rw[beq_iff_eq];omega
      have Hv:=hid (show ((foldC c).toNat:Int)=(c.toNat:Int) from by rw[foldC_keep (by omega)]);have Hnew:=hid (show (wr.alloc (.cells #[.int .u8 (c.toNat:Int)] 5)).cell? ⟨wr.heap.size,0,none⟩=some (.int .u8 ((foldC c).toNat:Int)) by rw[World.cell?_alloc_new,Hv.out];rfl);clear h1 h2 hcl Hbad Hend
      go_wp2_with (at_builtin;refine byteAppend rfl _ _ rfl v2 ((s.data.toList.take k).map foldC) rfl (Hown.out _) wr.heap.size (foldC c) rfl Hnew.out Hlen.out ?_;intro v3 w2 own2 gr2 new2;have HE:=hid (HE1.out _ _ _ own2 gr2 new2);clear own2 gr2 new2)
      go_roundw
      case rel=>exact ⟨_,k+1,rfl,Hgo.out,HE⟩
      case measure=>exact Hms.out
     ·obtain ⟨h1,h2⟩:=h;have He:=hid (Hbad.out (dF (by omega)));have g1:(c.toNat:Int)<65:=by omega
      have g2:(c.toNat:Int)≤90:=by omega
      have g3:(c.toNat:Int)<97:=by omega
      have g4:(c.toNat:Int)<48:=by omega
      have g5:(c.toNat:Int)≤122:=by omega
      have g6:(c.toNat:Int)≤57:=by omega
      have g7:((c.toNat:Int)==45)=false:=bF (by omega);have g8:((c.toNat:Int)==46)=false:=bF (by omega);clear h1 h2 hcl Hbad;go_wp2
      go_ret2
      exact He.out
     ·obtain ⟨h1,h2⟩:=h;have HE1:=hid (Hend.out (dT (by omega)));have g1:(c.toNat:Int)<65:=by omega
      have g2:(c.toNat:Int)≤90:=by omega
      have g3:(c.toNat:Int)<97:=by omega
      have g4:(48:Int)≤(c.toNat:Int):=by omega
      have g5:(c.toNat:Int)≤122:=by omega
      have g6:(c.toNat:Int)≤57:=by omega
      have g7:((c.toNat:Int)==45)=false:=bF (by omega);have g8:((c.toNat:Int)==46)=false:=bF (by omega);have Hv:=hid (show ((foldC c).toNat:Int)=(c.toNat:Int) from by rw[foldC_keep (by omega)]);have Hnew:=hid (show (wr.alloc (.cells #[.int .u8 (c.toNat:Int)] 5)).cell? ⟨wr.heap.size,0,none⟩=some (.int .u8 ((foldC c).toNat:Int)) by rw[World.cell?_alloc_new,Hv.out];rfl);clear h1 h2 hcl Hbad Hend
      go_wp2_with (at_builtin;refine byteAppend rfl _ _ rfl v2 ((s.data.toList.take k).map foldC) rfl (Hown.out _) wr.heap.size (foldC c) rfl Hnew.out Hlen.out ?_;intro v3 w2 own2 gr2 new2;have HE:=hid (HE1.out _ _ _ own2 gr2 new2);clear own2 gr2 new2)
      go_roundw
      case rel=>exact ⟨_,k+1,rfl,Hgo.out,HE⟩
      case measure=>exact Hms.out
     ·obtain ⟨h1,h2⟩:=h;have He:=hid (Hbad.out (dF (by omega)));have g1:(c.toNat:Int)<65:=by omega
      have g2:(c.toNat:Int)≤90:=by omega
      have g3:(c.toNat:Int)<97:=by omega
      have g4:(48:Int)≤(c.toNat:Int):=by omega
      have g5:(c.toNat:Int)≤122:=by omega
      have g6:decide ((c.toNat:Int)≤57)=false:=dF (by omega);have g7:((c.toNat:Int)==45)=false:=bF (by omega);have g8:((c.toNat:Int)==46)=false:=bF (by omega);clear h1 h2 hcl Hbad;go_wp2
      go_ret2
      exact He.out
     ·obtain ⟨h1,h2⟩:=h;have HE1:=hid (Hend.out (dT (by omega)));have g1:(65:Int)≤(c.toNat:Int):=by omega
      have g2:(c.toNat:Int)≤90:=by omega
      have g3:(97:Int)≤((c.toNat:Int)-65+97):=by omega
      have g4:(48:Int)≤((c.toNat:Int)-65+97):=by omega
      have g5:((c.toNat:Int)-65+97)≤122:=by omega
      have g6:decide (((c.toNat:Int)-65+97)≤57)=false:=dF (by omega);have g7:(((c.toNat:Int)-65+97)==45)=false:=bF (by omega);have g8:(((c.toNat:Int)-65+97)==46)=false:=bF (by omega);have w1:IntKind.u8.wrap ((c.toNat:Int)-65)=(c.toNat:Int)-65:=by rw[IntKind.wrap_u8];omega
      have w2:IntKind.u8.wrap ((c.toNat:Int)-65+97)=(c.toNat:Int)-65+97:=by rw[IntKind.wrap_u8];omega
      have Hv:=hid (show ((foldC c).toNat:Int)=((c.toNat:Int)-65+97) from foldC_val h1 h2);have Hnew:=hid (show (wr.alloc (.cells #[.int .u8 ((c.toNat:Int)-65+97)] 5)).cell? ⟨wr.heap.size,0,none⟩=some (.int .u8 ((foldC c).toNat:Int)) by rw[World.cell?_alloc_new,Hv.out];rfl);clear h1 h2 hcl Hbad Hend
      go_wp2_with (at_builtin;refine byteAppend rfl _ _ rfl v2 ((s.data.toList.take k).map foldC) rfl (Hown.out _) wr.heap.size (foldC c) rfl Hnew.out Hlen.out ?_;intro v3 w2 own2 gr2 new2;have HE:=hid (HE1.out _ _ _ own2 gr2 new2);clear own2 gr2 new2)
      go_roundw
      case rel=>exact ⟨_,k+1,rfl,Hgo.out,HE⟩
      case measure=>exact Hms.out
     ·obtain ⟨h1,h2⟩:=h;have He:=hid (Hbad.out (dF (by omega)));have g1:(65:Int)≤(c.toNat:Int):=by omega
      have g2:decide ((c.toNat:Int)≤90)=false:=dF (by omega);have g3:(c.toNat:Int)<97:=by omega
      have g4:(48:Int)≤(c.toNat:Int):=by omega
      have g5:(c.toNat:Int)≤122:=by omega
      have g6:decide ((c.toNat:Int)≤57)=false:=dF (by omega);have g7:((c.toNat:Int)==45)=false:=bF (by omega);have g8:((c.toNat:Int)==46)=false:=bF (by omega);clear h1 h2 hcl Hbad;go_wp2
      go_ret2
      exact He.out
     ·obtain ⟨h1,h2⟩:=h;have HE1:=hid (Hend.out (dT (by omega)));have g1:(65:Int)≤(c.toNat:Int):=by omega
      have g2:decide ((c.toNat:Int)≤90)=false:=dF (by omega);have g3:(97:Int)≤(c.toNat:Int):=by omega
      have g4:(48:Int)≤(c.toNat:Int):=by omega
      have g5:(c.toNat:Int)≤122:=by omega
      have g6:decide ((c.toNat:Int)≤57)=false:=dF (by omega);have g7:((c.toNat:Int)==45)=false:=bF (by omega);have g8:((c.toNat:Int)==46)=false:=bF (by omega);have Hv:=hid (show ((foldC c).toNat:Int)=(c.toNat:Int) from by rw[foldC_keep (by omega)]);have Hnew:=hid (show (wr.alloc (.cells #[.int .u8 (c.toNat:Int)] 5)).cell? ⟨wr.heap.size,0,none⟩=some (.int .u8 ((foldC c).toNat:Int)) by rw[World.cell?_alloc_new,Hv.out];rfl)
      clear h1 h2 hcl Hbad Hend
      go_wp2_with (at_builtin;refine byteAppend rfl _ _ rfl v2 ((s.data.toList.take k).map foldC) rfl (Hown.out _) wr.heap.size (foldC c) rfl Hnew.out Hlen.out ?_;intro v3 w2 own2 gr2 new2;have HE:=hid (HE1.out _ _ _ own2 gr2 new2);clear own2 gr2 new2)
      go_roundw
      case rel=>exact ⟨_,k+1,rfl,Hgo.out,HE⟩
      case measure=>exact Hms.out
     ·obtain ⟨h1,h2⟩:=h;have He:=hid (Hbad.out (dF (by omega)));have g1:(65:Int)≤(c.toNat:Int):=by omega
      have g2:decide ((c.toNat:Int)≤90)=false:=dF (by omega);have g3:(97:Int)≤(c.toNat:Int):=by omega
      have g4:(48:Int)≤(c.toNat:Int):=by omega
      have g5:decide ((c.toNat:Int)≤122)=false:=dF (by omega);have g6:decide ((c.toNat:Int)≤57)=false:=dF (by omega);have g7:((c.toNat:Int)==45)=false:=bF (by omega);have g8:((c.toNat:Int)==46)=false:=bF (by omega);clear h1 h2 hcl Hbad;go_wp2
      go_ret2
      exact He.out
    ·have b3:(s.size:Int)≤(k:Int):=by have:=Hn.out;omega
     have hall:s.data.toList.all foldOk=true:=all_of fun j c hj hc=>H.out.2.2 j c (by rw[len_str]at hj;have:=Hn.out;omega) hc;have hrow:=H.out.2.1;rw[List.take_of_length_le (by rw[len_str];have:=Hn.out;omega)]at hrow;have hc:=conv_row hrow.row;have He:=hid (Hyes.out wr hrow.below hall);clear H hkn hall hrow Hno Hyes;go_wp2
     go_ret2
     exact He.out
end Go.Proofs.YtfenoaeoedobmaaGreatDoor
