/-
Parts of a proof, one behind the other (laid dense by a program of mine: pack.py).
-/
import Derived.Lib.Strings
import Derived.Deep.Cut
import Derived.Test.YtfenoaeoedobmaaGreatDoorRd03
set_option linter.unusedVariables false
set_option linter.unusedSimpArgs false
set_option maxHeartbeats 1000000
namespace Go.Proofs.YtfenoaeoedobmaaGreatDoor
open Go Go.RowKit
def isD (c:UInt8):Bool:=decide (48≤c.toNat)&&decide (c.toNat≤57)
theorem isD_iff (c:UInt8):isD c=true↔48≤c.toNat∧c.toNat≤57:=by simp[isD]
def allD (l:List UInt8):Bool:= !l.isEmpty&&l.all isD
theorem size_list (s:ByteArray):s.data.toList.length=s.size:=by rw[Array.length_toList];rfl
theorem get_list (s:ByteArray) (k:Nat) (h:k<s.size):s[k]=s.data.toList[k]'(by rw[size_list];exact h):=rfl
theorem take_next (s:ByteArray) (k:Nat) (h:k<s.size):s.data.toList.take (k+1)=s.data.toList.take k++[s[k]]:=by
 rw[List.take_succ_eq_append_getElem (by rw[size_list];exact h),get_list s k h]
theorem mem_get (s:ByteArray) (k:Nat) (h:k<s.size):s[k]∈s.data.toList:=by
 rw[get_list s k h];exact List.getElem_mem _
theorem refDigits_walk (w:World) (s:ByteArray) (hmax:s.size≤maxLen) (b:Bool) (hb:allD s.data.toList=b):Calls Tryz.prog 128 #[.string s] w fun e w'=>e= .returned (.bool b)∧w'=w:=by
 have Hb:=hid hb;clear hb;have hle:s.size≤9223372036854775807:=by unfold maxLen at hmax;omega
 go_enter Tryz.func128,Tryz.ntmps128;go_wp2
 go_loopw [3] (fun i wr=>∃k:Nat,i= .int .i64 k∧w=wr∧Hid (k≤s.size∧(s.data.toList.take k).all isD=true)) (fun i _=>s.size-(intOf i).toNat)
 case atStart=>exact ⟨0,rfl,rfl,Nat.zero_le _,rfl⟩
 case round=>
  obtain ⟨k,rfl,rfl,hk⟩:=hrel;by_cases hlt:k<s.size
  ·by_cases hd:isD s[k]=true
   ·have hd2:=(isD_iff _).1 hd;have n1:¬((s[k].toNat:Int)<48):=by omega
    have n2:¬(57<(s[k].toNat:Int)):=by omega
    have Hd:=hid hd;clear hd hd2;go_wp2;go_roundw
    case rel=>
     refine ⟨k+1,rfl,(by first|rfl|trivial),by omega,?_⟩;rw[take_next s k hlt,List.all_append,hk.out.2];simp[Hd.out]
    case measure=>simp[intOf];omega
   ·have hbf:b=false:=by
     rw[←Hb.out];unfold allD;have:s.data.toList.all isD=false:=by
      rw[List.all_eq_false];exact ⟨_,mem_get s k hlt,hd⟩
     rw[this,Bool.and_false]
    subst hbf;by_cases n1:(s[k].toNat:Int)<48
    ·clear hd;go_wp2;go_ret;exact ⟨rfl,rfl⟩
    ·have n2:57<(s[k].toNat:Int):=by
      rw[isD_iff]at hd;omega
     clear hd;go_wp2;go_ret;exact ⟨rfl,rfl⟩
  ·have hks:k=s.size:=by have:=hk.out.1;omega
   subst hks;have hall:s.data.toList.all isD=true:=by
    have:=hk.out.2;rw[List.take_of_length_le (by rw[size_list];exact Nat.le_refl _)]at this;exact this
   by_cases h0:0<s.size
   ·have hbt:b=true:=by
     rw[←Hb.out];unfold allD;rw[hall];have hne:s.data.toList.isEmpty=false:=by
      cases hq:s.data.toList with
      |nil=>have:=size_list s;rw[hq]at this;simp at this;omega
      |cons x r=>rfl
     rw[hne];rfl
    subst hbt;clear hlt hall hk;go_wp2;go_ret;exact ⟨rfl,rfl⟩
   ·have hbf:b=false:=by
     rw[←Hb.out];unfold allD;have:s.data.toList=[]:=List.eq_nil_of_length_eq_zero (by rw[size_list];omega);rw[this];rfl
    subst hbf;clear hlt hall hk;go_wp2;go_ret;exact ⟨rfl,rfl⟩
def valS (l:List UInt8):Nat:=l.foldl (fun m c=>min (m*10+(c.toNat-48)) 1000000000000000000) 0
theorem valS_snoc (l:List UInt8) (c:UInt8):valS (l++[c])=min (valS l*10+(c.toNat-48)) 1000000000000000000:=by simp[valS]
theorem valS_le (l:List UInt8):valS l≤1000000000000000000:=by
 rcases List.eq_nil_or_concat l with rfl|⟨r,c,rfl⟩
 ·exact Nat.zero_le _
 ·rw[List.concat_eq_append,valS_snoc];exact Nat.min_le_right _ _
theorem tw_self {l:List UInt8} (h:l.all isD=true):l.takeWhile isD=l:=by
 have h2:∀x∈l,isD x=true:=by simpa using h
 have:=List.takeWhile_append_of_pos (p:=isD) (l₁:=l) (l₂:=[]) h2
 simpa using this
theorem tw_all {l:List UInt8} {k:Nat} (h:(l.take k).all isD=true) (hk:l.length≤k):l.takeWhile isD=l.take k:=by
 rw[List.take_of_length_le hk]at h ⊢;exact tw_self h
theorem tw_stop {s:ByteArray} {k:Nat} (h:(s.data.toList.take k).all isD=true) (hk:k<s.size) (hn:¬isD s[k]=true):s.data.toList.takeWhile isD=s.data.toList.take k:=by
 have e:s.data.toList=s.data.toList.take k++s[k]::s.data.toList.drop (k+1):=by
  rw[get_list s k hk,←List.drop_eq_getElem_cons (by rw[size_list];exact hk),List.take_append_drop]
 have h2:∀x∈s.data.toList.take k,isD x=true:=by simpa using h
 conv=>lhs;rw[e]
 rw[List.takeWhile_append_of_pos h2,List.takeWhile_cons_of_neg hn,List.append_nil]
theorem digits_walk (w:World) (s:ByteArray) (hmax:s.size≤maxLen) (n m:Nat) (hn:(s.data.toList.takeWhile isD).length=n) (hm:valS (s.data.toList.takeWhile isD)=m):
 Calls Tryz.prog 116 #[.string s] w fun e w'=>e= .returned (.tuple #[.int .i64 n,.int .u64 m])∧w'=w:=by
 have Hn:=hid hn;have Hm:=hid hm;clear hn hm;have hle:s.size≤9223372036854775807:=by unfold maxLen at hmax;omega
 go_enter Tryz.func116,Tryz.ntmps116;go_wp2
 go_loopw [4,5] (fun i v wr=>∃k v':Nat,i= .int .i64 k∧v= .int .u64 v'∧w=wr∧Hid (k≤s.size∧(s.data.toList.take k).all isD=true∧v'=valS (s.data.toList.take k))) (fun i _ _=>s.size-(intOf i).toNat)
 case atStart=>exact ⟨0,0,rfl,rfl,rfl,Nat.zero_le _,rfl,rfl⟩
 case round=>
  obtain ⟨k,v',rfl,rfl,rfl,hk⟩:=hrel;by_cases hlt:k<s.size
  ·by_cases hd:isD s[k]=true
   ·have hd2:=(isD_iff _).1 hd;have n1:(48:Int)≤(s[k].toNat:Int):=by omega
    have n2:(s[k].toNat:Int)≤57:=by omega
    have hv:=valS_le (s.data.toList.take k);rw[←hk.out.2.2]at hv;obtain ⟨d,hdd⟩:∃d:Nat,d=s[k].toNat-48:=⟨_,rfl⟩;obtain ⟨t,ht⟩:∃t:Nat,t=v'*10:=⟨_,rfl⟩;obtain ⟨u,hu⟩:∃u:Nat,u=t+d:=⟨_,rfl⟩;have hsub:IntKind.u8.wrap ((s[k].toNat:Int)-48)=(d:Int):=by
     rw[IntKind.wrap_u8];omega
    have hmul:IntKind.u64.wrap ((v':Int)*10)=(t:Int):=by rw[IntKind.wrap_u64];omega
    have hadd:IntKind.u64.wrap ((t:Int)+IntKind.u64.wrap (d:Int))=(u:Int):=by rw[IntKind.wrap_u64,IntKind.wrap_u64];omega
    obtain ⟨v2,hv2⟩:∃v2:Nat,v2=min u 1000000000000000000:=⟨_,rfl⟩;have hmin:(if (1000000000000000000:Int)<(u:Int) then (1000000000000000000:Int) else (u:Int))=(v2:Int):=by split<;>omega
    have Hnew:=hid (show v2=valS (s.data.toList.take (k+1)) by rw[take_next s k hlt,valS_snoc,←hk.out.2.2,hv2,hu,ht,hdd]);have Hd:=hid hd;clear hd hd2 hv hdd ht hu hv2;go_wp2;go_roundw
    case rel=>
     refine ⟨k+1,v2,rfl,by first|rfl|(rw[←hmin]),(by first|rfl|trivial),by omega,?_,Hnew.out⟩;rw[take_next s k hlt,List.all_append,hk.out.2.1];simp[Hd.out]
    case measure=>simp[intOf];omega
   ·have htw:=tw_stop hk.out.2.1 hlt hd;have hkn:k=n:=by rw[←Hn.out,htw,List.length_take,size_list];omega
    have hvm:v'=m:=by rw[←Hm.out,htw];exact hk.out.2.2
    subst hkn;subst hvm;by_cases n1:(48:Int)≤(s[k].toNat:Int)
    ·have n2:¬(s[k].toNat:Int)≤57:=by
      rw[isD_iff]at hd;omega
     clear hd htw;go_wp2
     go_ret2
     exact ⟨rfl,rfl⟩
    ·clear hd htw;go_wp2
     go_ret2
     exact ⟨rfl,rfl⟩
  ·have htw:=tw_all hk.out.2.1 (by rw[size_list];have:=hk.out.1;omega);have hkn:k=n:=by rw[←Hn.out,htw,List.length_take,size_list];have:=hk.out.1;omega
   have hvm:v'=m:=by rw[←Hm.out,htw];exact hk.out.2.2
   subst hkn;subst hvm;clear htw;go_wp2
   go_ret2
   exact ⟨rfl,rfl⟩
def minusL:List UInt8→List UInt8×Bool
 |[]=>([],false)
 |c::r=>if c=45 then (r,true) else (c::r,false)
theorem ext_list (s:ByteArray) (a b:Nat):(s.extract a b).data.toList=(s.data.toList.drop a).take (b-a):=by
 rw[ByteArray.data_extract,Array.toList_extract]
theorem ext_from (s:ByteArray) (a:Nat):(s.extract a s.size).data.toList=s.data.toList.drop a:=by
 rw[ext_list,List.take_of_length_le (by rw[List.length_drop,size_list];exact Nat.le_refl _)]
theorem ext_size (s:ByteArray) (a b:Nat):(s.extract a b).size≤s.size:=by
 rw[←size_list,ext_list,←size_list,List.length_take,List.length_drop];omega
theorem list_cons (s:ByteArray) (h:0<s.size):s.data.toList=s[0]::s.data.toList.drop 1:=by
 have:=List.drop_eq_getElem_cons (l:=s.data.toList) (i:=0) (by rw[size_list];exact h);rw[List.drop_zero]at this;rw[get_list s 0 h];exact this
def MinusPost (s:ByteArray) (w:World) (e:Ending) (w':World):Prop:=
 ∃(s':ByteArray) (b:Bool),e= .returned (.tuple #[.string s',.bool b])∧w'=w∧minusL s.data.toList=(s'.data.toList,b)∧s'.size≤s.size
theorem minus_walk (w:World) (s:ByteArray) (hmax:s.size≤maxLen):Calls Tryz.prog 124 #[.string s] w fun e w'=>MinusPost s w e w':=by
 have hle:s.size≤9223372036854775807:=by unfold maxLen at hmax;omega
 by_cases h0:0<s.size
 ·by_cases hc:s[0]=45
  ·have n1:((s[0].toNat:Int)==45)=true:=by rw[hc];rfl
   have hres:MinusPost s w (.returned (.tuple #[.string (s.extract 1 s.size),.bool true])) w:=by
    refine ⟨_,_,rfl,rfl,?_,ext_size _ _ _⟩;rw[ext_from,list_cons s h0];simp only[minusL,hc,if_true];rfl
   clear hc;go_enter Tryz.func124,Tryz.ntmps124;go_wp2
   go_ret2
   exact hres
  ·have n1:((s[0].toNat:Int)==45)=false:=by
    simp;intro e;exact hc (UInt8.toNat_inj.1 (by simpa using (by omega:s[0].toNat=45)))
   have hres:MinusPost s w (.returned (.tuple #[.string s,.bool false])) w:=by
    refine ⟨_,_,rfl,rfl,?_,Nat.le_refl _⟩;rw[list_cons s h0];simp only[minusL,if_neg hc]
   clear hc;go_enter Tryz.func124,Tryz.ntmps124;go_wp2
   go_ret2
   exact hres
 ·have hres:MinusPost s w (.returned (.tuple #[.string s,.bool false])) w:=by
   refine ⟨_,_,rfl,rfl,?_,Nat.le_refl _⟩;have:s.data.toList=[]:=List.eq_nil_of_length_eq_zero (by rw[size_list];omega);rw[this];rfl
  go_enter Tryz.func124,Tryz.ntmps124;go_wp2
  go_ret2
  exact hres
def wholeL (l:List UInt8):Bool:=allD l&&(decide (l.head? ≠some 48)||decide (l.length=1))
theorem whole_walk (w:World) (s:ByteArray) (hmax:s.size≤maxLen) (b:Bool) (hb:wholeL s.data.toList=b):Calls Tryz.prog 125 #[.string s] w fun e w'=>e= .returned (.bool b)∧w'=w:=by
 have hle:s.size≤9223372036854775807:=by unfold maxLen at hmax;omega
 have Hd:=hid (refDigits_walk w s hmax _ rfl);cases hd:allD s.data.toList with
 |false=>
  have hbf:b=false:=by rw[←hb];unfold wholeL;rw[hd];rfl
  subst hbf;rw[hd]at Hd;clear hb hd;go_enter Tryz.func125,Tryz.ntmps125
  go_wp2_with fail
  refine Hd.out.mono ?_;rintro e w1 ⟨rfl,hw⟩;obtain rfl:=hw.symm;go_wp2;go_ret;exact ⟨rfl,rfl⟩
 |true=>
  have h0:0<s.size:=by
   rcases Nat.eq_zero_or_pos s.size with h|h
   ·have:s.data.toList=[]:=List.eq_nil_of_length_eq_zero (by rw[size_list];exact h);rw[this]at hd;cases hd
   ·exact h
  have hl:=list_cons s h0;rw[hd]at Hd;by_cases hc:s[0]=48
  ·have n1:((s[0].toNat:Int) != 48)=false:=by rw[hc];rfl
   by_cases h1:s.size=1
   ·have n2:((s.size:Int)==1)=true:=by simp[h1]
    have hbt:b=true:=by rw[←hb];unfold wholeL;rw[hd,size_list,h1];simp
    subst hbt;clear hb hd hl hc h1;go_enter Tryz.func125,Tryz.ntmps125
    go_wp2_with fail
    refine Hd.out.mono ?_;rintro e w1 ⟨rfl,hw⟩;obtain rfl:=hw.symm;go_wp2;go_ret;exact ⟨rfl,rfl⟩
   ·have n2:((s.size:Int)==1)=false:=by simp;omega
    have hbf:b=false:=by rw[←hb];unfold wholeL;rw[hd,size_list,hl];simp[hc,h1]
    subst hbf;clear hb hd hl hc h1;go_enter Tryz.func125,Tryz.ntmps125
    go_wp2_with fail
    refine Hd.out.mono ?_;rintro e w1 ⟨rfl,hw⟩;obtain rfl:=hw.symm;go_wp2;go_ret;exact ⟨rfl,rfl⟩
  ·have n1:((s[0].toNat:Int) != 48)=true:=by
    simp;intro e;exact hc (UInt8.toNat_inj.1 (by simpa using (by omega:s[0].toNat=48)))
   have hbt:b=true:=by rw[←hb];unfold wholeL;rw[hd,hl];simp[hc]
   subst hbt;clear hb hd hl hc;go_enter Tryz.func125,Tryz.ntmps125
   go_wp2_with fail
   refine Hd.out.mono ?_;rintro e w1 ⟨rfl,hw⟩;obtain rfl:=hw.symm;go_wp2;go_ret;exact ⟨rfl,rfl⟩
def numN (l:List UInt8):Nat:=l.foldl (fun n c=>10*n+(c.toNat-48)) 0
theorem numN_snoc (l:List UInt8) (c:UInt8):numN (l++[c])=10*numN l+(c.toNat-48):=by simp[numN]
theorem numN_take_le (l:List UInt8):∀k,numN (l.take k)≤numN l:=by
 intro k;have h:∀(r:List UInt8) (n:Nat),n≤r.foldl (fun n c=>10*n+(c.toNat-48)) n:=by
  intro r
  induction r with
  |nil=>intro n;exact Nat.le_refl _
  |cons c r ih=>intro n;exact Nat.le_trans (by omega) (ih (10*n+(c.toNat-48)))
 conv=>rhs;rw[←List.take_append_drop k l]
 unfold numN;rw[List.foldl_append];exact h _ _
theorem number_walk (w:World) (s:ByteArray) (hmax:s.size≤maxLen) (lim:Nat) (hl1:9≤lim) (hl2:lim≤9223372036854775808) (hd:s.data.toList.all isD=true) (n:Nat) (b:Bool)
 (hb:decide (numN s.data.toList≤lim)=b) (hn:(if b=true then numN s.data.toList else 0)=n):
 Calls Tryz.prog 126 #[.string s,.int .u64 lim] w fun e w'=>e= .returned (.tuple #[.int .u64 n,.bool b])∧w'=w:=by
 have hle:s.size≤9223372036854775807:=by unfold maxLen at hmax;omega
 have Hb:=hid hb;have Hn:=hid hn;have Hd:=hid hd;have Hl1:=hid hl1;have Hl2:=hid hl2;clear hb hn hd hl1 hl2;go_enter Tryz.func126,Tryz.ntmps126;go_wp2
 go_loopw [6,7] (fun v i wr=>∃k m:Nat,i= .int .i64 k∧v= .int .u64 m∧w=wr∧Hid (k≤s.size∧m=numN (s.data.toList.take k)∧m≤lim)) (fun _ i _=>s.size-(intOf i).toNat)
 case atStart=>exact ⟨0,0,rfl,rfl,rfl,Nat.zero_le _,rfl,Nat.zero_le _⟩
 case round=>
  obtain ⟨k,m,rfl,rfl,rfl,hk⟩:=hrel;by_cases hlt:k<s.size
  ·have hdk:isD s[k]=true:=List.all_eq_true.1 Hd.out _ (mem_get s k hlt);have hd2:=(isD_iff _).1 hdk;have q1:=Hl1.out;have q2:=Hl2.out;have q3:=hk.out.2.2;obtain ⟨d,hdd⟩:∃d:Nat,d=s[k].toNat-48:=⟨_,rfl⟩;obtain ⟨a,ha⟩:∃a:Nat,a=lim-d:=⟨_,rfl⟩;obtain ⟨c,hc⟩:∃c:Nat,c=a / 10:=⟨_,rfl⟩;have hsub:IntKind.u8.wrap ((s[k].toNat:Int)-48)=(d:Int):=by rw[IntKind.wrap_u8];omega
   have hd64:IntKind.u64.wrap (d:Int)=(d:Int):=by rw[IntKind.wrap_u64];omega
   have hla:IntKind.u64.wrap ((lim:Int)-(d:Int))=(a:Int):=by rw[IntKind.wrap_u64];omega
   have hquo:IntKind.u64.wrap ((a:Int) / 10)=(c:Int):=by rw[IntKind.wrap_u64];omega
   have hnext:numN (s.data.toList.take (k+1))=10*m+d:=by rw[take_next s k hlt,numN_snoc,←hk.out.2.1,hdd]
   by_cases hov:c<m
   ·have hbf:b=false:=by
     rw[←Hb.out];have:=numN_take_le s.data.toList (k+1);rw[hnext]at this;exact dF (by omega)
    subst hbf;have hn0:n=0:=by rw[←Hn.out,if_neg (by decide)]
    subst hn0;have n1:(c:Int)<(m:Int):=by omega
    clear hdk hd2 q1 q2 q3 hdd ha hc hnext hov;go_wp2
    go_ret2
    exact ⟨rfl,rfl⟩
   ·have n1:¬(c:Int)<(m:Int):=by omega
    obtain ⟨t,ht⟩:∃t:Nat,t=10*m:=⟨_,rfl⟩;have hmul:IntKind.u64.wrap (10*(m:Int))=(t:Int):=by rw[IntKind.wrap_u64];omega
    have hadd:IntKind.u64.wrap ((t:Int)+(d:Int))=((t+d:Nat):Int):=by rw[IntKind.wrap_u64];omega
    have Hnew:=hid (show t+d=numN (s.data.toList.take (k+1))∧t+d≤lim by rw[hnext,ht];omega);clear hdk hd2 q1 q2 q3 hdd ha hc hnext hov ht;go_wp2;go_roundw
    case rel=>exact ⟨k+1,t+d,rfl,by first|rfl|(rw[←hadd])|(congr 1),(by first|rfl|trivial),by omega,Hnew.out⟩
    case measure=>simp[intOf];omega
  ·have hks:k=s.size:=by have:=hk.out.1;omega
   have hm:m=numN s.data.toList:=by
    rw[hk.out.2.1,List.take_of_length_le (by rw[size_list];omega)]
   have hbt:b=true:=by
    rw[←Hb.out,←hm];exact dT hk.out.2.2
   subst hbt;have hn0:m=n:=by rw[←Hn.out,if_pos rfl,hm]
   subst hn0;clear hm hks;go_wp2
   go_ret2
   exact ⟨rfl,rfl⟩
def cutL (l:List UInt8) (c:UInt8):List UInt8×List UInt8×Bool:=
 if l.all (· != c)=true then (l,[],false) else (l.takeWhile (· != c),(l.dropWhile (· != c)).drop 1,true)
def CutPost (s:ByteArray) (c:UInt8) (w:World) (e:Ending) (w':World):Prop:=
 ∃(a b:ByteArray) (ok:Bool),e= .returned (.tuple #[.string a,.string b,.bool ok])∧(∃n,w'=w.drewN n)∧cutL s.data.toList c=(a.data.toList,b.data.toList,ok)∧a.size≤s.size∧b.size≤s.size
theorem cut_at {s:ByteArray} {c:UInt8} {k:Nat} (hk:k<s.size) (h:∀x∈s.data.toList.take k,(x != c)=true) (hc:s[k]=c):
 cutL s.data.toList c=((s.extract 0 k).data.toList,(s.extract (k+1) s.size).data.toList,true):=by
 have e:s.data.toList=s.data.toList.take k++s[k]::s.data.toList.drop (k+1):=by
  rw[get_list s k hk,←List.drop_eq_getElem_cons (by rw[size_list];exact hk),List.take_append_drop]
 have hn:¬(s[k] != c)=true:=by rw[hc];simp
 have h1:s.data.toList.takeWhile (· != c)=s.data.toList.take k:=by
  conv=>lhs;rw[e]
  rw[List.takeWhile_append_of_pos h,List.takeWhile_cons_of_neg (p:=fun x=>x != c) hn,List.append_nil]
 have h2:s.data.toList.dropWhile (· != c)=s[k]::s.data.toList.drop (k+1):=by
  conv=>lhs;rw[e]
  rw[List.dropWhile_append_of_pos h,List.dropWhile_cons_of_neg (p:=fun x=>x != c) hn]
 have h3:¬s.data.toList.all (· != c)=true:=by
  intro q;exact hn (List.all_eq_true.1 q _ (mem_get s k hk))
 unfold cutL;rw[if_neg h3,h1,h2,ext_from,ext_list,List.drop_zero,Nat.sub_zero];rfl
theorem cut_walk (w:World) (s:ByteArray) (hmax:s.size≤maxLen) (c:UInt8):Calls Tryz.prog 127 #[.string s,.int .u8 (c.toNat:Int)] w fun e w'=>CutPost s c w e w':=by
 have hle:s.size≤9223372036854775807:=by unfold maxLen at hmax;omega
 go_enter Tryz.func127,Tryz.ntmps127;go_wp2
 go_loopw [7] (fun i wr=>∃k:Nat,i= .int .i64 k∧w=wr∧Hid (k≤s.size∧∀x∈s.data.toList.take k,(x != c)=true)) (fun i _=>s.size-(intOf i).toNat)
 case atStart=>exact ⟨0,rfl,rfl,Nat.zero_le _,fun x hx=>by simp at hx⟩
 case round=>
  obtain ⟨k,rfl,rfl,hk⟩:=hrel;by_cases hlt:k<s.size
  ·by_cases hc:s[k]=c
   ·have n1:((s[k].toNat:Int)==(c.toNat:Int))=true:=by rw[hc];simp
    have Hres:=hid (cut_at hlt hk.out.2 hc);clear hc;have m1:(k:Int)≤(s.size:Int):=by omega
    have m2:(k:Int)+1≤(s.size:Int):=by omega
    go_wp2;go_quiet (fail);go_wp2
    go_ret3
    exact ⟨_,_,_,rfl,⟨_,rfl⟩,Hres.out,ext_size _ _ _,ext_size _ _ _⟩
   ·have n1:((s[k].toNat:Int)==(c.toNat:Int))=false:=by
     simp;intro e;exact hc (UInt8.toNat_inj.1 (by omega))
    have Hc:=hid hc;clear hc;go_wp2;go_roundw
    case rel=>
     refine ⟨k+1,rfl,(by first|rfl|trivial),by omega,fun x hx=> ?_⟩;rw[take_next s k hlt,List.mem_append]at hx;rcases hx with hx|hx
     ·exact hk.out.2 x hx
     ·obtain rfl:=List.mem_singleton.1 hx
      simpa using Hc.out
    case measure=>simp[intOf];omega
  ·have hres:CutPost s c w (.returned (.tuple #[.string s,.string {data:=#[]},.bool false])) w:=by
    refine ⟨_,_,_,rfl,⟨0,rfl⟩,?_,Nat.le_refl _,Nat.zero_le _⟩;have h:=hk.out.2;rw[List.take_of_length_le (by rw[size_list];have:=hk.out.1;omega)]at h;unfold cutL;rw[if_pos (List.all_eq_true.2 h)]
   go_wp2
   go_ret3
   exact hres
def intR (l:List UInt8):Option Int:=
 if wholeL (minusL l).1=false then none
 else if (minusL l).2=true then
  if (minusL l).1=[48] then none
  else if numN (minusL l).1≤9223372036854775808∧0<numN (minusL l).1 then some (-(numN (minusL l).1:Int)) else none
 else if numN (minusL l).1≤9223372036854775807 then some (numN (minusL l).1:Int) else none
def IntPost (s:ByteArray) (w:World) (e:Ending) (w':World):Prop:=
 ∃(i:Int) (ok:Bool),e= .returned (.tuple #[.int .i64 i,.bool ok])∧w'=w∧(ok=true∧intR s.data.toList=some i∨ok=false∧intR s.data.toList=none)
theorem whole_all {l:List UInt8} (h:wholeL l=true):l.all isD=true:=by
 unfold wholeL allD at h;simp only[Bool.and_eq_true]at h;exact h.1.2
theorem refInteger_walk (w:World) (s:ByteArray) (hmax:s.size≤maxLen):Calls Tryz.prog 88 #[.string s] w fun e w'=>IntPost s w e w':=by
 have Hm:=hid (minus_walk w s hmax);go_enter Tryz.func88,Tryz.ntmps88
 go_wp2_with fail
 refine Hm.out.mono ?_;rintro e w1 ⟨r,below,rfl,hw,hmin,hsz⟩;obtain rfl:=hw.symm;clear Hm;have hrmax:r.size≤maxLen:=Nat.le_trans hsz hmax;cases hwh:wholeL r.data.toList with
 |false=>
  have Hw:=hid (whole_walk w r hrmax false hwh);have hres:IntPost s w (.returned (.tuple #[.int .i64 0,.bool false])) w:=⟨0,false,rfl,rfl,.inr ⟨rfl,by unfold intR;rw[hmin,if_pos hwh]⟩⟩;clear hmin hwh
  go_wp2_with fail
  refine Hw.out.mono ?_;rintro e w1 ⟨rfl,hw⟩;obtain rfl:=hw.symm;go_wp2
  go_ret2
  exact hres
 |true=>
  have Hw:=hid (whole_walk w r hrmax true hwh);have hall:=whole_all hwh;cases below with
  |true=>
   by_cases h48:r.data.toList=[48]
   ·have hq:(r.toList==[48])=true:=by
     rw[Lib.toList_data,h48];rfl
    have hres:IntPost s w (.returned (.tuple #[.int .i64 0,.bool false])) w:=⟨0,false,rfl,rfl,.inr ⟨rfl,by unfold intR;rw[hmin,if_neg (by simp[hwh]),if_pos rfl,if_pos h48]⟩⟩;clear hmin hwh h48 hall hsz hrmax
    go_wp2_with fail
    refine Hw.out.mono ?_;rintro e w1 ⟨rfl,hw⟩;obtain rfl:=hw.symm;go_wp2
    go_ret2
    exact hres
   ·have hq:(r.toList==[48])=false:=by
     rw[Lib.toList_data];exact beq_eq_false_iff_ne.2 h48
    cases hok:decide (numN r.data.toList≤9223372036854775808) with
    |false=>
     have Hn:=hid (number_walk w r hrmax 9223372036854775808 (by decide) (Nat.le_refl _) hall 0 false hok rfl);have hres:∀i:Int,IntPost s w (.returned (.tuple #[.int .i64 i,.bool false])) w:=fun i=>⟨i,false,rfl,rfl,.inr ⟨rfl,by
      unfold intR;rw[hmin,if_neg (by simp[hwh]),if_pos rfl,if_neg h48,if_neg (fun q=>of_decide_eq_false hok q.1)]⟩⟩
     clear hmin hwh h48 hall hsz hrmax hok
     go_wp2_with fail
     refine Hw.out.mono ?_;rintro e w1 ⟨rfl,hw⟩;obtain rfl:=hw.symm
     go_wp2_with fail
     refine Hn.out.mono ?_;rintro e w1 ⟨rfl,hw⟩;obtain rfl:=hw.symm;clear Hn Hw;go_wp2
     go_ret2
     exact hres _
    |true=>
     obtain ⟨n,hn⟩:∃n,n=numN r.data.toList:=⟨_,rfl⟩;have Hn:=hid (number_walk w r hrmax 9223372036854775808 (by decide) (Nat.le_refl _) hall n true hok (by rw[if_pos rfl,hn]));have hle:=of_decide_eq_true hok;rw[←hn]at hle;by_cases hpos:0<n
     ·have hres:IntPost s w (.returned (.tuple #[.int .i64 (-((n-1:Nat):Int)-1),.bool true])) w:=⟨_,true,rfl,rfl,.inl ⟨rfl,by
       unfold intR;rw[hmin,if_neg (by simp[hwh]),if_pos rfl,if_neg h48,←hn,if_pos ⟨hle,hpos⟩];congr 1;omega⟩⟩
      have hp2:decide (0<n)=true:=dT hpos;have hs1:IntKind.u64.wrap ((n:Int)-1)=((n-1:Nat):Int):=by rw[IntKind.wrap_u64];omega
      clear hmin hwh h48 hall hsz hrmax hok hn
      go_wp2_with fail
      refine Hw.out.mono ?_;rintro e w1 ⟨rfl,hw⟩;obtain rfl:=hw.symm
      go_wp2_with fail
      refine Hn.out.mono ?_;rintro e w1 ⟨rfl,hw⟩;obtain rfl:=hw.symm;clear Hn Hw;go_wp2
      go_ret2
      exact hres
     ·have hres:∀i:Int,IntPost s w (.returned (.tuple #[.int .i64 i,.bool false])) w:=fun i=>⟨i,false,rfl,rfl,.inr ⟨rfl,by
       unfold intR;rw[hmin,if_neg (by simp[hwh]),if_pos rfl,if_neg h48,←hn,if_neg (fun q=>hpos q.2)]⟩⟩
      have hp2:decide (0<n)=false:=dF hpos;clear hmin hwh h48 hall hsz hrmax hok hn hle
      go_wp2_with fail
      refine Hw.out.mono ?_;rintro e w1 ⟨rfl,hw⟩;obtain rfl:=hw.symm
      go_wp2_with fail
      refine Hn.out.mono ?_;rintro e w1 ⟨rfl,hw⟩;obtain rfl:=hw.symm;clear Hn Hw;go_wp2
      go_ret2
      exact hres _
  |false=>
   cases hok:decide (numN r.data.toList≤9223372036854775807) with
   |false=>
    have Hn:=hid (number_walk w r hrmax 9223372036854775807 (by decide) (by decide) hall 0 false hok rfl);have hres:∀i:Int,IntPost s w (.returned (.tuple #[.int .i64 i,.bool false])) w:=fun i=>⟨i,false,rfl,rfl,.inr ⟨rfl,by
     unfold intR;rw[hmin,if_neg (by simp[hwh]),if_neg (by simp),if_neg (of_decide_eq_false hok)]⟩⟩
    clear hmin hwh hall hsz hrmax hok
    go_wp2_with fail
    refine Hw.out.mono ?_;rintro e w1 ⟨rfl,hw⟩;obtain rfl:=hw.symm
    go_wp2_with fail
    refine Hn.out.mono ?_;rintro e w1 ⟨rfl,hw⟩;obtain rfl:=hw.symm;clear Hn Hw;go_wp2
    go_ret2
    exact hres _
   |true=>
    obtain ⟨n,hn⟩:∃n,n=numN r.data.toList:=⟨_,rfl⟩;have Hn:=hid (number_walk w r hrmax 9223372036854775807 (by decide) (by decide) hall n true hok (by rw[if_pos rfl,hn]));have hle:=of_decide_eq_true hok;rw[←hn]at hle;have hres:IntPost s w (.returned (.tuple #[.int .i64 (n:Int),.bool true])) w:=⟨_,true,rfl,rfl,.inl ⟨rfl,by
     unfold intR;rw[hmin,if_neg (by simp[hwh]),if_neg (by simp),←hn,if_pos hle]⟩⟩
    clear hmin hwh hall hsz hrmax hok hn
    go_wp2_with fail
    refine Hw.out.mono ?_;rintro e w1 ⟨rfl,hw⟩;obtain rfl:=hw.symm
    go_wp2_with fail
    refine Hn.out.mono ?_;rintro e w1 ⟨rfl,hw⟩;obtain rfl:=hw.symm;clear Hn Hw;go_wp2
    go_ret2
    exact hres
def powR (powered:Bool) (tail:List UInt8):Option Int:=
 if powered=true then
  if allD (minusL tail).1=true∧(minusL tail).1.length≤2 then some (if (minusL tail).2=true then -(numN (minusL tail).1:Int) else (numN (minusL tail).1:Int)) else none
 else some 0
def decR (l:List UInt8):Option (Nat×Int×Bool):=
 let m:=minusL l
 let c:=cutL m.1 101
 let d:=cutL c.1 46
 if d.2.2=true∧wholeL d.1=true∧allD d.2.1=true then
  match powR c.2.2 c.2.1 with
  |some k=>if numN (d.1++d.2.1)≤999999999999999∧d.2.1.length≤200∧¬Bad (numN (d.1++d.2.1)) (k-(d.2.1.length:Int)) then some (numN (d.1++d.2.1),k-(d.2.1.length:Int),m.2) else none
  |none=>none
 else none
theorem cutL_len {l a b:List UInt8} {c:UInt8} {ok:Bool} (h:cutL l c=(a,b,ok)):a.length+b.length≤l.length:=by
 unfold cutL at h
 split at h
 ·simp only[Prod.mk.injEq]at h;obtain ⟨rfl,rfl,_⟩:=h;simp
 ·simp only[Prod.mk.injEq]at h;obtain ⟨rfl,rfl,_⟩:=h;have e:=List.takeWhile_append_dropWhile (p:=fun x=>x != c) (l:=l);have:=congrArg List.length e;rw[List.length_append]at this;rw[List.length_drop];omega
theorem numN_lt_acc:∀(l:List UInt8) (acc:Nat),l.all isD=true→l.foldl (fun n c=>10*n+(c.toNat-48)) acc<(acc+1)*10 ^ l.length:=by
 intro l
 induction l with
 |nil=>intro acc _;simp
 |cons c r ih=>
  intro acc h;rw[List.all_cons]at h;simp only[Bool.and_eq_true]at h;have h2:=(isD_iff c).1 h.1;have h1:=ih (10*acc+(c.toNat-48)) h.2;rw[List.foldl_cons,List.length_cons,Nat.pow_succ];refine Nat.lt_of_lt_of_le h1 ?_;have h3:10*acc+(c.toNat-48)+1≤(acc+1)*10:=by omega
  generalize 10*acc+(c.toNat-48)+1=z at*;have:=Nat.mul_le_mul_right (10 ^ r.length) h3;rw[Nat.mul_assoc,Nat.mul_comm 10 (10 ^ r.length)]at this;exact this
theorem numN_lt {l:List UInt8} (h:l.all isD=true):numN l<10 ^ l.length:=by
 have:=numN_lt_acc l 0 h
 simpa[numN] using this
theorem allD_all {l:List UInt8} (h:allD l=true):l.all isD=true:=by
 unfold allD at h;simp only[Bool.and_eq_true]at h;exact h.2
def negW (x:Nat):Nat:=Op.negFloat .f64 x
theorem neg_run (x:Nat):∀w,(Op.unary .neg (.float .f64 x)).run Tryz.prog w= .ok (.float .f64 (negW x)) w:=fun _=>rfl
def DecPostR (s:ByteArray) (w:World) (e:Ending) (w':World):Prop:=
 ∃(x:Nat) (ok:Bool),e= .returned (.tuple #[.float .f64 x,.bool ok])∧(∃n,w'=w.drewN n)∧
  (ok=false∧decR s.data.toList=none∨ok=true∧∃m k b,decR s.data.toList=some (m,k,b)∧x=if b=true then negW (scW m k) else scW m k)
theorem refDecimalText_walk (w:World) (s:ByteArray) (hmax:s.size≤maxLen):Calls Tryz.prog 89 #[.string s] w fun e w'=>DecPostR s w e w':=by
 have Hm:=hid (minus_walk w s hmax);go_enter Tryz.func89,Tryz.ntmps89
 go_wp2_with fail
 refine Hm.out.mono ?_;rintro e w1 ⟨r,below,rfl,hw,hmin,hsz⟩;obtain rfl:=hw.symm;clear Hm;have hrmax:r.size≤maxLen:=Nat.le_trans hsz hmax;have Hc:=hid (cut_walk w r hrmax 101)
 go_wp2_with fail
 refine Hc.out.mono ?_;rintro e w1 ⟨mant,tail,powered,rfl,⟨n1,hw⟩,hcut,hs1,hs2⟩;subst hw;clear Hc;have Hc:=hid (cut_walk (w.drewN n1) mant (Nat.le_trans hs1 hrmax) 46)
 go_wp2_with fail
 refine Hc.out.mono ?_;rintro e w1 ⟨a,b,dot,rfl,⟨n2,hw⟩,hcut2,hs3,hs4⟩;subst hw;clear Hc;rw[World.drewN_drewN];generalize n1+n2=n3;have hamax:a.size≤maxLen:=Nat.le_trans hs3 (Nat.le_trans hs1 hrmax);have hbmax:b.size≤maxLen:=Nat.le_trans hs4 (Nat.le_trans hs1 hrmax);have htmax:tail.size≤maxLen:=Nat.le_trans hs2 hrmax;have hab:a.size+b.size≤maxLen:=by
  have:=cutL_len hcut2;rw[size_list,size_list,size_list]at this;exact Nat.le_trans this (Nat.le_trans hs1 hrmax)
 have hab2:a.size+b.size≤9223372036854775807:=by unfold maxLen at hab;omega
 have hnone:∀w',(∃n,w'=w.drewN n)→decR s.data.toList=none→DecPostR s w (.returned (.tuple #[.float .f64 0,.bool false])) w':=fun w' hw h=>⟨0,false,rfl,hw,.inl ⟨rfl,h⟩⟩;cases dot with
 |false=>
  have hres:=hnone _ ⟨n3,rfl⟩ (by unfold decR;simp only[hmin,hcut,hcut2];simp);clear hnone hmin hcut hcut2;go_wp2
  go_ret2
  exact hres
 |true=>
  have Hwa:=hid (whole_walk (w.drewN n3) a hamax _ rfl);cases hwa:wholeL a.data.toList with
  |false=>
   have hres:=hnone _ ⟨n3,rfl⟩ (by unfold decR;simp only[hmin,hcut,hcut2,hwa];simp);rw[hwa]at Hwa;clear hnone hmin hcut hcut2 hwa
   go_wp2_with fail
   refine Hwa.out.mono ?_;rintro e w1 ⟨rfl,hw⟩;subst hw;go_wp2
   go_ret2
   exact hres
  |true=>
   have Hdb:=hid (refDigits_walk (w.drewN n3) b hbmax _ rfl);rw[hwa]at Hwa;cases hdb:allD b.data.toList with
   |false=>
    have hres:=hnone _ ⟨n3,rfl⟩ (by unfold decR;simp only[hmin,hcut,hcut2,hwa,hdb];simp);rw[hdb]at Hdb;clear hnone hmin hcut hcut2 hwa hdb
    go_wp2_with fail
    refine Hwa.out.mono ?_;rintro e w1 ⟨rfl,hw⟩;subst hw
    go_wp2_with fail
    refine Hdb.out.mono ?_;rintro e w1 ⟨rfl,hw⟩;subst hw;go_wp2
    go_ret2
    exact hres
   |true=>
    rw[hdb]at Hdb;have Hall:=hid (And.intro hmin (And.intro hcut (And.intro hcut2 (And.intro hwa hdb))));have Hnone:=hid hnone;clear hnone hmin hcut hcut2 hwa hdb
    go_wp2_with fail
    refine Hwa.out.mono ?_;rintro e w1 ⟨rfl,hw⟩;subst hw
    go_wp2_with fail
    refine Hdb.out.mono ?_;rintro e w1 ⟨rfl,hw⟩;subst hw;clear Hwa Hdb
    go_upto_if 50 with (fail)
    go_cut [12] from 50 (fun s12 wc'=>∃k:Int,s12= .int .i64 k∧wc'=w.drewN n3∧ -99≤k∧k≤99∧Hid (powR powered tail.data.toList=some k))
    case first=>
     cases powered with
     |false=>
      go_wp2
      go_meet
      case rel=>exact ⟨0,(by first|rfl|trivial),(by first|rfl|trivial),by omega,by omega,rfl⟩
     |true=>
      have Hm:=hid (minus_walk (w.drewN n3) tail htmax)
      go_wp2_with fail
      refine Hm.out.mono ?_;rintro e w1 ⟨p,down,rfl,hw,hmin2,hsz2⟩;subst hw;clear Hm;have hpmax:p.size≤maxLen:=Nat.le_trans hsz2 htmax;have Hdp:=hid (refDigits_walk (w.drewN n3) p hpmax _ rfl);cases hdp:allD p.data.toList with
      |false=>
       rw[hdp]at Hdp;have hres:=Hnone.out _ ⟨n3,rfl⟩ (by obtain ⟨q1,q2,q3,q4,q5⟩:=Hall.out;unfold decR powR;simp only[q1,q2,q3,q4,q5,hmin2,hdp];simp);clear hmin2 hdp
       go_wp2_with fail
       refine Hdp.out.mono ?_;rintro e w1 ⟨rfl,hw⟩;subst hw;go_wp2
       go_ret2
       exact hres
      |true=>
       rw[hdp]at Hdp;by_cases hl2:p.size≤2
       ·have hl2i:¬(2:Int)<(p.size:Int):=by omega
        have hnum:=numN_lt (allD_all hdp);rw[size_list]at hnum;have hn100:numN p.data.toList<100:=Nat.lt_of_lt_of_le hnum (Nat.pow_le_pow_right (by decide) hl2);obtain ⟨n,hn⟩:∃n,n=numN p.data.toList:=⟨_,rfl⟩;have Hn:=hid (number_walk (w.drewN n3) p hpmax 99 (by decide) (by decide) (allD_all hdp) n true (dT (by omega)) (by rw[if_pos rfl,hn]));have hpow:∀k:Int,k=(if down=true then -(n:Int) else (n:Int))→powR true tail.data.toList=some k:=by
         intro k hk;unfold powR;rw[if_pos rfl];simp only[hmin2,hdp,size_list];rw[if_pos ⟨by first|rfl|trivial,hl2⟩,←hn,hk]
        have Hpow:=hid hpow;have hn2:n<100:=by omega
        clear hmin2 hdp hnum hn100 hn hpow
        go_wp2_with fail
        refine Hdp.out.mono ?_;rintro e w1 ⟨rfl,hw⟩;subst hw
        go_wp2_with fail
        refine Hn.out.mono ?_;rintro e w1 ⟨rfl,hw⟩;subst hw;clear Hdp Hn;cases down with
        |false=>
         go_wp2
         go_meet
         case rel=>exact ⟨(n:Int),by first|rfl|(congr 1),(by first|rfl|trivial),by omega,by omega,Hpow.out _ (by simp)⟩
        |true=>
         go_wp2
         go_meet
         case rel=>exact ⟨-(n:Int),by first|rfl|(congr 1),(by first|rfl|trivial),by omega,by omega,Hpow.out _ (by simp)⟩
       ·have hl2i:(2:Int)<(p.size:Int):=by omega
        have hres:=Hnone.out _ ⟨n3,rfl⟩ (by obtain ⟨q1,q2,q3,q4,q5⟩:=Hall.out;unfold decR powR;simp only[q1,q2,q3,q4,q5,hmin2,hdp,size_list];simp[hl2]);clear hmin2 hdp
        go_wp2_with fail
        refine Hdp.out.mono ?_;rintro e w1 ⟨rfl,hw⟩;subst hw;go_wp2
        go_ret2
        exact hres
    case rest=>
     obtain ⟨k,rfl,rfl,hk1,hk2,hpow⟩:=hcut;have hablist:(a++b).data.toList=a.data.toList++b.data.toList:=ByteArray.toList_data_append;have habsize:(a++b).size=a.size+b.size:=by rw[←size_list,hablist,List.length_append,size_list,size_list]
     have haball:(a++b).data.toList.all isD=true:=by
      obtain ⟨_,_,_,q4,q5⟩:=Hall.out;rw[hablist,List.all_append,whole_all q4,allD_all q5];rfl
     have habmax:(a++b).size≤maxLen:=by rw[habsize];exact hab
     have Hdec:=hid (show ∀P:Prop,True→True from fun _ _=>trivial);clear Hdec;cases hok:decide (numN (a++b).data.toList≤999999999999999) with
     |false=>
      have Hn:=hid (number_walk (w.drewN n3) (a++b) habmax 999999999999999 (by decide) (by decide) haball 0 false hok rfl);have hres:=Hnone.out _ ⟨n3,rfl⟩ (by
       obtain ⟨q1,q2,q3,q4,q5⟩:=Hall.out;have q6:=of_decide_eq_false hok;rw[hablist]at q6;unfold decR;simp only[q1,q2,q3,q4,q5,hpow.out];rw[if_pos (by simp),if_neg (fun h=>q6 h.1)])
      clear hok haball hpow
      go_wp2_with fail
      refine Hn.out.mono ?_;rintro e w1 ⟨rfl,hw⟩;subst hw;go_wp2
      go_ret2
      exact hres
     |true=>
      obtain ⟨m,hm⟩:∃m,m=numN (a++b).data.toList:=⟨_,rfl⟩;have hmle:=of_decide_eq_true hok;rw[←hm]at hmle;have Hn:=hid (number_walk (w.drewN n3) (a++b) habmax 999999999999999 (by decide) (by decide) haball m true hok (by rw[if_pos rfl,hm]));by_cases hl2:b.size≤200
      ·have hl2i:¬(200:Int)<(b.size:Int):=by omega
       obtain ⟨kb,hkb⟩:∃kb:Int,kb=k-(b.size:Int):=⟨_,rfl⟩;have hdec:decR s.data.toList=if ¬Bad m kb then some (m,kb,below) else none:=by
        obtain ⟨q1,q2,q3,q4,q5⟩:=Hall.out;unfold decR;simp only[q1,q2,q3,q4,q5,hpow.out];rw[if_pos (by simp),←hablist,←hm,size_list,←hkb];by_cases hbd:Bad m kb
        ·rw[if_neg (fun h=>h.2.2 hbd),if_neg (fun h=>h hbd)]
        ·rw[if_pos ⟨hmle,hl2,hbd⟩,if_pos hbd]
       have Hs:=hid (refScaled_walk (w.drewN n3) m (k-(b.size:Int)));rw[hkb]at hdec;by_cases hbd:Bad m (k-(b.size:Int))
       ·rw[if_neg (fun h=>h hbd)]at hdec;have hE:(scE m (k-(b.size:Int)) != 0)=true:=by unfold scE;rw[if_pos hbd];rfl
        have hres:=Hnone.out _ ⟨n3,rfl⟩ hdec;clear hok haball hpow hm hmle hdec hkb hbd
        go_wp2_with fail
        refine Hn.out.mono ?_;rintro e w1 ⟨rfl,hw⟩;subst hw
        go_wp2_with fail
        refine Hs.out.mono ?_;rintro e w1 ⟨rfl,hw⟩;subst hw;go_wp2
        go_ret2
        exact hres
       ·rw[if_pos hbd]at hdec;have hE:(scE m (k-(b.size:Int)) != 0)=false:=by unfold scE;rw[if_neg hbd];rfl
        have hR:scR m (k-(b.size:Int))=scW m (k-(b.size:Int)):=if_neg hbd;have Hd:=hid (And.intro hdec hR);clear hok haball hpow hm hmle hdec hkb hbd hR
        go_wp2_with fail
        refine Hn.out.mono ?_;rintro e w1 ⟨rfl,hw⟩;subst hw
        go_wp2_with fail
        refine Hs.out.mono ?_;rintro e w1 ⟨rfl,hw⟩;subst hw;clear Hn Hs;cases below with
        |false=>
         go_wp2
         go_ret2
         exact ⟨_,true,rfl,⟨n3,rfl⟩,.inr ⟨rfl,_,_,_,Hd.out.1,Hd.out.2⟩⟩
        |true=>
         have hng:=neg_run (scR m (k-(b.size:Int)));go_wp2
         go_ret2
         exact ⟨_,true,rfl,⟨n3,rfl⟩,.inr ⟨rfl,_,_,_,Hd.out.1,by rw[if_pos rfl,Hd.out.2]⟩⟩
      ·have hl2i:(200:Int)<(b.size:Int):=by omega
       have hres:=Hnone.out _ ⟨n3,rfl⟩ (by
        obtain ⟨q1,q2,q3,q4,q5⟩:=Hall.out;unfold decR;simp only[q1,q2,q3,q4,q5,hpow.out];rw[if_pos (by simp),if_neg (fun h=>hl2 (by rw[←size_list];exact h.2.1))])
       clear hok haball hpow hm hmle
       go_wp2_with fail
       refine Hn.out.mono ?_;rintro e w1 ⟨rfl,hw⟩;subst hw;go_wp2
       go_ret2
       exact hres
end Go.Proofs.YtfenoaeoedobmaaGreatDoor
