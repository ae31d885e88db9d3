/-
Parts of a proof.
-/
import Derived.Deep.CutRange
import Derived.Test.YtfenoaeoedobmaaGreatDoorOn08
import Derived.Test.YtfenoaeoedobmaaGreatDoorOn11
set_option linter.unusedVariables false
set_option linter.unusedSimpArgs false
set_option maxHeartbeats 8000000
namespace Go.Proofs.YtfenoaeoedobmaaGreatDoor
open Go Go.RowKit
theorem ry (w:World) (s:ByteArray) (i:Nat) (hs:s.size<=1048576) (hi:i<=s.size):
 Calls Tryz.prog 141 #[.string s,.int .i64 (i:Int)] w fun r w'=>r= .returned (.int .i64 ((i+aP (s.data.toList.drop i):Nat):Int))/\w'=w:=by
 obtain ⟨n,hn⟩:=ex (s.size);have Hn:=hid hn;obtain ⟨l,hl⟩:=ex (s.data.toList);have Hl:=hid hl;have Hs:=hid hs;have Hi:=hid hi;rw[<-hl];clear hn hl hs hi;go_enter Tryz.func141,Tryz.ntmps141;go_wp2
 go_loop [1] (fun v=>∃k:Nat,v= .int .i64 (k:Int)/\Hid (k<=n/\i+aP (l.drop i)=k+aP (l.drop k))) (fun v=>n-(intOf v).toNat)
 case atStart=>exact ⟨i,rfl,hid ⟨by rw[Hn.o];exact Hi.o,rfl⟩⟩
 case round=>
  obtain ⟨k,rfl,H⟩:=hrel;have hn:n=s.size:=Hn.o;have hl:l=s.data.toList:=Hl.o;have hs:=Hs.o;by_cases cg:k<n
  ·obtain ⟨c,hc⟩:=fi (s:=s) (by rw[<-hn];exact cg);have ib:=aU (s:=s) (k:Int) rfl hc;have b3:(k:Int)<(s.size:Int):=by omega
   have wk:=bK (z:=(k:Int)+1) (by omega) (by omega);have cY:=hid (eJ cg wk);have df:=hid (g8 wk);by_cases mV:c.toNat=32
   ·have t1:((c.toNat:Int)==32)=true:=by rw[beq_iff_eq];omega
    have He:=hid (show k+1<=n/\i+aP (l.drop i)=k+1+aP (l.drop (k+1)) from ⟨cg,by rw[H.o.2,Ri (by rw[hl];exact hc) mV];omega⟩);clear hn hl hs cg hc mV H wk;go_wp2;go_round
    case rel=>exact ⟨k+1,df.o,He⟩
    case measure=>exact cY.o
   ·have t1:((c.toNat:Int)==32)=false:=bF (by omega);have He:=hid (show k=i+aP (l.drop i) by rw[H.o.2,Rh (by rw[hl];exact hc) mV];omega);clear hn hl hs cg hc mV H wk;go_wp2;go_ret;exact ⟨vZ (by have:=He.o;omega),rfl⟩
  ·have b3:(s.size:Int)<=(k:Int):=by omega
   have He:=hid (show k=i+aP (l.drop i) by rw[H.o.2,Mr (by rw[hl,aq];omega)];omega);clear hn hl hs cg H;go_wp2;go_ret;exact ⟨vZ (by have:=He.o;omega),rfl⟩
theorem sk (w:World) (s:ByteArray) (i:Nat) (hi:i<=s.size):
 Calls Tryz.prog 142 #[.string s,.int .i64 (i:Int)] w fun r w'=>r= .returned (.bool (bW (s.data.toList.drop i)))/\w'=w:=by
 rcases Nat.lt_or_ge i s.size with aN|mQ
 ·obtain ⟨c,hc⟩:=fi aN;have ib:=aU (s:=s) (i:Int) rfl hc;have t0:((i:Int)==(s.size:Int))=false:=bF (by omega);have He:=hid (show ((c.toNat:Int)==35)=bW (s.data.toList.drop i) by rw[uX hc];by_cases h:c.toNat=35<;>simp[h];omega);clear hi aN hc;go_enter Tryz.func142,Tryz.ntmps142;go_wp2;go_ret;exact ⟨fV He.o,rfl⟩
 ·have t0:((i:Int)==(s.size:Int))=true:=by rw[beq_iff_eq];omega
  have He:=hid (show true=bW (s.data.toList.drop i) by rw[nw (by rw[aq];omega)]);clear hi mQ;go_enter Tryz.func142,Tryz.ntmps142;go_wp2;go_ret;exact ⟨fV He.o,rfl⟩
theorem sV (c:UInt8):(bB c=true/\(((c.toNat:Int)<97/\(c.toNat:Int)<65/\(c.toNat:Int)<48/\(c.toNat:Int)<=122/\(c.toNat:Int)<=90/\(c.toNat:Int)<=57/\((c.toNat:Int)==95)=false/\((c.toNat:Int)==45)=true/\((c.toNat:Int)==46)=false)\/((c.toNat:Int)<97/\(c.toNat:Int)<65/\(c.toNat:Int)<48/\(c.toNat:Int)<=122/\(c.toNat:Int)<=90/\(c.toNat:Int)<=57/\((c.toNat:Int)==95)=false/\((c.toNat:Int)==45)=false/\((c.toNat:Int)==46)=true)\/((c.toNat:Int)<97/\(c.toNat:Int)<65/\(48:Int)<=(c.toNat:Int)/\(c.toNat:Int)<=122/\(c.toNat:Int)<=90/\(c.toNat:Int)<=57/\((c.toNat:Int)==95)=false/\((c.toNat:Int)==45)=false/\((c.toNat:Int)==46)=false)\/((c.toNat:Int)<97/\(65:Int)<=(c.toNat:Int)/\(48:Int)<=(c.toNat:Int)/\(c.toNat:Int)<=122/\(c.toNat:Int)<=90/\decide ((c.toNat:Int)<=57)=false/\((c.toNat:Int)==95)=false/\((c.toNat:Int)==45)=false/\((c.toNat:Int)==46)=false)\/((c.toNat:Int)<97/\(65:Int)<=(c.toNat:Int)/\(48:Int)<=(c.toNat:Int)/\(c.toNat:Int)<=122/\decide ((c.toNat:Int)<=90)=false/\decide ((c.toNat:Int)<=57)=false/\((c.toNat:Int)==95)=true/\((c.toNat:Int)==45)=false/\((c.toNat:Int)==46)=false)\/((97:Int)<=(c.toNat:Int)/\(65:Int)<=(c.toNat:Int)/\(48:Int)<=(c.toNat:Int)/\(c.toNat:Int)<=122/\decide ((c.toNat:Int)<=90)=false/\decide ((c.toNat:Int)<=57)=false/\((c.toNat:Int)==95)=false/\((c.toNat:Int)==45)=false/\((c.toNat:Int)==46)=false)))\/(bB c=false/\(((c.toNat:Int)<97/\(c.toNat:Int)<65/\(c.toNat:Int)<48/\(c.toNat:Int)<=122/\(c.toNat:Int)<=90/\(c.toNat:Int)<=57/\((c.toNat:Int)==95)=false/\((c.toNat:Int)==45)=false/\((c.toNat:Int)==46)=false)\/((c.toNat:Int)<97/\(c.toNat:Int)<65/\(c.toNat:Int)<48/\(c.toNat:Int)<=122/\(c.toNat:Int)<=90/\(c.toNat:Int)<=57/\((c.toNat:Int)==95)=false/\((c.toNat:Int)==45)=false/\((c.toNat:Int)==46)=false)\/((c.toNat:Int)<97/\(c.toNat:Int)<65/\(48:Int)<=(c.toNat:Int)/\(c.toNat:Int)<=122/\(c.toNat:Int)<=90/\decide ((c.toNat:Int)<=57)=false/\((c.toNat:Int)==95)=false/\((c.toNat:Int)==45)=false/\((c.toNat:Int)==46)=false)\/((c.toNat:Int)<97/\(65:Int)<=(c.toNat:Int)/\(48:Int)<=(c.toNat:Int)/\(c.toNat:Int)<=122/\decide ((c.toNat:Int)<=90)=false/\decide ((c.toNat:Int)<=57)=false/\((c.toNat:Int)==95)=false/\((c.toNat:Int)==45)=false/\((c.toNat:Int)==46)=false)\/((c.toNat:Int)<97/\(65:Int)<=(c.toNat:Int)/\(48:Int)<=(c.toNat:Int)/\(c.toNat:Int)<=122/\decide ((c.toNat:Int)<=90)=false/\decide ((c.toNat:Int)<=57)=false/\((c.toNat:Int)==95)=false/\((c.toNat:Int)==45)=false/\((c.toNat:Int)==46)=false)\/((97:Int)<=(c.toNat:Int)/\(65:Int)<=(c.toNat:Int)/\(48:Int)<=(c.toNat:Int)/\decide ((c.toNat:Int)<=122)=false/\decide ((c.toNat:Int)<=90)=false/\decide ((c.toNat:Int)<=57)=false/\((c.toNat:Int)==95)=false/\((c.toNat:Int)==45)=false/\((c.toNat:Int)==46)=false))):=by
 have hl:=c.toNat_lt;by_cases hy:(45<=c.toNat/\c.toNat<=45)\/(46<=c.toNat/\c.toNat<=46)\/(48<=c.toNat/\c.toNat<=57)\/(65<=c.toNat/\c.toNat<=90)\/(95<=c.toNat/\c.toNat<=95)\/(97<=c.toNat/\c.toNat<=122)
 ·refine .inl ⟨dT (by omega),?_⟩;rcases hy with h|h|h|h|h|h
  ·exact .inl (by simp;omega)
  ·exact .inr (.inl (by simp;omega))
  ·exact .inr (.inr (.inl (by simp;omega)))
  ·exact .inr (.inr (.inr (.inl (by simp;omega))))
  ·exact .inr (.inr (.inr (.inr (.inl (by simp;omega)))))
  ·exact .inr (.inr (.inr (.inr (.inr (by simp;omega)))))
 ·refine .inr ⟨dF (by omega),?_⟩;rcases (show (c.toNat<=44)\/c.toNat=47\/(58<=c.toNat/\c.toNat<=64)\/(91<=c.toNat/\c.toNat<=94)\/c.toNat=96\/123<=c.toNat by omega) with h|h|h|h|h|h
  ·exact .inl (by simp;omega)
  ·exact .inr (.inl (by simp;omega))
  ·exact .inr (.inr (.inl (by simp;omega)))
  ·exact .inr (.inr (.inr (.inl (by simp;omega))))
  ·exact .inr (.inr (.inr (.inr (.inl (by simp;omega)))))
  ·exact .inr (.inr (.inr (.inr (.inr (by simp;omega)))))
theorem R8 (w:World) (s:ByteArray) (i:Nat) (hs:s.size<=1048576) (hi:i<=s.size):
 Calls Tryz.prog 144 #[.string s,.int .i64 (i:Int)] w fun r w'=>r= .returned (.int .i64 ((i+cZ (s.data.toList.drop i):Nat):Int))/\w'=w:=by
 obtain ⟨n,hn⟩:=ex (s.size);have Hn:=hid hn;obtain ⟨l,hl⟩:=ex (s.data.toList);have Hl:=hid hl;have Hs:=hid hs;have Hi:=hid hi;rw[<-hl];clear hn hl hs hi;go_enter Tryz.func144,Tryz.ntmps144;go_wp2
 go_loop [1] (fun v=>∃k:Nat,v= .int .i64 (k:Int)/\Hid (k<=n/\i+cZ (l.drop i)=k+cZ (l.drop k))) (fun v=>n-(intOf v).toNat)
 case atStart=>exact ⟨i,rfl,hid ⟨by rw[Hn.o];exact Hi.o,rfl⟩⟩
 case round=>
  obtain ⟨k,rfl,H⟩:=hrel;have hn:n=s.size:=Hn.o;have hl:l=s.data.toList:=Hl.o;have hs:=Hs.o;by_cases cg:k<n
  ·obtain ⟨c,hc⟩:=fi (s:=s) (by rw[<-hn];exact cg);have ib:=aU (s:=s) (k:Int) rfl hc;have b3:(k:Int)<(s.size:Int):=by omega
   have wk:=bK (z:=(k:Int)+1) (by omega) (by omega);have cY:=hid (eJ cg wk);have df:=hid (g8 wk);rcases sV c with ⟨ui,h⟩|⟨ui,h⟩
   ·rcases h with ⟨g0,g1,g2,k0,k1,k2,e0,e1,e2⟩|⟨g0,g1,g2,k0,k1,k2,e0,e1,e2⟩|⟨g0,g1,g2,k0,k1,k2,e0,e1,e2⟩|⟨g0,g1,g2,k0,k1,k2,e0,e1,e2⟩|⟨g0,g1,g2,k0,k1,k2,e0,e1,e2⟩|⟨g0,g1,g2,k0,k1,k2,e0,e1,e2⟩
    all_goals
     have He:=hid (show k+1<=n/\i+cZ (l.drop i)=k+1+cZ (l.drop (k+1)) from ⟨cg,by rw[H.o.2,RV (by rw[hl];exact hc) ui];omega⟩);clear hn hl hs cg hc ui H wk;go_wp2;go_round
     case rel=>exact ⟨k+1,df.o,He⟩
     case measure=>exact cY.o
   ·rcases h with ⟨g0,g1,g2,k0,k1,k2,e0,e1,e2⟩|⟨g0,g1,g2,k0,k1,k2,e0,e1,e2⟩|⟨g0,g1,g2,k0,k1,k2,e0,e1,e2⟩|⟨g0,g1,g2,k0,k1,k2,e0,e1,e2⟩|⟨g0,g1,g2,k0,k1,k2,e0,e1,e2⟩|⟨g0,g1,g2,k0,k1,k2,e0,e1,e2⟩
    all_goals
     have He:=hid (show k=i+cZ (l.drop i) by rw[H.o.2,RU (by rw[hl];exact hc) (by rw[ui];decide)];omega);clear hn hl hs cg hc ui H wk;go_wp2;go_ret;exact ⟨vZ (by have:=He.o;omega),rfl⟩
  ·have b3:(s.size:Int)<=(k:Int):=by omega
   have He:=hid (show k=i+cZ (l.drop i) by rw[H.o.2,NG (by rw[hl,aq];omega)];omega);clear hn hl hs cg H;go_wp2;go_ret;exact ⟨vZ (by have:=He.o;omega),rfl⟩
theorem NH {s:ByteArray} {k:Nat} {c:UInt8} (hc:s.data.toList[k]? =some c) (h:bB c=false):aD s=false:=by
 unfold aD GZ;rw[Bool.and_eq_false_iff];refine .inl ?_;rw[List.all_eq_false];exact ⟨c,List.mem_of_getElem? hc,by rw[h];decide⟩
theorem CA {l:List UInt8} (h:∀(j:Nat) (c:UInt8),j<l.length->l[j]? =some c->bB c=true):l.all bB=true:=by
 rw[List.all_eq_true];intro c hc;obtain ⟨j,hj,e⟩:=List.getElem_of_mem hc;exact h j c hj (by rw[aBn hj,e])
theorem Rf (w:World) (s:ByteArray) (hs:s.size<=1048576):
 Calls Tryz.prog 42 #[.string s] w fun r w'=>r= .returned (.bool (aD s))/\w'=w:=by
 obtain ⟨n,hn⟩:=ex (s.size);have Hn:=hid hn;obtain ⟨l,hl⟩:=ex (s.data.toList);have Hl:=hid hl;have Hs:=hid hs;clear hn hl hs;go_enter Tryz.func42,Tryz.ntmps42;go_wp2
 go_loop [7] (fun v=>∃k:Nat,v= .int .i64 (k:Int)/\Hid (k<=n/\∀(j:Nat) (c:UInt8),j<k->l[j]? =some c->bB c=true)) (fun v=>n-(intOf v).toNat)
 case atStart=>exact ⟨0,rfl,hid ⟨Nat.zero_le _,fun j c h=>absurd h (Nat.not_lt_zero _)⟩⟩
 case round=>
  obtain ⟨k,rfl,H⟩:=hrel;have hn:n=s.size:=Hn.o;have hl:l=s.data.toList:=Hl.o;have hs:=Hs.o;by_cases cg:k<n
  ·obtain ⟨c,hc⟩:=fi (s:=s) (by rw[<-hn];exact cg);have ib:=aU (s:=s) (k:Int) rfl hc;have b3:(k:Int)<(s.size:Int):=by omega
   have wk:=bK (z:=(k:Int)+1) (by omega) (by omega);have cY:=hid (eJ cg wk);have df:=hid (g8 wk);rcases sV c with ⟨ui,h⟩|⟨ui,h⟩
   ·rcases h with ⟨g0,g1,g2,k0,k1,k2,e0,e1,e2⟩|⟨g0,g1,g2,k0,k1,k2,e0,e1,e2⟩|⟨g0,g1,g2,k0,k1,k2,e0,e1,e2⟩|⟨g0,g1,g2,k0,k1,k2,e0,e1,e2⟩|⟨g0,g1,g2,k0,k1,k2,e0,e1,e2⟩|⟨g0,g1,g2,k0,k1,k2,e0,e1,e2⟩
    all_goals
     have He:=hid (show k+1<=n/\∀(j:Nat) (c:UInt8),j<k+1->l[j]? =some c->bB c=true from ⟨cg,fun j d hj hd=>by
      by_cases e:j=k
      ·subst e;rw[hl,hc]at hd;obtain rfl:=aBm hd;exact ui
      ·exact H.o.2 j d (by omega) hd⟩)
     clear hn hl hs cg hc ui H wk;go_wp2;go_round
     case rel=>exact ⟨k+1,df.o,He⟩
     case measure=>exact cY.o
   ·rcases h with ⟨g0,g1,g2,k0,k1,k2,e0,e1,e2⟩|⟨g0,g1,g2,k0,k1,k2,e0,e1,e2⟩|⟨g0,g1,g2,k0,k1,k2,e0,e1,e2⟩|⟨g0,g1,g2,k0,k1,k2,e0,e1,e2⟩|⟨g0,g1,g2,k0,k1,k2,e0,e1,e2⟩|⟨g0,g1,g2,k0,k1,k2,e0,e1,e2⟩
    all_goals
     have He:=hid (show false=aD s from (NH hc ui).symm);clear hn hl hs cg hc ui H wk;go_wp2;go_ret;exact ⟨fV He.o,rfl⟩
  ·have b3:(s.size:Int)<=(k:Int):=by omega
   have hall:s.data.toList.all bB=true:=CA fun j c hj hc=>H.o.2 j c (by rw[aq]at hj;omega) (by rw[hl];exact hc);have hv:aD s=decide (0<s.size/\s.size<=64):=by unfold aD GZ;rw[hall,aq];rfl
   rcases Nat.eq_zero_or_pos s.size with h0|h0
   ·have q0:s.toList=[]:=by rw[Lib.toList_data];exact List.eq_nil_of_length_eq_zero (by rw[aq];exact h0)
    have q1:s.toList.isEmpty=true:=by rw[q0];rfl
    have Q0:=hid q0;have q2:(s.size:Int)<=0:=by omega
    have q3:(!s.toList.isEmpty)=false:=by rw[q1];rfl
    have He:=hid (show false=aD s by rw[hv];exact (dF (by omega)).symm);clear hn hl hs cg H hall hv h0 q2;go_wp2;go_ret;exact ⟨fV He.o,rfl⟩
   ·have q0:¬s.toList=[]:=by rw[Lib.toList_data];intro h;have q:=congrArg List.length h;rw[aq]at q;exact absurd q (Nat.ne_of_gt h0)
    have q1:s.toList.isEmpty=false:=by cases h:s.toList with|nil=>exact absurd h q0|cons a b=>rfl
    have q3:(!s.toList.isEmpty)=true:=by rw[q1];rfl
    have q2:(0:Int)<(s.size:Int):=by omega
    by_cases sL:s.size<=64
    ·have b4:(s.size:Int)<=64:=by omega
     have He:=hid (show true=aD s by rw[hv];exact (dT (by omega)).symm);clear hn hl hs cg H hall hv h0 sL q2;go_wp2;go_ret;exact ⟨fV He.o,rfl⟩
    ·have b4:decide ((s.size:Int)<=64)=false:=dF (by omega);have He:=hid (show false=aD s by rw[hv];exact (dF (by omega)).symm);clear hn hl hs cg H hall hv h0 sL q2;go_wp2;go_ret;exact ⟨fV He.o,rfl⟩
theorem sH:∀(l:List UInt8) (b:UInt8),0<=Lib.indexByte l b↔l.any (fun c=>decide (c=b))=true
 |[],b=>⟨fun h=>absurd (show (0:Int)<= -1 from h) (by decide),fun h=>by cases h⟩
 |a::l,b=>by
  have ih:=sH l b;have hg:=Lib.indexByte_ge l b;rw[List.any_cons];unfold Lib.indexByte;by_cases h:a=b
  ·rw[if_pos (beq_iff_eq.2 h),dT h];simp
  ·rw[if_neg (fun q=>h (eq_of_beq q)),dF h,Bool.false_or,<-ih];by_cases h1:Lib.indexByte l b= -1
   ·rw[h1]
    decide
   ·rw[if_neg (fun q=>h1 (eq_of_beq q))];omega
theorem Re (w:World) (s:ByteArray) (hs:s.size<=1048576):
 Calls Tryz.prog 140 #[.string s] w fun r w'=>r= .returned (.int .i64 (dJ s.data.toList))/\w'=w:=by
 have Hx:=hid (Tryz.strings_IndexByte s 9 w);by_cases h9:s.data.toList.any (fun c=>decide (c.toNat=9))=true
 ·have hv:dJ s.data.toList=80:=by unfold dJ;rw[if_pos h9]
  have hi:(0:Int)<=Lib.indexByte s.data.toList (9:Int).toNat.toUInt8:=(sH _ _).2 (by rw[<-h9];congr 1;funext c;exact decide_eq_decide.2 ⟨fun h=>by rw[h];rfl,fun h=>by apply UInt8.toNat_inj.1;rw[h];rfl⟩);rw[hv];clear hv h9 hs;generalize Lib.indexByte s.data.toList (9:Int).toNat.toUInt8=z at*;go_enter Tryz.func140,Tryz.ntmps140
  go_wp2_with fail
  refine cS Hx.o ?_;clear Hx;go_wp2;go_ret;exact ⟨rfl,rfl⟩
 ·have hv:dJ s.data.toList=if s.data.toList.any (fun c=>decide (c.toNat<32\/c.toNat=127))=true then 83 else 0:=by unfold dJ;rw[if_neg h9]
  have hi:Lib.indexByte s.data.toList (9:Int).toNat.toUInt8<0:=by
   refine Int.not_le.1 fun h=>h9 ?_;rw[<-(sH _ _).1 h];congr 1;funext c;exact decide_eq_decide.2 ⟨fun h=>by apply UInt8.toNat_inj.1;rw[h];rfl,fun h=>by rw[h];rfl⟩
  have Hv:=hid hv;clear hv h9;generalize Lib.indexByte s.data.toList (9:Int).toNat.toUInt8=z at*;obtain ⟨n,hn⟩:=ex (s.size);have Hn:=hid hn;obtain ⟨l,hl⟩:=ex (s.data.toList);have Hl:=hid hl;have Hs:=hid hs;rw[<-hl];rw[<-hl]at Hv;clear hn hl hs;go_enter Tryz.func140,Tryz.ntmps140
  go_wp2_with fail
  refine cS Hx.o ?_;clear Hx;go_wp2
  go_loop [9] (fun v=>∃k:Nat,v= .int .i64 (k:Int)/\Hid (k<=n/\∀(j:Nat) (c:UInt8),j<k->l[j]? =some c->¬(c.toNat<32\/c.toNat=127))) (fun v=>n-(intOf v).toNat)
  case atStart=>exact ⟨0,rfl,hid ⟨Nat.zero_le _,fun j c h=>absurd h (Nat.not_lt_zero _)⟩⟩
  case round=>
   obtain ⟨k,rfl,H⟩:=hrel;have hn:n=s.size:=Hn.o;have hl:l=s.data.toList:=Hl.o;have hs:=Hs.o;by_cases cg:k<n
   ·obtain ⟨c,hc⟩:=fi (s:=s) (by rw[<-hn];exact cg);have ib:=aU (s:=s) (k:Int) rfl hc;have b3:(k:Int)<(s.size:Int):=by omega
    have wk:=bK (z:=(k:Int)+1) (by omega) (by omega);have cY:=hid (eJ cg wk);have df:=hid (g8 wk);by_cases zp:c.toNat<32
    ·have p1:(c.toNat:Int)<32:=by omega
     have He:=hid (show 83=dJ l by rw[Hv.o,if_pos];rw[List.any_eq_true];exact ⟨c,List.mem_of_getElem? (by rw[hl];exact hc),dT (.inl zp)⟩);clear hn hl hs cg hc zp H wk;go_wp2;go_ret;exact ⟨vZ He.o,rfl⟩
    ·have p1:(32:Int)<=(c.toNat:Int):=by omega
     by_cases T6:c.toNat=127
     ·have p2:((c.toNat:Int)==127)=true:=by rw[beq_iff_eq];omega
      have He:=hid (show 83=dJ l by rw[Hv.o,if_pos];rw[List.any_eq_true];exact ⟨c,List.mem_of_getElem? (by rw[hl];exact hc),dT (.inr T6)⟩);clear hn hl hs cg hc zp T6 H wk;go_wp2;go_ret;exact ⟨vZ He.o,rfl⟩
     ·have p2:((c.toNat:Int)==127)=false:=bF (by omega);have He:=hid (show k+1<=n/\∀(j:Nat) (c:UInt8),j<k+1->l[j]? =some c->¬(c.toNat<32\/c.toNat=127) from ⟨cg,fun j d hj hd=>by
       by_cases e:j=k
       ·subst e;rw[hl,hc]at hd;obtain rfl:=aBm hd;omega
       ·exact H.o.2 j d (by omega) hd⟩)
      clear hn hl hs cg hc zp T6 H wk;go_wp2;go_round
      case rel=>exact ⟨k+1,df.o,He⟩
      case measure=>exact cY.o
   ·have b3:(s.size:Int)<=(k:Int):=by omega
    have He:=hid (show 0=dJ l by
     rw[Hv.o,if_neg];rw[List.any_eq_true];rintro ⟨c,hm,hc⟩;obtain ⟨j,hj,e⟩:=List.getElem_of_mem hm;exact H.o.2 j c (by rw[hl,aq]at hj;omega) (by rw[aBn hj,e]) (of_decide_eq_true hc))
    clear hn hl hs cg H;go_wp2;go_ret;exact ⟨vZ He.o,rfl⟩
structure RO (w wr:World) (e:TypeId) (sz:Nat) (v:Value) (n:Nat) (xs:List Value):Prop where
 below:Below w.heap.size w wr
 row:wr.ownsRow 0 e sz v n xs
 new:∀g,v.ownBlock=some g->w.heap.size<=g
theorem RO.first (w:World) (e:TypeId) (sz:Nat):RO w w e sz (.slice none 0 0) 0 []:=⟨aBi _ _,World.ownsRow_nil _ _ _ _,nofun⟩
theorem RO.later {w wr w2:World} {e:TypeId} {sz n:Nat} {v:Value} {xs:List Value} (h:RO w wr e sz v n xs) (hb:Below wr.heap.size wr w2):RO w w2 e sz v n xs:=
 ⟨h.below.trans (hb.mono h.below.size),oq h.row hb,h.new⟩
theorem RO.start {w w1:World} {e:TypeId} {sz:Nat} (hb:Below w.heap.size w w1):RO w w1 e sz (.slice none 0 0) 0 []:=(RO.first w e sz).later hb
theorem RO.drewN {w wr:World} {e:TypeId} {sz n:Nat} {v:Value} {xs:List Value} (h:RO w wr e sz v n xs) (k:Nat):RO w (wr.drewN k) e sz v n xs:=⟨bdH h.below k,h.row,h.new⟩
theorem RO.drew {w wr:World} {e:TypeId} {sz n:Nat} {v:Value} {xs:List Value} (h:RO w wr e sz v n xs):RO w wr.drew e sz v n xs:=⟨h.below.drew,h.row,h.new⟩
theorem RO.app {w wr w1 w2:World} {e:TypeId} {sz n m:Nat} {v v':Value} {xs ys:List Value} (h:RO w wr e sz v n xs) (bG:Below wr.heap.size wr w1) (aB:w2.ownsRow 0 e sz v' m ys) (bC:w1.grownBy w2 v.ownBlock)
 (aA:∀g,v'.ownBlock=some g->v.ownBlock=some g\/w1.heap.size<=g):RO w w2 e sz v' m ys:=by
 have hb:Below w.heap.size w w1:=h.below.trans (bG.mono h.below.size);have hm:Mod (fun k=>v.ownBlock=some k) w1 w2:=(Mod.refl _ _).grown bC (fun k e _=>e);refine ⟨hb.trans (hm.below hb.size fun k hk=>h.new k hk),aB,fun g hg=> ?_⟩;rcases aA g hg with q|q
 ·exact h.new g q
 ·exact aBl hb.size q
theorem zI:(Tryz.prog.info? 5).map (fun i=>(i.zero,i.size,i.bytes))=some (some (.int .u8 0),1,1):=by kernel_rfl
theorem xG (l:List UInt8) (c:UInt8):Lib.byteCells (l++[c])=Lib.byteCells l++[.int .u8 (c.toNat:Int)]:=by simp[Lib.byteCells]
abbrev Tu (w:World) (B:Nat) (v:Value) (l:List UInt8):Prop:=w.ownsRow B 5 1 v l.length (Lib.byteCells l)
theorem nR {w:World} {B:Nat} {v:Value} {l:List UInt8} (h:Tu w B v l):(convert 42 9 v).run Tryz.prog w= .ok (.string ⟨l.toArray⟩) w:=by
 rcases h.2 with ⟨hv,hn⟩|⟨g,cap,cur,hv,_⟩
 ·have hl:l=[]:=List.eq_nil_of_length_eq_zero hn;subst hl;rw[hv];have:=run_convert_bytes_string (P:= Tryz.prog) w 42 9 5 none 0 0 Tryz.underlying42 Tryz.underlying5 Tryz.underlying9;rw[this];simp[Conv.bytesToString,go_sem];rfl
 ·rw[hv];refine run_convert_bytes_back (P:= Tryz.prog) w 42 9 5 ⟨g,0,none⟩ cap l Tryz.underlying42 Tryz.underlying5 Tryz.underlying9 (fun j hj=> ?_);refine h.cells (g:=g) (by rw[hv];rfl) j _ ?_;unfold Lib.byteCells;rw[List.getElem?_map,aBn hj];rfl
abbrev RB (w wr:World) (v:Value) (l:List UInt8):Prop:=RO w wr 5 1 v l.length (Lib.byteCells l)
theorem RB.app {w wr w2:World} {v v':Value} {l:List UInt8} {c:UInt8} {o:Obj} (h:RB w wr v l) (aB:w2.ownsRow 0 5 1 v' (l.length+1) (Lib.byteCells l++[.int .u8 (c.toNat:Int)])) (bC:(wr.alloc o).grownBy w2 v.ownBlock) (aA:∀g,v'.ownBlock=some g->v.ownBlock=some g\/(wr.alloc o).heap.size<=g):RB w w2 v' (l++[c]):=by
 have:=RO.app h ((aBi _ wr).alloc (aBh _) o) aB bC aA
 show RO w w2 _ 1 v' (l++[c]).length (Lib.byteCells (l++[c]))
 rw[xG,aBj];exact this
theorem e9 {w:World} {ops:Array Oper} {rest:List Oper} {o:Oper} {a:Act} {Q:Exit->Act->World->Prop} (ln:o.guard=none) (s x:Operand)
 (ho:o.op= .call {callee:= .builtin .append,args:=#[s,x],argTypes:=#[42,42]})
 (v:Value) (l:List UInt8) (hs:a.eval s=v) (dh:w.ownsRow 0 5 1 v l.length (Lib.byteCells l)) (g:Nat) (c:UInt8) (hx:a.eval x= .slice (some ⟨g,0,none⟩) 1 1)
 (ku:w.cell? ⟨g,0,none⟩=some (.int .u8 (c.toNat:Int))) (hlen:l.length<=1000000000)
 (h:∀v' w',w'.ownsRow 0 5 1 v' (l.length+1) (Lib.byteCells l++[.int .u8 (c.toNat:Int)])->w.grownBy w' v.ownBlock->(∀g,v'.ownBlock=some g->v.ownBlock=some g\/w.heap.size<=g)->
  wpList Tryz.prog ops Q rest (a.put o.dst v') w'):wpList Tryz.prog ops Q (o::rest) a w:=by
 obtain ⟨i0,ug,qL,uD,uC⟩:=info_parts zI;refine fP w ln s x 42 ho 5 i0 (.int .u8 0) 1 1 Tryz.underlying42 ug qL uD uC rfl (by decide) v l.length (Lib.byteCells l) hs dh (some ⟨g,0,none⟩) 1 1 [.int .u8 (c.toNat:Int)] hx rfl
  (fun hn=>by cases hn) (fun ad had=> ?_) (fun u hu=>by simp at hu;subst hu;rfl) (by unfold maxLen;omega) (by omega) h
 obtain rfl:=aBm had;intro j u hj;cases j with
 |zero=>
  simp only[List.getElem?_cons_zero,Option.some.injEq]at hj;subst hj;exact ku
 |succ j=>simp at hj
theorem RB.drewN {w wr:World} {v:Value} {l:List UInt8} (h:RB w wr v l) (k:Nat):RB w (wr.drewN k) v l:=RO.drewN h k
theorem RB.drew {w wr:World} {v:Value} {l:List UInt8} (h:RB w wr v l):RB w wr.drew v l:=RO.drew h
abbrev hexes:ByteArray:=⟨#[48,49,50,51,52,53,54,55,56,57,97,98,99,100,101,102]⟩
theorem OU:∀c:Fin 256,Lib.indexByte hexes.data.toList (UInt8.ofNat c.val)=gk (UInt8.ofNat c.val):=by decide+kernel
theorem FJ (c:UInt8):Lib.indexByte hexes.data.toList c=gk c:=by
 have:=OU ⟨c.toNat,c.toNat_lt⟩;rw[UInt8.ofNat_toNat]at this;exact this
theorem Io (c:UInt8): -1<=gk c:=by
 unfold gk
 split
 ·omega
 ·split<;>omega
theorem H9 (x:UInt8) (w1:World):Calls Tryz.prog 177 #[.string hexes,.int .u8 (x.toNat:Int)] w1 fun r w'=>r= .returned (.int .i64 (gk x))/\w'=w1:=
 (Tryz.strings_IndexByte hexes (x.toNat:Int) w1).mono fun r w' ⟨hr,hw⟩=>⟨by
  rw[hr];have e:((x.toNat:Int)).toNat.toUInt8=x:=by
   show (x.toNat).toUInt8=x
   simp
  rw[e,FJ],hw⟩
theorem VM:∀a b:Fin 16,bits BinOp.or IntKind.i64 (wrap64 ((a.val:Int)*16)) (b.val:Int) % 256=16*(a.val:Int)+(b.val:Int):=by decide+kernel
theorem VL {h o:UInt8} (h1:0<=gk h) (h2:0<=gk o):bits BinOp.or IntKind.i64 (wrap64 (gk h*16)) (gk o) % 256=((hexB h o).toNat:Int):=by
 rw[OV h1 h2];have q1:=vm h;have q2:=vm o;generalize gk h=hi at*;generalize gk o=lo at*;obtain ⟨a,rfl⟩:∃a:Fin 16,hi=(a.val:Int):=⟨⟨hi.toNat,by omega⟩,by show hi=(hi.toNat:Int);omega⟩;obtain ⟨b,rfl⟩:∃b:Fin 16,lo=(b.val:Int):=⟨⟨lo.toNat,by omega⟩,by show lo=(lo.toNat:Int);omega⟩;exact VM a b
theorem RP {W:World} {hi lo:Int} {B:UInt8} (h:bits BinOp.or IntKind.i64 (wrap64 (hi*16)) lo % 256=(B.toNat:Int)):
 (W.alloc (.cells #[.int .u8 (bits BinOp.or IntKind.i64 (wrap64 (hi*16)) lo % 256)] 5)).cell? ⟨W.heap.size,0,none⟩=some (.int .u8 (B.toNat:Int)):=by
 rw[World.cell?_alloc_new,h];rfl
theorem OT (h o:UInt8):∃(hi lo:Int),(∀w1,Calls Tryz.prog 177 #[.string hexes,.int .u8 (h.toNat:Int)] w1 fun r w'=>r= .returned (.int .i64 hi)/\w'=w1)/\
 (∀w1,Calls Tryz.prog 177 #[.string hexes,.int .u8 (o.toNat:Int)] w1 fun r w'=>r= .returned (.int .i64 lo)/\w'=w1)/\
 (hi=gk h/\lo=gk o)/\(0<=hi->0<=lo->bits BinOp.or IntKind.i64 (wrap64 (hi*16)) lo % 256=((hexB h o).toNat:Int)):=
 ⟨gk h,gk o,H9 h,H9 o,⟨rfl,rfl⟩,VL⟩
