/-
Parts of a proof.
-/
import Derived.Test.YtfenoaeoedobmaaGreatDoorProg
import Derived.Lib.IndexAny
import Derived.Lib.IndexMore
import Derived.Deep.MidRow
import Derived.Deep.WholeRow
import Derived.Test.YtfenoaeoedobmaaGreatDoorOn12
set_option linter.unusedVariables false
set_option linter.unusedSimpArgs false
set_option maxHeartbeats 16000000
set_option maxRecDepth 100000
namespace Go.Proofs.YtfenoaeoedobmaaGreatDoor
open Go Go.RowKit
theorem iJ:∀t:List UInt8,(Lib.index t [32,35]= -1/\aS t=t)\/∃k:Nat,Lib.index t [32,35]=(k:Int)/\k<=t.length/\aS t=t.take k
 |[]=> .inl ⟨rfl,rfl⟩
 |c::r=>by
  have ih:=iJ r;have hp:(List.isPrefixOf [32,35] (c::r))=decide (c.toNat=32/\r.head? =some 35):=by
   cases r with
   |nil=>simp[List.isPrefixOf]
   |cons d r=>
    simp only[List.isPrefixOf,List.head?_cons,Option.some.injEq,Bool.and_true];rw[Bool.eq_iff_iff,Bool.and_eq_true,beq_iff_eq,beq_iff_eq,decide_eq_true_eq];constructor
    ·rintro ⟨a,b⟩;exact ⟨by rw[<-a];rfl,b.symm⟩
    ·rintro ⟨a,b⟩;exact ⟨by apply UInt8.toNat_inj.1;rw[a];rfl,b.symm⟩
  unfold Lib.index aS;rw[hp];by_cases h:c.toNat=32/\r.head? =some 35
  ·rw[dT h,if_pos rfl,if_pos h];exact .inr ⟨0,rfl,Nat.zero_le _,rfl⟩
  ·rw[dF h,if_neg (by decide),if_neg h];rcases ih with ⟨e1,e2⟩|⟨k,e1,e2,e3⟩
   ·rw[e1,e2];exact .inl ⟨rfl,rfl⟩
   ·rw[e1,e3,if_neg (by simp)];exact .inr ⟨k+1,by push_cast;rfl,by simp only[aBk];omega,rfl⟩
theorem eU (c:UInt8):∀v:List UInt8,aQ (v++[c])=if c.toNat=32 then aQ v else v++[c]
 |[]=>by
  simp only[List.nil_append,aQ,true_and]
 |b::v=>by
  have ih:=eU c v
  show (if aQ (v++[c])=[]/\b.toNat=32 then [] else b::aQ (v++[c]))=_
  rw[ih];by_cases h:c.toNat=32
  ·rw[if_pos h,if_pos h];rfl
  ·rw[if_neg h,if_neg h,if_neg (fun q=>by simp at q)];rfl
theorem yB:∀v:List UInt8,(aQ v).length<=v.length
 |[]=>aBh _
 |c::r=>by
  have:=yB r;unfold aQ
  split
  ·simp
  ·simp only[aBk];omega
theorem og {t:List UInt8} {e:Nat} {c:UInt8} (h:t[e]? =some c):t.take (e+1)=t.take e++[c]:=by rw[List.take_add_one,h];rfl
theorem pk:∀(u:List UInt8) (c:UInt8),Lib.hasSuffix u [c]=(match u.getLast? with|some d=>decide (d=c)|none=>false):=fun u c=>by
 unfold Lib.hasSuffix;rcases List.eq_nil_or_concat u with rfl|⟨v,d,rfl⟩
 ·rfl
 ·rw[List.concat_eq_append,List.getLast?_append];simp only[List.getLast?_singleton,Option.or_some,Option.some_or];rw[Bool.eq_iff_iff,List.isSuffixOf_iff_suffix,decide_eq_true_eq];constructor
  ·rintro ⟨t,ht⟩;have:=List.append_inj_right' ht rfl
   simpa using this.symm
  ·rintro rfl;exact ⟨v,rfl⟩
theorem o7 (c:UInt8) (r:List UInt8) (p:List UInt8):Lib.contains (c::r) p=(p.isPrefixOf (c::r)||Lib.contains r p):=by
 unfold Lib.contains;have hg:=Lib.index_ge r p
 conv=>lhs;unfold Lib.index
 cases p.isPrefixOf (c::r) with
 |true=>simp
 |false=>
  rw[if_neg (by decide),Bool.false_or];by_cases h:Lib.index r p= -1
  ·rw[h];rfl
  ·rw[if_neg (fun q=>h (eq_of_beq q))];exact decide_eq_decide.2 ⟨fun q=>by omega,fun q=>by omega⟩
theorem DH:∀u:List UInt8,mm u=(Lib.contains u [58,32]||Lib.hasSuffix u [58])
 |[]=>rfl
 |[c]=>by
  rw[pk]
  show decide (c.toNat=58)=(Lib.contains [c] [58,32]||decide (c=58))
  rw[o7];have h1:List.isPrefixOf [58,32] [c]=false:=by simp[List.isPrefixOf]
  rw[h1,show Lib.contains [] [58,32]=false from rfl,Bool.false_or,Bool.false_or];exact decide_eq_decide.2 ⟨fun h=>by apply UInt8.toNat_inj.1;rw[h];rfl,fun h=>by rw[h];rfl⟩
 |c::d::r=>by
  have ih:=DH (d::r)
  show (decide (c.toNat=58/\d.toNat=32)||mm (d::r))=_
  rw[ih,o7 c (d::r),pk,pk,show (c::d::r).getLast? =(d::r).getLast? from rfl,Bool.or_assoc];congr 1
  show _=(List.isPrefixOf [58,32] (c::d::r))
  simp only[List.isPrefixOf,Bool.and_true];rw[Bool.eq_iff_iff,Bool.and_eq_true,beq_iff_eq,beq_iff_eq,decide_eq_true_eq];exact ⟨fun ⟨a,b⟩=>⟨by apply UInt8.toNat_inj.1;rw[a];rfl,by apply UInt8.toNat_inj.1;rw[b];rfl⟩,fun ⟨a,b⟩=>⟨by rw[<-a];rfl,by rw[<-b];rfl⟩⟩
def kN (w:World) (l:List UInt8) (i:Nat) (r:Ending) (w':World):Prop:=
 w'=w/\r=match fJ (l.drop i) with
  |none=> .returned (.tuple #[.int .i64 0,.bool false])
  |some x=> .returned (.tuple #[.int .i64 ((i+x.length:Nat):Int),.bool true])
theorem EY {t:List UInt8} (h:Lm t=true\/eB t=true):fJ t=none:=by
 unfold fJ;rw[if_pos h]
theorem Ah {t:List UInt8} (h1:Lm t=false) (h2:eB t=false) (h:mm (aQ (aS t))=true\/aQ (aS t)=[45,45,45]):fJ t=none:=by
 unfold fJ;rw[if_neg (by rw[h1,h2];simp),if_pos h]
theorem JO {t:List UInt8} (h1:Lm t=false) (h2:eB t=false) (h:¬(mm (aQ (aS t))=true\/aQ (aS t)=[45,45,45])):fJ t=some (aQ (aS t)):=by
 unfold fJ;rw[if_neg (by rw[h1,h2];simp),if_neg h]
abbrev Tb:ByteArray:=⟨#[34,39,35,44,91,93,123,125,38,42,33,124,62,37,64,63,58,96]⟩
theorem DP (c:UInt8):rA c=decide (0<=Lib.indexByte Tb.data.toList c):=Lib.contains_iff_indexByte Tb.data.toList c
theorem DO (x:UInt8) (w1:World):∃z:Int,(rA x=decide (0<=z))/\Calls Tryz.prog 177 #[.string Tb,.int .u8 (x.toNat:Int)] w1 fun r w'=>r= .returned (.int .i64 z)/\w'=w1:=
 ⟨_,DP x,(Tryz.strings_IndexByte Tb (x.toNat:Int) w1).mono fun r w' ⟨hr,hw⟩=>⟨by
  rw[hr];have e:((x.toNat:Int)).toNat.toUInt8=x:=by
   show (x.toNat).toUInt8=x
   simp
  rw[e],hw⟩⟩
theorem jW {s:ByteArray} {i j:Nat} {zi zj:Int} (hi:zi=(i:Int)) (hj:zj=(j:Int)) (h:i<=j) (h2:j<=s.size):∀w,(Instr.slice 9 (.string s) (some (.int .i64 zi)) (some (.int .i64 zj)) none).run Tryz.prog w= .ok (.string (s.extract i j)) w:=by
 subst hi;subst hj;intro w;exact run_slice_string (P:= Tryz.prog) w 9 s .i64 .i64 (i:Int) (j:Int) Tryz.underlying9 (by omega) (by omega) (by omega)
theorem Rg {s:ByteArray} {i:Nat} {zi:Int} (hi:zi=(i:Int)) (h:i<=s.size):∀w,(Instr.slice 9 (.string s) (some (.int .i64 zi)) none none).run Tryz.prog w= .ok (.string (s.extract i s.size)) w:=by
 subst hi;intro w;rw[run_slice_string_from_if (P:= Tryz.prog) w 9 s .i64 (i:Int) Tryz.underlying9,if_pos ⟨by omega,by omega⟩];rfl
theorem A5 (s:ByteArray) (i j:Nat):(s.extract i j).data.toList=(s.data.toList.drop i).take (j-i):=by
 rw[ByteArray.data_extract,Array.toList_extract,List.extract_eq_take_drop]
theorem yS (w:World) (s:ByteArray) (i:Nat) (c:UInt8) (hs:s.size<=1048576) (hi:s.data.toList[i]? =some c) (hb:rA c=true\/eB (s.data.toList.drop i)=true):
 Calls Tryz.prog 145 #[.string s,.int .i64 (i:Int)] w (kN w s.data.toList i):=by
 have He:=hid (show kN w s.data.toList i (.returned (.tuple #[.int .i64 0,.bool false])) w from ⟨rfl,by rw[EY (by rw[cG hi]at hb |-;exact hb)]⟩);obtain ⟨z,hz,Ir⟩:=DO c w;have Hc:=hid Ir;have ib:=aU (s:=s) (i:Int) rfl hi;have aN:i<s.size:=by rw[<-aq];exact (aBo hi).1
 have b1:(i:Int)<1048576:=by omega
 clear Ir;cases Yf:rA c with
 |true=>
  have t1:decide (0<=z)=true:=by rw[<-hz,Yf]
  clear hb Yf hz hi aN hs;go_enter Tryz.func145,Tryz.ntmps145
  go_wp2_with (go_at_call 177;refine cS Hc.o ?_)
  go_ret2
  exact He.o
 |false=>
  have t1:decide (0<=z)=false:=by rw[<-hz,Yf]
  have hd:eB (s.data.toList.drop i)=true:=by rcases hb with h|h;rw[Yf]at h;cases h;exact h
  rw[cG hi]at hd;by_cases hl:i+1=s.size
  ·have LL:c.toNat=45:=by
    rw[fC (by rw[aq];omega)]at hd;exact of_decide_eq_true hd
   have t2:((c.toNat:Int)==45)=true:=by rw[beq_iff_eq];omega
   have t3:((i:Int)+1==(s.size:Int))=true:=by rw[beq_iff_eq];omega
   clear hb Yf hz hi aN hs hd LL hl;go_enter Tryz.func145,Tryz.ntmps145
   go_wp2_with (go_at_call 177;refine cS Hc.o ?_)
   go_ret2
   exact He.o
  ·obtain ⟨d,mH⟩:=fi (s:=s) (k:=i+1) (by omega);have LL:c.toNat=45/\d.toNat=32:=by
    rw[cG mH]at hd;exact of_decide_eq_true hd
   have zq:=aU (s:=s) ((i:Int)+1) (by omega) mH;have t2:((c.toNat:Int)==45)=true:=by rw[beq_iff_eq];omega
   have t3:((i:Int)+1==(s.size:Int))=false:=bF (by omega);have t4:((d.toNat:Int)==32)=true:=by rw[beq_iff_eq];omega
   clear hb Yf hz hi aN hs hd LL hl mH;go_enter Tryz.func145,Tryz.ntmps145
   go_wp2_with (go_at_call 177;refine cS Hc.o ?_)
   go_ret2
   exact He.o
structure PT (w:World) (l:List UInt8) (i:Nat) (x:ByteArray) (cb sb tb:Bool):Prop where
 yes:(cb||sb||tb)=true->kN w l i (.returned (.tuple #[.int .i64 0,.bool false])) w
 no:(cb||sb||tb)=false->kN w l i (.returned (.tuple #[.int .i64 ((i+x.size:Nat):Int),.bool true])) w
 c:Calls Tryz.prog 179 #[.string x,.string ⟨#[58,32]⟩] w fun r w'=>r= .returned (.bool cb)/\w'=w
 s:Calls Tryz.prog 180 #[.string x,.string ⟨#[58]⟩] w fun r w'=>r= .returned (.bool sb)/\w'=w
 t:(x.toList==[45,45,45])=tb
theorem Y6 {w:World} {l:List UInt8} {i:Nat} {x:ByteArray} (hg:Glob w) (h1:Lm (l.drop i)=false) (h2:eB (l.drop i)=false) (hx:x.data.toList=aQ (aS (l.drop i))) (ve:x.size<=1048576):
 ∃cb sb tb,PT w l i x cb sb tb:=by
 obtain ⟨m,hm⟩:=hg.max;have hcol:mm (aQ (aS (l.drop i)))=(Lib.contains x.data.toList [58,32]||Lib.hasSuffix x.data.toList [58]):=by rw[<-hx,DH]
 have C4:(x.toList==[45,45,45])=decide (aQ (aS (l.drop i))=[45,45,45]):=by
  rw[Lib.toList_data,hx,Bool.eq_iff_iff,beq_iff_eq,decide_eq_true_eq]
 refine ⟨_,_,_,⟨fun h=>⟨rfl,?_⟩,fun h=>⟨rfl,?_⟩,Tryz.strings_Contains x ⟨#[58,32]⟩ m w (by omega) hm,Tryz.strings_HasSuffix x ⟨#[58]⟩ w (by omega),rfl⟩⟩
 ·rw[Ah h1 h2];rw[Bool.or_eq_true,C4,decide_eq_true_eq]at h;rcases h with h|h
  ·left;rw[hcol];exact h
  ·exact .inr h
 ·rw[JO h1 h2]
  ·simp only;rw[<-hx,aq]
  ·rintro (q|q)
   ·rw[hcol]at q;have:(Lib.contains x.data.toList [58,32]||Lib.hasSuffix x.data.toList [58])=false:=(Bool.or_eq_false_iff.1 h).1;rw[this]at q;cases q
   ·have:=(Bool.or_eq_false_iff.1 h).2;rw[C4,dT q]at this;cases this
theorem EX (w:World) (s:ByteArray) (i:Nat) (c:UInt8) (hs:s.size<=1048576) (hi:s.data.toList[i]? =some c) (hb:rA c=false) (hd:eB (s.data.toList.drop i)=false) (hg:Glob w):
 Calls Tryz.prog 145 #[.string s,.int .i64 (i:Int)] w (kN w s.data.toList i):=by
 obtain ⟨z,hz,Ir⟩:=DO c w;have Hc:=hid Ir;have ib:=aU (s:=s) (i:Int) rfl hi;have aN:i<s.size:=by rw[<-aq];exact (aBo hi).1
 have b1:(i:Int)<1048576:=by omega
 have t1:decide (0<=z)=false:=by rw[<-hz,hb]
 obtain ⟨n,hn⟩:=ex (s.size);have Hn:=hid hn;obtain ⟨l,hl⟩:=ex (s.data.toList);have Hl:=hid hl;obtain ⟨x0,X4⟩:∃x,x=s.extract i s.size:=⟨_,rfl⟩;have Kz:x0.data.toList=l.drop i:=by rw[X4,A5,<-hl,List.take_of_length_le (by rw[List.length_drop,hl,aq];exact aBh _)]
 obtain ⟨m,hm⟩:=hg.max;have IW:=hid (Tryz.strings_Index x0 ⟨#[32,35]⟩ m w (by rw[<-aq,Kz,List.length_drop,hl,aq];omega) hm);rw[Kz]at IW;have Un:=hid (show ∀e,e<=(l.drop i).length->(l.drop i).take e=aQ (aS (l.drop i))->∃cb sb tb,PT w l i (s.extract i (i+e)) cb sb tb from fun e he hx=>by
  refine Y6 hg ?_ (by rw[hl];exact hd) ?_ ?_
  ·rw[hl,cG hi];exact hb
  ·rw[A5,<-hl,show i+e-i=e by omega];exact hx
  ·rw[ByteArray.size_extract];omega)
 have Hs:=hid hs;have kO:=hid aN;have jg:=Rg (s:=s) (i:=i) (zi:=(i:Int)) rfl (by omega);rw[<-X4]at jg;rw[<-hl];rw[<-hl]at hd hi;have Hi:=hid hi;have Gn:=hid hs;clear X4 hg hm;by_cases LL:c.toNat=45
 ·have hne:¬i+1=s.size:=by
   intro hh;rw[cG hi,fC (by rw[hl,aq];omega)]at hd;exact absurd LL (of_decide_eq_false hd)
  obtain ⟨d,mH⟩:=fi (s:=s) (k:=i+1) (by omega);have mV:¬d.toNat=32:=by
   rw[cG hi,cG (show l[i+1]? =some d by rw[hl];exact mH)]at hd;exact fun q=>of_decide_eq_false hd ⟨LL,q⟩
  have zq:=aU (s:=s) ((i:Int)+1) (by omega) mH;have t2:((c.toNat:Int)==45)=true:=by rw[beq_iff_eq];omega
  have t3:((i:Int)+1==(s.size:Int))=false:=bF (by omega);have t4:((d.toNat:Int)==32)=false:=bF (by omega);clear hne mV mH LL;rcases iJ (l.drop i) with ⟨e1,e2⟩|⟨k,e1,e2,e3⟩
  ·rw[e1]at IW;have kr:(l.drop i).length=s.size-i:=by rw[List.length_drop,hl,aq]
   have oQ:=hid (show i<=s.size/\s.size<=n/\aQ (aS (l.drop i))=aQ ((l.drop i).take (s.size-i)) from ⟨by omega,by omega,by rw[e2,List.take_of_length_le (by omega)]⟩);clear kr e1 e2 hn hl hs aN hz hi hb hd Kz;go_enter Tryz.func145,Tryz.ntmps145
   go_wp2_with (go_at_call 177;refine cS Hc.o ?_)
   go_wp2_with (go_at_call 178;refine cS IW.o ?_)
   clear jg ib
   go_loop [6] (fun v=>∃j:Nat,v= .int .i64 (j:Int)/\Hid (i<=j/\j<=n/\aQ (aS (l.drop i))=aQ ((l.drop i).take (j-i)))) (fun v=>(intOf v).toNat)
   case atStart=>exact ⟨s.size,rfl,oQ⟩
   case round=>
    obtain ⟨j,rfl,H⟩:=hrel;have hn:n=s.size:=Hn.o;have hl:l=s.data.toList:=Hl.o;have hs:=Gn.o;have hlen:l.length=s.size:=by rw[hl,aq]
    have h1:=H.o.1;have h2:=H.o.2.1;have bj:(j:Int)<1048577:=by omega
    by_cases xj:i<j
    ·obtain ⟨d,hd⟩:∃d,l[j-1]? =some d:=aF (by omega);have mH:(l.drop i)[j-1-i]? =some d:=by rw[List.getElem?_drop,show i+(j-1-i)=j-1 by omega];exact hd
     have tZ:=og mH;rw[show j-1-i+1=j-i by omega]at tZ;have uf:=aU (s:=s) (k:=j-1) ((j:Int)-1) (by omega) (by rw[<-hl];exact hd);have b3:decide (i<j)=true:=dT xj;have b4:(1:Int)<=(j:Int):=by omega
     by_cases mV:d.toNat=32
     ·have t5:((d.toNat:Int)==32)=true:=by rw[beq_iff_eq];omega
      have He:=hid (show i<=j-1/\j-1<=n/\aQ (aS (l.drop i))=aQ ((l.drop i).take (j-1-i)) from ⟨by omega,by omega,by rw[H.o.2.2,tZ,eU,if_pos mV]⟩);have df:=hid (show Value.int .i64 ((j:Int)-1)= .int .i64 ((j-1:Nat):Int) by rw[show ((j-1:Nat):Int)=(j:Int)-1 by omega]);have cY:=hid (show (intOf (.int .i64 ((j:Int)-1))).toNat<(intOf (.int .i64 (j:Int))).toNat by show ((j:Int)-1).toNat<((j:Nat):Int).toNat;omega)
      clear hn hl hs hlen h1 h2 xj hd mH tZ mV H;go_wp2;go_round
      case rel=>exact ⟨j-1,df.o,He⟩
      case measure=>exact cY.o
     ·have t5:((d.toNat:Int)==32)=false:=bF (by omega);have cw:aQ (aS (l.drop i))=(l.drop i).take (j-i):=by rw[H.o.2.2,tZ,eU,if_neg mV]
      clear mH tZ mV xj;have hx:l.drop i=l.drop i:=rfl;obtain ⟨e,he⟩:∃e,j=i+e:=⟨j-i,by omega⟩;obtain ⟨cb,sb,tb,gp⟩:=Un.o e (by rw[List.length_drop,hlen];omega) (by rw[cw,show j-i=e by omega]);rw[<-he]at gp;have FD:=jW (s:=s) (i:=i) (j:=j) (zi:=(i:Int)) (zj:=(j:Int)) rfl rfl (by omega) (by omega);have ve:(s.extract i j).size=e:=by rw[ByteArray.size_extract];omega
      have Hj:=hid (show (j:Int)=((i+(s.extract i j).size:Nat):Int) by rw[ve,he]);generalize s.extract i j=x at*;have mv:=hid gp.c;have mu:=hid gp.s;have qM:=gp.t;have Hy:=hid gp.yes;have Gm:=hid gp.no;clear hd h1 h2 hs cw gp hx ve he hlen hn hl H;cases cb with
      |true=>
       clear mu qM
       go_wp2_with (go_at_call 179;refine cS mv.o ?_)
       go_ret2
       exact Hy.o rfl
      |false=>
       cases sb with
       |true=>
        clear qM
        go_wp2_with (first|(go_at_call 179;refine cS mv.o ?_)|(go_at_call 180;refine cS mu.o ?_))
        go_ret2
        exact Hy.o rfl
       |false=>
        cases tb with
        |true=>
         go_wp2_with (first|(go_at_call 179;refine cS mv.o ?_)|(go_at_call 180;refine cS mu.o ?_))
         go_ret2
         exact Hy.o rfl
        |false=>
         go_wp2_with (first|(go_at_call 179;refine cS mv.o ?_)|(go_at_call 180;refine cS mu.o ?_))
         go_ret2
         have:=Gm.o rfl;rw[<-Hj.o]at this;exact this
    ·have b3:decide (i<j)=false:=dF xj;have pH:j-i=0:=by omega
     have cw:aQ (aS (l.drop i))=(l.drop i).take (j-i):=by rw[H.o.2.2,pH];rfl
     clear xj;have hx:l.drop i=l.drop i:=rfl;obtain ⟨e,he⟩:∃e,j=i+e:=⟨j-i,by omega⟩;obtain ⟨cb,sb,tb,gp⟩:=Un.o e (by rw[List.length_drop,hlen];omega) (by rw[cw,show j-i=e by omega]);rw[<-he]at gp;have FD:=jW (s:=s) (i:=i) (j:=j) (zi:=(i:Int)) (zj:=(j:Int)) rfl rfl (by omega) (by omega);have ve:(s.extract i j).size=e:=by rw[ByteArray.size_extract];omega
     have Hj:=hid (show (j:Int)=((i+(s.extract i j).size:Nat):Int) by rw[ve,he]);generalize s.extract i j=x at*;have mv:=hid gp.c;have mu:=hid gp.s;have qM:=gp.t;have Hy:=hid gp.yes;have Gm:=hid gp.no;clear pH h1 h2 hs cw gp hx ve he hlen hn hl H;cases cb with
     |true=>
      clear mu qM
      go_wp2_with (go_at_call 179;refine cS mv.o ?_)
      go_ret2
      exact Hy.o rfl
     |false=>
      cases sb with
      |true=>
       clear qM
       go_wp2_with (first|(go_at_call 179;refine cS mv.o ?_)|(go_at_call 180;refine cS mu.o ?_))
       go_ret2
       exact Hy.o rfl
      |false=>
       cases tb with
       |true=>
        go_wp2_with (first|(go_at_call 179;refine cS mv.o ?_)|(go_at_call 180;refine cS mu.o ?_))
        go_ret2
        exact Hy.o rfl
       |false=>
        go_wp2_with (first|(go_at_call 179;refine cS mv.o ?_)|(go_at_call 180;refine cS mu.o ?_))
        go_ret2
        have:=Gm.o rfl;rw[<-Hj.o]at this;exact this
  ·rw[e1]at IW;have kr:(l.drop i).length=s.size-i:=by rw[List.length_drop,hl,aq]
   have bk:(k:Int)<1048577:=by omega
   have oQ:=hid (show i<=i+k/\i+k<=n/\aQ (aS (l.drop i))=aQ ((l.drop i).take (i+k-i)) from ⟨by omega,by omega,by rw[e3,show i+k-i=k by omega]⟩);have Hik:=hid (show Value.int .i64 ((i:Int)+(k:Int))= .int .i64 ((i+k:Nat):Int) from rfl);clear kr e1 e2 e3 hn hl hs aN hz hi hb hd Kz;go_enter Tryz.func145,Tryz.ntmps145
   go_wp2_with (go_at_call 177;refine cS Hc.o ?_)
   go_wp2_with (go_at_call 178;refine cS IW.o ?_)
   clear jg ib
   go_loop [6] (fun v=>∃j:Nat,v= .int .i64 (j:Int)/\Hid (i<=j/\j<=n/\aQ (aS (l.drop i))=aQ ((l.drop i).take (j-i)))) (fun v=>(intOf v).toNat)
   case atStart=>exact ⟨i+k,Hik.o,oQ⟩
   case round=>
    obtain ⟨j,rfl,H⟩:=hrel;have hn:n=s.size:=Hn.o;have hl:l=s.data.toList:=Hl.o;have hs:=Gn.o;have hlen:l.length=s.size:=by rw[hl,aq]
    have h1:=H.o.1;have h2:=H.o.2.1;have bj:(j:Int)<1048577:=by omega
    by_cases xj:i<j
    ·obtain ⟨d,hd⟩:∃d,l[j-1]? =some d:=aF (by omega);have mH:(l.drop i)[j-1-i]? =some d:=by rw[List.getElem?_drop,show i+(j-1-i)=j-1 by omega];exact hd
     have tZ:=og mH;rw[show j-1-i+1=j-i by omega]at tZ;have uf:=aU (s:=s) (k:=j-1) ((j:Int)-1) (by omega) (by rw[<-hl];exact hd);have b3:decide (i<j)=true:=dT xj;have b4:(1:Int)<=(j:Int):=by omega
     by_cases mV:d.toNat=32
     ·have t5:((d.toNat:Int)==32)=true:=by rw[beq_iff_eq];omega
      have He:=hid (show i<=j-1/\j-1<=n/\aQ (aS (l.drop i))=aQ ((l.drop i).take (j-1-i)) from ⟨by omega,by omega,by rw[H.o.2.2,tZ,eU,if_pos mV]⟩);have df:=hid (show Value.int .i64 ((j:Int)-1)= .int .i64 ((j-1:Nat):Int) by rw[show ((j-1:Nat):Int)=(j:Int)-1 by omega]);have cY:=hid (show (intOf (.int .i64 ((j:Int)-1))).toNat<(intOf (.int .i64 (j:Int))).toNat by show ((j:Int)-1).toNat<((j:Nat):Int).toNat;omega)
      clear hn hl hs hlen h1 h2 xj hd mH tZ mV H;go_wp2;go_round
      case rel=>exact ⟨j-1,df.o,He⟩
      case measure=>exact cY.o
     ·have t5:((d.toNat:Int)==32)=false:=bF (by omega);have cw:aQ (aS (l.drop i))=(l.drop i).take (j-i):=by rw[H.o.2.2,tZ,eU,if_neg mV]
      clear mH tZ mV xj;have hx:l.drop i=l.drop i:=rfl;obtain ⟨e,he⟩:∃e,j=i+e:=⟨j-i,by omega⟩;obtain ⟨cb,sb,tb,gp⟩:=Un.o e (by rw[List.length_drop,hlen];omega) (by rw[cw,show j-i=e by omega]);rw[<-he]at gp;have FD:=jW (s:=s) (i:=i) (j:=j) (zi:=(i:Int)) (zj:=(j:Int)) rfl rfl (by omega) (by omega);have ve:(s.extract i j).size=e:=by rw[ByteArray.size_extract];omega
      have Hj:=hid (show (j:Int)=((i+(s.extract i j).size:Nat):Int) by rw[ve,he]);generalize s.extract i j=x at*;have mv:=hid gp.c;have mu:=hid gp.s;have qM:=gp.t;have Hy:=hid gp.yes;have Gm:=hid gp.no;clear hd h1 h2 hs cw gp hx ve he hlen hn hl H;cases cb with
      |true=>
       clear mu qM
       go_wp2_with (go_at_call 179;refine cS mv.o ?_)
       go_ret2
       exact Hy.o rfl
      |false=>
       cases sb with
       |true=>
        clear qM
        go_wp2_with (first|(go_at_call 179;refine cS mv.o ?_)|(go_at_call 180;refine cS mu.o ?_))
        go_ret2
        exact Hy.o rfl
       |false=>
        cases tb with
        |true=>
         go_wp2_with (first|(go_at_call 179;refine cS mv.o ?_)|(go_at_call 180;refine cS mu.o ?_))
         go_ret2
         exact Hy.o rfl
        |false=>
         go_wp2_with (first|(go_at_call 179;refine cS mv.o ?_)|(go_at_call 180;refine cS mu.o ?_))
         go_ret2
         have:=Gm.o rfl;rw[<-Hj.o]at this;exact this
    ·have b3:decide (i<j)=false:=dF xj;have pH:j-i=0:=by omega
     have cw:aQ (aS (l.drop i))=(l.drop i).take (j-i):=by rw[H.o.2.2,pH];rfl
     clear xj;have hx:l.drop i=l.drop i:=rfl;obtain ⟨e,he⟩:∃e,j=i+e:=⟨j-i,by omega⟩;obtain ⟨cb,sb,tb,gp⟩:=Un.o e (by rw[List.length_drop,hlen];omega) (by rw[cw,show j-i=e by omega]);rw[<-he]at gp;have FD:=jW (s:=s) (i:=i) (j:=j) (zi:=(i:Int)) (zj:=(j:Int)) rfl rfl (by omega) (by omega);have ve:(s.extract i j).size=e:=by rw[ByteArray.size_extract];omega
     have Hj:=hid (show (j:Int)=((i+(s.extract i j).size:Nat):Int) by rw[ve,he]);generalize s.extract i j=x at*;have mv:=hid gp.c;have mu:=hid gp.s;have qM:=gp.t;have Hy:=hid gp.yes;have Gm:=hid gp.no;clear pH h1 h2 hs cw gp hx ve he hlen hn hl H;cases cb with
     |true=>
      clear mu qM
      go_wp2_with (go_at_call 179;refine cS mv.o ?_)
      go_ret2
      exact Hy.o rfl
     |false=>
      cases sb with
      |true=>
       clear qM
       go_wp2_with (first|(go_at_call 179;refine cS mv.o ?_)|(go_at_call 180;refine cS mu.o ?_))
       go_ret2
       exact Hy.o rfl
      |false=>
       cases tb with
       |true=>
        go_wp2_with (first|(go_at_call 179;refine cS mv.o ?_)|(go_at_call 180;refine cS mu.o ?_))
        go_ret2
        exact Hy.o rfl
       |false=>
        go_wp2_with (first|(go_at_call 179;refine cS mv.o ?_)|(go_at_call 180;refine cS mu.o ?_))
        go_ret2
        have:=Gm.o rfl;rw[<-Hj.o]at this;exact this
 ·have t2:((c.toNat:Int)==45)=false:=bF (by omega);clear LL;rcases iJ (l.drop i) with ⟨e1,e2⟩|⟨k,e1,e2,e3⟩
  ·rw[e1]at IW;have kr:(l.drop i).length=s.size-i:=by rw[List.length_drop,hl,aq]
   have oQ:=hid (show i<=s.size/\s.size<=n/\aQ (aS (l.drop i))=aQ ((l.drop i).take (s.size-i)) from ⟨by omega,by omega,by rw[e2,List.take_of_length_le (by omega)]⟩);clear kr e1 e2 hn hl hs aN hz hi hb hd Kz;go_enter Tryz.func145,Tryz.ntmps145
   go_wp2_with (go_at_call 177;refine cS Hc.o ?_)
   go_wp2_with (go_at_call 178;refine cS IW.o ?_)
   clear jg ib
   go_loop [6] (fun v=>∃j:Nat,v= .int .i64 (j:Int)/\Hid (i<=j/\j<=n/\aQ (aS (l.drop i))=aQ ((l.drop i).take (j-i)))) (fun v=>(intOf v).toNat)
   case atStart=>exact ⟨s.size,rfl,oQ⟩
   case round=>
    obtain ⟨j,rfl,H⟩:=hrel;have hn:n=s.size:=Hn.o;have hl:l=s.data.toList:=Hl.o;have hs:=Gn.o;have hlen:l.length=s.size:=by rw[hl,aq]
    have h1:=H.o.1;have h2:=H.o.2.1;have bj:(j:Int)<1048577:=by omega
    by_cases xj:i<j
    ·obtain ⟨d,hd⟩:∃d,l[j-1]? =some d:=aF (by omega);have mH:(l.drop i)[j-1-i]? =some d:=by rw[List.getElem?_drop,show i+(j-1-i)=j-1 by omega];exact hd
     have tZ:=og mH;rw[show j-1-i+1=j-i by omega]at tZ;have uf:=aU (s:=s) (k:=j-1) ((j:Int)-1) (by omega) (by rw[<-hl];exact hd);have b3:decide (i<j)=true:=dT xj;have b4:(1:Int)<=(j:Int):=by omega
     by_cases mV:d.toNat=32
     ·have t5:((d.toNat:Int)==32)=true:=by rw[beq_iff_eq];omega
      have He:=hid (show i<=j-1/\j-1<=n/\aQ (aS (l.drop i))=aQ ((l.drop i).take (j-1-i)) from ⟨by omega,by omega,by rw[H.o.2.2,tZ,eU,if_pos mV]⟩);have df:=hid (show Value.int .i64 ((j:Int)-1)= .int .i64 ((j-1:Nat):Int) by rw[show ((j-1:Nat):Int)=(j:Int)-1 by omega]);have cY:=hid (show (intOf (.int .i64 ((j:Int)-1))).toNat<(intOf (.int .i64 (j:Int))).toNat by show ((j:Int)-1).toNat<((j:Nat):Int).toNat;omega)
      clear hn hl hs hlen h1 h2 xj hd mH tZ mV H;go_wp2;go_round
      case rel=>exact ⟨j-1,df.o,He⟩
      case measure=>exact cY.o
     ·have t5:((d.toNat:Int)==32)=false:=bF (by omega);have cw:aQ (aS (l.drop i))=(l.drop i).take (j-i):=by rw[H.o.2.2,tZ,eU,if_neg mV]
      clear mH tZ mV xj;have hx:l.drop i=l.drop i:=rfl;obtain ⟨e,he⟩:∃e,j=i+e:=⟨j-i,by omega⟩;obtain ⟨cb,sb,tb,gp⟩:=Un.o e (by rw[List.length_drop,hlen];omega) (by rw[cw,show j-i=e by omega]);rw[<-he]at gp;have FD:=jW (s:=s) (i:=i) (j:=j) (zi:=(i:Int)) (zj:=(j:Int)) rfl rfl (by omega) (by omega);have ve:(s.extract i j).size=e:=by rw[ByteArray.size_extract];omega
      have Hj:=hid (show (j:Int)=((i+(s.extract i j).size:Nat):Int) by rw[ve,he]);generalize s.extract i j=x at*;have mv:=hid gp.c;have mu:=hid gp.s;have qM:=gp.t;have Hy:=hid gp.yes;have Gm:=hid gp.no;clear hd h1 h2 hs cw gp hx ve he hlen hn hl H;cases cb with
      |true=>
       clear mu qM
       go_wp2_with (go_at_call 179;refine cS mv.o ?_)
       go_ret2
       exact Hy.o rfl
      |false=>
       cases sb with
       |true=>
        clear qM
        go_wp2_with (first|(go_at_call 179;refine cS mv.o ?_)|(go_at_call 180;refine cS mu.o ?_))
        go_ret2
        exact Hy.o rfl
       |false=>
        cases tb with
        |true=>
         go_wp2_with (first|(go_at_call 179;refine cS mv.o ?_)|(go_at_call 180;refine cS mu.o ?_))
         go_ret2
         exact Hy.o rfl
        |false=>
         go_wp2_with (first|(go_at_call 179;refine cS mv.o ?_)|(go_at_call 180;refine cS mu.o ?_))
         go_ret2
         have:=Gm.o rfl;rw[<-Hj.o]at this;exact this
    ·have b3:decide (i<j)=false:=dF xj;have pH:j-i=0:=by omega
     have cw:aQ (aS (l.drop i))=(l.drop i).take (j-i):=by rw[H.o.2.2,pH];rfl
     clear xj;have hx:l.drop i=l.drop i:=rfl;obtain ⟨e,he⟩:∃e,j=i+e:=⟨j-i,by omega⟩;obtain ⟨cb,sb,tb,gp⟩:=Un.o e (by rw[List.length_drop,hlen];omega) (by rw[cw,show j-i=e by omega]);rw[<-he]at gp;have FD:=jW (s:=s) (i:=i) (j:=j) (zi:=(i:Int)) (zj:=(j:Int)) rfl rfl (by omega) (by omega);have ve:(s.extract i j).size=e:=by rw[ByteArray.size_extract];omega
     have Hj:=hid (show (j:Int)=((i+(s.extract i j).size:Nat):Int) by rw[ve,he]);generalize s.extract i j=x at*;have mv:=hid gp.c;have mu:=hid gp.s;have qM:=gp.t;have Hy:=hid gp.yes;have Gm:=hid gp.no;clear pH h1 h2 hs cw gp hx ve he hlen hn hl H;cases cb with
     |true=>
      clear mu qM
      go_wp2_with (go_at_call 179;refine cS mv.o ?_)
      go_ret2
      exact Hy.o rfl
     |false=>
      cases sb with
      |true=>
       clear qM
       go_wp2_with (first|(go_at_call 179;refine cS mv.o ?_)|(go_at_call 180;refine cS mu.o ?_))
       go_ret2
       exact Hy.o rfl
      |false=>
       cases tb with
       |true=>
        go_wp2_with (first|(go_at_call 179;refine cS mv.o ?_)|(go_at_call 180;refine cS mu.o ?_))
        go_ret2
        exact Hy.o rfl
       |false=>
        go_wp2_with (first|(go_at_call 179;refine cS mv.o ?_)|(go_at_call 180;refine cS mu.o ?_))
        go_ret2
        have:=Gm.o rfl;rw[<-Hj.o]at this;exact this
  ·rw[e1]at IW;have kr:(l.drop i).length=s.size-i:=by rw[List.length_drop,hl,aq]
   have bk:(k:Int)<1048577:=by omega
   have oQ:=hid (show i<=i+k/\i+k<=n/\aQ (aS (l.drop i))=aQ ((l.drop i).take (i+k-i)) from ⟨by omega,by omega,by rw[e3,show i+k-i=k by omega]⟩);have Hik:=hid (show Value.int .i64 ((i:Int)+(k:Int))= .int .i64 ((i+k:Nat):Int) from rfl);clear kr e1 e2 e3 hn hl hs aN hz hi hb hd Kz;go_enter Tryz.func145,Tryz.ntmps145
   go_wp2_with (go_at_call 177;refine cS Hc.o ?_)
   go_wp2_with (go_at_call 178;refine cS IW.o ?_)
   clear jg ib
   go_loop [6] (fun v=>∃j:Nat,v= .int .i64 (j:Int)/\Hid (i<=j/\j<=n/\aQ (aS (l.drop i))=aQ ((l.drop i).take (j-i)))) (fun v=>(intOf v).toNat)
   case atStart=>exact ⟨i+k,Hik.o,oQ⟩
   case round=>
    obtain ⟨j,rfl,H⟩:=hrel;have hn:n=s.size:=Hn.o;have hl:l=s.data.toList:=Hl.o;have hs:=Gn.o;have hlen:l.length=s.size:=by rw[hl,aq]
    have h1:=H.o.1;have h2:=H.o.2.1;have bj:(j:Int)<1048577:=by omega
    by_cases xj:i<j
    ·obtain ⟨d,hd⟩:∃d,l[j-1]? =some d:=aF (by omega);have mH:(l.drop i)[j-1-i]? =some d:=by rw[List.getElem?_drop,show i+(j-1-i)=j-1 by omega];exact hd
     have tZ:=og mH;rw[show j-1-i+1=j-i by omega]at tZ;have uf:=aU (s:=s) (k:=j-1) ((j:Int)-1) (by omega) (by rw[<-hl];exact hd);have b3:decide (i<j)=true:=dT xj;have b4:(1:Int)<=(j:Int):=by omega
     by_cases mV:d.toNat=32
     ·have t5:((d.toNat:Int)==32)=true:=by rw[beq_iff_eq];omega
      have He:=hid (show i<=j-1/\j-1<=n/\aQ (aS (l.drop i))=aQ ((l.drop i).take (j-1-i)) from ⟨by omega,by omega,by rw[H.o.2.2,tZ,eU,if_pos mV]⟩);have df:=hid (show Value.int .i64 ((j:Int)-1)= .int .i64 ((j-1:Nat):Int) by rw[show ((j-1:Nat):Int)=(j:Int)-1 by omega]);have cY:=hid (show (intOf (.int .i64 ((j:Int)-1))).toNat<(intOf (.int .i64 (j:Int))).toNat by show ((j:Int)-1).toNat<((j:Nat):Int).toNat;omega)
      clear hn hl hs hlen h1 h2 xj hd mH tZ mV H;go_wp2;go_round
      case rel=>exact ⟨j-1,df.o,He⟩
      case measure=>exact cY.o
     ·have t5:((d.toNat:Int)==32)=false:=bF (by omega);have cw:aQ (aS (l.drop i))=(l.drop i).take (j-i):=by rw[H.o.2.2,tZ,eU,if_neg mV]
      clear mH tZ mV xj;have hx:l.drop i=l.drop i:=rfl;obtain ⟨e,he⟩:∃e,j=i+e:=⟨j-i,by omega⟩;obtain ⟨cb,sb,tb,gp⟩:=Un.o e (by rw[List.length_drop,hlen];omega) (by rw[cw,show j-i=e by omega]);rw[<-he]at gp;have FD:=jW (s:=s) (i:=i) (j:=j) (zi:=(i:Int)) (zj:=(j:Int)) rfl rfl (by omega) (by omega);have ve:(s.extract i j).size=e:=by rw[ByteArray.size_extract];omega
      have Hj:=hid (show (j:Int)=((i+(s.extract i j).size:Nat):Int) by rw[ve,he]);generalize s.extract i j=x at*;have mv:=hid gp.c;have mu:=hid gp.s;have qM:=gp.t;have Hy:=hid gp.yes;have Gm:=hid gp.no;clear hd h1 h2 hs cw gp hx ve he hlen hn hl H;cases cb with
      |true=>
       clear mu qM
       go_wp2_with (go_at_call 179;refine cS mv.o ?_)
       go_ret2
       exact Hy.o rfl
      |false=>
       cases sb with
       |true=>
        clear qM
        go_wp2_with (first|(go_at_call 179;refine cS mv.o ?_)|(go_at_call 180;refine cS mu.o ?_))
        go_ret2
        exact Hy.o rfl
       |false=>
        cases tb with
        |true=>
         go_wp2_with (first|(go_at_call 179;refine cS mv.o ?_)|(go_at_call 180;refine cS mu.o ?_))
         go_ret2
         exact Hy.o rfl
        |false=>
         go_wp2_with (first|(go_at_call 179;refine cS mv.o ?_)|(go_at_call 180;refine cS mu.o ?_))
         go_ret2
         have:=Gm.o rfl;rw[<-Hj.o]at this;exact this
    ·have b3:decide (i<j)=false:=dF xj;have pH:j-i=0:=by omega
     have cw:aQ (aS (l.drop i))=(l.drop i).take (j-i):=by rw[H.o.2.2,pH];rfl
     clear xj;have hx:l.drop i=l.drop i:=rfl;obtain ⟨e,he⟩:∃e,j=i+e:=⟨j-i,by omega⟩;obtain ⟨cb,sb,tb,gp⟩:=Un.o e (by rw[List.length_drop,hlen];omega) (by rw[cw,show j-i=e by omega]);rw[<-he]at gp;have FD:=jW (s:=s) (i:=i) (j:=j) (zi:=(i:Int)) (zj:=(j:Int)) rfl rfl (by omega) (by omega);have ve:(s.extract i j).size=e:=by rw[ByteArray.size_extract];omega
     have Hj:=hid (show (j:Int)=((i+(s.extract i j).size:Nat):Int) by rw[ve,he]);generalize s.extract i j=x at*;have mv:=hid gp.c;have mu:=hid gp.s;have qM:=gp.t;have Hy:=hid gp.yes;have Gm:=hid gp.no;clear pH h1 h2 hs cw gp hx ve he hlen hn hl H;cases cb with
     |true=>
      clear mu qM
      go_wp2_with (go_at_call 179;refine cS mv.o ?_)
      go_ret2
      exact Hy.o rfl
     |false=>
      cases sb with
      |true=>
       clear qM
       go_wp2_with (first|(go_at_call 179;refine cS mv.o ?_)|(go_at_call 180;refine cS mu.o ?_))
       go_ret2
       exact Hy.o rfl
      |false=>
       cases tb with
       |true=>
        go_wp2_with (first|(go_at_call 179;refine cS mv.o ?_)|(go_at_call 180;refine cS mu.o ?_))
        go_ret2
        exact Hy.o rfl
       |false=>
        go_wp2_with (first|(go_at_call 179;refine cS mv.o ?_)|(go_at_call 180;refine cS mu.o ?_))
        go_ret2
        have:=Gm.o rfl;rw[<-Hj.o]at this;exact this
theorem RD (w:World) (s:ByteArray) (i:Nat) (c:UInt8) (hs:s.size<=1048576) (hi:s.data.toList[i]? =some c) (hg:Glob w):
 Calls Tryz.prog 145 #[.string s,.int .i64 (i:Int)] w (kN w s.data.toList i):=by
 cases hb:rA c with
 |true=>exact yS w s i c hs hi (.inl hb)
 |false=>
  cases hd:eB (s.data.toList.drop i) with
  |true=>exact yS w s i c hs hi (.inr hd)
  |false=>exact EX w s i c hs hi hb hd hg
def ncl:Code->Code
 | .seq a _=>a
 |c=>c
def ncr:Code->Code
 | .seq _ b=>b
 |c=>c
def ncb:Code->Code
 | .block _ b=>b
 |c=>c
def nco:Code->Code
 | .loop b=>b
 |c=>c
def nct:Code->Code
 | .cond _ t _=>t
 |c=>c
def nce:Code->Code
 | .cond _ _ e=>e
 |c=>c
def ncs:Code->Code
 | .scope b=>b
 |c=>c
def ncx:Option Code->Code
 |some c=>c
 |none=> .skip
theorem vq {t:Array Value} {i:Nat} {v:Value} (h:t[i]? =some v):t.getD i undef=v:=by
 rw[Array.getD_eq_getD_getElem?,h];rfl
theorem JU {id:Nat} {K:Act->World->Prop} {Q:Exit->Act->World->Prop} {a:Act} {w:World} (h:K a w):Exit.inBlock id (Exit.then K Q) (.exit id) a w:=by
 show (if id=id then K a w else Exit.then K Q (.exit id) a w)
 rw[if_pos rfl];exact h
