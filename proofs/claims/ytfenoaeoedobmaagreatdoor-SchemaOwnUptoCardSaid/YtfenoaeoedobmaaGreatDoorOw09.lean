/-
Parts of a proof.
-/
import Derived.Test.YtfenoaeoedobmaaGreatDoorProg
import Derived.Lib.IndexAny
import Derived.Lib.IndexMore
import Derived.Deep.MidRow
import Derived.Deep.WholeRow
import Derived.Test.YtfenoaeoedobmaaGreatDoorOw08
set_option linter.unusedVariables false
set_option linter.unusedSimpArgs false
set_option maxHeartbeats 16000000
set_option maxRecDepth 100000
namespace Go.Proofs.YtfenoaeoedobmaaGreatDoor
open Go Go.RowKit
theorem fD:∀t:List UInt8,(Lib.index t [32,35]= -1/\aQ t=t)\/∃k:Nat,Lib.index t [32,35]=(k:Int)/\k<=t.length/\aQ t=t.take k
 |[]=> .inl ⟨rfl,rfl⟩
 |c::r=>by
  have ih:=fD r;have hp:(List.isPrefixOf [32,35] (c::r))=decide (c.toNat=32/\r.head? =some 35):=by
   cases r with
   |nil=>simp[List.isPrefixOf]
   |cons d r=>
    simp only[List.isPrefixOf,List.head?_cons,Option.some.injEq,Bool.and_true];rw[Bool.eq_iff_iff,Bool.and_eq_true,beq_iff_eq,beq_iff_eq,decide_eq_true_eq];constructor
    ·rintro ⟨a,b⟩;exact ⟨by rw[<-a];rfl,b.symm⟩
    ·rintro ⟨a,b⟩;exact ⟨by apply UInt8.toNat_inj.1;rw[a];rfl,b.symm⟩
  unfold Lib.index aQ;rw[hp];by_cases h:c.toNat=32/\r.head? =some 35
  ·rw[dT h,if_pos rfl,if_pos h];exact .inr ⟨0,rfl,Nat.zero_le _,rfl⟩
  ·rw[dF h,if_neg (by decide),if_neg h];rcases ih with ⟨e1,e2⟩|⟨k,e1,e2,e3⟩
   ·rw[e1,e2];exact .inl ⟨rfl,rfl⟩
   ·rw[e1,e3,if_neg (by simp)];exact .inr ⟨k+1,by push_cast;rfl,by simp only[aAd];omega,rfl⟩
theorem dA (c:UInt8):∀v:List UInt8,aL (v++[c])=if c.toNat=32 then aL v else v++[c]
 |[]=>by
  simp only[List.nil_append,aL,true_and]
 |b::v=>by
  have ih:=dA c v
  show (if aL (v++[c])=[]/\b.toNat=32 then [] else b::aL (v++[c]))=_
  rw[ih];by_cases h:c.toNat=32
  ·rw[if_pos h,if_pos h];rfl
  ·rw[if_neg h,if_neg h,if_neg (fun q=>by simp at q)];rfl
theorem qv:∀v:List UInt8,(aL v).length<=v.length
 |[]=>aAa _
 |c::r=>by
  have:=qv r;unfold aL
  split
  ·simp
  ·simp only[aAd];omega
theorem jQ {t:List UInt8} {e:Nat} {c:UInt8} (h:t[e]? =some c):t.take (e+1)=t.take e++[c]:=by rw[List.take_add_one,h];rfl
theorem ku:∀(u:List UInt8) (c:UInt8),Lib.hasSuffix u [c]=(match u.getLast? with|some d=>decide (d=c)|none=>false):=fun u c=>by
 unfold Lib.hasSuffix;rcases List.eq_nil_or_concat u with rfl|⟨v,d,rfl⟩
 ·rfl
 ·rw[List.concat_eq_append,List.getLast?_append];simp only[List.getLast?_singleton,Option.or_some,Option.some_or];rw[Bool.eq_iff_iff,List.isSuffixOf_iff_suffix,decide_eq_true_eq];constructor
  ·rintro ⟨t,ht⟩;have:=List.append_inj_right' ht rfl
   simpa using this.symm
  ·rintro rfl;exact ⟨v,rfl⟩
theorem contains_cons (c:UInt8) (r:List UInt8) (p:List UInt8):Lib.contains (c::r) p=(p.isPrefixOf (c::r)||Lib.contains r p):=by
 unfold Lib.contains;have hg:=Lib.index_ge r p
 conv=>lhs;unfold Lib.index
 cases p.isPrefixOf (c::r) with
 |true=>simp
 |false=>
  rw[if_neg (by decide),Bool.false_or];by_cases h:Lib.index r p= -1
  ·rw[h];rfl
  ·rw[if_neg (fun q=>h (eq_of_beq q))];exact decide_eq_decide.2 ⟨fun q=>by omega,fun q=>by omega⟩
theorem uR:∀u:List UInt8,kL u=(Lib.contains u [58,32]||Lib.hasSuffix u [58])
 |[]=>rfl
 |[c]=>by
  rw[ku]
  show decide (c.toNat=58)=(Lib.contains [c] [58,32]||decide (c=58))
  rw[contains_cons];have h1:List.isPrefixOf [58,32] [c]=false:=by simp[List.isPrefixOf]
  rw[h1,show Lib.contains [] [58,32]=false from rfl,Bool.false_or,Bool.false_or];exact decide_eq_decide.2 ⟨fun h=>by apply UInt8.toNat_inj.1;rw[h];rfl,fun h=>by rw[h];rfl⟩
 |c::d::r=>by
  have ih:=uR (d::r)
  show (decide (c.toNat=58/\d.toNat=32)||kL (d::r))=_
  rw[ih,contains_cons c (d::r),ku,ku,show (c::d::r).getLast? =(d::r).getLast? from rfl,Bool.or_assoc];congr 1
  show _=(List.isPrefixOf [58,32] (c::d::r))
  simp only[List.isPrefixOf,Bool.and_true];rw[Bool.eq_iff_iff,Bool.and_eq_true,beq_iff_eq,beq_iff_eq,decide_eq_true_eq];exact ⟨fun ⟨a,b⟩=>⟨by apply UInt8.toNat_inj.1;rw[a];rfl,by apply UInt8.toNat_inj.1;rw[b];rfl⟩,fun ⟨a,b⟩=>⟨by rw[<-a];rfl,by rw[<-b];rfl⟩⟩
def ib (w:World) (l:List UInt8) (i:Nat) (r:Ending) (w':World):Prop:=
 w'=w/\r=match eR (l.drop i) with
  |none=> .returned (.tuple #[.int .i64 0,.bool false])
  |some x=> .returned (.tuple #[.int .i64 ((i+x.length:Nat):Int),.bool true])
theorem vZ {t:List UInt8} (h:DQ t=true\/eW t=true):eR t=none:=by
 unfold eR;rw[if_pos h]
theorem rB {t:List UInt8} (h1:DQ t=false) (h2:eW t=false) (h:kL (aL (aQ t))=true\/aL (aQ t)=[45,45,45]):eR t=none:=by
 unfold eR;rw[if_neg (by rw[h1,h2];simp),if_pos h]
theorem zz {t:List UInt8} (h1:DQ t=false) (h2:eW t=false) (h:¬(kL (aL (aQ t))=true\/aL (aQ t)=[45,45,45])):eR t=some (aL (aQ t)):=by
 unfold eR;rw[if_neg (by rw[h1,h2];simp),if_neg h]
abbrev F6:ByteArray:=⟨#[34,39,35,44,91,93,123,125,38,42,33,124,62,37,64,63,58,96]⟩
theorem uZ (c:UInt8):pH c=decide (0<=Lib.indexByte F6.data.toList c):=Lib.contains_iff_indexByte F6.data.toList c
theorem uY (x:UInt8) (w1:World):∃z:Int,(pH x=decide (0<=z))/\Calls Tryz.prog 177 #[.string F6,.int .u8 (x.toNat:Int)] w1 fun r w'=>r= .returned (.int .i64 z)/\w'=w1:=
 ⟨_,uZ x,(Tryz.strings_IndexByte F6 (x.toNat:Int) w1).mono fun r w' ⟨hr,hw⟩=>⟨by
  rw[hr];have e:((x.toNat:Int)).toNat.toUInt8=x:=by
   show (x.toNat).toUInt8=x
   simp
  rw[e],hw⟩⟩
theorem gK {s:ByteArray} {i j:Nat} {zi zj:Int} (hi:zi=(i:Int)) (hj:zj=(j:Int)) (h:i<=j) (h2:j<=s.size):∀w,(Instr.slice 9 (.string s) (some (.int .i64 zi)) (some (.int .i64 zj)) none).run Tryz.prog w= .ok (.string (s.extract i j)) w:=by
 subst hi;subst hj;intro w;exact run_slice_string (P:= Tryz.prog) w 9 s .i64 .i64 (i:Int) (j:Int) Tryz.underlying9 (by omega) (by omega) (by omega)
theorem Ew {s:ByteArray} {i:Nat} {zi:Int} (hi:zi=(i:Int)) (h:i<=s.size):∀w,(Instr.slice 9 (.string s) (some (.int .i64 zi)) none none).run Tryz.prog w= .ok (.string (s.extract i s.size)) w:=by
 subst hi;intro w;rw[run_slice_string_from_if (P:= Tryz.prog) w 9 s .i64 (i:Int) Tryz.underlying9,if_pos ⟨by omega,by omega⟩];rfl
theorem r9 (s:ByteArray) (i j:Nat):(s.extract i j).data.toList=(s.data.toList.drop i).take (j-i):=by
 rw[ByteArray.data_extract,Array.toList_extract,List.extract_eq_take_drop]
theorem qH (w:World) (s:ByteArray) (i:Nat) (c:UInt8) (hs:s.size<=1048576) (hi:s.data.toList[i]? =some c) (hb:pH c=true\/eW (s.data.toList.drop i)=true):
 Calls Tryz.prog 145 #[.string s,.int .i64 (i:Int)] w (ib w s.data.toList i):=by
 have He:=hid (show ib w s.data.toList i (.returned (.tuple #[.int .i64 0,.bool false])) w from ⟨rfl,by rw[vZ (by rw[bT hi]at hb |-;exact hb)]⟩);obtain ⟨z,hz,hcall⟩:=uY c w;have Hc:=hid hcall;have hidx:=aN (s:=s) (i:Int) rfl hi;have hlt:i<s.size:=by rw[<-an];exact (aAh hi).1
 have b1:(i:Int)<1048576:=by omega
 clear hcall;cases hbc:pH c with
 |true=>
  have t1:decide (0<=z)=true:=by rw[<-hz,hbc]
  clear hb hbc hz hi hlt hs;go_enter Tryz.func145,Tryz.ntmps145
  go_wp2_with (go_at_call 177;refine cS Hc.o ?_)
  go_ret2
  exact He.o
 |false=>
  have t1:decide (0<=z)=false:=by rw[<-hz,hbc]
  have hd:eW (s.data.toList.drop i)=true:=by rcases hb with h|h;rw[hbc]at h;cases h;exact h
  rw[bT hi]at hd;by_cases hl:i+1=s.size
  ·have h45:c.toNat=45:=by
    rw[dropEnd (by rw[an];omega)]at hd;exact of_decide_eq_true hd
   have t2:((c.toNat:Int)==45)=true:=by rw[beq_iff_eq];omega
   have t3:((i:Int)+1==(s.size:Int))=true:=by rw[beq_iff_eq];omega
   clear hb hbc hz hi hlt hs hd h45 hl;go_enter Tryz.func145,Tryz.ntmps145
   go_wp2_with (go_at_call 177;refine cS Hc.o ?_)
   go_ret2
   exact He.o
  ·obtain ⟨d,hdd⟩:=dL (s:=s) (k:=i+1) (by omega);have h45:c.toNat=45/\d.toNat=32:=by
    rw[bT hdd]at hd;exact of_decide_eq_true hd
   have hidx1:=aN (s:=s) ((i:Int)+1) (by omega) hdd;have t2:((c.toNat:Int)==45)=true:=by rw[beq_iff_eq];omega
   have t3:((i:Int)+1==(s.size:Int))=false:=bF (by omega);have t4:((d.toNat:Int)==32)=true:=by rw[beq_iff_eq];omega
   clear hb hbc hz hi hlt hs hd h45 hl hdd;go_enter Tryz.func145,Tryz.ntmps145
   go_wp2_with (go_at_call 177;refine cS Hc.o ?_)
   go_ret2
   exact He.o
structure PT (w:World) (l:List UInt8) (i:Nat) (x:ByteArray) (cb sb tb:Bool):Prop where
 yes:(cb||sb||tb)=true->ib w l i (.returned (.tuple #[.int .i64 0,.bool false])) w
 no:(cb||sb||tb)=false->ib w l i (.returned (.tuple #[.int .i64 ((i+x.size:Nat):Int),.bool true])) w
 c:Calls Tryz.prog 179 #[.string x,.string ⟨#[58,32]⟩] w fun r w'=>r= .returned (.bool cb)/\w'=w
 s:Calls Tryz.prog 180 #[.string x,.string ⟨#[58]⟩] w fun r w'=>r= .returned (.bool sb)/\w'=w
 t:(x.toList==[45,45,45])=tb
theorem Ku {w:World} {l:List UInt8} {i:Nat} {x:ByteArray} (hg:Glob w) (h1:DQ (l.drop i)=false) (h2:eW (l.drop i)=false) (hx:x.data.toList=aL (aQ (l.drop i))) (hxs:x.size<=1048576):
 ∃cb sb tb,PT w l i x cb sb tb:=by
 obtain ⟨m,hm⟩:=hg.max;have hcol:kL (aL (aQ (l.drop i)))=(Lib.contains x.data.toList [58,32]||Lib.hasSuffix x.data.toList [58]):=by rw[<-hx,uR]
 have hdash:(x.toList==[45,45,45])=decide (aL (aQ (l.drop i))=[45,45,45]):=by
  rw[Lib.toList_data,hx,Bool.eq_iff_iff,beq_iff_eq,decide_eq_true_eq]
 refine ⟨_,_,_,⟨fun h=>⟨rfl,?_⟩,fun h=>⟨rfl,?_⟩,Tryz.strings_Contains x ⟨#[58,32]⟩ m w (by omega) hm,Tryz.strings_HasSuffix x ⟨#[58]⟩ w (by omega),rfl⟩⟩
 ·rw[rB h1 h2];rw[Bool.or_eq_true,hdash,decide_eq_true_eq]at h;rcases h with h|h
  ·left;rw[hcol];exact h
  ·exact .inr h
 ·rw[zz h1 h2]
  ·simp only;rw[<-hx,an]
  ·rintro (q|q)
   ·rw[hcol]at q;have:(Lib.contains x.data.toList [58,32]||Lib.hasSuffix x.data.toList [58])=false:=(Bool.or_eq_false_iff.1 h).1;rw[this]at q;cases q
   ·have:=(Bool.or_eq_false_iff.1 h).2;rw[hdash,dT q]at this;cases this
theorem vY (w:World) (s:ByteArray) (i:Nat) (c:UInt8) (hs:s.size<=1048576) (hi:s.data.toList[i]? =some c) (hb:pH c=false) (hd:eW (s.data.toList.drop i)=false) (hg:Glob w):
 Calls Tryz.prog 145 #[.string s,.int .i64 (i:Int)] w (ib w s.data.toList i):=by
 obtain ⟨z,hz,hcall⟩:=uY c w;have Hc:=hid hcall;have hidx:=aN (s:=s) (i:Int) rfl hi;have hlt:i<s.size:=by rw[<-an];exact (aAh hi).1
 have b1:(i:Int)<1048576:=by omega
 have t1:decide (0<=z)=false:=by rw[<-hz,hb]
 obtain ⟨n,hn⟩:=ex (s.size);have Hn:=hid hn;obtain ⟨l,hl⟩:=ex (s.data.toList);have Hl:=hid hl;obtain ⟨x0,hx0⟩:∃x,x=s.extract i s.size:=⟨_,rfl⟩;have hx0l:x0.data.toList=l.drop i:=by rw[hx0,r9,<-hl,List.take_of_length_le (by rw[List.length_drop,hl,an];exact aAa _)]
 obtain ⟨m,hm⟩:=hg.max;have Hix:=hid (Tryz.strings_Index x0 ⟨#[32,35]⟩ m w (by rw[<-an,hx0l,List.length_drop,hl,an];omega) hm);rw[hx0l]at Hix;have Hpt:=hid (show ∀e,e<=(l.drop i).length->(l.drop i).take e=aL (aQ (l.drop i))->∃cb sb tb,PT w l i (s.extract i (i+e)) cb sb tb from fun e he hx=>by
  refine Ku hg ?_ (by rw[hl];exact hd) ?_ ?_
  ·rw[hl,bT hi];exact hb
  ·rw[r9,<-hl,show i+e-i=e by omega];exact hx
  ·rw[ByteArray.size_extract];omega)
 have Hs:=hid hs;have Hlt:=hid hlt;have hsl:=Ew (s:=s) (i:=i) (zi:=(i:Int)) rfl (by omega);rw[<-hx0]at hsl;rw[<-hl];rw[<-hl]at hd hi;have Hi:=hid hi;have Hhs:=hid hs;clear hx0 hg hm;by_cases h45:c.toNat=45
 ·have hne:¬i+1=s.size:=by
   intro hh;rw[bT hi,dropEnd (by rw[hl,an];omega)]at hd;exact absurd h45 (of_decide_eq_false hd)
  obtain ⟨d,hdd⟩:=dL (s:=s) (k:=i+1) (by omega);have h32:¬d.toNat=32:=by
   rw[bT hi,bT (show l[i+1]? =some d by rw[hl];exact hdd)]at hd;exact fun q=>of_decide_eq_false hd ⟨h45,q⟩
  have hidx1:=aN (s:=s) ((i:Int)+1) (by omega) hdd;have t2:((c.toNat:Int)==45)=true:=by rw[beq_iff_eq];omega
  have t3:((i:Int)+1==(s.size:Int))=false:=bF (by omega);have t4:((d.toNat:Int)==32)=false:=bF (by omega);clear hne h32 hdd h45;rcases fD (l.drop i) with ⟨e1,e2⟩|⟨k,e1,e2,e3⟩
  ·rw[e1]at Hix;have hcl:(l.drop i).length=s.size-i:=by rw[List.length_drop,hl,an]
   have Hat:=hid (show i<=s.size/\s.size<=n/\aL (aQ (l.drop i))=aL ((l.drop i).take (s.size-i)) from ⟨by omega,by omega,by rw[e2,List.take_of_length_le (by omega)]⟩);clear hcl e1 e2 hn hl hs hlt hz hi hb hd hx0l;go_enter Tryz.func145,Tryz.ntmps145
   go_wp2_with (go_at_call 177;refine cS Hc.o ?_)
   go_wp2_with (go_at_call 178;refine cS Hix.o ?_)
   clear hsl hidx
   go_loop [6] (fun v=>∃j:Nat,v= .int .i64 (j:Int)/\Hid (i<=j/\j<=n/\aL (aQ (l.drop i))=aL ((l.drop i).take (j-i)))) (fun v=>(intOf v).toNat)
   case atStart=>exact ⟨s.size,rfl,Hat⟩
   case round=>
    obtain ⟨j,rfl,H⟩:=hrel;have hn:n=s.size:=Hn.o;have hl:l=s.data.toList:=Hl.o;have hs:=Hhs.o;have hlen:l.length=s.size:=by rw[hl,an]
    have h1:=H.o.1;have h2:=H.o.2.1;have bj:(j:Int)<1048577:=by omega
    by_cases hij:i<j
    ·obtain ⟨d,hd⟩:∃d,l[j-1]? =some d:=au (by omega);have hdd:(l.drop i)[j-1-i]? =some d:=by rw[List.getElem?_drop,show i+(j-1-i)=j-1 by omega];exact hd
     have htk:=jQ hdd;rw[show j-1-i+1=j-i by omega]at htk;have hidx2:=aN (s:=s) (k:=j-1) ((j:Int)-1) (by omega) (by rw[<-hl];exact hd);have b3:decide (i<j)=true:=dT hij;have b4:(1:Int)<=(j:Int):=by omega
     by_cases h32:d.toNat=32
     ·have t5:((d.toNat:Int)==32)=true:=by rw[beq_iff_eq];omega
      have He:=hid (show i<=j-1/\j-1<=n/\aL (aQ (l.drop i))=aL ((l.drop i).take (j-1-i)) from ⟨by omega,by omega,by rw[H.o.2.2,htk,dA,if_pos h32]⟩);have Hgo:=hid (show Value.int .i64 ((j:Int)-1)= .int .i64 ((j-1:Nat):Int) by rw[show ((j-1:Nat):Int)=(j:Int)-1 by omega]);have Hms:=hid (show (intOf (.int .i64 ((j:Int)-1))).toNat<(intOf (.int .i64 (j:Int))).toNat by show ((j:Int)-1).toNat<((j:Nat):Int).toNat;omega)
      clear hn hl hs hlen h1 h2 hij hd hdd htk h32 H;go_wp2;go_round
      case rel=>exact ⟨j-1,Hgo.o,He⟩
      case measure=>exact Hms.o
     ·have t5:((d.toNat:Int)==32)=false:=bF (by omega);have hst:aL (aQ (l.drop i))=(l.drop i).take (j-i):=by rw[H.o.2.2,htk,dA,if_neg h32]
      clear hdd htk h32 hij;have hx:l.drop i=l.drop i:=rfl;obtain ⟨e,he⟩:∃e,j=i+e:=⟨j-i,by omega⟩;obtain ⟨cb,sb,tb,hpt⟩:=Hpt.o e (by rw[List.length_drop,hlen];omega) (by rw[hst,show j-i=e by omega]);rw[<-he]at hpt;have hsl2:=gK (s:=s) (i:=i) (j:=j) (zi:=(i:Int)) (zj:=(j:Int)) rfl rfl (by omega) (by omega);have hxs:(s.extract i j).size=e:=by rw[ByteArray.size_extract];omega
      have Hj:=hid (show (j:Int)=((i+(s.extract i j).size:Nat):Int) by rw[hxs,he]);generalize s.extract i j=x at*;have Hc1:=hid hpt.c;have Hc2:=hid hpt.s;have ht3:=hpt.t;have Hy:=hid hpt.yes;have Hno:=hid hpt.no;clear hd h1 h2 hs hst hpt hx hxs he hlen hn hl H;cases cb with
      |true=>
       clear Hc2 ht3
       go_wp2_with (go_at_call 179;refine cS Hc1.o ?_)
       go_ret2
       exact Hy.o rfl
      |false=>
       cases sb with
       |true=>
        clear ht3
        go_wp2_with (first|(go_at_call 179;refine cS Hc1.o ?_)|(go_at_call 180;refine cS Hc2.o ?_))
        go_ret2
        exact Hy.o rfl
       |false=>
        cases tb with
        |true=>
         go_wp2_with (first|(go_at_call 179;refine cS Hc1.o ?_)|(go_at_call 180;refine cS Hc2.o ?_))
         go_ret2
         exact Hy.o rfl
        |false=>
         go_wp2_with (first|(go_at_call 179;refine cS Hc1.o ?_)|(go_at_call 180;refine cS Hc2.o ?_))
         go_ret2
         have:=Hno.o rfl;rw[<-Hj.o]at this;exact this
    ·have b3:decide (i<j)=false:=dF hij;have hji:j-i=0:=by omega
     have hst:aL (aQ (l.drop i))=(l.drop i).take (j-i):=by rw[H.o.2.2,hji];rfl
     clear hij;have hx:l.drop i=l.drop i:=rfl;obtain ⟨e,he⟩:∃e,j=i+e:=⟨j-i,by omega⟩;obtain ⟨cb,sb,tb,hpt⟩:=Hpt.o e (by rw[List.length_drop,hlen];omega) (by rw[hst,show j-i=e by omega]);rw[<-he]at hpt;have hsl2:=gK (s:=s) (i:=i) (j:=j) (zi:=(i:Int)) (zj:=(j:Int)) rfl rfl (by omega) (by omega);have hxs:(s.extract i j).size=e:=by rw[ByteArray.size_extract];omega
     have Hj:=hid (show (j:Int)=((i+(s.extract i j).size:Nat):Int) by rw[hxs,he]);generalize s.extract i j=x at*;have Hc1:=hid hpt.c;have Hc2:=hid hpt.s;have ht3:=hpt.t;have Hy:=hid hpt.yes;have Hno:=hid hpt.no;clear hji h1 h2 hs hst hpt hx hxs he hlen hn hl H;cases cb with
     |true=>
      clear Hc2 ht3
      go_wp2_with (go_at_call 179;refine cS Hc1.o ?_)
      go_ret2
      exact Hy.o rfl
     |false=>
      cases sb with
      |true=>
       clear ht3
       go_wp2_with (first|(go_at_call 179;refine cS Hc1.o ?_)|(go_at_call 180;refine cS Hc2.o ?_))
       go_ret2
       exact Hy.o rfl
      |false=>
       cases tb with
       |true=>
        go_wp2_with (first|(go_at_call 179;refine cS Hc1.o ?_)|(go_at_call 180;refine cS Hc2.o ?_))
        go_ret2
        exact Hy.o rfl
       |false=>
        go_wp2_with (first|(go_at_call 179;refine cS Hc1.o ?_)|(go_at_call 180;refine cS Hc2.o ?_))
        go_ret2
        have:=Hno.o rfl;rw[<-Hj.o]at this;exact this
  ·rw[e1]at Hix;have hcl:(l.drop i).length=s.size-i:=by rw[List.length_drop,hl,an]
   have bk:(k:Int)<1048577:=by omega
   have Hat:=hid (show i<=i+k/\i+k<=n/\aL (aQ (l.drop i))=aL ((l.drop i).take (i+k-i)) from ⟨by omega,by omega,by rw[e3,show i+k-i=k by omega]⟩);have Hik:=hid (show Value.int .i64 ((i:Int)+(k:Int))= .int .i64 ((i+k:Nat):Int) from rfl);clear hcl e1 e2 e3 hn hl hs hlt hz hi hb hd hx0l;go_enter Tryz.func145,Tryz.ntmps145
   go_wp2_with (go_at_call 177;refine cS Hc.o ?_)
   go_wp2_with (go_at_call 178;refine cS Hix.o ?_)
   clear hsl hidx
   go_loop [6] (fun v=>∃j:Nat,v= .int .i64 (j:Int)/\Hid (i<=j/\j<=n/\aL (aQ (l.drop i))=aL ((l.drop i).take (j-i)))) (fun v=>(intOf v).toNat)
   case atStart=>exact ⟨i+k,Hik.o,Hat⟩
   case round=>
    obtain ⟨j,rfl,H⟩:=hrel;have hn:n=s.size:=Hn.o;have hl:l=s.data.toList:=Hl.o;have hs:=Hhs.o;have hlen:l.length=s.size:=by rw[hl,an]
    have h1:=H.o.1;have h2:=H.o.2.1;have bj:(j:Int)<1048577:=by omega
    by_cases hij:i<j
    ·obtain ⟨d,hd⟩:∃d,l[j-1]? =some d:=au (by omega);have hdd:(l.drop i)[j-1-i]? =some d:=by rw[List.getElem?_drop,show i+(j-1-i)=j-1 by omega];exact hd
     have htk:=jQ hdd;rw[show j-1-i+1=j-i by omega]at htk;have hidx2:=aN (s:=s) (k:=j-1) ((j:Int)-1) (by omega) (by rw[<-hl];exact hd);have b3:decide (i<j)=true:=dT hij;have b4:(1:Int)<=(j:Int):=by omega
     by_cases h32:d.toNat=32
     ·have t5:((d.toNat:Int)==32)=true:=by rw[beq_iff_eq];omega
      have He:=hid (show i<=j-1/\j-1<=n/\aL (aQ (l.drop i))=aL ((l.drop i).take (j-1-i)) from ⟨by omega,by omega,by rw[H.o.2.2,htk,dA,if_pos h32]⟩);have Hgo:=hid (show Value.int .i64 ((j:Int)-1)= .int .i64 ((j-1:Nat):Int) by rw[show ((j-1:Nat):Int)=(j:Int)-1 by omega]);have Hms:=hid (show (intOf (.int .i64 ((j:Int)-1))).toNat<(intOf (.int .i64 (j:Int))).toNat by show ((j:Int)-1).toNat<((j:Nat):Int).toNat;omega)
      clear hn hl hs hlen h1 h2 hij hd hdd htk h32 H;go_wp2;go_round
      case rel=>exact ⟨j-1,Hgo.o,He⟩
      case measure=>exact Hms.o
     ·have t5:((d.toNat:Int)==32)=false:=bF (by omega);have hst:aL (aQ (l.drop i))=(l.drop i).take (j-i):=by rw[H.o.2.2,htk,dA,if_neg h32]
      clear hdd htk h32 hij;have hx:l.drop i=l.drop i:=rfl;obtain ⟨e,he⟩:∃e,j=i+e:=⟨j-i,by omega⟩;obtain ⟨cb,sb,tb,hpt⟩:=Hpt.o e (by rw[List.length_drop,hlen];omega) (by rw[hst,show j-i=e by omega]);rw[<-he]at hpt;have hsl2:=gK (s:=s) (i:=i) (j:=j) (zi:=(i:Int)) (zj:=(j:Int)) rfl rfl (by omega) (by omega);have hxs:(s.extract i j).size=e:=by rw[ByteArray.size_extract];omega
      have Hj:=hid (show (j:Int)=((i+(s.extract i j).size:Nat):Int) by rw[hxs,he]);generalize s.extract i j=x at*;have Hc1:=hid hpt.c;have Hc2:=hid hpt.s;have ht3:=hpt.t;have Hy:=hid hpt.yes;have Hno:=hid hpt.no;clear hd h1 h2 hs hst hpt hx hxs he hlen hn hl H;cases cb with
      |true=>
       clear Hc2 ht3
       go_wp2_with (go_at_call 179;refine cS Hc1.o ?_)
       go_ret2
       exact Hy.o rfl
      |false=>
       cases sb with
       |true=>
        clear ht3
        go_wp2_with (first|(go_at_call 179;refine cS Hc1.o ?_)|(go_at_call 180;refine cS Hc2.o ?_))
        go_ret2
        exact Hy.o rfl
       |false=>
        cases tb with
        |true=>
         go_wp2_with (first|(go_at_call 179;refine cS Hc1.o ?_)|(go_at_call 180;refine cS Hc2.o ?_))
         go_ret2
         exact Hy.o rfl
        |false=>
         go_wp2_with (first|(go_at_call 179;refine cS Hc1.o ?_)|(go_at_call 180;refine cS Hc2.o ?_))
         go_ret2
         have:=Hno.o rfl;rw[<-Hj.o]at this;exact this
    ·have b3:decide (i<j)=false:=dF hij;have hji:j-i=0:=by omega
     have hst:aL (aQ (l.drop i))=(l.drop i).take (j-i):=by rw[H.o.2.2,hji];rfl
     clear hij;have hx:l.drop i=l.drop i:=rfl;obtain ⟨e,he⟩:∃e,j=i+e:=⟨j-i,by omega⟩;obtain ⟨cb,sb,tb,hpt⟩:=Hpt.o e (by rw[List.length_drop,hlen];omega) (by rw[hst,show j-i=e by omega]);rw[<-he]at hpt;have hsl2:=gK (s:=s) (i:=i) (j:=j) (zi:=(i:Int)) (zj:=(j:Int)) rfl rfl (by omega) (by omega);have hxs:(s.extract i j).size=e:=by rw[ByteArray.size_extract];omega
     have Hj:=hid (show (j:Int)=((i+(s.extract i j).size:Nat):Int) by rw[hxs,he]);generalize s.extract i j=x at*;have Hc1:=hid hpt.c;have Hc2:=hid hpt.s;have ht3:=hpt.t;have Hy:=hid hpt.yes;have Hno:=hid hpt.no;clear hji h1 h2 hs hst hpt hx hxs he hlen hn hl H;cases cb with
     |true=>
      clear Hc2 ht3
      go_wp2_with (go_at_call 179;refine cS Hc1.o ?_)
      go_ret2
      exact Hy.o rfl
     |false=>
      cases sb with
      |true=>
       clear ht3
       go_wp2_with (first|(go_at_call 179;refine cS Hc1.o ?_)|(go_at_call 180;refine cS Hc2.o ?_))
       go_ret2
       exact Hy.o rfl
      |false=>
       cases tb with
       |true=>
        go_wp2_with (first|(go_at_call 179;refine cS Hc1.o ?_)|(go_at_call 180;refine cS Hc2.o ?_))
        go_ret2
        exact Hy.o rfl
       |false=>
        go_wp2_with (first|(go_at_call 179;refine cS Hc1.o ?_)|(go_at_call 180;refine cS Hc2.o ?_))
        go_ret2
        have:=Hno.o rfl;rw[<-Hj.o]at this;exact this
 ·have t2:((c.toNat:Int)==45)=false:=bF (by omega);clear h45;rcases fD (l.drop i) with ⟨e1,e2⟩|⟨k,e1,e2,e3⟩
  ·rw[e1]at Hix;have hcl:(l.drop i).length=s.size-i:=by rw[List.length_drop,hl,an]
   have Hat:=hid (show i<=s.size/\s.size<=n/\aL (aQ (l.drop i))=aL ((l.drop i).take (s.size-i)) from ⟨by omega,by omega,by rw[e2,List.take_of_length_le (by omega)]⟩);clear hcl e1 e2 hn hl hs hlt hz hi hb hd hx0l;go_enter Tryz.func145,Tryz.ntmps145
   go_wp2_with (go_at_call 177;refine cS Hc.o ?_)
   go_wp2_with (go_at_call 178;refine cS Hix.o ?_)
   clear hsl hidx
   go_loop [6] (fun v=>∃j:Nat,v= .int .i64 (j:Int)/\Hid (i<=j/\j<=n/\aL (aQ (l.drop i))=aL ((l.drop i).take (j-i)))) (fun v=>(intOf v).toNat)
   case atStart=>exact ⟨s.size,rfl,Hat⟩
   case round=>
    obtain ⟨j,rfl,H⟩:=hrel;have hn:n=s.size:=Hn.o;have hl:l=s.data.toList:=Hl.o;have hs:=Hhs.o;have hlen:l.length=s.size:=by rw[hl,an]
    have h1:=H.o.1;have h2:=H.o.2.1;have bj:(j:Int)<1048577:=by omega
    by_cases hij:i<j
    ·obtain ⟨d,hd⟩:∃d,l[j-1]? =some d:=au (by omega);have hdd:(l.drop i)[j-1-i]? =some d:=by rw[List.getElem?_drop,show i+(j-1-i)=j-1 by omega];exact hd
     have htk:=jQ hdd;rw[show j-1-i+1=j-i by omega]at htk;have hidx2:=aN (s:=s) (k:=j-1) ((j:Int)-1) (by omega) (by rw[<-hl];exact hd);have b3:decide (i<j)=true:=dT hij;have b4:(1:Int)<=(j:Int):=by omega
     by_cases h32:d.toNat=32
     ·have t5:((d.toNat:Int)==32)=true:=by rw[beq_iff_eq];omega
      have He:=hid (show i<=j-1/\j-1<=n/\aL (aQ (l.drop i))=aL ((l.drop i).take (j-1-i)) from ⟨by omega,by omega,by rw[H.o.2.2,htk,dA,if_pos h32]⟩);have Hgo:=hid (show Value.int .i64 ((j:Int)-1)= .int .i64 ((j-1:Nat):Int) by rw[show ((j-1:Nat):Int)=(j:Int)-1 by omega]);have Hms:=hid (show (intOf (.int .i64 ((j:Int)-1))).toNat<(intOf (.int .i64 (j:Int))).toNat by show ((j:Int)-1).toNat<((j:Nat):Int).toNat;omega)
      clear hn hl hs hlen h1 h2 hij hd hdd htk h32 H;go_wp2;go_round
      case rel=>exact ⟨j-1,Hgo.o,He⟩
      case measure=>exact Hms.o
     ·have t5:((d.toNat:Int)==32)=false:=bF (by omega);have hst:aL (aQ (l.drop i))=(l.drop i).take (j-i):=by rw[H.o.2.2,htk,dA,if_neg h32]
      clear hdd htk h32 hij;have hx:l.drop i=l.drop i:=rfl;obtain ⟨e,he⟩:∃e,j=i+e:=⟨j-i,by omega⟩;obtain ⟨cb,sb,tb,hpt⟩:=Hpt.o e (by rw[List.length_drop,hlen];omega) (by rw[hst,show j-i=e by omega]);rw[<-he]at hpt;have hsl2:=gK (s:=s) (i:=i) (j:=j) (zi:=(i:Int)) (zj:=(j:Int)) rfl rfl (by omega) (by omega);have hxs:(s.extract i j).size=e:=by rw[ByteArray.size_extract];omega
      have Hj:=hid (show (j:Int)=((i+(s.extract i j).size:Nat):Int) by rw[hxs,he]);generalize s.extract i j=x at*;have Hc1:=hid hpt.c;have Hc2:=hid hpt.s;have ht3:=hpt.t;have Hy:=hid hpt.yes;have Hno:=hid hpt.no;clear hd h1 h2 hs hst hpt hx hxs he hlen hn hl H;cases cb with
      |true=>
       clear Hc2 ht3
       go_wp2_with (go_at_call 179;refine cS Hc1.o ?_)
       go_ret2
       exact Hy.o rfl
      |false=>
       cases sb with
       |true=>
        clear ht3
        go_wp2_with (first|(go_at_call 179;refine cS Hc1.o ?_)|(go_at_call 180;refine cS Hc2.o ?_))
        go_ret2
        exact Hy.o rfl
       |false=>
        cases tb with
        |true=>
         go_wp2_with (first|(go_at_call 179;refine cS Hc1.o ?_)|(go_at_call 180;refine cS Hc2.o ?_))
         go_ret2
         exact Hy.o rfl
        |false=>
         go_wp2_with (first|(go_at_call 179;refine cS Hc1.o ?_)|(go_at_call 180;refine cS Hc2.o ?_))
         go_ret2
         have:=Hno.o rfl;rw[<-Hj.o]at this;exact this
    ·have b3:decide (i<j)=false:=dF hij;have hji:j-i=0:=by omega
     have hst:aL (aQ (l.drop i))=(l.drop i).take (j-i):=by rw[H.o.2.2,hji];rfl
     clear hij;have hx:l.drop i=l.drop i:=rfl;obtain ⟨e,he⟩:∃e,j=i+e:=⟨j-i,by omega⟩;obtain ⟨cb,sb,tb,hpt⟩:=Hpt.o e (by rw[List.length_drop,hlen];omega) (by rw[hst,show j-i=e by omega]);rw[<-he]at hpt;have hsl2:=gK (s:=s) (i:=i) (j:=j) (zi:=(i:Int)) (zj:=(j:Int)) rfl rfl (by omega) (by omega);have hxs:(s.extract i j).size=e:=by rw[ByteArray.size_extract];omega
     have Hj:=hid (show (j:Int)=((i+(s.extract i j).size:Nat):Int) by rw[hxs,he]);generalize s.extract i j=x at*;have Hc1:=hid hpt.c;have Hc2:=hid hpt.s;have ht3:=hpt.t;have Hy:=hid hpt.yes;have Hno:=hid hpt.no;clear hji h1 h2 hs hst hpt hx hxs he hlen hn hl H;cases cb with
     |true=>
      clear Hc2 ht3
      go_wp2_with (go_at_call 179;refine cS Hc1.o ?_)
      go_ret2
      exact Hy.o rfl
     |false=>
      cases sb with
      |true=>
       clear ht3
       go_wp2_with (first|(go_at_call 179;refine cS Hc1.o ?_)|(go_at_call 180;refine cS Hc2.o ?_))
       go_ret2
       exact Hy.o rfl
      |false=>
       cases tb with
       |true=>
        go_wp2_with (first|(go_at_call 179;refine cS Hc1.o ?_)|(go_at_call 180;refine cS Hc2.o ?_))
        go_ret2
        exact Hy.o rfl
       |false=>
        go_wp2_with (first|(go_at_call 179;refine cS Hc1.o ?_)|(go_at_call 180;refine cS Hc2.o ?_))
        go_ret2
        have:=Hno.o rfl;rw[<-Hj.o]at this;exact this
  ·rw[e1]at Hix;have hcl:(l.drop i).length=s.size-i:=by rw[List.length_drop,hl,an]
   have bk:(k:Int)<1048577:=by omega
   have Hat:=hid (show i<=i+k/\i+k<=n/\aL (aQ (l.drop i))=aL ((l.drop i).take (i+k-i)) from ⟨by omega,by omega,by rw[e3,show i+k-i=k by omega]⟩);have Hik:=hid (show Value.int .i64 ((i:Int)+(k:Int))= .int .i64 ((i+k:Nat):Int) from rfl);clear hcl e1 e2 e3 hn hl hs hlt hz hi hb hd hx0l;go_enter Tryz.func145,Tryz.ntmps145
   go_wp2_with (go_at_call 177;refine cS Hc.o ?_)
   go_wp2_with (go_at_call 178;refine cS Hix.o ?_)
   clear hsl hidx
   go_loop [6] (fun v=>∃j:Nat,v= .int .i64 (j:Int)/\Hid (i<=j/\j<=n/\aL (aQ (l.drop i))=aL ((l.drop i).take (j-i)))) (fun v=>(intOf v).toNat)
   case atStart=>exact ⟨i+k,Hik.o,Hat⟩
   case round=>
    obtain ⟨j,rfl,H⟩:=hrel;have hn:n=s.size:=Hn.o;have hl:l=s.data.toList:=Hl.o;have hs:=Hhs.o;have hlen:l.length=s.size:=by rw[hl,an]
    have h1:=H.o.1;have h2:=H.o.2.1;have bj:(j:Int)<1048577:=by omega
    by_cases hij:i<j
    ·obtain ⟨d,hd⟩:∃d,l[j-1]? =some d:=au (by omega);have hdd:(l.drop i)[j-1-i]? =some d:=by rw[List.getElem?_drop,show i+(j-1-i)=j-1 by omega];exact hd
     have htk:=jQ hdd;rw[show j-1-i+1=j-i by omega]at htk;have hidx2:=aN (s:=s) (k:=j-1) ((j:Int)-1) (by omega) (by rw[<-hl];exact hd);have b3:decide (i<j)=true:=dT hij;have b4:(1:Int)<=(j:Int):=by omega
     by_cases h32:d.toNat=32
     ·have t5:((d.toNat:Int)==32)=true:=by rw[beq_iff_eq];omega
      have He:=hid (show i<=j-1/\j-1<=n/\aL (aQ (l.drop i))=aL ((l.drop i).take (j-1-i)) from ⟨by omega,by omega,by rw[H.o.2.2,htk,dA,if_pos h32]⟩);have Hgo:=hid (show Value.int .i64 ((j:Int)-1)= .int .i64 ((j-1:Nat):Int) by rw[show ((j-1:Nat):Int)=(j:Int)-1 by omega]);have Hms:=hid (show (intOf (.int .i64 ((j:Int)-1))).toNat<(intOf (.int .i64 (j:Int))).toNat by show ((j:Int)-1).toNat<((j:Nat):Int).toNat;omega)
      clear hn hl hs hlen h1 h2 hij hd hdd htk h32 H;go_wp2;go_round
      case rel=>exact ⟨j-1,Hgo.o,He⟩
      case measure=>exact Hms.o
     ·have t5:((d.toNat:Int)==32)=false:=bF (by omega);have hst:aL (aQ (l.drop i))=(l.drop i).take (j-i):=by rw[H.o.2.2,htk,dA,if_neg h32]
      clear hdd htk h32 hij;have hx:l.drop i=l.drop i:=rfl;obtain ⟨e,he⟩:∃e,j=i+e:=⟨j-i,by omega⟩;obtain ⟨cb,sb,tb,hpt⟩:=Hpt.o e (by rw[List.length_drop,hlen];omega) (by rw[hst,show j-i=e by omega]);rw[<-he]at hpt;have hsl2:=gK (s:=s) (i:=i) (j:=j) (zi:=(i:Int)) (zj:=(j:Int)) rfl rfl (by omega) (by omega);have hxs:(s.extract i j).size=e:=by rw[ByteArray.size_extract];omega
      have Hj:=hid (show (j:Int)=((i+(s.extract i j).size:Nat):Int) by rw[hxs,he]);generalize s.extract i j=x at*;have Hc1:=hid hpt.c;have Hc2:=hid hpt.s;have ht3:=hpt.t;have Hy:=hid hpt.yes;have Hno:=hid hpt.no;clear hd h1 h2 hs hst hpt hx hxs he hlen hn hl H;cases cb with
      |true=>
       clear Hc2 ht3
       go_wp2_with (go_at_call 179;refine cS Hc1.o ?_)
       go_ret2
       exact Hy.o rfl
      |false=>
       cases sb with
       |true=>
        clear ht3
        go_wp2_with (first|(go_at_call 179;refine cS Hc1.o ?_)|(go_at_call 180;refine cS Hc2.o ?_))
        go_ret2
        exact Hy.o rfl
       |false=>
        cases tb with
        |true=>
         go_wp2_with (first|(go_at_call 179;refine cS Hc1.o ?_)|(go_at_call 180;refine cS Hc2.o ?_))
         go_ret2
         exact Hy.o rfl
        |false=>
         go_wp2_with (first|(go_at_call 179;refine cS Hc1.o ?_)|(go_at_call 180;refine cS Hc2.o ?_))
         go_ret2
         have:=Hno.o rfl;rw[<-Hj.o]at this;exact this
    ·have b3:decide (i<j)=false:=dF hij;have hji:j-i=0:=by omega
     have hst:aL (aQ (l.drop i))=(l.drop i).take (j-i):=by rw[H.o.2.2,hji];rfl
     clear hij;have hx:l.drop i=l.drop i:=rfl;obtain ⟨e,he⟩:∃e,j=i+e:=⟨j-i,by omega⟩;obtain ⟨cb,sb,tb,hpt⟩:=Hpt.o e (by rw[List.length_drop,hlen];omega) (by rw[hst,show j-i=e by omega]);rw[<-he]at hpt;have hsl2:=gK (s:=s) (i:=i) (j:=j) (zi:=(i:Int)) (zj:=(j:Int)) rfl rfl (by omega) (by omega);have hxs:(s.extract i j).size=e:=by rw[ByteArray.size_extract];omega
     have Hj:=hid (show (j:Int)=((i+(s.extract i j).size:Nat):Int) by rw[hxs,he]);generalize s.extract i j=x at*;have Hc1:=hid hpt.c;have Hc2:=hid hpt.s;have ht3:=hpt.t;have Hy:=hid hpt.yes;have Hno:=hid hpt.no;clear hji h1 h2 hs hst hpt hx hxs he hlen hn hl H;cases cb with
     |true=>
      clear Hc2 ht3
      go_wp2_with (go_at_call 179;refine cS Hc1.o ?_)
      go_ret2
      exact Hy.o rfl
     |false=>
      cases sb with
      |true=>
       clear ht3
       go_wp2_with (first|(go_at_call 179;refine cS Hc1.o ?_)|(go_at_call 180;refine cS Hc2.o ?_))
       go_ret2
       exact Hy.o rfl
      |false=>
       cases tb with
       |true=>
        go_wp2_with (first|(go_at_call 179;refine cS Hc1.o ?_)|(go_at_call 180;refine cS Hc2.o ?_))
        go_ret2
        exact Hy.o rfl
       |false=>
        go_wp2_with (first|(go_at_call 179;refine cS Hc1.o ?_)|(go_at_call 180;refine cS Hc2.o ?_))
        go_ret2
        have:=Hno.o rfl;rw[<-Hj.o]at this;exact this
theorem EU (w:World) (s:ByteArray) (i:Nat) (c:UInt8) (hs:s.size<=1048576) (hi:s.data.toList[i]? =some c) (hg:Glob w):
 Calls Tryz.prog 145 #[.string s,.int .i64 (i:Int)] w (ib w s.data.toList i):=by
 cases hb:pH c with
 |true=>exact qH w s i c hs hi (.inl hb)
 |false=>
  cases hd:eW (s.data.toList.drop i) with
  |true=>exact qH w s i c hs hi (.inr hd)
  |false=>exact vY w s i c hs hi hb hd hg
def ncl:Code->Code
 | .seq a _=>a
 |c=>c
def ncr:Code->Code
 | .seq _ b=>b
 |c=>c
def ncb:Code->Code
 | .block _ b=>b
 |c=>c
def nco:Code->Code
 | .loop b=>b
 |c=>c
def nct:Code->Code
 | .cond _ t _=>t
 |c=>c
def nce:Code->Code
 | .cond _ _ e=>e
 |c=>c
def ncs:Code->Code
 | .scope b=>b
 |c=>c
def ncx:Option Code->Code
 |some c=>c
 |none=> .skip
theorem nW {t:Array Value} {i:Nat} {v:Value} (h:t[i]? =some v):t.getD i undef=v:=by
 rw[Array.getD_eq_getD_getElem?,h];rfl
theorem zE {id:Nat} {K:Act->World->Prop} {Q:Exit->Act->World->Prop} {a:Act} {w:World} (h:K a w):Exit.inBlock id (Exit.then K Q) (.exit id) a w:=by
 show (if id=id then K a w else Exit.then K Q (.exit id) a w)
 rw[if_pos rfl];exact h
