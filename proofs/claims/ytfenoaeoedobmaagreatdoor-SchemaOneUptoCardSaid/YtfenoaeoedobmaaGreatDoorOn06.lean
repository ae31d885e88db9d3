/-
Parts of a proof.
-/
import Derived.Test.YtfenoaeoedobmaaGreatDoorProg
import Derived.Deep.QuietTactic
import Derived.BigQuiet
import Derived.Lib.Strings
import Derived.Deep.Cut
import Derived.Shelf.Strconv.ErrVarParseInt
import Derived.Shelf.Strings.Prefix
import Derived.Lib.AtoiErrMem
import Derived.Test.YtfenoaeoedobmaaGreatDoorOn02
set_option linter.unusedVariables false
set_option linter.unusedSimpArgs false
set_option maxHeartbeats 1000000
namespace Go.Proofs.YtfenoaeoedobmaaGreatDoor
open Go Go.RowKit
def isD (c:UInt8):Bool:=decide (48<=c.toNat)&&decide (c.toNat<=57)
theorem mh (c:UInt8):isD c=true↔48<=c.toNat/\c.toNat<=57:=by simp[isD]
def ky (l:List UInt8):Bool:= !l.isEmpty&&l.all isD
theorem aj (s:ByteArray):s.data.toList.length=s.size:=by rw[Array.length_toList];rfl
theorem kh (s:ByteArray) (k:Nat) (h:k<s.size):s[k]=s.data.toList[k]'(by rw[aj];exact h):=rfl
theorem yz (s:ByteArray) (k:Nat) (h:k<s.size):s.data.toList.take (k+1)=s.data.toList.take k++[s[k]]:=by
 rw[List.take_succ_eq_append_getElem (by rw[aj];exact h),kh s k h]
def mZ (l:List UInt8):Nat:=l.foldl (fun m c=>min (m*10+(c.toNat-48)) 1000000000000000000) 0
theorem yt (l:List UInt8) (c:UInt8):mZ (l++[c])=min (mZ l*10+(c.toNat-48)) 1000000000000000000:=by simp[mZ]
theorem QN (l:List UInt8):mZ l<=1000000000000000000:=by
 rcases List.eq_nil_or_concat l with rfl|⟨r,c,rfl⟩
 ·exact Nat.zero_le _
 ·rw[List.concat_eq_append,yt];exact Nat.min_le_right _ _
theorem kz {l:List UInt8} (h:l.all isD=true):l.takeWhile isD=l:=by
 have h2:∀x∈l,isD x=true:=by simpa using h
 have:=List.takeWhile_append_of_pos (p:=isD) (l₁:=l) (l₂:=[]) h2
 simpa using this
theorem UX {l:List UInt8} {k:Nat} (h:(l.take k).all isD=true) (hk:l.length<=k):l.takeWhile isD=l.take k:=by
 rw[List.take_of_length_le hk]at h |-;exact kz h
theorem QP {s:ByteArray} {k:Nat} (h:(s.data.toList.take k).all isD=true) (hk:k<s.size) (hn:¬isD s[k]=true):s.data.toList.takeWhile isD=s.data.toList.take k:=by
 have e:s.data.toList=s.data.toList.take k++s[k]::s.data.toList.drop (k+1):=by
  rw[kh s k hk,<-List.drop_eq_getElem_cons (by rw[aj];exact hk),List.take_append_drop]
 have h2:∀x∈s.data.toList.take k,isD x=true:=by simpa using h
 conv=>lhs;rw[e]
 rw[List.takeWhile_append_of_pos h2,List.takeWhile_cons_of_neg hn,List.append_nil]
theorem kL (w:World) (s:ByteArray) (CY:s.size<=maxLen) (n m:Nat) (hn:(s.data.toList.takeWhile isD).length=n) (hm:mZ (s.data.toList.takeWhile isD)=m):
 Calls Tryz.prog 116 #[.string s] w fun e w'=>e= .returned (.tuple #[.int .i64 n,.int .u64 m])/\w'=w:=by
 have Hn:=hid hn;have Hm:=hid hm;clear hn hm;have hle:s.size<=9223372036854775807:=by unfold maxLen at CY;omega
 go_enter Tryz.func116,Tryz.ntmps116;go_wp2
 go_loopw [4,5] (fun i v wr=>∃k v':Nat,i= .int .i64 k/\v= .int .u64 v'/\w=wr/\Hid (k<=s.size/\(s.data.toList.take k).all isD=true/\v'=mZ (s.data.toList.take k))) (fun i _ _=>s.size-(intOf i).toNat)
 case atStart=>exact ⟨0,0,rfl,rfl,rfl,Nat.zero_le _,rfl,rfl⟩
 case round=>
  obtain ⟨k,v',rfl,rfl,rfl,hk⟩:=hrel;by_cases aN:k<s.size
  ·by_cases hd:isD s[k]=true
   ·have uh:=(mh _).1 hd;have n1:(48:Int)<=(s[k].toNat:Int):=by omega
    have n2:(s[k].toNat:Int)<=57:=by omega
    have hv:=QN (s.data.toList.take k);rw[<-hk.o.2.2]at hv;obtain ⟨d,mH⟩:∃d:Nat,d=s[k].toNat-48:=⟨_,rfl⟩;obtain ⟨t,ht⟩:∃t:Nat,t=v'*10:=⟨_,rfl⟩;obtain ⟨u,hu⟩:∃u:Nat,u=t+d:=⟨_,rfl⟩;have hsub:IntKind.u8.wrap ((s[k].toNat:Int)-48)=(d:Int):=by
     rw[IntKind.wrap_u8];omega
    have hmul:IntKind.u64.wrap ((v':Int)*10)=(t:Int):=by rw[IntKind.wrap_u64];omega
    have C8:IntKind.u64.wrap ((t:Int)+IntKind.u64.wrap (d:Int))=(u:Int):=by rw[IntKind.wrap_u64,IntKind.wrap_u64];omega
    obtain ⟨v2,Sk⟩:∃v2:Nat,v2=min u 1000000000000000000:=⟨_,rfl⟩;have KI:(if (1000000000000000000:Int)<(u:Int) then (1000000000000000000:Int) else (u:Int))=(v2:Int):=by split<;>omega
    have Xs:=hid (show v2=mZ (s.data.toList.take (k+1)) by rw[yz s k aN,yt,<-hk.o.2.2,Sk,hu,ht,mH]);have Hd:=hid hd;clear hd uh hv mH ht hu Sk;go_wp2;go_roundw
    case rel=>
     refine ⟨k+1,v2,rfl,by first|rfl|(rw[<-KI];done)|(rw[<-KI];congr 1;split<;>omega),(by first|rfl|trivial),by omega,?_,Xs.o⟩;rw[yz s k aN,List.all_append,hk.o.2.1];simp[Hd.o]
    case measure=>simp[intOf];omega
   ·have Ol:=QP hk.o.2.1 aN hd;have cg:k=n:=by rw[<-Hn.o,Ol,List.length_take,aj];omega
    have hvm:v'=m:=by rw[<-Hm.o,Ol];exact hk.o.2.2
    subst cg;subst hvm;by_cases n1:(48:Int)<=(s[k].toNat:Int)
    ·have n2:¬(s[k].toNat:Int)<=57:=by
      rw[mh]at hd;omega
     clear hd Ol;go_wp2
     go_ret2
     exact ⟨rfl,rfl⟩
    ·clear hd Ol;go_wp2
     go_ret2
     exact ⟨rfl,rfl⟩
  ·have Ol:=UX hk.o.2.1 (by rw[aj];have:=hk.o.1;omega);have cg:k=n:=by rw[<-Hn.o,Ol,List.length_take,aj];have:=hk.o.1;omega
   have hvm:v'=m:=by rw[<-Hm.o,Ol];exact hk.o.2.2
   subst cg;subst hvm;clear Ol;go_wp2
   go_ret2
   exact ⟨rfl,rfl⟩
def bn:List UInt8->List UInt8×Bool
 |[]=>([],false)
 |c::r=>if c=45 then (r,true) else (c::r,false)
theorem lK (s:ByteArray) (a b:Nat):(s.extract a b).data.toList=(s.data.toList.drop a).take (b-a):=by
 rw[ByteArray.data_extract,Array.toList_extract]
theorem eL (s:ByteArray) (a:Nat):(s.extract a s.size).data.toList=s.data.toList.drop a:=by
 rw[lK,List.take_of_length_le (by rw[List.length_drop,aj];exact aBh _)]
theorem iS (s:ByteArray) (a b:Nat):(s.extract a b).size<=s.size:=by
 rw[<-aj,lK,<-aj,List.length_take,List.length_drop];omega
theorem Kd (s:ByteArray) (h:0<s.size):s.data.toList=s[0]::s.data.toList.drop 1:=by
 have:=List.drop_eq_getElem_cons (l:=s.data.toList) (i:=0) (by rw[aj];exact h);rw[List.drop_zero]at this;rw[kh s 0 h];exact this
def bY (l:List UInt8):Bool:=ky l&&(decide (l.head? ≠some 48)||decide (l.length=1))
def numN (l:List UInt8):Nat:=l.foldl (fun n c=>10*n+(c.toNat-48)) 0
theorem JZ (l:List UInt8) (c:UInt8):numN (l++[c])=10*numN l+(c.toNat-48):=by simp[numN]
def fE (l:List UInt8) (c:UInt8):List UInt8×List UInt8×Bool:=
 if l.all (· != c)=true then (l,[],false) else (l.takeWhile (· != c),(l.dropWhile (· != c)).drop 1,true)
def nF (l:List UInt8):Option Int:=
 if bY (bn l).1=false then none
 else if (bn l).2=true then
  if (bn l).1=[48] then none
  else if numN (bn l).1<=9223372036854775808/\0<numN (bn l).1 then some (-(numN (bn l).1:Int)) else none
 else if numN (bn l).1<=9223372036854775807 then some (numN (bn l).1:Int) else none
theorem iq {l:List UInt8} (h:bY l=true):l.all isD=true:=by
 unfold bY ky at h;simp only[Bool.and_eq_true]at h;exact h.1.2
def Ct (RA:Bool) (tail:List UInt8):Option Int:=
 if RA=true then
  if ky (bn tail).1=true/\(bn tail).1.length<=2 then some (if (bn tail).2=true then -(numN (bn tail).1:Int) else (numN (bn tail).1:Int)) else none
 else some 0
def kx (l:List UInt8):Option (Nat×Int×Bool):=
 let m:=bn l
 let c:=fE m.1 101
 let d:=fE c.1 46
 if d.2.2=true/\bY d.1=true/\ky d.2.1=true then
  match Ct c.2.2 c.2.1 with
  |some k=>if numN (d.1++d.2.1)<=999999999999999/\d.2.1.length<=200/\¬Bad (numN (d.1++d.2.1)) (k-(d.2.1.length:Int)) then some (numN (d.1++d.2.1),k-(d.2.1.length:Int),m.2) else none
  |none=>none
 else none
theorem Cy:∀(l:List UInt8) (acc:Nat),l.all isD=true->l.foldl (fun n c=>10*n+(c.toNat-48)) acc<(acc+1)*10 ^ l.length:=by
 intro l
 induction l with
 |nil=>intro acc _;simp
 |cons c r ih=>
  intro acc h;rw[List.all_cons]at h;simp only[Bool.and_eq_true]at h;have h2:=(mh c).1 h.1;have h1:=ih (10*acc+(c.toNat-48)) h.2;rw[List.foldl_cons,aBk,Nat.pow_succ];refine Nat.lt_of_lt_of_le h1 ?_;have h3:10*acc+(c.toNat-48)+1<=(acc+1)*10:=by omega
  generalize 10*acc+(c.toNat-48)+1=z at*;have:=Nat.mul_le_mul_right (10 ^ r.length) h3;rw[Nat.mul_assoc,Nat.mul_comm 10 (10 ^ r.length)]at this;exact this
theorem RM {l:List UInt8} (h:l.all isD=true):numN l<10 ^ l.length:=by
 have:=Cy l 0 h
 simpa[numN] using this
theorem nW {l:List UInt8} (h:ky l=true):l.all isD=true:=by
 unfold ky at h;simp only[Bool.and_eq_true]at h;exact h.2
def mL (x:Nat):Nat:=Op.negFloat .f64 x
theorem GW (x:Nat):∀w,(Op.unary .neg (.float .f64 x)).run Tryz.prog w= .ok (.float .f64 (mL x)) w:=fun _=>rfl
end Go.Proofs.YtfenoaeoedobmaaGreatDoor
namespace Go.Proofs
open Go.Shelf Go.RowKit Go.Sort Go.Lib
def Tryz.laysC174_ren:Go.Shelf.Ren:=⟨fun|174=>154|247=>188|245=>189|287=>209|279=>210|280=>211|281=>212|282=>213|321=>225|322=>226|316=>227|171=>112|205=>228|243=>149|246=>182|283=>200|284=>201|285=>202|286=>203|129=>221|317=>220|318=>222|319=>223|320=>224|337=>231|338=>232|n=>n,fun|9=>9|3=>3|2=>2|75=>164|85=>223|4=>4|167=>261|5=>5|53=>184|175=>262|46=>205|168=>264|37=>42|0=>0|210=>273|21=>21|127=>209|145=>279|143=>277|171=>253|173=>256|212=>268|51=>228|20=>20|213=>269|232=>280|233=>281|80=>167|n=>n,fun|15=>3|16=>4|17=>2|18=>5|19=>6|n=>n⟩
theorem Tryz.laysC174:Go.Proofs.LaysC.n174 Tryz.prog Tryz.laysC174_ren:=by repeat' first|kernel_rfl|(intros;kernel_rfl)|exact fun _=>rfl|decide|constructor
theorem Tryz.strconv_ParseInt_10_at64_ok (s:ByteArray) (CY:s.size<=9223372036854775806) (v:Int) (h:Lib.parseIntB 64 s.data.toList= .ok v) (w:World):
 Calls Tryz.prog 154 #[.string s,.int .i64 10,.int .i64 64] w fun e w'=>e= .returned (.tuple #[.int .i64 v,.nilIface])/\(w'=w\/∃t,w'=Lib.bytesWorld w 5 t):=Any.strconv_ParseInt_10_at64_ok Tryz.laysC174 s CY v h w
theorem Tryz.strconv_ParseInt_10_at64_range (s:ByteArray) (hlim:s.size<=281474976710656) (h:Lib.parseIntB 64 s.data.toList= .range) (ev:Value) (w:World) (hv:w.cell? ⟨4,0,none⟩=some ev) (hev:ev= .nilIface\/∃te pe,ev= .iface te pe):
 Calls Tryz.prog 154 #[.string s,.int .i64 10,.int .i64 64] w fun e w'=>∃N,e= .returned (.tuple #[.int .i64 (Lib.intSat 64 s.data.toList),.iface 264 (.pointer (some ⟨N,0,none⟩))])/\w.heap.size<=N/\w'.heap[N]? =some (.cells #[.string ⟨#[80,97,114,115,101,73,110,116]⟩,.string s,ev] 273 (0,0))/\Below w.heap.size w w':=Any.strconv_ParseInt_10_at64_range Tryz.laysC174 s hlim h ev w hv hev
def Tryz.lays99_ren:Go.Shelf.Ren:=⟨fun|99=>115|206=>153|n=>n,fun|9=>9|4=>4|3=>3|n=>n,fun|n=>n⟩
theorem Tryz.lays99:Go.Proofs.Lays.n99 Tryz.prog Tryz.lays99_ren:=by repeat' first|kernel_rfl|(intros;kernel_rfl)|exact fun _=>rfl|decide|constructor
theorem Tryz.strings_HasPrefix (s p:ByteArray) (w:World):
 Calls Tryz.prog 115 #[.string s,.string p] w fun e w'=>e= .returned (.bool (Lib.hasPrefix s.data.toList p.data.toList))/\w'=w:=Any.strings_HasPrefix Tryz.lays99 s p w
end Go.Proofs
namespace Go.Proofs.YtfenoaeoedobmaaGreatDoor
open Go Go.RowKit
theorem tM:∀(l:List UInt8) (acc:Nat),acc<=l.foldl (fun n c=>10*n+(c.toNat-48)) acc:=by
 intro l
 induction l with
 |nil=>intro acc;exact aBh _
 |cons c r ih=>intro acc;exact aBl (by omega) (ih (10*acc+(c.toNat-48)))
theorem qv (M:Nat) (hM:M<=18446744073709551619):∀(l:List UInt8) (acc:Nat),acc<=M->l.all isD=true->
 Lib.parseUintM M acc l=if l.foldl (fun n c=>10*n+(c.toNat-48)) acc<=M then .ok (l.foldl (fun n c=>10*n+(c.toNat-48)) acc) else .range:=by
 intro l
 induction l with
 |nil=>intro acc h _;simp[Lib.parseUintM,h]
 |cons c r ih=>
  intro acc h hd;rw[List.all_cons]at hd;simp only[Bool.and_eq_true]at hd;have h2:=(mh c).1 hd.1;have mQ:=tM r (10*acc+(c.toNat-48));rw[List.foldl_cons,Lib.parseUintM,if_pos h2,Nat.mul_comm acc 10];by_cases h3:1844674407370955162<=acc
  ·rw[if_pos h3,if_neg];intro q;have:=aBl mQ q;omega
  ·rw[if_neg h3];by_cases h4:M<10*acc+(c.toNat-48)
   ·rw[if_pos h4,if_neg];intro q;have:=aBl mQ q;omega
   ·rw[if_neg h4];exact ih _ (by omega) hd.2
theorem JQ {l:List UInt8} (hd:ky l=true):Lib.parseIntB 64 l=if numN l<=9223372036854775807 then .ok (numN l:Int) else .range:=by
 have hall:=nW hd;cases l with
 |nil=>cases hd
 |cons c r=>
  have hp:=qv (2 ^ 64-1) (by decide) (c::r) 0 (by decide) hall;have hc:isD c=true:=by
   rw[List.all_cons]at hall;simp only[Bool.and_eq_true]at hall;exact hall.1
  have mT:=(mh c).1 hc;have e1:¬(c.toNat=43\/c.toNat=45):=by omega
  have e2:¬c.toNat=45:=by omega
  unfold Lib.parseIntB;simp only[if_neg e1];unfold Lib.parseUintB;rw[if_neg (by simp),hp];rw[show (c::r).foldl (fun n c=>10*n+(c.toNat-48)) 0=numN (c::r) from rfl];generalize numN (c::r)=n;by_cases h1:n<=2 ^ 64-1
  ·rw[if_pos h1];simp only[e2];by_cases h2:n<=9223372036854775807
   ·rw[if_pos h2,if_neg (by simp;omega)];simp
   ·rw[if_neg h2,if_pos (by simp;omega)]
  ·rw[if_neg h1,if_neg (by omega)]
theorem JR {l:List UInt8} (hd:ky l=true):Lib.parseIntB 64 (45::l)=if numN l<=9223372036854775808 then .ok (-(numN l:Int)) else .range:=by
 have hall:=nW hd;cases l with
 |nil=>cases hd
 |cons c r=>
  have hp:=qv (2 ^ 64-1) (by decide) (c::r) 0 (by decide) hall;have e1:((45:UInt8).toNat=43\/(45:UInt8).toNat=45):= .inr rfl;have e2:(45:UInt8).toNat=45:=rfl;unfold Lib.parseIntB;simp only[if_pos e1];unfold Lib.parseUintB;rw[if_neg (by simp),hp];rw[show (c::r).foldl (fun n c=>10*n+(c.toNat-48)) 0=numN (c::r) from rfl];generalize numN (c::r)=n;by_cases h1:n<=2 ^ 64-1
  ·rw[if_pos h1];simp only[e2];by_cases h2:n<=9223372036854775808
   ·rw[if_pos h2,if_neg (by simp),if_neg (by simp;omega)];simp
   ·rw[if_neg h2,if_neg (by simp),if_pos (by simp;omega)]
  ·rw[if_neg h1,if_neg (by omega)]
def AK (l:List UInt8) (below:Bool):Option Int:=
 if below=true then
  if l=[48] then none
  else if numN l<=9223372036854775808 then some (-(numN l:Int)) else none
 else if numN l<=9223372036854775807 then some (numN l:Int) else none
def b8 (kind:Int) (b:Bool) (i:Int) (x:Nat) (s:ByteArray):Value:= .agg #[.int .i64 kind,.bool b,.int .i64 i,.float .f64 x,.string s]
def lR (l:List UInt8) (below:Bool) (w:World) (e:Ending) (w':World):Prop:=
 ∃(i:Int) (ok:Bool),e= .returned (.tuple #[b8 3 false i 0 ⟨#[]⟩,.bool ok])/\Below w.heap.size w w'/\(ok=true/\AK l below=some i\/ok=false/\AK l below=none)
theorem eN {w0 w w':World} {e:TypeId} (h0:Below w0.heap.size w0 w) (h:w'=w\/∃t,w'=Lib.bytesWorld w e t):Below w0.heap.size w0 w':=by
 rcases h with rfl|⟨t,rfl⟩
 ·exact h0
 ·exact h0.trans ((Lib.bytesWorld_below w e t).mono h0.size)
theorem kA {a:Addr} {b:Nat} {m:Mode}:∀w,(store a (.float .f64 b) m).run Tryz.prog w=stored Tryz.prog w a (.float .f64 b) m:=fun w=>run_store Tryz.prog w a _ m rfl
theorem eW {w:World} {a:Addr} {v:Value} (h:w.cell? a=some v):a.block<w.heap.size:=by
 rcases Nat.lt_or_ge a.block w.heap.size with h2|h2
 ·exact h2
 ·rw[World.cell?,Array.getElem?_eq_none h2]at h;cases h
def dW (w:World):Prop:=∃ev,w.cell? ⟨4,0,none⟩=some ev/\(ev= .nilIface\/∃te pe,ev= .iface te pe)
theorem AJ (w:World) (s:ByteArray) (CY:s.size<=2097152) (below:Bool) (hd:ky s.data.toList=true) (hv:dW w):
 Calls Tryz.prog 117 #[.string s,.bool below] w fun e w'=>lR s.data.toList below w e w':=by
 obtain ⟨ev,Ic,Sk⟩:=hv;have Hd:=hid hd;have sI:(⟨4,0,none⟩:Addr).block<w.heap.size:=eW Ic;have cw:= @kA;clear hd;cases below with
 |false=>
  have hp:=JQ Hd.o;have hne:(s.toList==[45,48])=false:=by
   rw[Lib.toList_data];refine beq_eq_false_iff_ne.2 ?_;intro q;have:=Hd.o;rw[q]at this;exact absurd this (by decide)
  by_cases hle:numN s.data.toList<=9223372036854775807
  ·rw[if_pos hle]at hp;have dw:∀(i:Int) w',Below w.heap.size w w'->lR s.data.toList false w (.returned (.tuple #[b8 3 false (numN s.data.toList:Int) 0 ⟨#[]⟩,.bool true])) w':=fun _ w' h=>⟨_,true,rfl,h,.inl ⟨rfl,by unfold AK;rw[if_neg (by decide),if_pos hle]⟩⟩;clear hle;have Hp:=hid (fun w=> Tryz.strconv_ParseInt_10_at64_ok s (by omega) _ hp w);clear hp;go_enter Tryz.func117,Tryz.ntmps117
   go_wp2_with fail
   refine (Hp.o _).mono ?_;rintro e w1 ⟨rfl,hw⟩;have hb:=eN ((aBi _ w).alloc (aBh _) _) hw;have bI:=eN (aBi _ _) hw;have aN:w.heap.size<(w.alloc (Obj.cells #[.int .i64 0,.bool false,.int .i64 0,.float .f64 0,.string ⟨#[]⟩] 91)).heap.size:=by simp
   have f0:=bI.frozen (p:=⟨w.heap.size,0,none⟩) aN;have f1:=bI.frozen (p:=⟨w.heap.size,1,none⟩) aN;have f2:=bI.frozen (p:=⟨w.heap.size,2,none⟩) aN;have f3:=bI.frozen (p:=⟨w.heap.size,3,none⟩) aN;have f4:=bI.frozen (p:=⟨w.heap.size,4,none⟩) aN;have c0:=bI.cell (p:=⟨w.heap.size,0,none⟩) aN;have c1:=bI.cell (p:=⟨w.heap.size,1,none⟩) aN;have c2:=bI.cell (p:=⟨w.heap.size,2,none⟩) aN;have c3:=bI.cell (p:=⟨w.heap.size,3,none⟩) aN
   have c4:=bI.cell (p:=⟨w.heap.size,4,none⟩) aN;simp at f0 f1 f2 f3 f4 c0 c1 c2 c3 c4;clear hw aN bI;go_wp2;refine bodyPost_ret (v:= .tuple #[b8 3 false (numN s.data.toList:Int) 0 ⟨#[]⟩,.bool true]) (by simp[results,Tryz.results117,go_sem,b8,f0,f1,f2,f3,f4,c0,c1,c2,c3,c4]) rfl ?_;exact dw 0 _ (((((hb.setCell (aBh _) _).setCell (aBh _) _).setCell (aBh _) _).setCell (aBh _) _).setCell (aBh _) _)
  ·rw[if_neg hle]at hp;have dw:∀(i:Int) w',Below w.heap.size w w'->lR s.data.toList false w (.returned (.tuple #[b8 3 false i 0 ⟨#[]⟩,.bool false])) w':=fun i w' h=>⟨_,false,rfl,h,.inr ⟨rfl,by unfold AK;rw[if_neg (by decide),if_neg hle]⟩⟩;clear hle;have Hp:=hid (fun w (Ic:w.cell? ⟨4,0,none⟩=some ev)=> Tryz.strconv_ParseInt_10_at64_range s (by omega) hp ev w Ic Sk);clear hp
   go_enter Tryz.func117,Tryz.ntmps117
   go_wp2_with fail
   refine (Hp.o _ ?_).mono ?_
   ·rw[((aBi w.heap.size w).alloc (aBh _) _).cell sI];exact Ic
   rintro e w1 ⟨N,rfl,hN,hob,bI⟩;have hb:=((aBi _ w).alloc (aBh _) _).trans (bI.mono (by simp));have aN:w.heap.size<(w.alloc (Obj.cells #[.int .i64 0,.bool false,.int .i64 0,.float .f64 0,.string ⟨#[]⟩] 91)).heap.size:=by simp
   have f0:=bI.frozen (p:=⟨w.heap.size,0,none⟩) aN;have f1:=bI.frozen (p:=⟨w.heap.size,1,none⟩) aN;have f2:=bI.frozen (p:=⟨w.heap.size,2,none⟩) aN;have f3:=bI.frozen (p:=⟨w.heap.size,3,none⟩) aN;have f4:=bI.frozen (p:=⟨w.heap.size,4,none⟩) aN;have c0:=bI.cell (p:=⟨w.heap.size,0,none⟩) aN;have c1:=bI.cell (p:=⟨w.heap.size,1,none⟩) aN;have c2:=bI.cell (p:=⟨w.heap.size,2,none⟩) aN;have c3:=bI.cell (p:=⟨w.heap.size,3,none⟩) aN
   have c4:=bI.cell (p:=⟨w.heap.size,4,none⟩) aN;simp at f0 f1 f2 f3 f4 c0 c1 c2 c3 c4;clear hN hob aN bI;go_wp2;refine bodyPost_ret (v:= .tuple #[b8 3 false (Lib.intSat 64 s.data.toList) 0 ⟨#[]⟩,.bool false]) (by simp[results,Tryz.results117,go_sem,b8,f0,f1,f2,f3,f4,c0,c1,c2,c3,c4]) rfl ?_;exact dw _ _ (((((hb.setCell (aBh _) _).setCell (aBh _) _).setCell (aBh _) _).setCell (aBh _) _).setCell (aBh _) _)
 |true=>
  have hl:((⟨#[45]⟩:ByteArray)++s).data.toList=45::s.data.toList:=ByteArray.toList_data_append;have gQ:((⟨#[45]⟩:ByteArray)++s).size=s.size+1:=by rw[<-aj,hl,aBk,aj]
  have hp:=JR Hd.o;rw[<-hl]at hp;have hcat:(⟨#[45]⟩:ByteArray).size+s.size<=9223372036854775807:=by
   have:(⟨#[45]⟩:ByteArray).size=1:=rfl;omega
  by_cases hz:s.data.toList=[48]
  ·have hne:(((⟨#[45]⟩:ByteArray)++s).toList==[45,48])=true:=by
    rw[Lib.toList_data,hl,hz];rfl
   have hle:numN s.data.toList<=9223372036854775808:=by rw[hz];decide
   rw[if_pos hle]at hp;have dw:∀(i:Int) w',Below w.heap.size w w'->lR s.data.toList true w (.returned (.tuple #[b8 3 false i 0 ⟨#[]⟩,.bool false])) w':=fun i w' h=>⟨_,false,rfl,h,.inr ⟨rfl,by unfold AK;rw[if_pos rfl,if_pos hz]⟩⟩;clear hle hz hl;have Hp:=hid (fun w=> Tryz.strconv_ParseInt_10_at64_ok (⟨#[45]⟩++s) (by rw[gQ];omega) _ hp w);clear hp;go_enter Tryz.func117,Tryz.ntmps117
   go_wp2_with fail
   refine (Hp.o _).mono ?_;rintro e w1 ⟨rfl,hw⟩;have hb:=eN ((aBi _ w).alloc (aBh _) _) hw;have bI:=eN (aBi _ _) hw;have aN:w.heap.size<(w.alloc (Obj.cells #[.int .i64 0,.bool false,.int .i64 0,.float .f64 0,.string ⟨#[]⟩] 91)).heap.size:=by simp
   have f0:=bI.frozen (p:=⟨w.heap.size,0,none⟩) aN;have f1:=bI.frozen (p:=⟨w.heap.size,1,none⟩) aN;have f2:=bI.frozen (p:=⟨w.heap.size,2,none⟩) aN;have f3:=bI.frozen (p:=⟨w.heap.size,3,none⟩) aN;have f4:=bI.frozen (p:=⟨w.heap.size,4,none⟩) aN;have c0:=bI.cell (p:=⟨w.heap.size,0,none⟩) aN;have c1:=bI.cell (p:=⟨w.heap.size,1,none⟩) aN;have c2:=bI.cell (p:=⟨w.heap.size,2,none⟩) aN;have c3:=bI.cell (p:=⟨w.heap.size,3,none⟩) aN
   have c4:=bI.cell (p:=⟨w.heap.size,4,none⟩) aN;simp at f0 f1 f2 f3 f4 c0 c1 c2 c3 c4;clear hw aN bI;go_wp2;refine bodyPost_ret (v:= .tuple #[b8 3 false (-(numN s.data.toList:Int)) 0 ⟨#[]⟩,.bool false]) (by simp[results,Tryz.results117,go_sem,b8,f0,f1,f2,f3,f4,c0,c1,c2,c3,c4]) rfl ?_;exact dw _ _ (((((hb.setCell (aBh _) _).setCell (aBh _) _).setCell (aBh _) _).setCell (aBh _) _).setCell (aBh _) _)
  ·have hne:(((⟨#[45]⟩:ByteArray)++s).toList==[45,48])=false:=by
    rw[Lib.toList_data,hl];refine beq_eq_false_iff_ne.2 ?_;intro q;exact hz (List.cons.inj q).2
   by_cases hle:numN s.data.toList<=9223372036854775808
   ·rw[if_pos hle]at hp;have dw:∀(i:Int) w',Below w.heap.size w w'->lR s.data.toList true w (.returned (.tuple #[b8 3 false (-(numN s.data.toList:Int)) 0 ⟨#[]⟩,.bool true])) w':=fun i w' h=>⟨_,true,rfl,h,.inl ⟨rfl,by unfold AK;rw[if_pos rfl,if_neg hz,if_pos hle]⟩⟩;clear hle hl;have Hp:=hid (fun w=> Tryz.strconv_ParseInt_10_at64_ok (⟨#[45]⟩++s) (by rw[gQ];omega) _ hp w);clear hp;go_enter Tryz.func117,Tryz.ntmps117
    go_wp2_with fail
    refine (Hp.o _).mono ?_;rintro e w1 ⟨rfl,hw⟩;have hb:=eN ((aBi _ w).alloc (aBh _) _) hw;have bI:=eN (aBi _ _) hw;have aN:w.heap.size<(w.alloc (Obj.cells #[.int .i64 0,.bool false,.int .i64 0,.float .f64 0,.string ⟨#[]⟩] 91)).heap.size:=by simp
    have f0:=bI.frozen (p:=⟨w.heap.size,0,none⟩) aN;have f1:=bI.frozen (p:=⟨w.heap.size,1,none⟩) aN;have f2:=bI.frozen (p:=⟨w.heap.size,2,none⟩) aN;have f3:=bI.frozen (p:=⟨w.heap.size,3,none⟩) aN;have f4:=bI.frozen (p:=⟨w.heap.size,4,none⟩) aN;have c0:=bI.cell (p:=⟨w.heap.size,0,none⟩) aN;have c1:=bI.cell (p:=⟨w.heap.size,1,none⟩) aN;have c2:=bI.cell (p:=⟨w.heap.size,2,none⟩) aN;have c3:=bI.cell (p:=⟨w.heap.size,3,none⟩) aN
    have c4:=bI.cell (p:=⟨w.heap.size,4,none⟩) aN;simp at f0 f1 f2 f3 f4 c0 c1 c2 c3 c4;clear hw aN bI;go_wp2;refine bodyPost_ret (v:= .tuple #[b8 3 false (-(numN s.data.toList:Int)) 0 ⟨#[]⟩,.bool true]) (by simp[results,Tryz.results117,go_sem,b8,f0,f1,f2,f3,f4,c0,c1,c2,c3,c4]) rfl ?_;exact dw 0 _ (((((hb.setCell (aBh _) _).setCell (aBh _) _).setCell (aBh _) _).setCell (aBh _) _).setCell (aBh _) _)
   ·rw[if_neg hle]at hp;have dw:∀(i:Int) w',Below w.heap.size w w'->lR s.data.toList true w (.returned (.tuple #[b8 3 false i 0 ⟨#[]⟩,.bool false])) w':=fun i w' h=>⟨_,false,rfl,h,.inr ⟨rfl,by unfold AK;rw[if_pos rfl,if_neg hz,if_neg hle]⟩⟩;clear hle hl;have Hp:=hid (fun w (Ic:w.cell? ⟨4,0,none⟩=some ev)=> Tryz.strconv_ParseInt_10_at64_range (⟨#[45]⟩++s) (by rw[gQ];omega) hp ev w Ic Sk)
    clear hp;go_enter Tryz.func117,Tryz.ntmps117
    go_wp2_with fail
    refine (Hp.o _ ?_).mono ?_
    ·rw[((aBi w.heap.size w).alloc (aBh _) _).cell sI];exact Ic
    rintro e w1 ⟨N,rfl,hN,hob,bI⟩;have hb:=((aBi _ w).alloc (aBh _) _).trans (bI.mono (by simp));have aN:w.heap.size<(w.alloc (Obj.cells #[.int .i64 0,.bool false,.int .i64 0,.float .f64 0,.string ⟨#[]⟩] 91)).heap.size:=by simp
    have f0:=bI.frozen (p:=⟨w.heap.size,0,none⟩) aN;have f1:=bI.frozen (p:=⟨w.heap.size,1,none⟩) aN;have f2:=bI.frozen (p:=⟨w.heap.size,2,none⟩) aN;have f3:=bI.frozen (p:=⟨w.heap.size,3,none⟩) aN;have f4:=bI.frozen (p:=⟨w.heap.size,4,none⟩) aN;have c0:=bI.cell (p:=⟨w.heap.size,0,none⟩) aN;have c1:=bI.cell (p:=⟨w.heap.size,1,none⟩) aN;have c2:=bI.cell (p:=⟨w.heap.size,2,none⟩) aN;have c3:=bI.cell (p:=⟨w.heap.size,3,none⟩) aN
    have c4:=bI.cell (p:=⟨w.heap.size,4,none⟩) aN;simp at f0 f1 f2 f3 f4 c0 c1 c2 c3 c4;clear hN hob aN bI;go_wp2;refine bodyPost_ret (v:= .tuple #[b8 3 false (Lib.intSat 64 (⟨#[45]⟩++s).data.toList) 0 ⟨#[]⟩,.bool false]) (by simp[results,Tryz.results117,go_sem,b8,f0,f1,f2,f3,f4,c0,c1,c2,c3,c4]) rfl ?_;exact dw _ _ (((((hb.setCell (aBh _) _).setCell (aBh _) _).setCell (aBh _) _).setCell (aBh _) _).setCell (aBh _) _)
theorem sU {l x y:List UInt8} {c:UInt8} (h:fE l c=(x,y,true)):l=x++c::y/\(∀z∈x,(z != c)=true):=by
 unfold fE at h
 split at h
 ·cases h
 ·rename_i hn
  simp only[Prod.mk.injEq,and_true]at h;obtain ⟨rfl,rfl⟩:=h;have e:=List.takeWhile_append_dropWhile (p:=fun x=>x != c) (l:=l);refine ⟨?_,fun z hz=>List.all_eq_true.1 (List.all_takeWhile (p:=fun x=>x != c)) z hz⟩;cases hd:l.dropWhile (fun x=>x != c) with
  |nil=>
   exfalso
   rw[hd,List.append_nil]at e;apply hn;rw[List.all_eq_true];intro z hz;rw[<-e]at hz;exact List.all_eq_true.1 (List.all_takeWhile (p:=fun x=>x != c)) z hz
  |cons q r=>
   have hq:¬(q != c)=true:=by
    have:=List.head?_dropWhile_not (p:=fun x=>x != c) (l:=l);rw[hd]at this
    simpa using this
   have hqc:q=c:=by simpa using hq
   rw[hd]at e
   conv=>lhs;rw[<-e]
   rw[hqc];simp[hd,hqc]
theorem DD {l x y:List UInt8} {c:UInt8} {ok:Bool} (h:fE l c=(x,y,ok)):∃z,l=x++z:=by
 cases ok with
 |true=>exact ⟨_,(sU h).1⟩
 |false=>
  unfold fE at h
  split at h
  ·simp only[Prod.mk.injEq]at h;exact ⟨[],by rw[h.1,List.append_nil]⟩
  ·cases h
theorem Bi {x y:List UInt8} {c:UInt8} (h:∀z∈x,(z != c)=true):fE (x++c::y) c=(x,y,true):=by
 have hn:¬(c != c)=true:=by simp
 unfold fE;rw[if_neg,List.takeWhile_append_of_pos h,List.takeWhile_cons_of_neg (p:=fun x=>x != c) hn,List.dropWhile_append_of_pos h,List.dropWhile_cons_of_neg (p:=fun x=>x != c) hn]
 ·simp
 ·intro q;rw[List.all_eq_true]at q;exact hn (q c (by simp))
theorem zD {l:List UInt8} {c:UInt8} (h:∀z∈l,(z != c)=true):fE l c=(l,[],false):=by
 unfold fE;rw[if_pos (List.all_eq_true.2 h)]
theorem Xb {c e:UInt8} (h:isD c=true) (he:isD e=false):(c != e)=true:=by
 rw[bne_iff_ne];intro q;rw[q,he]at h;cases h
theorem oE {l:List UInt8} {e:UInt8} (h:l.all isD=true) (he:isD e=false):∀z∈l,(z != e)=true:=
 fun z hz=>Xb (List.all_eq_true.1 h z hz) he
theorem IN {l:List UInt8} (h:ky l=true):l≠[]:=by
 rintro rfl;cases h
theorem mY {l:List UInt8} (h:bY l=true):ky l=true:=by
 unfold bY at h;simp only[Bool.and_eq_true]at h;exact h.1
theorem Ga {l:List UInt8} (h:kx l≠none):∃a t,(bn l).1=a++46::t/\bY a=true:=by
 unfold kx at h;simp only at h
 split at h
 ·rename_i hc
  obtain ⟨h1,h2,h3⟩:=hc;have e1:fE (fE (bn l).1 101).1 46=((fE (fE (bn l).1 101).1 46).1,(fE (fE (bn l).1 101).1 46).2.1,true):=by
   rw[<-h1]
  obtain ⟨e2,_⟩:=sU e1;obtain ⟨z,hz⟩:=DD (l:=(bn l).1) (c:=101) (x:=(fE (bn l).1 101).1) (y:=(fE (bn l).1 101).2.1) (ok:=(fE (bn l).1 101).2.2) rfl;refine ⟨(fE (fE (bn l).1 101).1 46).1,(fE (fE (bn l).1 101).1 46).2.1++z,?_,h2⟩
  conv=>lhs;rw[hz,e2]
  simp
 ·exact absurd rfl h
theorem L5 {a t:List UInt8} (h:a.all isD=true):(a++46::t).takeWhile isD=a:=by
 rw[List.takeWhile_append_of_pos (List.all_eq_true.1 h),List.takeWhile_cons_of_neg (by decide),List.append_nil]
theorem sT {l r:List UInt8} {b:Bool} (hm:bn l=(r,b)) (h:¬∃t,r=r.takeWhile isD++46::t/\bY (r.takeWhile isD)=true):kx l=none:=by
 apply Decidable.byContradiction;intro hn;obtain ⟨a,t,e,ha⟩:=Ga hn;rw[hm]at e;simp only at e;apply h;refine ⟨t,?_⟩;rw[e,L5 (iq ha)];exact ⟨rfl,ha⟩
theorem sG {l r:List UInt8} {b:Bool} (hm:bn l=(r,b)) (h:bY r=false):nF l=none:=by
 unfold nF;rw[hm,if_pos h]
theorem Ar:∀(l:List UInt8) (acc:Nat),0<acc->0<l.foldl (fun n c=>10*n+(c.toNat-48)) acc:=fun l acc h=>Nat.lt_of_lt_of_le h (tM l acc)
theorem Nu {l:List UInt8} (h:bY l=true) (h2:l≠[48]):0<numN l:=by
 have hd:=nW (mY h);cases l with
 |nil=>cases h
 |cons c r=>
  rw[List.all_cons]at hd;simp only[Bool.and_eq_true]at hd;have hc:=(mh c).1 hd.1;have hne:c.toNat≠48:=by
   intro q;have OZ:c=48:=UInt8.toNat_inj.1 (by simpa using q);subst OZ;unfold bY at h;simp only[Bool.and_eq_true,Bool.or_eq_true]at h;rcases h.2 with h3|h3
   ·simp at h3
   ·simp at h3;subst h3;exact h2 rfl
  show 0<(c::r).foldl (fun n c=>10*n+(c.toNat-48)) 0
  rw[List.foldl_cons];exact Ar r _ (by omega)
theorem Fx {l r:List UInt8} {b:Bool} (hm:bn l=(r,b)) (h:bY r=true):nF l=AK r b:=by
 unfold nF AK;rw[hm];simp only;rw[if_neg (by simp[h])];cases b with
 |false=>simp
 |true=>
  simp only[if_true];by_cases LK:r=[48]
  ·rw[if_pos LK,if_pos LK]
  ·rw[if_neg LK,if_neg LK];have:=Nu h LK;by_cases hle:numN r<=9223372036854775808
   ·rw[if_pos ⟨hle,this⟩,if_pos hle]
   ·rw[if_neg (fun q=>hle q.1),if_neg hle]
theorem DA {l r:List UInt8} {b:Bool} (hm:bn l=(r,b)) (h:r.all isD=true):kx l=none:=by
 refine sT hm ?_;rintro ⟨t,e,_⟩;rw[kz h]at e;have:=congrArg List.length e;simp at this
theorem oF {l d t x y:List UInt8} {b ok:Bool} (hm:bn l=(d++46::t,b)) (hd:d.all isD=true) (hc:fE t 101=(x,y,ok)):
 kx l=if bY d=true/\ky x=true then
  match Ct ok y with
  |some k=>if numN (d++x)<=999999999999999/\x.length<=200/\¬Bad (numN (d++x)) (k-(x.length:Int)) then some (numN (d++x),k-(x.length:Int),b) else none
  |none=>none
 else none:=by
 have h1:fE (d++46::t) 101=(d++46::x,y,ok):=by
  cases ok with
  |true=>
   obtain ⟨e,hx⟩:=sU hc;have:d++46::t=(d++46::x)++101::y:=by rw[e];simp
   rw[this];refine Bi ?_;intro z hz;rcases List.mem_append.1 hz with hz|hz
   ·exact oE hd (by decide) z hz
   ·rcases List.mem_cons.1 hz with rfl|hz
    ·decide
    ·exact hx z hz
  |false=>
   unfold fE at hc
   split at hc
   ·rename_i hall
    simp only[Prod.mk.injEq,and_true]at hc;obtain ⟨rfl,rfl⟩:=hc;refine zD ?_;intro z hz;rcases List.mem_append.1 hz with hz|hz
    ·exact oE hd (by decide) z hz
    ·rcases List.mem_cons.1 hz with rfl|hz
     ·decide
     ·exact List.all_eq_true.1 hall z hz
   ·cases hc
 have h2:fE (d++46::x) 46=(d,x,true):=Bi (oE hd (by decide));unfold kx;simp only[hm,h1,h2,true_and]<;>rfl
theorem S7 {b:List UInt8} (hb:b.all isD=true):fE b 101=(b,[],false):=zD (oE hb (by decide))
theorem Ug {b v:List UInt8} (hb:b.all isD=true):fE (b++101::v) 101=(b,v,true):=Bi (oE hb (by decide))
theorem IF {b v:List UInt8} {c:UInt8} (hb:b.all isD=true) (hc:isD c=false) (h:c≠101):ky (fE (b++c::v) 101).1=false:=by
 cases hq:ky (fE (b++c::v) 101).1 with
 |false=>rfl
 |true=>
  exfalso
  have hx:=nW hq;have key:∃w,(fE (b++c::v) 101).1=b++c::w:=by
   unfold fE
   split
   ·exact ⟨v,rfl⟩
   ·simp only;rw[List.takeWhile_append_of_pos (oE hb (by decide)),List.takeWhile_cons_of_pos (by simpa using h)];exact ⟨_,rfl⟩
  obtain ⟨w,hw⟩:=key;rw[hw,List.all_append,List.all_cons,hc]at hx;simp at hx
theorem BQ:∀(l:List UInt8) (a b:Nat),a=min b 1000000000000000000->l.foldl (fun m c=>min (m*10+(c.toNat-48)) 1000000000000000000) a=min (l.foldl (fun n c=>10*n+(c.toNat-48)) b) 1000000000000000000:=by
 intro l
 induction l with
 |nil=>intro a b h;exact h
 |cons c r ih=>
  intro a b h;rw[List.foldl_cons,List.foldl_cons];exact ih _ _ (by omega)
theorem zU (l:List UInt8):mZ l=min (numN l) 1000000000000000000:=BQ l 0 0 (by decide)
theorem P4 (l:List UInt8) (k:Int) (n:Nat) (p:Int) (hp:p<=99) (hk:k=p-(n:Int)):Bad (mZ l) k↔¬(numN l<=999999999999999/\n<=200/\¬Bad (numN l) k):=by
 rw[zU];unfold Bad;generalize numN l=x;omega
theorem SB (l:List UInt8) (k:Int) (h:¬Bad (mZ l) k):mZ l=numN l:=by
 rw[zU]at h |-;unfold Bad at h;omega
