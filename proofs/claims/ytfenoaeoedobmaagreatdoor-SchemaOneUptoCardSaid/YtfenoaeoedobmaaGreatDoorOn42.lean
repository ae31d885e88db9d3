/-
Parts of a proof.
-/
import Derived.Lib.ItoaMem
import Derived.BigCall
import Derived.BigGuard
import Derived.Lib.Repeat
import Derived.Test.YtfenoaeoedobmaaGreatDoorOn41
set_option linter.unusedVariables false
set_option linter.unusedSimpArgs false
set_option maxHeartbeats 6400000
set_option maxRecDepth 100000
namespace Go.Proofs.YtfenoaeoedobmaaGreatDoor
open Go Go.RowKit Go.Sort Go.Lib
theorem CV (w:World) (T:TypeId) (nd:Nat) (hs:nd<=24):Holds (fun (b:UInt8)=>Value.int .u8 (b.toNat:Int)) (w.alloc (.cells zeros24 T)) w.heap.size 0 (Array.replicate nd (0:UInt8)):=fun j hj=>by
 have hj':j<nd:=by simpa using hj
 refine ⟨?_,World.frozen?_alloc_new _ _ _ _⟩;rw[World.cell?_alloc_new,zeros24_at _ (by omega),getElem!_pos _ j hj];simp
theorem fin0 (w:World) (o:Obj) (dk:Array UInt8) (k:Nat):∃os,(putRow (fun (b:UInt8)=>Value.int .u8 (b.toNat:Int)) (w.alloc o) w.heap.size 0 dk).drewN k=grow (w.drewN k) os:=by
 rw[alloc_eq_grow];obtain ⟨os',_,e⟩:=putRow_grow_new (fun (b:UInt8)=>Value.int .u8 (b.toNat:Int)) w #[o] w.heap.size 0 dk (aBh _);exact ⟨os',by rw[e];rfl⟩
theorem pP (w:World) (k:Nat) (os:Array Obj):Below w.heap.size w (grow (w.drewN k) os):=by
 refine ⟨rfl,rfl,rfl,?_,fun i hi=> ?_⟩
 ·show w.heap.size<=(w.heap++os).size
  rw[Array.size_append];omega
 ·show (w.heap++os)[i]? =w.heap[i]?
  rw[Array.getElem?_append_left hi]
theorem ym (u:Nat) (h1:u<18446744073709551616) (w:World) (nG:Lib.TabIs Tryz.prog w "internal/strconv.uint64pow10" .u64 Lib.pow10Tab):
 Calls Tryz.prog 208 #[.int .u64 u,.int .i64 10] w fun e w'=>e= .returned (.string ⟨(Lib.decDigits u).toArray⟩)/\Below w.heap.size w w':=by
 by_cases hs:u<100
 ·have Hs:=hid (Tryz.internal_strconv_small u hs w);have n1:(u:Int)<100:=by omega
  have n2:IntKind.i64.wrap (u:Int)=(u:Int):=by rw[IntKind.wrap_i64];omega
  clear h1;go_enter Tryz.func208,Tryz.ntmps208
  go_wp2_with fail
  refine Hs.o.mono ?_;rintro e w1 ⟨rfl,hw⟩;obtain rfl:=hw.symm;go_wp2;go_ret;exact ⟨rfl,aBi _ _⟩
 ·have hu1:1<=u:=by omega
  have hnd20:Lib.nDigits u<=20:=by have:=Lib.numDigits_eq u hu1 h1;split at this<;>omega
  have hal: Tryz.prog.arrayLen 253 =24:=by simp[Program.arrayLen,Tryz.underlying253]
  have hsl1:∀W,(Instr.sliceAt 253 (.pointer (some ⟨w.heap.size,0,none⟩)) none (some (.int .i64 (Lib.nDigits u:Int))) none).run Tryz.prog W= .ok (.slice (some ⟨w.heap.size,0,none⟩) (Lib.nDigits u) 24) W:=fun W=>by
   rw[run_sliceAt_array_h W 253 ⟨w.heap.size,0,none⟩ (by simp[Program.arrayLen,Program.elem,Tryz.underlying253]) .i64 (Lib.nDigits u:Int) (by omega) (by rw[hal];omega)];go_simp
  have hH0:=CV w 253 (Lib.nDigits u) (by omega);have Ww:= Tryz.internal_strconv_formatBase10 w.heap.size 0 24 u (Array.replicate (Lib.nDigits u) 0) (w.alloc (.cells Lib.zeros24 253)) hH0 (by rw[Array.size_replicate];exact Lib.lt_pow_nDigits u) h1 (by rw[Array.size_replicate];omega);rw[Array.size_replicate]at Ww;have HH0:=hid hH0;have Hfmt:=hid Ww;have Hnd:=hid (Tryz.internal_strconv_numDigits u hu1 h1 (w.alloc (.cells Lib.zeros24 253)) (Lib.tabIs_alloc nG _))
  have n1:¬(u:Int)<100:=by omega
  clear hH0 hal Ww nG h1 hs;go_enter Tryz.func208,Tryz.ntmps208
  go_wp2_with fail
  refine Hnd.o.mono ?_;rintro e w1 ⟨rfl,hw⟩;obtain rfl:=hw.symm
  go_wp2_with fail
  refine Hfmt.o.mono ?_;rintro e w' ⟨rfl,k,v',dk,rfl,hF⟩;have BF:(convert 42 9 (.slice (some ⟨w.heap.size,0,none⟩) (Lib.nDigits u) 24)).run Tryz.prog ((putRow (fun (b:UInt8)=>Value.int .u8 (b.toNat:Int)) (w.alloc (.cells Lib.zeros24 253)) w.heap.size 0 dk).drewN k)= .ok (.string ⟨(Lib.decDigits u).toArray⟩) ((putRow (fun (b:UInt8)=>Value.int .u8 (b.toNat:Int)) (w.alloc (.cells Lib.zeros24 253)) w.heap.size 0 dk).drewN k):=by
   have h:=run_convert_bytes_back (P:= Tryz.prog) ((putRow (fun (b:UInt8)=>Value.int .u8 (b.toNat:Int)) (w.alloc (.cells Lib.zeros24 253)) w.heap.size 0 dk).drewN k) 42 9 5 ⟨w.heap.size,0,none⟩ 24 (Lib.decDigits u) Tryz.underlying42 Tryz.underlying5 Tryz.underlying9 (fun j hj=>by
    rw[Lib.row_is_numeral hF j hj,Lib.add_plain,World.cell?_drewN];exact cell?_putRow (fun (b:UInt8)=>Value.int .u8 (b.toNat:Int)) _ w.heap.size 0 _ dk HH0.o (by rw[hF.size,Array.size_replicate]) j (by rw[hF.size];rw[Lib.decDigits_length]at hj;exact hj))
   rw[Lib.decDigits_length]at h;exact h
  obtain ⟨os,eo⟩:=fin0 w (.cells Lib.zeros24 253) dk k;have hB:=pP w k os;rw[<-eo]at hB;clear eo hF;go_wp2;go_ret;exact ⟨rfl,hB⟩
theorem uJ (u:Nat) (h1:u<18446744073709551616) (w:World) (nG:Lib.TabIs Tryz.prog w "internal/strconv.uint64pow10" .u64 Lib.pow10Tab):
 Calls Tryz.prog 187 #[.int .u64 u,.int .i64 10] w fun e w'=>e= .returned (.string ⟨(Lib.decDigits u).toArray⟩)/\Below w.heap.size w w':=by
 have Hs:=hid (ym u h1 w nG);clear h1 nG;go_enter Tryz.func187,Tryz.ntmps187
 go_wp2_with fail
 refine Hs.o.mono ?_;rintro e w1 ⟨rfl,hb⟩;go_wp2;go_ret;exact ⟨rfl,hb⟩
end Go.Proofs.YtfenoaeoedobmaaGreatDoor
namespace Go.Proofs.YtfenoaeoedobmaaGreatDoor
open Go Go.RowKit
theorem Rl {r:Nat} (h:r<=INF):(FloatKind.f64.format.order r r==some .eq)=true:=by
 rcases Nat.lt_or_eq_of_le h with h|rfl
 ·rw[xn h h,dT rfl]
 ·decide+kernel
theorem iz:∀(k u:Nat),u<10 ^ (k+1)->Lib.nDigits u<=k+1:=by
 intro k
 induction k with
 |zero=>intro u h;rw[Lib.nDigits_small (by simpa using h)];exact aBh _
 |succ k ih=>
  intro u h;by_cases hs:u<10
  ·rw[Lib.nDigits_small hs];omega
  ·rw[Lib.nDigits_big hs];have:u / 10<10 ^ (k+1):=by
    rw[Nat.div_lt_iff_lt_mul (by decide)];rw[Nat.pow_succ]at h;exact h
   have:=ih _ this;omega
def gx (M:Nat) (k:Int):List UInt8:=
 if 0<=k then
  if (Lib.nDigits M:Int)+k+1<=15 then Lib.decDigits M++List.replicate k.toNat 48++[46,48]
  else (Lib.decDigits M).take 1++[46]++(if Lib.nDigits M=1 then [48] else (Lib.decDigits M).drop 1)++[101]++Lib.decDigits (k+(Lib.nDigits M:Int)-1).toNat
 else
  (List.replicate (1-k-(Lib.nDigits M:Int)).toNat 48++Lib.decDigits M).take ((max (1-k) (Lib.nDigits M:Int))+k).toNat++[46]++
   (List.replicate (1-k-(Lib.nDigits M:Int)).toNat 48++Lib.decDigits M).drop ((max (1-k) (Lib.nDigits M:Int))+k).toNat
def mq (x:Nat):Nat:=if 9223372036854775808<=x then mL x else x
def tG (x:Nat):ByteArray:=if 9223372036854775808<=x then ⟨#[45]⟩ else ⟨#[]⟩
def ng (x:Nat):List UInt8:=if 9223372036854775808<=x then [45] else []
theorem Es (x:Nat):(tG x).data.toList=ng x:=by
 unfold tG ng;split<;>rfl
theorem Er (x:Nat):(tG x).size<=1:=by
 unfold tG;split
 ·exact aBh _
 ·exact Nat.zero_le _
theorem Au {x:Nat} (h1:9223372036854775808<=x) (h2:x<18446744073709551616):mL x=x-9223372036854775808:=by
 unfold mL Op.negFloat
 show x ^^^ 2 ^ 63=x-9223372036854775808
 have e:x=2 ^ 63+(x-9223372036854775808):=by omega
 have hy:x-9223372036854775808<2 ^ 63:=by omega
 generalize x-9223372036854775808=y at*;subst e;apply Nat.eq_of_testBit_eq;intro i;rw[Nat.testBit_xor,Nat.testBit_two_pow];by_cases hi:63=i
 ·subst hi;rw[Nat.testBit_lt_two_pow hy];rw[Nat.testBit_two_pow_add_eq,Nat.testBit_lt_two_pow hy];rfl
 ·rcases Nat.lt_or_gt_of_ne hi with h|h
  ·have h3:y<2 ^ i:=Nat.lt_of_lt_of_le hy (Nat.pow_le_pow_right (by decide) (Nat.le_of_lt h));have h4:2 ^ 63+y<2 ^ i:=by
    have:2 ^ 64<=2 ^ i:=Nat.pow_le_pow_right (by decide) h;omega
   rw[Nat.testBit_lt_two_pow h3,Nat.testBit_lt_two_pow h4];simp[hi]
  ·rw[Nat.testBit_two_pow_add_gt h];simp[hi]
theorem Tg {x:Nat} (h:x<18446744073709551616):mq x<9223372036854775808:=by
 unfold mq
 split
 ·rename_i h1
  rw[Au h1 h];omega
 ·omega
theorem Aa (w:World) (x:Nat) (hx:x<18446744073709551616):Calls Tryz.prog 184 #[.float .f64 x] w fun e w'=>e= .returned (.bool (decide (9223372036854775808<=x)))/\w'=w:=by
 have hb:=DM x;by_cases h:9223372036854775808<=x
 ·have h1:IntKind.i64.wrap (x:Int)=(x:Int)-18446744073709551616:=by rw[IntKind.wrap_i64];omega
  have h2:(x:Int)-18446744073709551616<0:=by omega
  rw[dT h];clear h hx;go_enter Tryz.func184,Tryz.ntmps184;go_wp2;go_ret;exact ⟨rfl,rfl⟩
 ·have h1:IntKind.i64.wrap (x:Int)=(x:Int):=by rw[IntKind.wrap_i64];omega
  have h2:¬(x:Int)<0:=by omega
  rw[dF h];clear h hx;go_enter Tryz.func184,Tryz.ntmps184;go_wp2;go_ret;exact ⟨rfl,rfl⟩
def o8 (x:Nat) (l:List UInt8) (er:Int):Prop:=
 (INF<mq x/\l=[46,110,97,110]/\er=0)\/
 (mq x=INF/\l=ng x++[46,105,110,102]/\er=0)\/
 (mq x=0/\l=ng x++[48,46,48]/\er=0)\/
 (mq x<INF/\0<mq x/\∃M k e,Dec (mq x) M k e/\(e=2/\l=[]/\er=2\/e=0/\l=ng x++gx M k/\er=0))
def xK (x:Nat) (w:World) (e:Ending) (w':World):Prop:=
 ∃(s:ByteArray) (er:Int),e= .returned (.tuple #[.string s,.int .i64 er])/\Below w.heap.size w w'/\o8 x s.data.toList er
theorem J7 {y:Nat} (h1:INF<y) (h2:y<9223372036854775808):FloatKind.f64.format.order y y=none:=by
 have hr:∃f,Ieee.double.read y= .nan false f:=by
  refine ⟨y-INF,?_⟩;unfold Ieee.Format.read;rw[xF,rq,mI];have e1:y % 9223372036854775808=y:=Nat.mod_eq_of_lt h2;have e2:(y / 9223372036854775808 % 2==1)=false:=by
   have:y / 9223372036854775808=0:=Nat.div_eq_of_lt h2;rw[this];rfl
  unfold INF at*;simp only[e1,e2];rw[if_neg (by omega),if_neg (by omega),if_neg (by omega)]
 obtain ⟨f,hf⟩:=hr
 show Ieee.double.order y y=none
 unfold Ieee.Format.order;rw[hf];rfl
theorem Qp {y:Nat} (h:0<y):0<FV y:=by
 unfold FV
 split
 ·exact h
 ·exact Nat.mul_pos (by omega) (Nat.two_pow_pos _)
theorem VW {y:Nat} (h:y<INF):(FloatKind.f64.format.order y 9218868437227405311==some .gt)=false:=by
 rw[It h (by decide),dF (Nat.not_lt.2 (zN h))]
theorem Sol.bounds {x M:Nat} {k:Int} (h:Sol x k M):1<=M/\Lib.nDigits M<=15:=
 ⟨h.1,iz 14 M h.2.1⟩
abbrev Tab (w:World):Prop:=Lib.TabIs Tryz.prog w "internal/strconv.uint64pow10" .u64 Lib.pow10Tab
theorem e8 {a b:ByteArray} (ha:a.size<=1000) (hb:b.size<=1000):a.size+b.size<=9223372036854775807:=by omega
theorem bM (a b:ByteArray):(a++b).size=a.size+b.size:=by
 have h:(a++b).data.toList=a.data.toList++b.data.toList:=ByteArray.toList_data_append;rw[<-aj,h,aBj,aj,aj]
theorem eg (a b:ByteArray):(a++b).data.toList=a.data.toList++b.data.toList:=ByteArray.toList_data_append
theorem nj (n:Nat):Lib.repeatL [48] n=List.replicate n 48:=by
 induction n with
 |zero=>rfl
 |succ n ih=>rw[List.replicate_succ,Lib.repeatL,ih];rfl
theorem Ck (w:World) (x:Nat) (hx:x<18446744073709551616) (nG:Tab w):
 Calls Tryz.prog 152 #[.float .f64 x] w fun e w'=>xK x w e w':=by
 obtain ⟨b,hb⟩:=ex (decide (9223372036854775808<=x));have hsb:=Aa w x hx;rw[<-hb]at hsb;have Hsb:=hid hsb;have Hb:=hid hb;clear hsb hb;have hy:=Tg hx;have Tm:=hid nG;have hng:=GW x;clear nG;go_enter Tryz.func152,Tryz.ntmps152
 go_wp2_with fail
 refine Hsb.o.mono ?_;rintro e w1 ⟨rfl,hw⟩;obtain rfl:=hw.symm;clear Hsb
 go_upto_if 12 with (fail)
 go_cut [0,4] from 11 (fun s0 s4 L0=>s0= .float .f64 (mq x)/\s4= .string (tG x)/\L0=w)
 case first=>
  cases b with
  |true=>
   have h:=of_decide_eq_true Hb.o.symm;have h2:mq x=mL x:=if_pos h;have h3:tG x=⟨#[45]⟩:=if_pos h;clear h hx hy;go_wp2
   go_meet
   case rel=>exact ⟨by rw[h2],by rw[h3],(by first|rfl|trivial)⟩
  |false=>
   have h:=of_decide_eq_false Hb.o.symm;have h2:mq x=x:=if_neg h;have h3:tG x=⟨#[]⟩:=if_neg h;clear h hx hy;go_wp2
   go_meet
   case rel=>exact ⟨by rw[h2],by rw[h3],(by first|rfl|trivial)⟩
 case rest=>
  obtain ⟨rfl,rfl,hw⟩:=hcut;obtain rfl:=hw.symm;have gQ:=Er x;have jg:=Es x;have hR:∀(s:ByteArray) er w',Below w.heap.size w w'->o8 x s.data.toList er->xK x w (.returned (.tuple #[.string s,.int .i64 er])) w':=fun s er w' h1 h2=>⟨s,er,rfl,h1,h2⟩;unfold o8 at hR;generalize tG x=sg at*;generalize ng x=sl at*;generalize hyy:mq x=y at*;have HR:=hid hR;have Ul:=hid jg
  clear hR hyy hng hx jg;rcases Nat.lt_trichotomy y INF with aN|rfl|hgt
  ·have e1:(FloatKind.f64.format.order y y != some .eq)=false:=by rw[bne,Rl (Nat.le_of_lt aN)];rfl
   have Hi:=hid (pF w y _ (VW aN));by_cases h0:y=0
   ·subst h0;have e2:(FloatKind.f64.format.order 0 0==some .eq)=true:=by decide+kernel
    have hc:=e8 (a:=sg) (b:=⟨#[48,46,48]⟩) (by omega) (by decide);clear aN hy
    go_wp2_with fail
    refine Hi.o.mono ?_;rintro e w1 ⟨rfl,hw⟩;obtain rfl:=hw.symm;go_wp2
    go_ret2
    exact HR.o (sg++⟨#[48,46,48]⟩) 0 w (aBi _ _) (.inr (.inr (.inl ⟨(by first|rfl|trivial),by rw[eg,Ul.o],rfl⟩)))
   ·have xd:0<y:=by omega
    have e2:(FloatKind.f64.format.order y 0==some .eq)=false:=by
     rw[xn aN (by decide),Bx,dF];have:=Qp xd;omega
    have Hd:=hid (Bf w y aN (Qp xd));have Hc:=hid (And.intro aN xd);clear h0 xd aN hy
    go_wp2_with fail
    refine Hi.o.mono ?_;rintro e w1 ⟨rfl,hw⟩;obtain rfl:=hw.symm;clear Hi
    go_wp2_with fail
    refine Hd.o.mono ?_;rintro e w1 ⟨M,k,er,rfl,hw,C3⟩;obtain rfl:=hw.symm;clear Hd;rcases C3 with ⟨rfl,k1,k2,qN,lG⟩|⟨rfl,rfl,rfl,lG⟩
    ·have C3:Dec y M k 0:= .inl ⟨rfl,k1,k2,qN,lG⟩;have XD:=hid C3;obtain ⟨m1,m2⟩:=qN.bounds;have hM64:M<18446744073709551616:=Nat.lt_trans qN.2.1 (by decide);obtain ⟨ds,pJ⟩:∃ds:ByteArray,ds=⟨(Lib.decDigits M).toArray⟩:=⟨_,rfl⟩;have Hf:=hid (uJ M hM64 w Tm.o);rw[<-pJ]at Hf;have AT:ds.data.toList=Lib.decDigits M:=by rw[pJ]
     have BE:ds.size=Lib.nDigits M:=by rw[<-aj,AT,Lib.decDigits_length]
     have d1:1<=ds.size:=by rw[BE];exact Lib.nDigits_pos M
     have d2:ds.size<=15:=by omega
     have dw:∀(s:ByteArray) w',Below w.heap.size w w'->s.data.toList=sl++gx M k->xK x w (.returned (.tuple #[.string s,.int .i64 0])) w':=fun s w' h1 h2=>
      HR.o s 0 w' h1 (.inr (.inr (.inr ⟨Hc.o.1,Hc.o.2,M,k,0,C3,.inr ⟨rfl,h2,rfl⟩⟩)))
     have pV:=hid dw;have Hdl:=hid AT;have Yo:=hid BE;clear C3 lG qN hM64 pJ AT BE dw HR XD m2
     go_wp2_with fail
     refine Hf.o.mono ?_;rintro e w1 ⟨rfl,bG⟩;clear Hf;by_cases h0:0<=k
     ·obtain ⟨kn,rfl⟩:∃kn:Nat,k=(kn:Int):=⟨k.toNat,by omega⟩;by_cases hs:(ds.size:Int)+(kn:Int)+1<=15
      ·have Hr:=hid (Tryz.strings_Repeat ⟨#[48]⟩ kn w1 (by omega) (by show 1*kn<=_;omega));obtain ⟨rs,We⟩:∃rs:ByteArray,rs=⟨(Lib.repeatL (⟨#[48]⟩:ByteArray).data.toList kn).toArray⟩:=⟨_,rfl⟩;rw[<-We]at Hr;have zm:rs.data.toList=List.replicate kn 48:=by rw[We];exact nj kn
       have hrn:rs.size<=22:=by rw[<-aj,zm,List.length_replicate];omega
       have Hrl:=hid zm;clear We zm;have c1:=e8 (a:=sg) (b:=ds) (by omega) (by omega);have c2:=e8 (a:=sg++ds) (b:=rs) (by rw[bM];omega) (by omega);have c3:=e8 (a:=sg++ds++rs) (b:=⟨#[46,48]⟩) (by rw[bM,bM];omega) (by decide);have Hs:=hid hs;have kQ:=hid bG;clear bG
       go_wp2_with fail
       refine Hr.o.mono ?_;rintro e w2 ⟨rfl,bI⟩;clear Hr;have ie:=hid bI;clear bI;go_wp2
       go_ret2
       refine pV.o _ _ (kQ.o.trans (ie.o.mono kQ.o.size)) ?_;rw[eg,eg,eg,Ul.o,Hdl.o,Hrl.o];unfold gx;rw[if_pos (by omega),if_pos (by rw[<-Yo.o];exact Hs.o)];simp
      ·obtain ⟨p,hp⟩:∃p:Nat,p=kn+ds.size-1:=⟨_,rfl⟩;have hpi:(kn:Int)+(ds.size:Int)-1=(p:Int):=by omega
       have gP:IntKind.i64.wrap ((kn:Int)+(ds.size:Int))=(kn:Int)+(ds.size:Int):=by rw[IntKind.wrap_i64];omega
       have Qs:IntKind.i64.wrap ((kn:Int)+(ds.size:Int)-1)=(p:Int):=by rw[IntKind.wrap_i64];omega
       have hi:=fun w1=> Tryz.strconv_Itoa_small p (by omega) w1;obtain ⟨ps,Zy⟩:∃ps:ByteArray,ps=⟨(Lib.decDigits p).toArray⟩:=⟨_,rfl⟩;rw[<-Zy]at hi;have X7:ps.data.toList=Lib.decDigits p:=by rw[Zy]
       have Oz:ps.size<=2:=by rw[<-aj,X7,Lib.decDigits_length];exact iz 1 p (by omega)
       have Hi2:=hid hi;have mW:=hid X7;have Hp:=hid hp;have Hpi:=hid hpi;have x1:=iS ds 0 1;have x2:=iS ds 1 ds.size;have xl1:(ds.extract 0 1).data.toList=(Lib.decDigits M).take 1:=by rw[lK,Hdl.o];rfl
       have xl2:(ds.extract 1 ds.size).data.toList=(Lib.decDigits M).drop 1:=by rw[eL,Hdl.o]
       have Hxl1:=hid xl1;have Hxl2:=hid xl2;have Hs:=hid hs;have kQ:=hid bG;clear hi Zy X7 hp hpi xl1 xl2 bG;have d1':(1:Int)<=(ds.size:Int):=by omega
       have TW:∀(rest:ByteArray),rest.data.toList=(if Lib.nDigits M=1 then [48] else (Lib.decDigits M).drop 1)->(sg++ds.extract 0 1++⟨#[46]⟩++rest++⟨#[101]⟩++ps).data.toList=sl++gx M kn:=by
        intro rest hr;rw[eg,eg,eg,eg,eg,Ul.o,Hxl1.o,hr,mW.o];unfold gx;rw[if_pos (show (0:Int)<=(kn:Int) by omega),if_neg (show ¬(Lib.nDigits M:Int)+(kn:Int)+1<=15 by rw[<-Yo.o];exact Hs.o),<-Yo.o,Hp.o];have:(kn+ds.size-1:Nat)=((kn:Int)+(ds.size:Int)-1).toNat:=by omega
        rw[this];simp
       have Um:=hid TW;clear TW;by_cases oB:ds.size=1
       ·have g1:((ds.size:Int)==1)=true:=by simp;omega
        have c1:=e8 (a:=sg) (b:=ds.extract 0 1) (by omega) (by omega);have c2:=e8 (a:=sg++ds.extract 0 1) (b:=⟨#[46]⟩) (by rw[bM];omega) (by decide);have c3:=e8 (a:=sg++ds.extract 0 1++⟨#[46]⟩) (b:=⟨#[48]⟩) (by rw[bM,bM];show _+_+1<=1000;omega) (by decide);have c4:=e8 (a:=sg++ds.extract 0 1++⟨#[46]⟩++⟨#[48]⟩) (b:=⟨#[101]⟩) (by rw[bM,bM,bM];show _+_+1+1<=1000;omega) (by decide)
        have c5:=e8 (a:=sg++ds.extract 0 1++⟨#[46]⟩++⟨#[48]⟩++⟨#[101]⟩) (b:=ps) (by rw[bM,bM,bM,bM];show _+_+1+1+1<=1000;omega) (by omega);have Hn1:=hid oB;clear oB
        go_wp2_with fail
        go_quiet (exact Calls.quiet_of_same (Hi2.o _));clear Hi2;go_wp2
        go_ret2
        refine pV.o _ _ (kQ.o.trans ⟨rfl,rfl,rfl,aBh _,fun _ _=>rfl⟩) (Um.o _ ?_);rw[<-Yo.o,if_pos Hn1.o]
       ·have g1:((ds.size:Int)==1)=false:=by simp;omega
        have c1:=e8 (a:=sg) (b:=ds.extract 0 1) (by omega) (by omega);have c2:=e8 (a:=sg++ds.extract 0 1) (b:=⟨#[46]⟩) (by rw[bM];omega) (by decide);have c3:=e8 (a:=sg++ds.extract 0 1++⟨#[46]⟩) (b:=ds.extract 1 ds.size) (by rw[bM,bM];show _+_+1<=1000;omega) (by omega);have c4:=e8 (a:=sg++ds.extract 0 1++⟨#[46]⟩++ds.extract 1 ds.size) (b:=⟨#[101]⟩) (by rw[bM,bM,bM];show _+_+1+_<=1000;omega) (by decide)
        have c5:=e8 (a:=sg++ds.extract 0 1++⟨#[46]⟩++ds.extract 1 ds.size++⟨#[101]⟩) (b:=ps) (by rw[bM,bM,bM,bM];show _+_+1+_+1<=1000;omega) (by omega);have Hn1:=hid oB;clear oB
        go_wp2_with fail
        go_quiet (exact Calls.quiet_of_same (Hi2.o _));clear Hi2;go_wp2
        go_ret2
        refine pV.o _ _ (kQ.o.trans ⟨rfl,rfl,rfl,aBh _,fun _ _=>rfl⟩) (Um.o _ ?_);rw[<-Yo.o,if_neg Hn1.o,Hxl2.o]
     ·have uH:k<0:=by omega
      have eP:¬(0<=k):=h0;obtain ⟨z,hz⟩:∃z,z=(1-k-(ds.size:Int)).toNat:=⟨_,rfl⟩;obtain ⟨q,hq⟩:∃q,q=(max (1-k) (ds.size:Int)+k).toNat:=⟨_,rfl⟩;have Hr:=hid (Tryz.strings_Repeat ⟨#[48]⟩ z w1 (by omega) (by show 1*z<=_;omega));obtain ⟨rs,We⟩:∃rs:ByteArray,rs=⟨(Lib.repeatL (⟨#[48]⟩:ByteArray).data.toList z).toArray⟩:=⟨_,rfl⟩;rw[<-We]at Hr;have zm:rs.data.toList=List.replicate z 48:=by rw[We];exact nj z
      have hrz:rs.size=z:=by rw[<-aj,zm,List.length_replicate]
      have hrn:rs.size<=22:=by omega
      have uD:(z:Int)=max (1-k-(ds.size:Int)) 0:=by omega
      rw[uD]at Hr;have gP:IntKind.i64.wrap (1-k-(ds.size:Int))=1-k-(ds.size:Int):=by rw[IntKind.wrap_i64];omega
      have hSs:(rs++ds).size=z+ds.size:=by rw[bM,hrz]
      have c0:=e8 (a:=rs) (b:=ds) (by omega) (by omega);have Qs:IntKind.i64.wrap (((rs++ds).size:Int)+k)=(q:Int):=by rw[IntKind.wrap_i64,hSs];omega
      have hq1:q<=(rs++ds).size:=by omega
      have X6:(q:Int)<=((rs++ds).size:Int):=by omega
      have CT:(0:Int)<=(q:Int):=by omega
      have LG:(rs++ds).size<=40:=by omega
      have hSl:(rs++ds).data.toList=List.replicate z 48++Lib.decDigits M:=by rw[eg,zm,Hdl.o]
      have jA:((rs++ds).extract 0 q).data.toList=(List.replicate z 48++Lib.decDigits M).take q/\((rs++ds).extract q (rs++ds).size).data.toList=(List.replicate z 48++Lib.decDigits M).drop q:=by
       rw[lK,eL,hSl];exact ⟨rfl,rfl⟩
      have x1:=iS (rs++ds) 0 q;have x2:=iS (rs++ds) q (rs++ds).size;have Tr:=hid jA;have Hz:=hid hz;have Hq:=hid hq;have kQ:=hid bG;clear We zm hrz bG uD hz hq jA hSl hSs
      go_wp2_with fail
      refine Hr.o.mono ?_;rintro e w2 ⟨rfl,bI⟩;clear Hr gP;have ie:=hid bI;clear bI;go_wp2;generalize rs++ds=S at*;have c1:=e8 (a:=sg) (b:=S.extract 0 q) (by omega) (by omega);have c2:=e8 (a:=sg++S.extract 0 q) (b:=⟨#[46]⟩) (by rw[bM];omega) (by decide);have c3:=e8 (a:=sg++S.extract 0 q++⟨#[46]⟩) (b:=S.extract q S.size) (by rw[bM,bM];show _+_+1<=1000;omega) (by omega)
      go_quiet (fail);go_wp2
      go_ret2
      refine pV.o _ _ ((kQ.o.trans (ie.o.mono kQ.o.size)).trans ⟨rfl,rfl,rfl,aBh _,fun _ _=>rfl⟩) ?_;rw[eg,eg,eg,Ul.o,Tr.o.1,Tr.o.2];unfold gx;rw[if_neg (show ¬0<=k by omega),<-Yo.o,<-Hz.o,<-Hq.o];simp
    ·have C3:Dec y 0 0 2:= .inr ⟨rfl,rfl,rfl,lG⟩;have XD:=hid C3;clear C3 lG;go_wp2
     go_ret2
     exact HR.o ⟨#[]⟩ 2 w (aBi _ _) (.inr (.inr (.inr ⟨Hc.o.1,Hc.o.2,0,0,2,XD.o,.inl ⟨rfl,rfl,rfl⟩⟩)))
  ·have e1:(FloatKind.f64.format.order INF INF != some .eq)=false:=by decide+kernel
   have Hi:=hid (pF w INF true (by decide+kernel));have hc:=e8 (a:=sg) (b:=⟨#[46,105,110,102]⟩) (by omega) (by decide);clear hy
   go_wp2_with fail
   refine Hi.o.mono ?_;rintro e w1 ⟨rfl,hw⟩;obtain rfl:=hw.symm;go_wp2
   go_ret2
   exact HR.o (sg++⟨#[46,105,110,102]⟩) 0 w (aBi _ _) (.inr (.inl ⟨(by first|rfl|trivial),by rw[eg,Ul.o],rfl⟩))
  ·have e1:(FloatKind.f64.format.order y y != some .eq)=true:=by rw[J7 hgt hy];rfl
   have Hg:=hid hgt;clear hgt hy;go_wp2
   go_ret2
   exact HR.o ⟨#[46,110,97,110]⟩ 0 w (aBi _ _) (.inl ⟨Hg.o,rfl,rfl⟩)
def Qc (v:Val) (l:List UInt8) (q:Bool) (er:Int):Prop:=
 (v.kind=1/\l=[110,117,108,108]/\q=false/\er=0)\/
 (v.kind=2/\l=(if v.bool=true then [116,114,117,101] else [102,97,108,115,101])/\q=false/\er=0)\/
 (v.kind=3/\l=Lib.itoa v.int/\q=false/\er=0)\/
 (v.kind=4/\o8 v.real l er/\q=false)\/
 (v.kind=5/\l=v.text.data.toList/\q=((aZ v.text false).kind != 5)/\er=0)\/
 ((v.kind<1\/5<v.kind)/\l=[]/\q=false/\er=2)
def tf (v:Val) (w:World) (e:Ending) (w':World):Prop:=
 ∃(s:ByteArray) (q:Bool) (er:Int),e= .returned (.tuple #[.string s,.bool q,.int .i64 er])/\Below w.heap.size w w'/\Qc v s.data.toList q er
structure Val.Ok (v:Val):Prop where
 i1: -9223372036854775808<=v.int
 i2:v.int<=9223372036854775807
 r:v.real<18446744073709551616
 t:v.text.size<=2097152
structure PW (w w':World):Prop where
 below:Below w.heap.size w w'
 laid:dW w'
 lt:w.heap.size<w'.heap.size
theorem PW.first {w w':World} (h:Below w.heap.size w w') (hl:dW w') (hs:w.heap.size<w'.heap.size):PW w w':=⟨h,hl,hs⟩
theorem Rq {w w1:World} {v:Value} (h:w1.cell? ⟨w.heap.size,4,none⟩=some v) (hk:PW w w1):w1.drew.cell? ⟨w.heap.size,4,none⟩=some v/\PW w w1.drew:=
 ⟨h,⟨hk.below.trans ⟨rfl,rfl,rfl,aBh _,fun _ _=>rfl⟩,hk.laid,hk.lt⟩⟩
theorem Vm {w w1:World} {v:Value} (h:w1.cell? ⟨w.heap.size,4,none⟩=some v/\PW w w1):dW w1:=h.2.laid
theorem Vl {w w1 w2:World} {v:Value} (hh:w1.cell? ⟨w.heap.size,4,none⟩=some v/\PW w w1) (hb:Below w1.heap.size w1 w2):w2.cell? ⟨w.heap.size,4,none⟩=some v/\PW w w2:=by
 obtain ⟨h,hk⟩:=hh;refine ⟨(hb.cell (p:=⟨w.heap.size,4,none⟩) hk.lt).trans h,hk.below.trans (hb.mono hk.below.size),?_,Nat.lt_of_lt_of_le hk.lt hb.size⟩;obtain ⟨ev,q1,q2⟩:=hk.laid;exact ⟨ev,(hb.cell (p:=⟨4,0,none⟩) (eW q1)).trans q1,q2⟩
theorem ER (w:World) (v:Val) (hv:v.Ok) (nG:Tab w) (hl:dW w):
 Calls Tryz.prog 113 #[v.v] w fun e w'=>tf v w e w':=by
 obtain ⟨kd,b,i,x,t⟩:=v;obtain ⟨i1,i2,hr,ht⟩:=hv;have dw:∀(s:ByteArray) q er w',Below w.heap.size w w'->Qc ⟨kd,b,i,x,t⟩ s.data.toList q er->tf ⟨kd,b,i,x,t⟩ w (.returned (.tuple #[.string s,.bool q,.int .i64 er])) w':=fun s q er w' h1 h2=>⟨s,q,er,rfl,h1,h2⟩;have pV:=hid dw;clear dw;unfold Val.v b8;dsimp only at i1 i2 hr ht |-;have WL:=(aBi w.heap.size w).alloc (aBh _) (.cells #[.int .i64 kd,.bool b,.int .i64 i,.float .f64 x,.string t] 91)
 have UB:=hid WL;clear WL;have Tm:=hid (Lib.tabIs_alloc nG (.cells #[.int .i64 kd,.bool b,.int .i64 i,.float .f64 x,.string t] 91));have Hl:=hid (uz hl (.cells #[.int .i64 kd,.bool b,.int .i64 i,.float .f64 x,.string t] 91));clear nG hl;by_cases k1:kd=1
 ·subst k1;go_enter Tryz.func113,Tryz.ntmps113;go_wp2
  go_ret3
  exact pV.o _ _ _ _ UB.o (.inl ⟨rfl,rfl,rfl,rfl⟩)
 by_cases k2:kd=2
 ·subst k2;clear k1;have Hf:=hid (fun w=> Tryz.strconv_FormatBool b w);go_enter Tryz.func113,Tryz.ntmps113
  go_wp2_with fail
  refine (Hf.o _).mono ?_;rintro e w1 ⟨rfl,hw⟩;obtain rfl:=hw.symm;clear Hf;go_wp2
  go_ret3
  exact pV.o _ _ _ _ UB.o (.inr (.inl ⟨rfl,by cases b<;>rfl,rfl,rfl⟩))
 by_cases k3:kd=3
 ·subst k3;clear k1 k2;have Hf:=hid (Tryz.strconv_FormatInt_10 i i1 i2 _ Tm.o);go_enter Tryz.func113,Tryz.ntmps113
  go_wp2_with fail
  refine Hf.o.mono ?_;rintro e w1 ⟨rfl,n,os,hw⟩;have LJ:=pP (w.alloc (.cells #[.int .i64 3,.bool b,.int .i64 i,.float .f64 x,.string t] 91)) n os;rw[<-hw]at LJ;have lq:=hid LJ;clear Hf hw LJ;go_wp2
  go_ret3
  exact pV.o _ _ _ _ (UB.o.trans (lq.o.mono UB.o.size)) (.inr (.inr (.inl ⟨rfl,rfl,rfl,rfl⟩)))
 by_cases k4:kd=4
 ·subst k4;clear k1 k2 k3;have Hf:=hid (Ck _ x hr Tm.o);go_enter Tryz.func113,Tryz.ntmps113
  go_wp2_with fail
  refine Hf.o.mono ?_;rintro e w1 ⟨s,er,rfl,bI,hs⟩;have lq:=hid bI;have Hs:=hid hs;clear Hf hs bI;go_wp2
  go_ret3
  exact pV.o _ _ _ _ (UB.o.trans (lq.o.mono UB.o.size)) (.inr (.inr (.inr (.inl ⟨rfl,Hs.o,rfl⟩))))
 by_cases k5:kd=5
 ·subst k5;clear k1 k2 k3 k4;have hf:=fun w1 hl=>se w1 t ht false hl;unfold rG at hf;have Hk:Hid (∀q,q=((aZ t false).kind != 5)->∀w',Below w.heap.size w w'->tf ⟨5,b,i,x,t⟩ w (.returned (.tuple #[.string t,.bool q,.int .i64 0])) w'):=hid fun q hq w' h=>pV.o t q 0 w' h (.inr (.inr (.inr (.inr (.inl ⟨rfl,rfl,hq,rfl⟩)))));generalize aZ t false=rv at hf Hk;obtain ⟨kk,bb,ii,xx,tt⟩:=rv
  unfold Val.v b8 at hf;dsimp only at hf Hk;have hfield:∀w',(Instr.field 91 (.agg #[.int .i64 kk,.bool bb,.int .i64 ii,.float .f64 xx,.string tt]) 0).run Tryz.prog w'= .ok (.int .i64 kk) w':=fun _=>by kernel_rfl
  have Hf:=hid hf;clear hf;go_enter Tryz.func113,Tryz.ntmps113
  go_wp2_with fail
  have hK0:=PW.first UB.o Hl.o (by simp);have Zq:(w.alloc (.cells #[.int .i64 5,.bool b,.int .i64 i,.float .f64 x,.string t] 91)).cell? ⟨w.heap.size,4,none⟩=some (.string t):=by simp
  go_region_held3 (fun w'=>w'.cell? ⟨w.heap.size,4,none⟩=some (.string t)/\PW w w') (first|exact Rq Zq hK0|(refine Vl ?_ hb;assumption)|(constructor<;>assumption))
   (first|(go_at_call 44;refine (Hf.o _ ?_).mono ?_;(refine Vm (w:=w) (v:= .string t) ?_;assumption);rintro e w' ⟨rfl,hb⟩))
  all_goals go_wp2
  all_goals go_ret3
  all_goals exact Hk.o _ rfl _ (by first|exact (show _/\PW w _ from by assumption).2.below|exact PW.below (by assumption))
 ·have q1:(kd==1)=false:=beq_eq_false_iff_ne.2 k1;have q2:(kd==2)=false:=beq_eq_false_iff_ne.2 k2;have q3:(kd==3)=false:=beq_eq_false_iff_ne.2 k3;have q4:(kd==4)=false:=beq_eq_false_iff_ne.2 k4;have q5:(kd==5)=false:=beq_eq_false_iff_ne.2 k5;have ho:kd<1\/5<kd:=by omega
  have Ho:=hid ho;clear k1 k2 k3 k4 k5 ho;go_enter Tryz.func113,Tryz.ntmps113;go_wp2
  go_ret3
  exact pV.o _ _ _ _ UB.o (.inr (.inr (.inr (.inr (.inr ⟨Ho.o,rfl,rfl,rfl⟩)))))
end Go.Proofs.YtfenoaeoedobmaaGreatDoor
namespace Go.Proofs.YtfenoaeoedobmaaGreatDoor
open Go Go.RowKit Ieee
theorem Gc (s:Bool) (d:Nat):Toward.zero.cut s 0 d=0:=by
 unfold Toward.cut;simp
theorem LS {x:Nat} (h:(FloatKind.f64.format.order x 0==some .eq)=true):floatToIntVal .f64 x .i64=some 0:=by
 have h1:double.order x 0=some .eq:=eq_of_beq h;rw[wy]at h1;unfold floatToIntVal
 show (match (double.read x).toInt .zero with|some n=>if IntKind.i64.min<=n/\n<=IntKind.i64.max then some n else none|none=>none)=some 0
 cases hr:double.read x with
 |nan s f=>rw[hr]at h1;cases h1
 |infinity s=>rw[hr]at h1;cases s<;>cases h1
 |number s m i=>
  rw[hr]at h1;unfold Datum.order at h1;dsimp only at h1;rw[Option.some.injEq]at h1;have h2:=Int.compare_eq_eq.1 h1;have h3:m=0:=by
   unfold signed at h2;rw[if_neg (show ¬(false=true) by decide),Nat.zero_shiftLeft]at h2;have h4:m <<< (i-min i (-1074)).toNat=0:=by
    split at h2<;>omega
   rw[Nat.shiftLeft_eq]at h4;rcases Nat.mul_eq_zero.1 h4 with q|q
   ·exact q
   ·exact absurd q (Nat.ne_of_gt (Nat.two_pow_pos _))
  subst h3;unfold Datum.toInt Datum.integral;dsimp only;rw[Nat.zero_shiftLeft,Gc];have:signed s 0 0=0:=by cases s<;>rfl
  rw[this];rfl
theorem By:uO<INF/\FV uO=100*2 ^ kU:=by decide+kernel
theorem xE {x:Nat} (hx:x<18446744073709551616) (hc:mR x=true):∃n:Nat,n<=100/\floatToIntVal .f64 x .i64=some (n:Int):=by
 by_cases h0:(FloatKind.f64.format.order x 0==some .eq)=true
 ·exact ⟨0,by decide,LS h0⟩
 ·have hf:=rp hx hc;have e:eF x=x:=by unfold eF;rw[if_neg h0]
  rw[e]at hf;unfold mR at hc;rw[Bool.and_eq_true,Bool.or_eq_true (FloatKind.f64.format.order x uO==some .lt),Ze hf By.1,xn hf By.1,By.2]at hc;have hle:FV x<=100*2 ^ kU:=by
   rcases hc.2 with q|q
   ·exact Nat.le_of_lt (of_decide_eq_true q)
   ·exact Nat.le_of_eq (of_decide_eq_true q)
  have hn:FV x / 2 ^ kU<=100:=by
   have hp:0<2 ^ kU:=Nat.two_pow_pos _;generalize 2 ^ kU=U at*;have:=Nat.div_le_div_right (c:=U) hle
   rwa [Nat.mul_div_cancel _ hp]at this
  refine ⟨FV x / 2 ^ kU,hn,?_⟩;unfold floatToIntVal;rw[BX hf];generalize FV x / 2 ^ kU=n at*;simp only;rw[if_pos ⟨by show (-9223372036854775808:Int)<=_;omega,by show _<=(9223372036854775807:Int);omega⟩]
def p9 (x:Nat):Option Nat:=
 if mR x=true then
  (match floatToIntVal .f64 x .i64 with
   |some n=>if (FloatKind.f64.format.order (floatOfInt .f64 n) x==some .eq)=true then some n.toNat else none
   |none=>none)
 else none
def WT (x:Nat) (l:List UInt8):Prop:=
 match p9 x with
 |some n=>l=Lib.itoa (n:Int)
 |none=>∃er,o8 x l er
end Go.Proofs.YtfenoaeoedobmaaGreatDoor
namespace Go.Proofs.YtfenoaeoedobmaaGreatDoor
open Go Go.RowKit
structure GlobT (w:World):Prop where
 gl:Glob w
 tab:Tab w
theorem GlobT.later {w w2:World} (h:GlobT w) (hb:Below w.heap.size w w2):GlobT w2:=by
 refine ⟨h.gl.later hb,?_⟩;have h:=h.tab;unfold Tab Lib.TabIs World.var? at*;cases hg: Tryz.prog.globalNamed "internal/strconv.uint64pow10" with
 |none=>simp[hg]at h
 |some g=>
  simp only[hg,Option.bind_some]at h |-;have aN:g<w.heap.size:=by
   rcases Nat.lt_or_ge g w.heap.size with h'|h'
   ·exact h'
   ·rw[Array.getElem?_eq_none h']at h;simp at h
  rw[hb.block g aN];exact h
theorem PU (w:World) (x:Nat):∃(n:Int) (k:Nat),(convert 56 3 (.float .f64 x)).run Tryz.prog w= .ok (.int .i64 n) (w.drewN k):=by
 cases h:floatToIntVal .f64 x .i64 with
 |some n=>exact ⟨n,0,run_convert_float_int w 56 3 .f64 .i64 x n (by kernel_rfl) Tryz.underlying3 h⟩
 |none=>
  have key:∀z:Sem Value,z=(do pure (.int .i64 (IntKind.i64.wrap (<-choose (.floatToInt .f64 x .i64)))))->∃(n:Int) (k:Nat),z.run Tryz.prog w= .ok (.int .i64 n) (w.drewN k):=by
   rintro z rfl;simp only[Sem.run_bind,run_choose_drew]
   split
   ·exact ⟨_,0,rfl⟩
   ·exact ⟨_,1,rfl⟩
  have hd: Tryz.prog.underlying 56 =some (.float .f64):= Tryz.underlying56;have e:(convert 56 3 (.float .f64 x)).run Tryz.prog w=(Conv.floatToInt .f64 x .i64).run Tryz.prog w:=by
   simp[convert,run_underlying hd,run_underlying Tryz.underlying3]
  rw[e];refine key _ ?_;unfold floatToIntVal at h;unfold Conv.floatToInt
  split at h
  ·rename_i m hm
   rw[hm]
   split at h
   ·cases h
   ·rename_i hn
    simp only;rw[if_neg hn]
  ·rename_i hm
   rw[hm]
theorem I3 (w:World) (x:Nat) (hx:x<18446744073709551616) (hg:GlobT w):
 Calls Tryz.prog 72 #[.float .f64 x] w fun r w'=>(∃s:ByteArray,r= .returned (.string s)/\WT x s.data.toList)/\Below w.heap.size w w':=by
 obtain ⟨W,hW⟩:=ex (WT x);have Oy:(p9 x=none)->∀w1,Below w.heap.size w w1->Calls Tryz.prog 113 #[.agg #[.int .i64 4,.bool false,.int .i64 0,.float .f64 x,.string ⟨#[]⟩]] w1 fun r w'=>
  ∃(s:ByteArray) (q:Bool) (er:Int),r= .returned (.tuple #[.string s,.bool q,.int .i64 er])/\Below w.heap.size w w'/\W s.data.toList/\(er≠0->W []):=by
  intro hn w1 hb;have hp:=ER w1 ⟨4,false,0,x,⟨#[]⟩⟩ ⟨by show (-9223372036854775808:Int)<=0;decide,by show (0:Int)<=_;decide,hx,by show (0:Nat)<=_;decide⟩ (hg.later hb).tab (hg.later hb).gl.rng;refine hp.mono ?_;rintro r w' ⟨s,q,er,rfl,bI,hs⟩;have hr:o8 x s.data.toList er:=by
   rcases hs with ⟨a1,-⟩|⟨a1,-⟩|⟨a1,-⟩|⟨-,a2,-⟩|⟨a1,-⟩|⟨a1,-⟩
   ·exact absurd a1 (show ¬(4:Int)=1 by decide)
   ·exact absurd a1 (show ¬(4:Int)=2 by decide)
   ·exact absurd a1 (show ¬(4:Int)=3 by decide)
   ·exact a2
   ·exact absurd a1 (show ¬(4:Int)=5 by decide)
   ·exact absurd a1 (show ¬((4:Int)<1\/5<(4:Int)) by decide)
  refine ⟨s,q,er,rfl,hb.trans (bI.mono hb.size),?_,fun he=> ?_⟩
  ·rw[hW];unfold WT;rw[hn];exact ⟨er,hr⟩
  ·rw[hW];unfold WT;rw[hn];refine ⟨er,?_⟩;rcases hr with ⟨-,-,h⟩|⟨-,-,h⟩|⟨-,-,h⟩|⟨h1,h2,M,k,e,h3,h4⟩
   ·exact absurd h he
   ·exact absurd h he
   ·exact absurd h he
   ·rcases h4 with ⟨q1,q2,q3⟩|⟨q1,q2,q3⟩
    ·exact .inr (.inr (.inr ⟨h1,h2,M,k,e,h3,.inl ⟨q1,rfl,q3⟩⟩))
    ·exact absurd q3 he
 rw[<-hW];have HP:=hid Oy;have HW:=hid hW;clear Oy hW;have mixed: Tryz.prog.follows .mixedOrders=true:=by kernel_rfl
 cases hc:mR x with
 |true=>
  obtain ⟨n,hn,hv⟩:=xE hx hc;have BF:=run_convert_float_int (P:= Tryz.prog) w 56 3 .f64 .i64 x n (by kernel_rfl) Tryz.underlying3 hv;have mT:=hc;unfold mR at mT;rw[Bool.and_eq_true]at mT;obtain ⟨c1,c2⟩:=mT;unfold uO at c2;cases he:(FloatKind.f64.format.order (floatOfInt .f64 (n:Int)) x==some .eq) with
  |true=>
   have TR:p9 x=some n:=by unfold p9;rw[if_pos hc,hv];simp only;rw[if_pos he,Int.toNat_natCast]
   have Hi:=hid (Tryz.strconv_Itoa (n:Int) (by omega) (by omega) w hg.tab);have Hw:=hid (show W (⟨(Lib.itoa (n:Int)).toArray⟩:ByteArray).data.toList by rw[HW.o];unfold WT;rw[TR]);clear hx hg hn hv hc TR HP;go_enter Tryz.func72,Tryz.ntmps72
   go_wp2_with fail
   refine Hi.o.mono ?_;rintro r w1 ⟨rfl,k,os,rfl⟩;have Hb:=hid (pP w k os);clear Hi;go_wp2;refine bodyPost_ret (results_tmp (t:=2) rfl _ _ _) rfl ⟨⟨_,rfl,Hw.o⟩,Hb.o⟩
  |false=>
   have TR:p9 x=none:=by unfold p9;rw[if_pos hc,hv];simp only;rw[if_neg (by rw[he];decide)]
   have Hp:=hid (HP.o TR w (aBi _ _));clear hx hg hn hv hc TR HP;go_enter Tryz.func72,Tryz.ntmps72
   go_wp2_with fail
   refine Hp.o.mono ?_;rintro r w1 ⟨s,q,er,rfl,hb,h1,h2⟩;have H1:=hid (And.intro hb (And.intro h1 h2));clear Hp hb h1 h2;by_cases yd:er=0
   ·have t1:(er != 0)=false:=by rw[yd];rfl
    clear yd;go_wp2;refine bodyPost_ret (results_tmp (t:=2) rfl _ _ _) rfl ⟨⟨_,rfl,H1.o.2.1⟩,H1.o.1⟩
   ·have t1:(er != 0)=true:=by rw[bne_iff_ne];exact yd
    have Her:=hid yd;clear yd;go_wp2;refine bodyPost_ret (results_tmp (t:=2) rfl _ _ _) rfl ⟨⟨_,rfl,H1.o.2.2 Her.o⟩,H1.o.1⟩
 |false=>
  obtain ⟨n,k,BF⟩:=PU w x;have TR:p9 x=none:=by unfold p9;rw[if_neg (by rw[hc];decide)]
  have Ye:Below w.heap.size w (w.drewN k):=bdH (aBi _ _) k;have Hp:=hid (HP.o TR (w.drewN k) Ye);unfold mR uO at hc;clear hx hg TR HP Ye;cases c1:(FloatKind.f64.format.order x 0==some .gt||FloatKind.f64.format.order x 0==some .eq) with
  |true=>
   rw[c1,Bool.true_and]at hc;go_enter Tryz.func72,Tryz.ntmps72
   go_wp2_with fail
   refine Hp.o.mono ?_;rintro r w1 ⟨s,q,er,rfl,hb,h1,h2⟩;have H1:=hid (And.intro hb (And.intro h1 h2));clear Hp hb h1 h2;by_cases yd:er=0
   ·have t1:(er != 0)=false:=by rw[yd];rfl
    clear yd;go_wp2;refine bodyPost_ret (results_tmp (t:=2) rfl _ _ _) rfl ⟨⟨_,rfl,H1.o.2.1⟩,H1.o.1⟩
   ·have t1:(er != 0)=true:=by rw[bne_iff_ne];exact yd
    have Her:=hid yd;clear yd;go_wp2;refine bodyPost_ret (results_tmp (t:=2) rfl _ _ _) rfl ⟨⟨_,rfl,H1.o.2.2 Her.o⟩,H1.o.1⟩
  |false=>
   clear hc;go_enter Tryz.func72,Tryz.ntmps72
   go_wp2_with fail
   refine Hp.o.mono ?_;rintro r w1 ⟨s,q,er,rfl,hb,h1,h2⟩;have H1:=hid (And.intro hb (And.intro h1 h2));clear Hp hb h1 h2;by_cases yd:er=0
   ·have t1:(er != 0)=false:=by rw[yd];rfl
    clear yd;go_wp2;refine bodyPost_ret (results_tmp (t:=2) rfl _ _ _) rfl ⟨⟨_,rfl,H1.o.2.1⟩,H1.o.1⟩
   ·have t1:(er != 0)=true:=by rw[bne_iff_ne];exact yd
    have Her:=hid yd;clear yd;go_wp2;refine bodyPost_ret (results_tmp (t:=2) rfl _ _ _) rfl ⟨⟨_,rfl,H1.o.2.2 Her.o⟩,H1.o.1⟩
