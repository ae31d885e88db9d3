/-
Parts of a proof.
-/
import Derived.Test.YtfenoaeoedobmaaGreatDoorBk35
set_option linter.unusedVariables false
set_option linter.unusedSimpArgs false
set_option maxHeartbeats 4000000
set_option maxRecDepth 20000
namespace Go.Proofs.YtfenoaeoedobmaaGreatDoor
open Go Go.RowKit
abbrev Tab (w:World):Prop:=Lib.TabIs Tryz.prog w "internal/strconv.uint64pow10" .u64 Lib.pow10Tab
theorem aC5 {a b:ByteArray} (ha:a.size<=1000) (hb:b.size<=1000):a.size+b.size<=9223372036854775807:=by omega
theorem aAz (a b:ByteArray):(a++b).size=a.size+b.size:=by
 have h:(a++b).data.toList=a.data.toList++b.data.toList:=ByteArray.toList_data_append;rw[<-aAf,h,a7e,aAf,aAf]
theorem aCb (a b:ByteArray):(a++b).data.toList=a.data.toList++b.data.toList:=ByteArray.toList_data_append
theorem aGe (n:Nat):Lib.repeatL [48] n=List.replicate n 48:=by
 induction n with
 |zero=>rfl
 |succ n ih=>rw[List.replicate_succ,Lib.repeatL,ih];rfl
theorem aQh (w:World) (x:Nat) (hx:x<18446744073709551616) (htab:Tab w):
 Calls Tryz.prog 152 #[.float .f64 x] w fun e w'=>aMy x w e w':=by
 obtain ⟨b,hb⟩:∃b,b=decide (9223372036854775808<=x):=⟨_,rfl⟩;have hsb:=aO2 w x hx;rw[<-hb]at hsb;have Hsb:=hid hsb;have Hb:=hid hb;clear hsb hb;have hy:=a6c hx;have Htab:=hid htab;have hng:=aUn x;clear htab;go_enter Tryz.func152,Tryz.ntmps152
 go_wp2_with fail
 refine Hsb.out.mono ?_;rintro e w1 ⟨rfl,hw⟩;obtain rfl:=hw.symm;clear Hsb
 go_upto_if 12 with (fail)
 go_cut [0,4] from 11 (fun s0 s4 wc'=>s0= .float .f64 (absW x)/\s4= .string (signS x)/\wc'=w)
 case first=>
  cases b with
  |true=>
   have h:=of_decide_eq_true Hb.out.symm;have h2:absW x=negW x:=if_pos h;have h3:signS x=⟨#[45]⟩:=if_pos h;clear h hx hy;go_wp2
   go_meet
   case rel=>exact ⟨by rw[h2],by rw[h3],(by first|rfl|trivial)⟩
  |false=>
   have h:=of_decide_eq_false Hb.out.symm;have h2:absW x=x:=if_neg h;have h3:signS x=⟨#[]⟩:=if_neg h;clear h hx hy;go_wp2
   go_meet
   case rel=>exact ⟨by rw[h2],by rw[h3],(by first|rfl|trivial)⟩
 case rest=>
  obtain ⟨rfl,rfl,hw⟩:=hcut;obtain rfl:=hw.symm;have hsz:=aT4 x;have hsl:=aT3 x;have hR:∀(s:ByteArray) er w',Below w.heap.size w w'->RealS x s.data.toList er->aMy x w (.returned (.tuple #[.string s,.int .i64 er])) w':=fun s er w' h1 h2=>⟨s,er,rfl,h1,h2⟩;unfold RealS at hR;generalize signS x=sg at*;generalize signL x=sl at*;generalize hyy:absW x=y at*;have HR:=hid hR;have Hsl:=hid hsl
  clear hR hyy hng hx hsl;rcases Nat.lt_trichotomy y INF with hlt|rfl|hgt
  ·have e1:(FloatKind.f64.format.order y y != some .eq)=false:=by rw[bne,a6a (Nat.le_of_lt hlt)];rfl
   have Hi:=hid (aHj w y _ (max_gt hlt));by_cases h0:y=0
   ·subst h0;have e2:(FloatKind.f64.format.order 0 0==some .eq)=true:=by decide+kernel
    have hc:=aC5 (a:=sg) (b:=⟨#[48,46,48]⟩) (by omega) (by decide);clear hlt hy
    go_wp2_with fail
    refine Hi.out.mono ?_;rintro e w1 ⟨rfl,hw⟩;obtain rfl:=hw.symm;go_wp2
    go_ret2
    exact HR.out (sg++⟨#[48,46,48]⟩) 0 w (a7d _ _) (.inr (.inr (.inl ⟨(by first|rfl|trivial),by rw[aCb,Hsl.out],rfl⟩)))
   ·have hpos:0<y:=by omega
    have e2:(FloatKind.f64.format.order y 0==some .eq)=false:=by
     rw[eq_FV hlt (by decide),aPd,dF];have:=a3y hpos;omega
    have Hd:=hid (aNb w y hlt (a3y hpos));have Hc:=hid (And.intro hlt hpos);clear h0 hpos hlt hy
    go_wp2_with fail
    refine Hi.out.mono ?_;rintro e w1 ⟨rfl,hw⟩;obtain rfl:=hw.symm;clear Hi
    go_wp2_with fail
    refine Hd.out.mono ?_;rintro e w1 ⟨M,k,er,rfl,hw,hdec⟩;obtain rfl:=hw.symm;clear Hd;rcases hdec with ⟨rfl,k1,k2,hsol,hno⟩|⟨rfl,rfl,rfl,hno⟩
    ·have hdec:Dec y M k 0:= .inl ⟨rfl,k1,k2,hsol,hno⟩;have Hdec:=hid hdec;obtain ⟨m1,m2⟩:=hsol.bounds;have hM64:M<18446744073709551616:=Nat.lt_trans hsol.2.1 (by decide);obtain ⟨ds,hds⟩:∃ds:ByteArray,ds=⟨(Lib.decDigits M).toArray⟩:=⟨_,rfl⟩;have Hf:=hid (aJ7 M hM64 w Htab.out);rw[<-hds]at Hf;have hdl:ds.data.toList=Lib.decDigits M:=by rw[hds]
     have hdn:ds.size=Lib.nDigits M:=by rw[<-aAf,hdl,Lib.decDigits_length]
     have d1:1<=ds.size:=by rw[hdn];exact Lib.nDigits_pos M
     have d2:ds.size<=15:=by omega
     have hres:∀(s:ByteArray) w',Below w.heap.size w w'->s.data.toList=sl++realT M k->aMy x w (.returned (.tuple #[.string s,.int .i64 0])) w':=fun s w' h1 h2=>
      HR.out s 0 w' h1 (.inr (.inr (.inr ⟨Hc.out.1,Hc.out.2,M,k,0,hdec,.inr ⟨rfl,h2,rfl⟩⟩)))
     have Hres:=hid hres;have Hdl:=hid hdl;have Hdn:=hid hdn;clear hdec hno hsol hM64 hds hdl hdn hres HR Hdec m2
     go_wp2_with fail
     refine Hf.out.mono ?_;rintro e w1 ⟨rfl,hb1⟩;clear Hf;by_cases h0:0<=k
     ·obtain ⟨kn,rfl⟩:∃kn:Nat,k=(kn:Int):=⟨k.toNat,by omega⟩;by_cases hs:(ds.size:Int)+(kn:Int)+1<=15
      ·have Hr:=hid (Tryz.strings_Repeat ⟨#[48]⟩ kn w1 (by omega) (by show 1*kn<=_;omega));obtain ⟨rs,hrs⟩:∃rs:ByteArray,rs=⟨(Lib.repeatL (⟨#[48]⟩:ByteArray).data.toList kn).toArray⟩:=⟨_,rfl⟩;rw[<-hrs]at Hr;have hrl:rs.data.toList=List.replicate kn 48:=by rw[hrs];exact aGe kn
       have hrn:rs.size<=22:=by rw[<-aAf,hrl,List.length_replicate];omega
       have Hrl:=hid hrl;clear hrs hrl;have c1:=aC5 (a:=sg) (b:=ds) (by omega) (by omega);have c2:=aC5 (a:=sg++ds) (b:=rs) (by rw[aAz];omega) (by omega);have c3:=aC5 (a:=sg++ds++rs) (b:=⟨#[46,48]⟩) (by rw[aAz,aAz];omega) (by decide);have Hs:=hid hs;have Hb1:=hid hb1;clear hb1
       go_wp2_with fail
       refine Hr.out.mono ?_;rintro e w2 ⟨rfl,hb2⟩;clear Hr;have Hb2:=hid hb2;clear hb2;go_wp2
       go_ret2
       refine Hres.out _ _ (Hb1.out.trans (Hb2.out.mono Hb1.out.size)) ?_;rw[aCb,aCb,aCb,Hsl.out,Hdl.out,Hrl.out];unfold realT;rw[if_pos (by omega),if_pos (by rw[<-Hdn.out];exact Hs.out)];simp
      ·obtain ⟨p,hp⟩:∃p:Nat,p=kn+ds.size-1:=⟨_,rfl⟩;have hpi:(kn:Int)+(ds.size:Int)-1=(p:Int):=by omega
       have hw1:IntKind.i64.wrap ((kn:Int)+(ds.size:Int))=(kn:Int)+(ds.size:Int):=by rw[IntKind.wrap_i64];omega
       have hw2:IntKind.i64.wrap ((kn:Int)+(ds.size:Int)-1)=(p:Int):=by rw[IntKind.wrap_i64];omega
       have hi:=fun w1=> Tryz.strconv_Itoa_small p (by omega) w1;obtain ⟨ps,hps⟩:∃ps:ByteArray,ps=⟨(Lib.decDigits p).toArray⟩:=⟨_,rfl⟩;rw[<-hps]at hi;have hpl:ps.data.toList=Lib.decDigits p:=by rw[hps]
       have hpn:ps.size<=2:=by rw[<-aAf,hpl,Lib.decDigits_length];exact aF5 1 p (by omega)
       have Hi2:=hid hi;have Hpl:=hid hpl;have Hp:=hid hp;have Hpi:=hid hpi;have x1:=aD0 ds 0 1;have x2:=aD0 ds 1 ds.size;have xl1:(ds.extract 0 1).data.toList=(Lib.decDigits M).take 1:=by rw[aFw,Hdl.out];rfl
       have xl2:(ds.extract 1 ds.size).data.toList=(Lib.decDigits M).drop 1:=by rw[aCg,Hdl.out]
       have Hxl1:=hid xl1;have Hxl2:=hid xl2;have Hs:=hid hs;have Hb1:=hid hb1;clear hi hps hpl hp hpi xl1 xl2 hb1;have d1':(1:Int)<=(ds.size:Int):=by omega
       have hres2:∀(rest:ByteArray),rest.data.toList=(if Lib.nDigits M=1 then [48] else (Lib.decDigits M).drop 1)->(sg++ds.extract 0 1++⟨#[46]⟩++rest++⟨#[101]⟩++ps).data.toList=sl++realT M kn:=by
        intro rest hr;rw[aCb,aCb,aCb,aCb,aCb,Hsl.out,Hxl1.out,hr,Hpl.out];unfold realT;rw[if_pos (show (0:Int)<=(kn:Int) by omega),if_neg (show ¬(Lib.nDigits M:Int)+(kn:Int)+1<=15 by rw[<-Hdn.out];exact Hs.out),<-Hdn.out,Hp.out];have:(kn+ds.size-1:Nat)=((kn:Int)+(ds.size:Int)-1).toNat:=by omega
        rw[this];simp
       have Hres2:=hid hres2;clear hres2;by_cases hn1:ds.size=1
       ·have g1:((ds.size:Int)==1)=true:=by simp;omega
        have c1:=aC5 (a:=sg) (b:=ds.extract 0 1) (by omega) (by omega);have c2:=aC5 (a:=sg++ds.extract 0 1) (b:=⟨#[46]⟩) (by rw[aAz];omega) (by decide);have c3:=aC5 (a:=sg++ds.extract 0 1++⟨#[46]⟩) (b:=⟨#[48]⟩) (by rw[aAz,aAz];show _+_+1<=1000;omega) (by decide);have c4:=aC5 (a:=sg++ds.extract 0 1++⟨#[46]⟩++⟨#[48]⟩) (b:=⟨#[101]⟩) (by rw[aAz,aAz,aAz];show _+_+1+1<=1000;omega) (by decide)
        have c5:=aC5 (a:=sg++ds.extract 0 1++⟨#[46]⟩++⟨#[48]⟩++⟨#[101]⟩) (b:=ps) (by rw[aAz,aAz,aAz,aAz];show _+_+1+1+1<=1000;omega) (by omega);have Hn1:=hid hn1;clear hn1
        go_wp2_with fail
        go_quiet (exact Calls.quiet_of_same (Hi2.out _));clear Hi2;go_wp2
        go_ret2
        refine Hres.out _ _ (Hb1.out.trans ⟨rfl,rfl,rfl,a7c _,fun _ _=>rfl⟩) (Hres2.out _ ?_);rw[<-Hdn.out,if_pos Hn1.out]
       ·have g1:((ds.size:Int)==1)=false:=by simp;omega
        have c1:=aC5 (a:=sg) (b:=ds.extract 0 1) (by omega) (by omega);have c2:=aC5 (a:=sg++ds.extract 0 1) (b:=⟨#[46]⟩) (by rw[aAz];omega) (by decide);have c3:=aC5 (a:=sg++ds.extract 0 1++⟨#[46]⟩) (b:=ds.extract 1 ds.size) (by rw[aAz,aAz];show _+_+1<=1000;omega) (by omega);have c4:=aC5 (a:=sg++ds.extract 0 1++⟨#[46]⟩++ds.extract 1 ds.size) (b:=⟨#[101]⟩) (by rw[aAz,aAz,aAz];show _+_+1+_<=1000;omega) (by decide)
        have c5:=aC5 (a:=sg++ds.extract 0 1++⟨#[46]⟩++ds.extract 1 ds.size++⟨#[101]⟩) (b:=ps) (by rw[aAz,aAz,aAz,aAz];show _+_+1+_+1<=1000;omega) (by omega);have Hn1:=hid hn1;clear hn1
        go_wp2_with fail
        go_quiet (exact Calls.quiet_of_same (Hi2.out _));clear Hi2;go_wp2
        go_ret2
        refine Hres.out _ _ (Hb1.out.trans ⟨rfl,rfl,rfl,a7c _,fun _ _=>rfl⟩) (Hres2.out _ ?_);rw[<-Hdn.out,if_neg Hn1.out,Hxl2.out]
     ·have hk0:k<0:=by omega
      have hk1:¬(0<=k):=h0;obtain ⟨z,hz⟩:∃z,z=(1-k-(ds.size:Int)).toNat:=⟨_,rfl⟩;obtain ⟨q,hq⟩:∃q,q=(max (1-k) (ds.size:Int)+k).toNat:=⟨_,rfl⟩;have Hr:=hid (Tryz.strings_Repeat ⟨#[48]⟩ z w1 (by omega) (by show 1*z<=_;omega));obtain ⟨rs,hrs⟩:∃rs:ByteArray,rs=⟨(Lib.repeatL (⟨#[48]⟩:ByteArray).data.toList z).toArray⟩:=⟨_,rfl⟩;rw[<-hrs]at Hr;have hrl:rs.data.toList=List.replicate z 48:=by rw[hrs];exact aGe z
      have hrz:rs.size=z:=by rw[<-aAf,hrl,List.length_replicate]
      have hrn:rs.size<=22:=by omega
      have hz1:(z:Int)=max (1-k-(ds.size:Int)) 0:=by omega
      rw[hz1]at Hr;have hw1:IntKind.i64.wrap (1-k-(ds.size:Int))=1-k-(ds.size:Int):=by rw[IntKind.wrap_i64];omega
      have hSs:(rs++ds).size=z+ds.size:=by rw[aAz,hrz]
      have c0:=aC5 (a:=rs) (b:=ds) (by omega) (by omega);have hw2:IntKind.i64.wrap (((rs++ds).size:Int)+k)=(q:Int):=by rw[IntKind.wrap_i64,hSs];omega
      have hq1:q<=(rs++ds).size:=by omega
      have hq2:(q:Int)<=((rs++ds).size:Int):=by omega
      have hq3:(0:Int)<=(q:Int):=by omega
      have hS2:(rs++ds).size<=40:=by omega
      have hSl:(rs++ds).data.toList=List.replicate z 48++Lib.decDigits M:=by rw[aCb,hrl,Hdl.out]
      have hfin:((rs++ds).extract 0 q).data.toList=(List.replicate z 48++Lib.decDigits M).take q/\((rs++ds).extract q (rs++ds).size).data.toList=(List.replicate z 48++Lib.decDigits M).drop q:=by
       rw[aFw,aCg,hSl];exact ⟨rfl,rfl⟩
      have x1:=aD0 (rs++ds) 0 q;have x2:=aD0 (rs++ds) q (rs++ds).size;have Hfin:=hid hfin;have Hz:=hid hz;have Hq:=hid hq;have Hb1:=hid hb1;clear hrs hrl hrz hb1 hz1 hz hq hfin hSl hSs
      go_wp2_with fail
      refine Hr.out.mono ?_;rintro e w2 ⟨rfl,hb2⟩;clear Hr hw1;have Hb2:=hid hb2;clear hb2;go_wp2;generalize rs++ds=S at*;have c1:=aC5 (a:=sg) (b:=S.extract 0 q) (by omega) (by omega);have c2:=aC5 (a:=sg++S.extract 0 q) (b:=⟨#[46]⟩) (by rw[aAz];omega) (by decide);have c3:=aC5 (a:=sg++S.extract 0 q++⟨#[46]⟩) (b:=S.extract q S.size) (by rw[aAz,aAz];show _+_+1<=1000;omega) (by omega)
      go_quiet (fail);go_wp2
      go_ret2
      refine Hres.out _ _ ((Hb1.out.trans (Hb2.out.mono Hb1.out.size)).trans ⟨rfl,rfl,rfl,a7c _,fun _ _=>rfl⟩) ?_;rw[aCb,aCb,aCb,Hsl.out,Hfin.out.1,Hfin.out.2];unfold realT;rw[if_neg (show ¬0<=k by omega),<-Hdn.out,<-Hz.out,<-Hq.out];simp
    ·have hdec:Dec y 0 0 2:= .inr ⟨rfl,rfl,rfl,hno⟩;have Hdec:=hid hdec;clear hdec hno;go_wp2
     go_ret2
     exact HR.out ⟨#[]⟩ 2 w (a7d _ _) (.inr (.inr (.inr ⟨Hc.out.1,Hc.out.2,0,0,2,Hdec.out,.inl ⟨rfl,rfl,rfl⟩⟩)))
  ·have e1:(FloatKind.f64.format.order INF INF != some .eq)=false:=by decide+kernel
   have Hi:=hid (aHj w INF true (by decide+kernel));have hc:=aC5 (a:=sg) (b:=⟨#[46,105,110,102]⟩) (by omega) (by decide);clear hy
   go_wp2_with fail
   refine Hi.out.mono ?_;rintro e w1 ⟨rfl,hw⟩;obtain rfl:=hw.symm;go_wp2
   go_ret2
   exact HR.out (sg++⟨#[46,105,110,102]⟩) 0 w (a7d _ _) (.inr (.inl ⟨(by first|rfl|trivial),by rw[aCb,Hsl.out],rfl⟩))
  ·have e1:(FloatKind.f64.format.order y y != some .eq)=true:=by rw[aXw hgt hy];rfl
   have Hg:=hid hgt;clear hgt hy;go_wp2
   go_ret2
   exact HR.out ⟨#[46,110,97,110]⟩ 0 w (a7d _ _) (.inl ⟨Hg.out,rfl,rfl⟩)
def a3z (v:Val) (l:List UInt8) (q:Bool) (er:Int):Prop:=
 (v.kind=1/\l=[110,117,108,108]/\q=false/\er=0)\/
 (v.kind=2/\l=(if v.bool=true then [116,114,117,101] else [102,97,108,115,101])/\q=false/\er=0)\/
 (v.kind=3/\l=Lib.itoa v.int/\q=false/\er=0)\/
 (v.kind=4/\RealS v.real l er/\q=false)\/
 (v.kind=5/\l=v.text.data.toList/\q=((readS v.text false).kind != 5)/\er=0)\/
 ((v.kind<1\/5<v.kind)/\l=[]/\q=false/\er=2)
def aJ8 (v:Val) (w:World) (e:Ending) (w':World):Prop:=
 ∃(s:ByteArray) (q:Bool) (er:Int),e= .returned (.tuple #[.string s,.bool q,.int .i64 er])/\Below w.heap.size w w'/\a3z v s.data.toList q er
structure Val.Ok (v:Val):Prop where
 i1: -9223372036854775808<=v.int
 i2:v.int<=9223372036854775807
 r:v.real<18446744073709551616
 t:v.text.size<=2097152
structure PW (w w':World):Prop where
 below:Below w.heap.size w w'
 laid:aB3 w'
 lt:w.heap.size<w'.heap.size
theorem PW.first {w w':World} (h:Below w.heap.size w w') (hl:aB3 w') (hs:w.heap.size<w'.heap.size):PW w w':=⟨h,hl,hs⟩
theorem a6d {w w1:World} {v:Value} (h:w1.cell? ⟨w.heap.size,4,none⟩=some v) (hk:PW w w1):w1.drew.cell? ⟨w.heap.size,4,none⟩=some v/\PW w w1.drew:=
 ⟨h,⟨hk.below.trans ⟨rfl,rfl,rfl,a7c _,fun _ _=>rfl⟩,hk.laid,hk.lt⟩⟩
theorem s_laid {w w1:World} {v:Value} (h:w1.cell? ⟨w.heap.size,4,none⟩=some v/\PW w w1):aB3 w1:=h.2.laid
theorem s_step {w w1 w2:World} {v:Value} (hh:w1.cell? ⟨w.heap.size,4,none⟩=some v/\PW w w1) (hb:Below w1.heap.size w1 w2):w2.cell? ⟨w.heap.size,4,none⟩=some v/\PW w w2:=by
 obtain ⟨h,hk⟩:=hh;refine ⟨(hb.cell (p:=⟨w.heap.size,4,none⟩) hk.lt).trans h,hk.below.trans (hb.mono hk.below.size),?_,Nat.lt_of_lt_of_le hk.lt hb.size⟩;obtain ⟨ev,q1,q2⟩:=hk.laid;exact ⟨ev,(hb.cell (p:=⟨4,0,none⟩) (aCh q1)).trans q1,q2⟩
theorem aT5 (w:World) (v:Val) (hv:v.Ok) (htab:Tab w) (hl:aB3 w):
 Calls Tryz.prog 113 #[v.v] w fun e w'=>aJ8 v w e w':=by
 obtain ⟨kd,b,i,x,t⟩:=v;obtain ⟨i1,i2,hr,ht⟩:=hv;have hres:∀(s:ByteArray) q er w',Below w.heap.size w w'->a3z ⟨kd,b,i,x,t⟩ s.data.toList q er->aJ8 ⟨kd,b,i,x,t⟩ w (.returned (.tuple #[.string s,.bool q,.int .i64 er])) w':=fun s q er w' h1 h2=>⟨s,q,er,rfl,h1,h2⟩;have Hres:=hid hres;clear hres;unfold Val.v valV;dsimp only at i1 i2 hr ht |-;have hB1:=(a7d w.heap.size w).alloc (a7c _) (.cells #[.int .i64 kd,.bool b,.int .i64 i,.float .f64 x,.string t] 91)
 have HB1:=hid hB1;clear hB1;have Htab:=hid (Lib.tabIs_alloc htab (.cells #[.int .i64 kd,.bool b,.int .i64 i,.float .f64 x,.string t] 91));have Hl:=hid (aI9 hl (.cells #[.int .i64 kd,.bool b,.int .i64 i,.float .f64 x,.string t] 91));clear htab hl;by_cases k1:kd=1
 ·subst k1;go_enter Tryz.func113,Tryz.ntmps113;go_wp2
  go_ret3
  exact Hres.out _ _ _ _ HB1.out (.inl ⟨rfl,rfl,rfl,rfl⟩)
 by_cases k2:kd=2
 ·subst k2;clear k1;have Hf:=hid (fun w=> Tryz.strconv_FormatBool b w);go_enter Tryz.func113,Tryz.ntmps113
  go_wp2_with fail
  refine (Hf.out _).mono ?_;rintro e w1 ⟨rfl,hw⟩;obtain rfl:=hw.symm;clear Hf;go_wp2
  go_ret3
  exact Hres.out _ _ _ _ HB1.out (.inr (.inl ⟨rfl,by cases b<;>rfl,rfl,rfl⟩))
 by_cases k3:kd=3
 ·subst k3;clear k1 k2;have Hf:=hid (Tryz.strconv_FormatInt_10 i i1 i2 _ Htab.out);go_enter Tryz.func113,Tryz.ntmps113
  go_wp2_with fail
  refine Hf.out.mono ?_;rintro e w1 ⟨rfl,n,os,hw⟩;have hB2:=aH5 (w.alloc (.cells #[.int .i64 3,.bool b,.int .i64 i,.float .f64 x,.string t] 91)) n os;rw[<-hw]at hB2;have HB2:=hid hB2;clear Hf hw hB2;go_wp2
  go_ret3
  exact Hres.out _ _ _ _ (HB1.out.trans (HB2.out.mono HB1.out.size)) (.inr (.inr (.inl ⟨rfl,rfl,rfl,rfl⟩)))
 by_cases k4:kd=4
 ·subst k4;clear k1 k2 k3;have Hf:=hid (aQh _ x hr Htab.out);go_enter Tryz.func113,Tryz.ntmps113
  go_wp2_with fail
  refine Hf.out.mono ?_;rintro e w1 ⟨s,er,rfl,hb2,hs⟩;have HB2:=hid hb2;have Hs:=hid hs;clear Hf hs hb2;go_wp2
  go_ret3
  exact Hres.out _ _ _ _ (HB1.out.trans (HB2.out.mono HB1.out.size)) (.inr (.inr (.inr (.inl ⟨rfl,Hs.out,rfl⟩))))
 by_cases k5:kd=5
 ·subst k5;clear k1 k2 k3 k4;have hf:=fun w1 hl=>aJa w1 t ht false hl;unfold aIm at hf;have Hk:Hid (∀q,q=((readS t false).kind != 5)->∀w',Below w.heap.size w w'->aJ8 ⟨5,b,i,x,t⟩ w (.returned (.tuple #[.string t,.bool q,.int .i64 0])) w'):=hid fun q hq w' h=>Hres.out t q 0 w' h (.inr (.inr (.inr (.inr (.inl ⟨rfl,rfl,hq,rfl⟩)))));generalize readS t false=rv at hf Hk;obtain ⟨kk,bb,ii,xx,tt⟩:=rv
  unfold Val.v valV at hf;dsimp only at hf Hk;have hfield:∀w',(Instr.field 91 (.agg #[.int .i64 kk,.bool bb,.int .i64 ii,.float .f64 xx,.string tt]) 0).run Tryz.prog w'= .ok (.int .i64 kk) w':=fun _=>by kernel_rfl
  have Hf:=hid hf;clear hf;go_enter Tryz.func113,Tryz.ntmps113
  go_wp2_with fail
  have hK0:=PW.first HB1.out Hl.out (by simp);have ht0:(w.alloc (.cells #[.int .i64 5,.bool b,.int .i64 i,.float .f64 x,.string t] 91)).cell? ⟨w.heap.size,4,none⟩=some (.string t):=by simp
  go_region_held3 (fun w'=>w'.cell? ⟨w.heap.size,4,none⟩=some (.string t)/\PW w w') (first|exact a6d ht0 hK0|(refine s_step ?_ hb;assumption)|(constructor<;>assumption))
   (first|(go_at_call 44;refine (Hf.out _ ?_).mono ?_;(refine s_laid (w:=w) (v:= .string t) ?_;assumption);rintro e w' ⟨rfl,hb⟩))
  all_goals go_wp2
  all_goals go_ret3
  all_goals exact Hk.out _ rfl _ (by first|exact (show _/\PW w _ from by assumption).2.below|exact PW.below (by assumption))
 ·have q1:(kd==1)=false:=beq_eq_false_iff_ne.2 k1;have q2:(kd==2)=false:=beq_eq_false_iff_ne.2 k2;have q3:(kd==3)=false:=beq_eq_false_iff_ne.2 k3;have q4:(kd==4)=false:=beq_eq_false_iff_ne.2 k4;have q5:(kd==5)=false:=beq_eq_false_iff_ne.2 k5;have ho:kd<1\/5<kd:=by omega
  have Ho:=hid ho;clear k1 k2 k3 k4 k5 ho;go_enter Tryz.func113,Tryz.ntmps113;go_wp2
  go_ret3
  exact Hres.out _ _ _ _ HB1.out (.inr (.inr (.inr (.inr (.inr ⟨Ho.out,rfl,rfl,rfl⟩)))))
end Go.Proofs.YtfenoaeoedobmaaGreatDoor
namespace Go.Proofs.YtfenoaeoedobmaaGreatDoor
open Go Go.RowKit Ieee
theorem aT6 (s:Bool) (d:Nat):Toward.zero.cut s 0 d=0:=by
 unfold Toward.cut;simp
theorem a1w {x:Nat} (h:(FloatKind.f64.format.order x 0==some .eq)=true):floatToIntVal .f64 x .i64=some 0:=by
 have h1:double.order x 0=some .eq:=eq_of_beq h;rw[aKz]at h1;unfold floatToIntVal
 show (match (double.read x).toInt .zero with|some n=>if IntKind.i64.min<=n/\n<=IntKind.i64.max then some n else none|none=>none)=some 0
 cases hr:double.read x with
 |nan s f=>rw[hr]at h1;cases h1
 |infinity s=>rw[hr]at h1;cases s<;>cases h1
 |number s m i=>
  rw[hr]at h1;unfold Datum.order at h1;dsimp only at h1;rw[Option.some.injEq]at h1;have h2:=Int.compare_eq_eq.1 h1;have h3:m=0:=by
   unfold signed at h2;rw[if_neg (show ¬(false=true) by decide),Nat.zero_shiftLeft]at h2;have h4:m <<< (i-min i (-1074)).toNat=0:=by
    split at h2<;>omega
   rw[Nat.shiftLeft_eq]at h4;rcases Nat.mul_eq_zero.1 h4 with q|q
   ·exact q
   ·exact absurd q (Nat.ne_of_gt (Nat.two_pow_pos _))
  subst h3;unfold Datum.toInt Datum.integral;dsimp only;rw[Nat.zero_shiftLeft,aT6];have:signed s 0 0=0:=by cases s<;>rfl
  rw[this];rfl
theorem aQi:HUND<INF/\FV HUND=100*2 ^ kU:=by decide+kernel
theorem aSk {x:Nat} (hx:x<18446744073709551616) (hc:cent x=true):∃n:Nat,n<=100/\floatToIntVal .f64 x .i64=some (n:Int):=by
 by_cases h0:(FloatKind.f64.format.order x 0==some .eq)=true
 ·exact ⟨0,by decide,a1w h0⟩
 ·have hf:=aRb hx hc;have e:aDa x=x:=by unfold aDa;rw[if_neg h0]
  rw[e]at hf;unfold cent at hc;rw[Bool.and_eq_true,Bool.or_eq_true (FloatKind.f64.format.order x HUND==some .lt),lt_FV hf aQi.1,eq_FV hf aQi.1,aQi.2]at hc;have hle:FV x<=100*2 ^ kU:=by
   rcases hc.2 with q|q
   ·exact Nat.le_of_lt (of_decide_eq_true q)
   ·exact Nat.le_of_eq (of_decide_eq_true q)
  have hn:FV x / 2 ^ kU<=100:=by
   have hp:0<2 ^ kU:=Nat.two_pow_pos _;generalize 2 ^ kU=U at*;have:=Nat.div_le_div_right (c:=U) hle
   rwa [Nat.mul_div_cancel _ hp]at this
  refine ⟨FV x / 2 ^ kU,hn,?_⟩;unfold floatToIntVal;rw[aQz hf];generalize FV x / 2 ^ kU=n at*;simp only;rw[if_pos ⟨by show (-9223372036854775808:Int)<=_;omega,by show _<=(9223372036854775807:Int);omega⟩]
def wInt (x:Nat):Option Nat:=
 if cent x=true then
  (match floatToIntVal .f64 x .i64 with
   |some n=>if (FloatKind.f64.format.order (floatOfInt .f64 n) x==some .eq)=true then some n.toNat else none
   |none=>none)
 else none
def WT (x:Nat) (l:List UInt8):Prop:=
 match wInt x with
 |some n=>l=Lib.itoa (n:Int)
 |none=>∃er,RealS x l er
end Go.Proofs.YtfenoaeoedobmaaGreatDoor
namespace Go.Proofs.YtfenoaeoedobmaaGreatDoor
open Go Go.RowKit
structure GlobT (w:World):Prop where
 gl:Glob w
 tab:Tab w
theorem GlobT.later {w w2:World} (h:GlobT w) (hb:Below w.heap.size w w2):GlobT w2:=by
 refine ⟨h.gl.later hb,?_⟩;have h:=h.tab;unfold Tab Lib.TabIs World.var? at*;cases hg: Tryz.prog.globalNamed "internal/strconv.uint64pow10" with
 |none=>simp[hg]at h
 |some g=>
  simp only[hg,Option.bind_some]at h |-;have hlt:g<w.heap.size:=by
   rcases Nat.lt_or_ge g w.heap.size with h'|h'
   ·exact h'
   ·rw[Array.getElem?_eq_none h']at h;simp at h
  rw[hb.block g hlt];exact h
theorem a1x (w:World) (x:Nat):∃(n:Int) (k:Nat),(convert 56 3 (.float .f64 x)).run Tryz.prog w= .ok (.int .i64 n) (w.drewN k):=by
 cases h:floatToIntVal .f64 x .i64 with
 |some n=>exact ⟨n,0,run_convert_float_int w 56 3 .f64 .i64 x n (by kernel_rfl) Tryz.underlying3 h⟩
 |none=>
  have key:∀z:Sem Value,z=(do pure (.int .i64 (IntKind.i64.wrap (<-choose (.floatToInt .f64 x .i64)))))->∃(n:Int) (k:Nat),z.run Tryz.prog w= .ok (.int .i64 n) (w.drewN k):=by
   rintro z rfl;simp only[Sem.run_bind,run_choose_drew]
   split
   ·exact ⟨_,0,rfl⟩
   ·exact ⟨_,1,rfl⟩
  have hd: Tryz.prog.underlying 56 =some (.float .f64):= Tryz.underlying56;have e:(convert 56 3 (.float .f64 x)).run Tryz.prog w=(Conv.floatToInt .f64 x .i64).run Tryz.prog w:=by
   simp[convert,run_underlying hd,run_underlying Tryz.underlying3]
  rw[e];refine key _ ?_;unfold floatToIntVal at h;unfold Conv.floatToInt
  split at h
  ·rename_i m hm
   rw[hm]
   split at h
   ·cases h
   ·rename_i hn
    simp only;rw[if_neg hn]
  ·rename_i hm
   rw[hm]
theorem aXx (w:World) (x:Nat) (hx:x<18446744073709551616) (hg:GlobT w):
 Calls Tryz.prog 72 #[.float .f64 x] w fun r w'=>(∃s:ByteArray,r= .returned (.string s)/\WT x s.data.toList)/\Below w.heap.size w w':=by
 obtain ⟨W,hW⟩:∃W,W=WT x:=⟨_,rfl⟩;have hprint:(wInt x=none)->∀w1,Below w.heap.size w w1->Calls Tryz.prog 113 #[.agg #[.int .i64 4,.bool false,.int .i64 0,.float .f64 x,.string ⟨#[]⟩]] w1 fun r w'=>
  ∃(s:ByteArray) (q:Bool) (er:Int),r= .returned (.tuple #[.string s,.bool q,.int .i64 er])/\Below w.heap.size w w'/\W s.data.toList/\(er≠0->W []):=by
  intro hn w1 hb;have hp:=aT5 w1 ⟨4,false,0,x,⟨#[]⟩⟩ ⟨by show (-9223372036854775808:Int)<=0;decide,by show (0:Int)<=_;decide,hx,by show (0:Nat)<=_;decide⟩ (hg.later hb).tab (hg.later hb).gl.rng;refine hp.mono ?_;rintro r w' ⟨s,q,er,rfl,hb2,hs⟩;have hr:RealS x s.data.toList er:=by
   rcases hs with ⟨a1,-⟩|⟨a1,-⟩|⟨a1,-⟩|⟨-,a2,-⟩|⟨a1,-⟩|⟨a1,-⟩
   ·exact absurd a1 (show ¬(4:Int)=1 by decide)
   ·exact absurd a1 (show ¬(4:Int)=2 by decide)
   ·exact absurd a1 (show ¬(4:Int)=3 by decide)
   ·exact a2
   ·exact absurd a1 (show ¬(4:Int)=5 by decide)
   ·exact absurd a1 (show ¬((4:Int)<1\/5<(4:Int)) by decide)
  refine ⟨s,q,er,rfl,hb.trans (hb2.mono hb.size),?_,fun he=> ?_⟩
  ·rw[hW];unfold WT;rw[hn];exact ⟨er,hr⟩
  ·rw[hW];unfold WT;rw[hn];refine ⟨er,?_⟩;rcases hr with ⟨-,-,h⟩|⟨-,-,h⟩|⟨-,-,h⟩|⟨h1,h2,M,k,e,h3,h4⟩
   ·exact absurd h he
   ·exact absurd h he
   ·exact absurd h he
   ·rcases h4 with ⟨q1,q2,q3⟩|⟨q1,q2,q3⟩
    ·exact .inr (.inr (.inr ⟨h1,h2,M,k,e,h3,.inl ⟨q1,rfl,q3⟩⟩))
    ·exact absurd q3 he
 rw[<-hW];have HP:=hid hprint;have HW:=hid hW;clear hprint hW;have mixed: Tryz.prog.follows .mixedOrders=true:=by kernel_rfl
 cases hc:cent x with
 |true=>
  obtain ⟨n,hn,hv⟩:=aSk hx hc;have hcv:=run_convert_float_int (P:= Tryz.prog) w 56 3 .f64 .i64 x n (by kernel_rfl) Tryz.underlying3 hv;have hc2:=hc;unfold cent at hc2;rw[Bool.and_eq_true]at hc2;obtain ⟨c1,c2⟩:=hc2;unfold HUND at c2;cases he:(FloatKind.f64.format.order (floatOfInt .f64 (n:Int)) x==some .eq) with
  |true=>
   have hwi:wInt x=some n:=by unfold wInt;rw[if_pos hc,hv];simp only;rw[if_pos he,Int.toNat_natCast]
   have Hi:=hid (Tryz.strconv_Itoa (n:Int) (by omega) (by omega) w hg.tab);have Hw:=hid (show W (⟨(Lib.itoa (n:Int)).toArray⟩:ByteArray).data.toList by rw[HW.out];unfold WT;rw[hwi]);clear hx hg hn hv hc hwi HP;go_enter Tryz.func72,Tryz.ntmps72
   go_wp2_with fail
   refine Hi.out.mono ?_;rintro r w1 ⟨rfl,k,os,rfl⟩;have Hb:=hid (aH5 w k os);clear Hi;go_wp2;refine bodyPost_ret (results_tmp (t:=2) rfl _ _ _) rfl ⟨⟨_,rfl,Hw.out⟩,Hb.out⟩
  |false=>
   have hwi:wInt x=none:=by unfold wInt;rw[if_pos hc,hv];simp only;rw[if_neg (by rw[he];decide)]
   have Hp:=hid (HP.out hwi w (a7d _ _));clear hx hg hn hv hc hwi HP;go_enter Tryz.func72,Tryz.ntmps72
   go_wp2_with fail
   refine Hp.out.mono ?_;rintro r w1 ⟨s,q,er,rfl,hb,h1,h2⟩;have H1:=hid (And.intro hb (And.intro h1 h2));clear Hp hb h1 h2;by_cases her:er=0
   ·have t1:(er != 0)=false:=by rw[her];rfl
    clear her;go_wp2;refine bodyPost_ret (results_tmp (t:=2) rfl _ _ _) rfl ⟨⟨_,rfl,H1.out.2.1⟩,H1.out.1⟩
   ·have t1:(er != 0)=true:=by rw[bne_iff_ne];exact her
    have Her:=hid her;clear her;go_wp2;refine bodyPost_ret (results_tmp (t:=2) rfl _ _ _) rfl ⟨⟨_,rfl,H1.out.2.2 Her.out⟩,H1.out.1⟩
 |false=>
  obtain ⟨n,k,hcv⟩:=a1x w x;have hwi:wInt x=none:=by unfold wInt;rw[if_neg (by rw[hc];decide)]
  have hbk:Below w.heap.size w (w.drewN k):=bdH (a7d _ _) k;have Hp:=hid (HP.out hwi (w.drewN k) hbk);unfold cent HUND at hc;clear hx hg hwi HP hbk;cases c1:(FloatKind.f64.format.order x 0==some .gt||FloatKind.f64.format.order x 0==some .eq) with
  |true=>
   rw[c1,Bool.true_and]at hc;go_enter Tryz.func72,Tryz.ntmps72
   go_wp2_with fail
   refine Hp.out.mono ?_;rintro r w1 ⟨s,q,er,rfl,hb,h1,h2⟩;have H1:=hid (And.intro hb (And.intro h1 h2));clear Hp hb h1 h2;by_cases her:er=0
   ·have t1:(er != 0)=false:=by rw[her];rfl
    clear her;go_wp2;refine bodyPost_ret (results_tmp (t:=2) rfl _ _ _) rfl ⟨⟨_,rfl,H1.out.2.1⟩,H1.out.1⟩
   ·have t1:(er != 0)=true:=by rw[bne_iff_ne];exact her
    have Her:=hid her;clear her;go_wp2;refine bodyPost_ret (results_tmp (t:=2) rfl _ _ _) rfl ⟨⟨_,rfl,H1.out.2.2 Her.out⟩,H1.out.1⟩
  |false=>
   clear hc;go_enter Tryz.func72,Tryz.ntmps72
   go_wp2_with fail
   refine Hp.out.mono ?_;rintro r w1 ⟨s,q,er,rfl,hb,h1,h2⟩;have H1:=hid (And.intro hb (And.intro h1 h2));clear Hp hb h1 h2;by_cases her:er=0
   ·have t1:(er != 0)=false:=by rw[her];rfl
    clear her;go_wp2;refine bodyPost_ret (results_tmp (t:=2) rfl _ _ _) rfl ⟨⟨_,rfl,H1.out.2.1⟩,H1.out.1⟩
   ·have t1:(er != 0)=true:=by rw[bne_iff_ne];exact her
    have Her:=hid her;clear her;go_wp2;refine bodyPost_ret (results_tmp (t:=2) rfl _ _ _) rfl ⟨⟨_,rfl,H1.out.2.2 Her.out⟩,H1.out.1⟩
