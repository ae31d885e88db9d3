/-
Parts of a proof.
-/
import Derived.Test.YtfenoaeoedobmaaGreatDoorOw05
set_option linter.unusedVariables false
set_option linter.unusedSimpArgs false
set_option maxHeartbeats 8000000
set_option maxRecDepth 20000
namespace Go.Proofs.YtfenoaeoedobmaaGreatDoor
open Go Go.RowKit
def Gg (l:List UInt8) (w:World) (e:Ending) (w':World):Prop:=
 ∃(V:Value) (ok:Bool),e= .returned (.tuple #[V,.bool ok])/\Below w.heap.size w w'/\
  (ok=false/\(∃kd i,V=bI kd false i 0 ⟨#[]⟩)/\pd l=none/\jh l=none\/ok=true/\(∃i,pd l=some i/\V=bI 3 false i 0 ⟨#[]⟩)\/
   ok=true/\pd l=none/\∃m k b,jh l=some (m,k,b)/\V=bI 4 false 0 (if b=true then j9 (scW m k) else scW m k) ⟨#[]⟩)
structure NW (w w':World) (x:Nat):Prop where
 below:Below w.heap.size w w'
 r:w'.heap[w.heap.size]? =some (.cells #[.int .i64 0,.bool false,.int .i64 0,.float .f64 0,.string ⟨#[]⟩] 91 (0,0))
 v:w'.heap[w.heap.size+1]? =some (.cells #[.int .i64 4,.bool false,.int .i64 0,.float .f64 x,.string ⟨#[]⟩] 91 (0,0))
theorem NW.first (w:World):NW w ((w.alloc (Obj.cells #[.int .i64 0,.bool false,.int .i64 0,.float .f64 0,.string ⟨#[]⟩] 91)).alloc (Obj.cells #[.int .i64 4,.bool false,.int .i64 0,.float .f64 0,.string ⟨#[]⟩] 91)) 0 where
 below:=((aAb _ _).alloc (aAa _) _).alloc (by simp) _
 r:=by simp[World.alloc,-World.alloc_eq,Array.getElem?_push]
 v:=by
  show ((w.heap.push _).push _)[w.heap.size+1]? =_
  rw[Array.getElem?_push,if_pos (by simp)]
theorem NW.drewN {w w':World} {x:Nat} (h:NW w w' x) (n:Nat):NW w (w'.drewN n) x:=
 ⟨h.below.trans ⟨rfl,rfl,rfl,aAa _,fun _ _=>rfl⟩,h.r,h.v⟩
theorem NW.later {w w' w2:World} {x:Nat} (h:NW w w' x) (hb:Below w'.heap.size w' w2):NW w w2 x:=by
 have hlt:w.heap.size+1<w'.heap.size:=by
  rcases Nat.lt_or_ge (w.heap.size+1) w'.heap.size with q|q
  ·exact q
  ·have:=h.v;rw[Array.getElem?_eq_none q]at this;cases this
 exact ⟨h.below.trans (hb.mono h.below.size),(hb.block _ (by omega)).trans h.r,(hb.block _ hlt).trans h.v⟩
theorem NW.real {w w':World} {x:Nat} (h:NW w w' x) (y:Nat):NW w (w'.setCell ⟨w.heap.size+1,3,none⟩ (.float .f64 y)) y:=by
 refine ⟨h.below.setCell (Nat.le_succ _) _,?_,?_⟩
 ·rw[Below.heap_setCell _ _ _ _ (by simp)];exact h.r
 ·have:=h.v;simp only[World.setCell,Array.getElem?_modify,this];simp
theorem cu {w:World} {b:Nat} {v0 v1 v2 v3 v4:Value} (h:w.heap[b]? =some (.cells #[v0,v1,v2,v3,v4] 91 (0,0))):
 (w.cell? ⟨b,0,none⟩=some v0/\w.cell? ⟨b,1,none⟩=some v1/\w.cell? ⟨b,2,none⟩=some v2/\w.cell? ⟨b,3,none⟩=some v3/\w.cell? ⟨b,4,none⟩=some v4)/\
 (w.frozen? ⟨b,0,none⟩=false/\w.frozen? ⟨b,1,none⟩=false/\w.frozen? ⟨b,2,none⟩=false/\w.frozen? ⟨b,3,none⟩=false/\w.frozen? ⟨b,4,none⟩=false):=by
 refine ⟨⟨?_,?_,?_,?_,?_⟩,?_,?_,?_,?_,?_⟩<;>simp[World.cell?,World.frozen?,h]
theorem oO {s:ByteArray} (h:Lib.hasPrefix s.data.toList [45]=true):1<=s.size/\bc s.data.toList=((s.extract 1 s.size).data.toList,true):=by
 rw[dm];have hsz:=al s;cases hl:s.data.toList with
 |nil=>rw[hl]at h;cases h
 |cons c r=>
  rw[hl]at h hsz;refine ⟨by simp at hsz;omega,?_⟩;have hc:c=45:=by
   simp[Lib.hasPrefix,List.isPrefixOf]at h;exact h.symm
  simp[bc,hc]
theorem qN {s:ByteArray} (h:Lib.hasPrefix s.data.toList [45]=false):bc s.data.toList=(s.data.toList,false):=by
 cases hl:s.data.toList with
 |nil=>rfl
 |cons c r=>
  rw[hl]at h;have hc:c≠45:=by
   simp[Lib.hasPrefix,List.isPrefixOf]at h;exact fun q=>h q.symm
  simp[bc,hc]
theorem rI (w:World) (s:ByteArray) (hmax:s.size<=2097152) (hv:cQ w):
 Calls Tryz.prog 78 #[.string s] w fun e w'=>Gg s.data.toList w e w':=by
 have Hv:=hid hv;have hst:= @gZ;clear hv;go_enter Tryz.func78,Tryz.ntmps78;go_wp2;refine q9 0 rfl ?_;intro J hJ0;have hJ:=hid hJ0;clear hJ0;have Hp:=hid (fun w=> Tryz.strings_HasPrefix s ⟨#[45]⟩ w)
 go_wp2_with fail
 refine (Hp.o _).mono ?_;rintro e w1 ⟨rfl,hw⟩;obtain rfl:=hw.symm;clear Hp;generalize hpre:Lib.hasPrefix s.data.toList (⟨#[45]⟩:ByteArray).data.toList=below;have Hpre:=hid hpre;clear hpre;have hNW:=NW.first w;obtain ⟨w1,hw1⟩:=ex ((w.alloc (Obj.cells #[.int .i64 0,.bool false,.int .i64 0,.float .f64 0,.string ⟨#[]⟩] 91)).alloc (Obj.cells #[.int .i64 4,.bool false,.int .i64 0,.float .f64 0,.string ⟨#[]⟩] 91))
 rw[<-hw1];rw[<-hw1]at hNW;clear hw1;have HN:=hid hNW;clear hNW
 go_upto_if 18 with (fail)
 go_cut [0] from 18 (fun s0 wc'=>∃r:ByteArray,s0= .string r/\wc'=w1/\Hid (bc s.data.toList=(r.data.toList,below)/\r.size<=s.size))
 case first=>
  cases below with
  |true=>
   have h1:=oO Hpre.o;have Hm:=hid h1.2;have h2:(1:Int)<=(s.size:Int):=by have:=h1.1;omega
   clear h1;go_wp2
   go_meet
   case rel=>exact ⟨_,(by first|rfl|trivial),(by first|rfl|trivial),Hm.o,fQ _ _ _⟩
  |false=>
   go_wp2
   go_meet
   case rel=>exact ⟨_,(by first|rfl|trivial),(by first|rfl|trivial),qN Hpre.o,aAa _⟩
 case rest=>
  obtain ⟨r,rfl,rfl,hr⟩:=hcut;have hrmax:r.size<=2097152:=aAe hr.o.2 hmax;have hrmax2:r.size<=maxLen:=aAe hrmax (by decide);obtain ⟨n,hn⟩:=ex ((r.data.toList.takeWhile isD).length);have Hd:=hid (g9 wc r hrmax2 n _ hn.symm rfl);have Hn:=hid hn;clear hn
  go_wp2_with fail
  refine Hd.o.mono ?_;rintro e w1 ⟨rfl,hw⟩;obtain rfl:=hw.symm;clear Hd;have hnr:n<=r.size:=by rw[Hn.o,<-al];exact lR _
  go_upto_region 9 with (fail)
  go_cut [36] from 15 (fun s36 wc'=>∃b:Bool,s36= .bool b/\wc'=wc/\Hid ((b=true->pd s.data.toList=none/\jh s.data.toList=none)/\(b=false->cF (r.data.toList.takeWhile isD)=true)))
  case first=>
   by_cases hn0:n=0
   ·have n1:((n:Int)==0)=true:=by simp[hn0]
    have Hr:=hid (pG hr.o.1 (by
     rw[List.eq_nil_of_length_eq_zero (Hn.o.symm.trans hn0)];rfl))
    clear hn0 hnr;go_wp2
    go_meet
    case rel=>exact ⟨true,(by first|rfl|trivial),(by first|rfl|trivial),fun _=>Hr.o,fun q=>by cases q⟩
   ·have n1:((n:Int)==0)=false:=by simp;omega
    have hr0:0<r.size:=by omega
    have hhead:(r.data.toList.takeWhile isD).head? =some r[0]:=by
     rw[D6 (by rw[<-Hn.o];omega),zW r hr0];rfl
    by_cases hn1:1<n
    ·have n2:(1:Int)<(n:Int):=by omega
     by_cases h48:r[0]=48
     ·have n3:((r[0].toNat:Int)==48)=true:=by rw[h48];rfl
      have Hr:=hid (pG hr.o.1 (zJ (by rw[<-Hn.o];exact hn1) (by rw[hhead,h48])));clear hn0 hn1 hnr hhead h48;go_wp2
      go_meet
      case rel=>exact ⟨true,(by first|rfl|trivial),(by first|rfl|trivial),fun _=>Hr.o,fun q=>by cases q⟩
     ·have n3:((r[0].toNat:Int)==48)=false:=by
       simp;intro e;exact h48 (UInt8.toNat_inj.1 (by simpa using (by omega:r[0].toNat=48)))
      have Hr:=hid (sI (by rw[<-Hn.o];exact hn0) (by rw[hhead];intro q;exact h48 (aAf q.2)));clear hn0 hn1 hnr hhead h48;go_wp2
      go_meet
      case rel=>exact ⟨false,(by first|rfl|trivial),(by first|rfl|trivial),fun q=>(by cases q),fun _=>Hr.o⟩
    ·have n2:¬(1:Int)<(n:Int):=by omega
     have Hr:=hid (sI (by rw[<-Hn.o];exact hn0) (by rw[<-Hn.o];intro q;exact hn1 q.1));clear hn0 hn1 hnr hhead;go_wp2
     go_meet
     case rel=>exact ⟨false,(by first|rfl|trivial),(by first|rfl|trivial),fun q=>(by cases q),fun _=>Hr.o⟩
  case rest=>
   obtain ⟨b36,rfl,hw,hwd⟩:=hcut;obtain rfl:=hw.symm;cases b36 with
   |true=>
    have Hr:=hid (hwd.o.1 rfl);clear hwd hnr;go_wp2
    go_step3
    show 0=0/\J _ _
    refine ⟨rfl,hJ.o _ _ ?_⟩;obtain ⟨⟨c0,c1,c2,c3,c4⟩,f0,f1,f2,f3,f4⟩:=cu HN.o.r;go_wp2;rw[Exit.noGoto_ret];refine bodyPost_ret (v:= .tuple #[bI 0 false 0 0 ⟨#[]⟩,.bool false]) (by simp[results,Tryz.results78,go_sem,bI,f0,f1,f2,f3,f4,c0,c1,c2,c3,c4]) rfl ?_;exact ⟨_,false,rfl,(((((HN.o.below).setCell (aAa _) _).setCell (aAa _) _).setCell (aAa _) _).setCell (aAa _) _).setCell (aAa _) _,.inl ⟨rfl,⟨0,0,rfl⟩,Hr.o⟩⟩
   |false=>
    have Hwd:=hid (hwd.o.2 rfl);clear hwd;by_cases hfull:n=r.size
    ·have n1:((n:Int)==(r.size:Int))=true:=by simp[hfull]
     have htw:=nO (by rw[<-Hn.o,al];exact hfull:(r.data.toList.takeWhile isD).length=r.data.toList.length);have hwr:=Hwd.o;rw[htw]at hwr;have hlaid:cQ wc:=by
      obtain ⟨ev,q1,q2⟩:=Hv.o;exact ⟨ev,by rw[HN.o.below.cell (dB q1)];exact q1,q2⟩
     have Hi:=hid (rU wc r hrmax below (mM hwr) hlaid);have HI:=hid (And.intro (wR hr.o.1 hwr) (uM hr.o.1 (iw hwr)));clear hfull htw hwr hlaid hnr
     go_wp2_with fail
     refine Hi.o.mono ?_;rintro e w2 ⟨i,ok,rfl,hb,hio⟩;have HN2:=hid (HN.o.later hb);have Hio:=hid hio;clear Hi hb hio;dsimp only[bI];obtain ⟨⟨c0,c1,c2,c3,c4⟩,f0,f1,f2,f3,f4⟩:=cu HN2.o.r;go_wp2;refine bodyPost_ret (v:= .tuple #[bI 3 false i 0 ⟨#[]⟩,.bool ok]) (by simp[results,Tryz.results78,go_sem,bI,f0,f1,f2,f3,f4,c0,c1,c2,c3,c4]) rfl ?_;refine ⟨_,ok,rfl,(((((HN2.o.below).setCell (aAa _) _).setCell (aAa _) _).setCell (aAa _) _).setCell (aAa _) _).setCell (aAa _) _,?_⟩
     rcases Hio.o with ⟨q1,q2⟩|⟨q1,q2⟩
     ·exact .inr (.inl ⟨q1,i,HI.o.1.trans q2,rfl⟩)
     ·exact .inl ⟨q1,⟨3,i,rfl⟩,HI.o.1.trans q2,HI.o.2⟩
    ·have n1:((n:Int)==(r.size:Int))=false:=by simp;omega
     have hlt:n<r.size:=by omega
     have HI:=hid (E7 hr.o.1 (by rw[<-Hn.o,al];exact hfull));by_cases h46:r[n]=46
     ·have n2:((r[n].toNat:Int) != 46)=false:=by rw[h46];rfl
      have hpt:=vX Hn.o hlt h46;have hm:=hr.o.1;rw[hpt]at hm;have Hm:=hid hm;have hTs:(r.extract (n+1) r.size).size=r.size-(n+1):=by rw[<-al,dm,List.length_drop,al]
      obtain ⟨k,hk⟩:=ex (((r.extract (n+1) r.size).data.toList.takeWhile isD).length);have hkle:k<=r.size-(n+1):=by rw[<-hTs,<-al,hk];exact lR _
      have Hd:=hid (g9 wc (r.extract (n+1) r.size) (aAe (fQ _ _ _) hrmax2) k _ hk.symm rfl);have Hk:=hid hk;have m1:(n:Int)+1<=(r.size:Int):=by omega
      clear hfull h46 hpt hm hTs hk
      go_wp2_with fail
      refine Hd.o.mono ?_;rintro e w1 ⟨rfl,hw⟩;obtain rfl:=hw.symm;clear Hd;obtain ⟨N,hN⟩:=ex (n+1+k);have hNr:N<=r.size:=by omega
      go_upto_region 14 with (fail)
      go_cut [12] from 15 (fun s12 wc'=>s12= .int .i64 (N:Int)/\wc'=wc)
      case first=>
       go_wp2
       go_meet
       case rel=>exact ⟨by first|(congr 1;omega)|(rw[hN];rfl),(by first|rfl|trivial)⟩
      case rest=>
       obtain ⟨rfl,hw⟩:=hcut;obtain rfl:=hw.symm;by_cases hk0:k=0
       ·have n3:((k:Int)==0)=true:=by simp[hk0]
        have Hr:=hid (And.intro HI.o (mg Hm.o (cW _) (Hk.o.symm.trans hk0)));clear hk0 hN hNr hkle;go_wp2
        go_step3
        show 0=0/\J _ _
        refine ⟨rfl,hJ.o _ _ ?_⟩;obtain ⟨⟨c0,c1,c2,c3,c4⟩,f0,f1,f2,f3,f4⟩:=cu HN.o.r;go_wp2;rw[Exit.noGoto_ret];refine bodyPost_ret (v:= .tuple #[bI 0 false 0 0 ⟨#[]⟩,.bool false]) (by simp[results,Tryz.results78,go_sem,bI,f0,f1,f2,f3,f4,c0,c1,c2,c3,c4]) rfl ?_;exact ⟨_,false,rfl,(((((HN.o.below).setCell (aAa _) _).setCell (aAa _) _).setCell (aAa _) _).setCell (aAa _) _).setCell (aAa _) _,.inl ⟨rfl,⟨0,0,rfl⟩,Hr.o⟩⟩
       ·have n3:((k:Int)==0)=false:=by simp;omega
        have hA:(r.extract 0 n).data.toList=r.data.toList.takeWhile isD:=by
         rw[iM,List.drop_zero,Nat.sub_zero,Hn.o];exact (nN _).symm
        have hB:(r.extract (n+1) N).data.toList=(r.extract (n+1) r.size).data.toList.takeWhile isD:=by
         rw[iM,show N-(n+1)=k by omega,<-dm,Hk.o];exact (nN _).symm
        have hAB:(r.extract 0 n++r.extract (n+1) N).data.toList=r.data.toList.takeWhile isD++(r.extract (n+1) r.size).data.toList.takeWhile isD:=by
         rw[<-hA,<-hB];exact ByteArray.toList_data_append
        have hABall:(r.extract 0 n++r.extract (n+1) N).data.toList.all isD=true:=by
         rw[hAB,List.all_append,cW,cW];rfl
        have hAs:(r.extract 0 n).size=n:=by rw[<-al,hA,<-Hn.o]
        have hBs:(r.extract (n+1) N).size=k:=by rw[<-al,hB,<-Hk.o]
        have hABs:(r.extract 0 n++r.extract (n+1) N).size=n+k:=by
         rw[<-al,hAB,aAc,<-Hn.o,<-Hk.o]
        obtain ⟨m,hm⟩:=ex (jl (r.data.toList.takeWhile isD++(r.extract (n+1) r.size).data.toList.takeWhile isD));have Hd:=hid (fun w=>g9 w (r.extract 0 n++r.extract (n+1) N) (by rw[hABs];exact aAe (by omega:n+k<=2097152) (by decide)) (n+k) m (by rw[jO hABall,al,hABs]) (by rw[jO hABall,hAB,hm]));have Hmm:=hid hm;have hcat:(r.extract 0 n).size+(r.extract (n+1) N).size<=9223372036854775807:=by rw[hAs,hBs];omega
        have Hk0:=hid hk0;have m2:(n:Int)<=(r.size:Int):=by omega
        have m3:(N:Int)<=(r.size:Int):=by omega
        have m4:(n:Int)+1<=(N:Int):=by omega
        have m5:IntKind.i64.wrap ((n:Int)+1)=(n:Int)+1:=by rw[IntKind.wrap_i64];omega
        have hsl:∀w,(Instr.slice 9 (.string r) (some (.int .i64 ((n:Int)+1))) (some (.int .i64 (N:Int))) none).run Tryz.prog w= .ok (.string (r.extract (n+1) N)) w:=by
         intro w;have q:=run_slice_string (P:= Tryz.prog) w 9 r .i64 .i64 ((n:Int)+1) (N:Int) Tryz.underlying9 (by omega) m4 m3;rw[show ((n:Int)+1).toNat=n+1 by omega,show ((N:Int)).toNat=N by omega]at q;exact q
        have HNN:=hid hN;clear hA hB hAB hABall hABs hm hk0 hN hAs hBs;go_upto_region 16 with (fail)
        go_quiet (refine Calls.quiet_of_same (Hd.o _));generalize hwc2:wc.drewN nq=wc2;have HN2:=hid (hwc2 ▸ HN.o.drewN nq);clear Hd hcat hsl m5 hwc2;have mw:IntKind.i64.wrap ((N:Int)+1)=(N:Int)+1:=by rw[IntKind.wrap_i64];omega
        go_upto_if 80 with (fail)
        go_cut [10,11] from 15 (fun s10 s11 wc'=>∃(pw:Nat) (sg:Int),s10= .int .u64 (pw:Int)/\s11= .int .i64 sg/\(∃nq,wc'=wc2.drewN nq)/\Hid (pw<=99/\(sg=1\/sg= -1)/\jh s.data.toList=AE (r.data.toList.takeWhile isD) ((r.extract (n+1) r.size).data.toList.takeWhile isD) below (some (sg*(pw:Int)))))
        case first=>
         by_cases hend:N<r.size
         ·have n4:(N:Int)<(r.size:Int):=by omega
          have hbr:=DN Hk.o HNN.o hend;have m6:(N:Int)+1<=(r.size:Int):=by omega
          by_cases h101:r[N]=101
          ·have n5:((r[N].toNat:Int) != 101)=false:=by rw[h101];rfl
           rw[h101]at hbr;have Hpw:=hid (FR Hm.o Hwd.o (fun q=>Hk0.o (Hk.o.trans q)) hbr.1);have hVs:(r.extract (N+1) r.size).size<=r.size:=fQ _ _ _;clear hbr h101 hkle hNr;have Hp:=hid (fun w=> Tryz.strings_HasPrefix (r.extract (N+1) r.size) ⟨#[45]⟩ w)
           go_wp2_with fail
           refine (Hp.o _).mono ?_;rintro e w1 ⟨rfl,hw⟩;obtain rfl:=hw.symm;clear Hp;generalize r.extract (N+1) r.size=V at*;generalize hpre:Lib.hasPrefix V.data.toList (⟨#[45]⟩:ByteArray).data.toList=down;have Hdown:=hid hpre;clear hpre
           go_upto_if 90 with (fail)
           go_cut [0,11] from 15 (fun s0 s11 wc'=>∃(p:ByteArray) (sg:Int),s0= .string p/\s11= .int .i64 sg/\(∃nq,wc'=wc2.drewN nq)/\p.size<=V.size/\Hid (bc V.data.toList=(p.data.toList,down)/\sg=if down=true then -1 else 1))
           case first=>
            cases down with
            |true=>
             have h1:=oO Hdown.o;have Hmv:=hid h1.2;have h2:(1:Int)<=(V.size:Int):=by have:=h1.1;omega
             clear h1;go_wp2;go_quiet (fail);go_wp2
             go_meet
             case rel=>exact ⟨_,-1,(by first|rfl|trivial),(by first|rfl|trivial),⟨_,rfl⟩,fQ _ _ _,Hmv.o,rfl⟩
            |false=>
             go_wp2
             go_meet
             case rel=>exact ⟨_,1,(by first|rfl|trivial),(by first|rfl|trivial),⟨0,rfl⟩,aAa _,qN Hdown.o,rfl⟩
           case rest=>
            obtain ⟨p,sg,rfl,rfl,⟨nq2,rfl⟩,hps,hsg⟩:=hcut;have hpmax:p.size<=2097152:=by omega
            have Hpf:=hid (B4 hsg.o.1);obtain ⟨n2',hn2⟩:∃q,q=(p.data.toList.takeWhile isD).length:=⟨_,rfl⟩;have hn2le:n2'<=p.size:=by rw[hn2,<-al];exact lR _
            obtain ⟨pw,hpw⟩:∃q,q=jl (p.data.toList.takeWhile isD):=⟨_,rfl⟩;have Hd:=hid (g9 (wc2.drewN nq2) p (aAe hpmax (by decide)) n2' pw hn2.symm hpw.symm);have Hn2:=hid hn2;have Hpv:=hid hpw;clear hn2 hpw hVs hps
            go_wp2_with fail
            refine Hd.o.mono ?_;rintro e w1 ⟨rfl,hw⟩;obtain rfl:=hw.symm;clear Hd;by_cases hz:n2'=0\/2<n2'\/n2'<p.size
            ·have hpn:vW true V.data.toList=none:=by
              rw[Hpf.o,if_neg];rw[<-Hn2.o,al];omega
             have hdn:=Hpw.o;rw[hpn]at hdn;have Hr:=hid (And.intro HI.o hdn);have HN3:=hid (HN2.o.drewN nq2);clear hpn hdn;by_cases hz0:n2'=0
             ·have n6:((n2':Int)==0)=true:=by simp[hz0]
              clear hz hz0;go_wp2
              go_step3
              show 0=0/\J _ _
              refine ⟨rfl,hJ.o _ _ ?_⟩;obtain ⟨⟨c0,c1,c2,c3,c4⟩,f0,f1,f2,f3,f4⟩:=cu HN3.o.r;go_wp2;rw[Exit.noGoto_ret];refine bodyPost_ret (v:= .tuple #[bI 0 false 0 0 ⟨#[]⟩,.bool false]) (by simp[results,Tryz.results78,go_sem,bI,f0,f1,f2,f3,f4,c0,c1,c2,c3,c4]) rfl ?_;exact ⟨_,false,rfl,(((((HN3.o.below).setCell (aAa _) _).setCell (aAa _) _).setCell (aAa _) _).setCell (aAa _) _).setCell (aAa _) _,.inl ⟨rfl,⟨0,0,rfl⟩,Hr.o⟩⟩
             ·have n6:((n2':Int)==0)=false:=by simp;omega
              by_cases hz2:2<n2'
              ·have n7:(2:Int)<(n2':Int):=by omega
               clear hz hz0 hz2;go_wp2
               go_step3
               show 0=0/\J _ _
               refine ⟨rfl,hJ.o _ _ ?_⟩;obtain ⟨⟨c0,c1,c2,c3,c4⟩,f0,f1,f2,f3,f4⟩:=cu HN3.o.r;go_wp2;rw[Exit.noGoto_ret];refine bodyPost_ret (v:= .tuple #[bI 0 false 0 0 ⟨#[]⟩,.bool false]) (by simp[results,Tryz.results78,go_sem,bI,f0,f1,f2,f3,f4,c0,c1,c2,c3,c4]) rfl ?_;exact ⟨_,false,rfl,(((((HN3.o.below).setCell (aAa _) _).setCell (aAa _) _).setCell (aAa _) _).setCell (aAa _) _).setCell (aAa _) _,.inl ⟨rfl,⟨0,0,rfl⟩,Hr.o⟩⟩
              ·have n7:¬(2:Int)<(n2':Int):=by omega
               have n8:(n2':Int)<(p.size:Int):=by omega
               clear hz hz0 hz2;go_wp2
               go_step3
               show 0=0/\J _ _
               refine ⟨rfl,hJ.o _ _ ?_⟩;obtain ⟨⟨c0,c1,c2,c3,c4⟩,f0,f1,f2,f3,f4⟩:=cu HN3.o.r;go_wp2;rw[Exit.noGoto_ret];refine bodyPost_ret (v:= .tuple #[bI 0 false 0 0 ⟨#[]⟩,.bool false]) (by simp[results,Tryz.results78,go_sem,bI,f0,f1,f2,f3,f4,c0,c1,c2,c3,c4]) rfl ?_;exact ⟨_,false,rfl,(((((HN3.o.below).setCell (aAa _) _).setCell (aAa _) _).setCell (aAa _) _).setCell (aAa _) _).setCell (aAa _) _,.inl ⟨rfl,⟨0,0,rfl⟩,Hr.o⟩⟩
            ·have n6:((n2':Int)==0)=false:=by simp;omega
             have n7:¬(2:Int)<(n2':Int):=by omega
             have n8:¬(n2':Int)<(p.size:Int):=by omega
             have hfullp:p.data.toList.takeWhile isD=p.data.toList:=nO (by rw[<-Hn2.o,al];omega);have hsm:=vq (l:=p.data.toList) (by rw[<-hfullp];exact cW _) (by rw[al];omega);have hpv:=Hpv.o;rw[hfullp,hsm.1]at hpv;have hpn:vW true V.data.toList=some (sg*(pw:Int)):=by
              rw[Hpf.o,if_pos (by rw[<-Hn2.o,al];omega),<-hpv,hsg.o.2];cases down<;>simp
             have hdn:=Hpw.o;rw[hpn]at hdn;have Hres:=hid (show pw<=99/\(sg=1\/sg= -1)/\_ from ⟨by rw[hpv];exact hsm.2,by rw[hsg.o.2];cases down<;>simp,hdn⟩);clear hz hfullp hsm hpv hpn hdn;go_wp2
             go_meet
             case rel=>exact ⟨pw,sg,(by first|rfl|trivial),(by first|rfl|trivial),⟨nq2,rfl⟩,Hres.o⟩
          ·have n5:((r[N].toNat:Int) != 101)=true:=by
            simp;intro e;exact h101 (UInt8.toNat_inj.1 (by simpa using (by omega:r[N].toNat=101)))
           have Hr:=hid (And.intro HI.o (FT Hm.o (cW _) hbr.1 hbr.2 h101));clear hbr h101 hkle hNr mw;go_wp2
           go_step3
           show 0=0/\J _ _
           refine ⟨rfl,hJ.o _ _ ?_⟩;obtain ⟨⟨c0,c1,c2,c3,c4⟩,f0,f1,f2,f3,f4⟩:=cu HN2.o.r;go_wp2;rw[Exit.noGoto_ret];refine bodyPost_ret (v:= .tuple #[bI 0 false 0 0 ⟨#[]⟩,.bool false]) (by simp[results,Tryz.results78,go_sem,bI,f0,f1,f2,f3,f4,c0,c1,c2,c3,c4]) rfl ?_;exact ⟨_,false,rfl,(((((HN2.o.below).setCell (aAa _) _).setCell (aAa _) _).setCell (aAa _) _).setCell (aAa _) _).setCell (aAa _) _,.inl ⟨rfl,⟨0,0,rfl⟩,Hr.o⟩⟩
         ·have n4:¬(N:Int)<(r.size:Int):=by omega
          have hde:=FU Hm.o Hwd.o (fun q=>Hk0.o (Hk.o.trans q)) (by
           rw[<-Hk.o,al,<-al,dm,List.length_drop,al];have:=HNN.o;omega)
          have Hde:=hid hde;clear hde hend hkle hNr;go_wp2
          go_meet
          case rel=>exact ⟨0,1,(by first|rfl|trivial),(by first|rfl|trivial),⟨0,rfl⟩,by decide,.inl rfl,Hde.o⟩
        case rest=>
         obtain ⟨pw,sg,rfl,rfl,⟨nq2,rfl⟩,hq⟩:=hcut;have HN3:=hid (HN2.o.drewN nq2);generalize wc2.drewN nq2=wc3 at*;obtain ⟨kk,hkk⟩:∃kk:Int,kk=sg*(pw:Int)-(k:Int):=⟨_,rfl⟩;have hpw99:=hq.o.1;have hlast:=DB (d:=r.data.toList.takeWhile isD) (b:=(r.extract (n+1) r.size).data.toList.takeWhile isD) (neg:=below) (p:=sg*(pw:Int)) (by rcases hq.o.2.1 with q|q<;>rw[q]<;>omega) kk (by rw[hkk,<-Hk.o])
         rw[<-Hmm.o,<-hq.o.2.2]at hlast;have Hlast:=hid hlast;clear hlast;have mw1:IntKind.i64.wrap (pw:Int)=(pw:Int):=by rw[IntKind.wrap_i64];omega
         have mw2:IntKind.i64.wrap (sg*(pw:Int))=sg*(pw:Int):=by
          rcases hq.o.2.1 with q|q<;>rw[q,IntKind.wrap_i64]<;>omega
         have mw3:IntKind.i64.wrap (sg*(pw:Int)-(k:Int))=kk:=by
          rw[hkk];rcases hq.o.2.1 with q|q<;>rw[q,IntKind.wrap_i64]<;>omega
         have Hs:=hid (jr wc3 m kk);have Hkk:=hid hkk;clear hkk hq hkle hNr
         go_wp2_with fail
         refine Hs.o.mono ?_;rintro e w1 ⟨rfl,hw⟩;obtain rfl:=hw.symm;clear Hs;obtain ⟨⟨d0,d1,d2,d3,d4⟩,g0,g1,g2,g3,g4⟩:=cu HN3.o.v;by_cases hbd:Bad m kk
         ·have hE:(scE m kk != 0)=true:=by unfold scE;rw[if_pos hbd];rfl
          have Hr:=hid (And.intro HI.o (Hlast.o.1 hbd));have HN4:=hid (HN3.o.real (scR m kk));clear hbd;go_wp2
          go_step3
          show 0=0/\J _ _
          refine ⟨rfl,hJ.o _ _ ?_⟩;obtain ⟨⟨c0,c1,c2,c3,c4⟩,f0,f1,f2,f3,f4⟩:=cu HN4.o.r;go_wp2;rw[Exit.noGoto_ret];refine bodyPost_ret (v:= .tuple #[bI 0 false 0 0 ⟨#[]⟩,.bool false]) (by simp[results,Tryz.results78,go_sem,bI,f0,f1,f2,f3,f4,c0,c1,c2,c3,c4]) rfl ?_;exact ⟨_,false,rfl,(((((HN4.o.below).setCell (aAa _) _).setCell (aAa _) _).setCell (aAa _) _).setCell (aAa _) _).setCell (aAa _) _,.inl ⟨rfl,⟨0,0,rfl⟩,Hr.o⟩⟩
         ·have hE:(scE m kk != 0)=false:=by unfold scE;rw[if_neg hbd];rfl
          have hR:scR m kk=scW m kk:=if_neg hbd;have Hd:=hid (Hlast.o.2 hbd);have HR:=hid hR;clear hbd hR;have hng:=xP (scR m kk);obtain ⟨⟨c0,c1,c2,c3,c4⟩,f0,f1,f2,f3,f4⟩:=cu HN3.o.r;cases below with
          |false=>
           go_wp2;refine bodyPost_ret (v:= .tuple #[bI 4 false 0 (scR m kk) ⟨#[]⟩,.bool true]) (by simp[results,Tryz.results78,go_sem,bI,f0,f1,f2,f3,f4,c0,c1,c2,c3,c4]) rfl ?_;exact ⟨_,true,rfl,(((((HN3.o.below.setCell (Nat.le_succ _) _).setCell (aAa _) _).setCell (aAa _) _).setCell (aAa _) _).setCell (aAa _) _).setCell (aAa _) _,.inr (.inr ⟨rfl,HI.o,_,_,_,Hd.o,by rw[HR.o];rfl⟩)⟩
          |true=>
           go_wp2;refine bodyPost_ret (v:= .tuple #[bI 4 false 0 (j9 (scR m kk)) ⟨#[]⟩,.bool true]) (by simp[results,Tryz.results78,go_sem,bI,f0,f1,f2,f3,f4,c0,c1,c2,c3,c4]) rfl ?_;exact ⟨_,true,rfl,((((((HN3.o.below.setCell (Nat.le_succ _) _).setCell (Nat.le_succ _) _).setCell (aAa _) _).setCell (aAa _) _).setCell (aAa _) _).setCell (aAa _) _).setCell (aAa _) _,.inr (.inr ⟨rfl,HI.o,_,_,_,Hd.o,by rw[HR.o];rfl⟩)⟩
     ·have n2:((r[n].toNat:Int) != 46)=true:=by
       simp;intro e;exact h46 (UInt8.toNat_inj.1 (by simpa using (by omega:r[n].toNat=46)))
      have Hr:=hid (And.intro HI.o (Cl hr.o.1 Hn.o hlt h46));clear hfull h46 hnr;go_wp2
      go_step3
      show 0=0/\J _ _
      refine ⟨rfl,hJ.o _ _ ?_⟩;obtain ⟨⟨c0,c1,c2,c3,c4⟩,f0,f1,f2,f3,f4⟩:=cu HN.o.r;go_wp2;rw[Exit.noGoto_ret];refine bodyPost_ret (v:= .tuple #[bI 0 false 0 0 ⟨#[]⟩,.bool false]) (by simp[results,Tryz.results78,go_sem,bI,f0,f1,f2,f3,f4,c0,c1,c2,c3,c4]) rfl ?_;exact ⟨_,false,rfl,(((((HN.o.below).setCell (aAa _) _).setCell (aAa _) _).setCell (aAa _) _).setCell (aAa _) _).setCell (aAa _) _,.inl ⟨rfl,⟨0,0,rfl⟩,Hr.o⟩⟩
def zS:Nat:=9221120237041090561
def Ai:Nat:=9218868437227405312
def qL:Nat:=18442240474082181120
theorem Cq:∀w:World,(callFunc 114 #[.int .u64 9221120237041090561]).run Tryz.prog w= .ok (.value (.float .f64 9221120237041090561)) w:=ez 9221120237041090561
theorem CY:∀w:World,(callFunc 114 #[.int .u64 9218868437227405312]).run Tryz.prog w= .ok (.value (.float .f64 9218868437227405312)) w:=ez 9218868437227405312
theorem zM:∀w:World,(callFunc 114 #[.int .u64 18442240474082181120]).run Tryz.prog w= .ok (.value (.float .f64 18442240474082181120)) w:=ez 18442240474082181120
theorem Cr (w:World):Calls Tryz.prog 76 #[] w fun e w'=>e= .returned (.float .f64 zS)/\w'=w:=by
 have h:=Cq;go_enter Tryz.func76,Tryz.ntmps76;go_wp2;go_ret;exact ⟨rfl,rfl⟩
theorem CZ (w:World):Calls Tryz.prog 77 #[.int .i64 1] w fun e w'=>e= .returned (.float .f64 Ai)/\w'=w:=by
 have h:=CY;go_enter Tryz.func77,Tryz.ntmps77;go_wp2;go_ret;exact ⟨rfl,rfl⟩
theorem zN (w:World):Calls Tryz.prog 77 #[.int .i64 (-1)] w fun e w'=>e= .returned (.float .f64 qL)/\w'=w:=by
 have h:=zM;go_enter Tryz.func77,Tryz.ntmps77;go_wp2;go_ret;exact ⟨rfl,rfl⟩
structure Val where
 kind:Int
 bool:Bool
 int:Int
 real:Nat
 text:ByteArray
def Val.v (a:Val):Value:=bI a.kind a.bool a.int a.real a.text
def ke (s:ByteArray):Val:=
 match pd s.data.toList with
 |some i=>⟨3,false,i,0,⟨#[]⟩⟩
 |none=>match jh s.data.toList with
  |some (m,k,b)=>⟨4,false,0,if b=true then j9 (scW m k) else scW m k,⟨#[]⟩⟩
  |none=>⟨5,false,0,0,s⟩
def aX (s:ByteArray) (quoted:Bool):Val:=
 if quoted=true then ⟨5,false,0,0,s⟩
 else if s.data.toList=[]\/s.data.toList=[126]\/s.data.toList=[110,117,108,108] then ⟨1,false,0,0,⟨#[]⟩⟩
 else if s.data.toList=[116,114,117,101] then ⟨2,true,0,0,⟨#[]⟩⟩
 else if s.data.toList=[102,97,108,115,101] then ⟨2,false,0,0,⟨#[]⟩⟩
 else if s.data.toList=[46,110,97,110] then ⟨4,false,0,zS,⟨#[]⟩⟩
 else if s.data.toList=[46,105,110,102] then ⟨4,false,0,Ai,⟨#[]⟩⟩
 else if s.data.toList=[45,46,105,110,102] then ⟨4,false,0,qL,⟨#[]⟩⟩
 else ke s
def lO (s:ByteArray) (quoted:Bool) (w:World) (e:Ending) (w':World):Prop:=
 e= .returned (aX s quoted).v/\Below w.heap.size w w'
theorem nB {w:World} (h:cQ w) (o:Obj):cQ (w.alloc o):=by
 obtain ⟨ev,q1,q2⟩:=h;exact ⟨ev,by rw[((aAb w.heap.size w).alloc (aAa _) o).cell (dB q1)];exact q1,q2⟩
theorem bK {w:World} {b t:Nat} {v0 v1 v2 v3 v4:Value} (h:w.heap[b]? =some (.cells #[v0,v1,v2,v3,v4] t (0,0))):
 (w.cell? ⟨b,0,none⟩=some v0/\w.cell? ⟨b,1,none⟩=some v1/\w.cell? ⟨b,2,none⟩=some v2/\w.cell? ⟨b,3,none⟩=some v3/\w.cell? ⟨b,4,none⟩=some v4)/\
 (w.frozen? ⟨b,0,none⟩=false/\w.frozen? ⟨b,1,none⟩=false/\w.frozen? ⟨b,2,none⟩=false/\w.frozen? ⟨b,3,none⟩=false/\w.frozen? ⟨b,4,none⟩=false):=by
 refine ⟨⟨?_,?_,?_,?_,?_⟩,?_,?_,?_,?_,?_⟩<;>simp[World.cell?,World.frozen?,h]
structure RW (w w':World) (t:Nat):Prop where
 below:Below w.heap.size w w'
 r:w'.heap[w.heap.size]? =some (.cells #[.int .i64 0,.bool false,.int .i64 0,.float .f64 0,.string ⟨#[]⟩] t (0,0))
 lt:w.heap.size<w'.heap.size
theorem RW.first (w:World) (t:Nat):RW w (w.alloc (Obj.cells #[.int .i64 0,.bool false,.int .i64 0,.float .f64 0,.string ⟨#[]⟩] t)) t where
 below:=(aAb _ _).alloc (aAa _) _
 r:=by simp[World.alloc,-World.alloc_eq]
 lt:=by simp
theorem RW.later {w w' w2:World} {t:Nat} (h:RW w w' t) (hb:Below w'.heap.size w' w2):RW w w2 t:=
 ⟨h.below.trans (hb.mono h.below.size),(hb.block _ h.lt).trans h.r,Nat.lt_of_lt_of_le h.lt hb.size⟩
theorem RW.laid {w w':World} {t:Nat} (h:RW w w' t) (hl:cQ w):cQ w':=by
 obtain ⟨ev,q1,q2⟩:=hl;exact ⟨ev,by rw[h.below.cell (dB q1)];exact q1,q2⟩
theorem RW.drewN {w w':World} {t:Nat} (h:RW w w' t) (n:Nat):RW w (w'.drewN n) t:=
 ⟨h.below.trans ⟨rfl,rfl,rfl,aAa _,fun _ _=>rfl⟩,h.r,h.lt⟩
theorem fj {s:ByteArray} {l:List UInt8} (h:s.data.toList=l):(s.toList==l)=true:=by
 rw[Lib.toList_data,h];exact beq_self_eq_true l
theorem fZ {s:ByteArray} {l:List UInt8} (h:¬s.data.toList=l):(s.toList==l)=false:=by
 rw[Lib.toList_data];exact beq_eq_false_iff_ne.2 h
theorem l5 (w:World) (s:ByteArray) (hmax:s.size<=2097152) (quoted:Bool) (hv:cQ w):
 Calls Tryz.prog 44 #[.string s,.bool quoted] w fun e w'=>lO s quoted w e w':=by
 have hst:= @gZ;have hRW:=RW.first w 91;have Hv:=hid hv;clear hv;go_enter Tryz.func44,Tryz.ntmps44
 go_upto_if 7 with (fail)
 obtain ⟨w1,hw1⟩:=ex (w.alloc (Obj.cells #[.int .i64 0,.bool false,.int .i64 0,.float .f64 0,.string ⟨#[]⟩] 91));rw[<-hw1];rw[<-hw1]at hRW;have HR:=hid hRW;clear hRW hw1;cases quoted with
 |true=>
  have hS:aX s true=⟨5,false,0,0,s⟩:=rfl;obtain ⟨⟨c0,c1,c2,c3,c4⟩,f0,f1,f2,f3,f4⟩:=bK HR.o.r;go_wp2;refine bodyPost_ret (v:=bI 5 false 0 0 s) (by simp[results,Tryz.results44,go_sem,bI,f0,f1,f2,f3,f4,c0,c1,c2,c3,c4]) rfl ?_;exact ⟨by rw[hS];rfl,(((((HR.o.below.setCell (aAa _) _).setCell (aAa _) _).setCell (aAa _) _).setCell (aAa _) _).setCell (aAa _) _)⟩
 |false=>
  by_cases hn:s.data.toList=[]
  ·have qn:=fj hn;have hS:aX s false=⟨1,false,0,0,⟨#[]⟩⟩:=by simp[aX,hn]
   clear hn;obtain ⟨⟨c0,c1,c2,c3,c4⟩,f0,f1,f2,f3,f4⟩:=bK HR.o.r;go_wp2;refine bodyPost_ret (v:=bI 1 false 0 0 ⟨#[]⟩) (by simp[results,Tryz.results44,go_sem,bI,f0,f1,f2,f3,f4,c0,c1,c2,c3,c4]) rfl ?_;exact ⟨by rw[hS];rfl,(((((HR.o.below.setCell (aAa _) _).setCell (aAa _) _).setCell (aAa _) _).setCell (aAa _) _).setCell (aAa _) _)⟩
  ·have qn:=fZ hn;by_cases ht:s.data.toList=[126]
   ·have qt:=fj ht;have hS:aX s false=⟨1,false,0,0,⟨#[]⟩⟩:=by simp[aX,ht]
    clear hn ht;obtain ⟨⟨c0,c1,c2,c3,c4⟩,f0,f1,f2,f3,f4⟩:=bK HR.o.r;go_wp2;refine bodyPost_ret (v:=bI 1 false 0 0 ⟨#[]⟩) (by simp[results,Tryz.results44,go_sem,bI,f0,f1,f2,f3,f4,c0,c1,c2,c3,c4]) rfl ?_;exact ⟨by rw[hS];rfl,(((((HR.o.below.setCell (aAa _) _).setCell (aAa _) _).setCell (aAa _) _).setCell (aAa _) _).setCell (aAa _) _)⟩
   ·have qt:=fZ ht;by_cases hu:s.data.toList=[110,117,108,108]
    ·have qu:=fj hu;have hS:aX s false=⟨1,false,0,0,⟨#[]⟩⟩:=by simp[aX,hu]
     clear hn ht hu;obtain ⟨⟨c0,c1,c2,c3,c4⟩,f0,f1,f2,f3,f4⟩:=bK HR.o.r;go_wp2;refine bodyPost_ret (v:=bI 1 false 0 0 ⟨#[]⟩) (by simp[results,Tryz.results44,go_sem,bI,f0,f1,f2,f3,f4,c0,c1,c2,c3,c4]) rfl ?_;exact ⟨by rw[hS];rfl,(((((HR.o.below.setCell (aAa _) _).setCell (aAa _) _).setCell (aAa _) _).setCell (aAa _) _).setCell (aAa _) _)⟩
    ·have qu:=fZ hu;by_cases hy:s.data.toList=[116,114,117,101]
     ·have qy:=fj hy;have hS:aX s false=⟨2,true,0,0,⟨#[]⟩⟩:=by simp[aX,hy]
      clear hn ht hu hy;obtain ⟨⟨c0,c1,c2,c3,c4⟩,f0,f1,f2,f3,f4⟩:=bK HR.o.r;go_wp2;refine bodyPost_ret (v:=bI 2 true 0 0 ⟨#[]⟩) (by simp[results,Tryz.results44,go_sem,bI,f0,f1,f2,f3,f4,c0,c1,c2,c3,c4]) rfl ?_;exact ⟨by rw[hS];rfl,(((((HR.o.below.setCell (aAa _) _).setCell (aAa _) _).setCell (aAa _) _).setCell (aAa _) _).setCell (aAa _) _)⟩
     ·have qy:=fZ hy;by_cases hf:s.data.toList=[102,97,108,115,101]
      ·have qf:=fj hf;have hS:aX s false=⟨2,false,0,0,⟨#[]⟩⟩:=by simp[aX,hf]
       clear hn ht hu hy hf;obtain ⟨⟨c0,c1,c2,c3,c4⟩,f0,f1,f2,f3,f4⟩:=bK HR.o.r;go_wp2;refine bodyPost_ret (v:=bI 2 false 0 0 ⟨#[]⟩) (by simp[results,Tryz.results44,go_sem,bI,f0,f1,f2,f3,f4,c0,c1,c2,c3,c4]) rfl ?_;exact ⟨by rw[hS];rfl,(((((HR.o.below.setCell (aAa _) _).setCell (aAa _) _).setCell (aAa _) _).setCell (aAa _) _).setCell (aAa _) _)⟩
      ·have qf:=fZ hf;by_cases ha:s.data.toList=[46,110,97,110]
       ·have qa:=fj ha;have hS:aX s false=⟨4,false,0,zS,⟨#[]⟩⟩:=by simp[aX,ha]
        clear hn ht hu hy hf ha;have Hc:=hid Cr
        go_wp2_with fail
        refine (Hc.o _).mono ?_;rintro e w1 ⟨rfl,hw⟩;obtain rfl:=hw.symm;clear Hc;obtain ⟨⟨c0,c1,c2,c3,c4⟩,f0,f1,f2,f3,f4⟩:=bK HR.o.r;go_wp2;refine bodyPost_ret (v:=bI 4 false 0 zS ⟨#[]⟩) (by simp[results,Tryz.results44,go_sem,bI,f0,f1,f2,f3,f4,c0,c1,c2,c3,c4]) rfl ?_;exact ⟨by rw[hS];rfl,(((((HR.o.below.setCell (aAa _) _).setCell (aAa _) _).setCell (aAa _) _).setCell (aAa _) _).setCell (aAa _) _)⟩
       ·have qa:=fZ ha;by_cases hi:s.data.toList=[46,105,110,102]
        ·have qi:=fj hi;have hS:aX s false=⟨4,false,0,Ai,⟨#[]⟩⟩:=by simp[aX,hi]
         clear hn ht hu hy hf ha hi;have Hc:=hid CZ
         go_wp2_with fail
         refine (Hc.o _).mono ?_;rintro e w1 ⟨rfl,hw⟩;obtain rfl:=hw.symm;clear Hc;obtain ⟨⟨c0,c1,c2,c3,c4⟩,f0,f1,f2,f3,f4⟩:=bK HR.o.r;go_wp2;refine bodyPost_ret (v:=bI 4 false 0 Ai ⟨#[]⟩) (by simp[results,Tryz.results44,go_sem,bI,f0,f1,f2,f3,f4,c0,c1,c2,c3,c4]) rfl ?_;exact ⟨by rw[hS];rfl,(((((HR.o.below.setCell (aAa _) _).setCell (aAa _) _).setCell (aAa _) _).setCell (aAa _) _).setCell (aAa _) _)⟩
        ·have qi:=fZ hi;by_cases hm:s.data.toList=[45,46,105,110,102]
         ·have qm:=fj hm;have hS:aX s false=⟨4,false,0,qL,⟨#[]⟩⟩:=by simp[aX,hm]
          clear hn ht hu hy hf ha hi hm;have Hc:=hid zN
          go_wp2_with fail
          refine (Hc.o _).mono ?_;rintro e w1 ⟨rfl,hw⟩;obtain rfl:=hw.symm;clear Hc;obtain ⟨⟨c0,c1,c2,c3,c4⟩,f0,f1,f2,f3,f4⟩:=bK HR.o.r;go_wp2;refine bodyPost_ret (v:=bI 4 false 0 qL ⟨#[]⟩) (by simp[results,Tryz.results44,go_sem,bI,f0,f1,f2,f3,f4,c0,c1,c2,c3,c4]) rfl ?_;exact ⟨by rw[hS];rfl,(((((HR.o.below.setCell (aAa _) _).setCell (aAa _) _).setCell (aAa _) _).setCell (aAa _) _).setCell (aAa _) _)⟩
         ·have qm:=fZ hm;have hS:aX s false=ke s:=by simp[aX,hn,ht,hu,hy,hf,ha,hi,hm]
          clear hn ht hu hy hf ha hi hm;have Hc:=hid (rI w1 s hmax (HR.o.laid Hv.o))
          go_wp2_with fail
          refine Hc.o.mono ?_;rintro e w2 ⟨V,ok,rfl,hb,hcases⟩;have HR2:=hid (HR.o.later hb);clear hb Hc;obtain ⟨kd,vi,vx,hV⟩:∃kd vi vx,V=bI kd false vi vx ⟨#[]⟩:=by
           rcases hcases with ⟨_,⟨kd,i,h⟩,_⟩|⟨_,i,_,h⟩|⟨_,_,m,k,b,_,h⟩
           ·exact ⟨_,_,_,h⟩
           ·exact ⟨_,_,_,h⟩
           ·exact ⟨_,_,_,h⟩
          have HC:=hid hcases;have HV:=hid hV;clear hcases;rw[hV];clear hV;dsimp only[bI]
          go_upto_if 39 with (fail)
          obtain ⟨w3,hw3⟩:=ex (w2.alloc (Obj.cells #[.int .i64 kd,.bool false,.int .i64 vi,.float .f64 vx,.string ⟨#[]⟩] 91));rw[<-hw3];have HR3:=hid (HR2.o.later (w2:=w3) (by rw[hw3];exact (aAb _ _).alloc (aAa _) _));have hB3:w3.heap[w2.heap.size]? =some (.cells #[.int .i64 kd,.bool false,.int .i64 vi,.float .f64 vx,.string ⟨#[]⟩] 91 (0,0)):=by
           rw[hw3];simp[World.alloc,-World.alloc_eq]
          have HB3:=hid hB3;clear hB3 hw3;cases ok with
          |false=>
           have hT:aX s false=⟨5,false,0,0,s⟩:=by
            rcases HC.o with ⟨_,_,hI,hD⟩|⟨q,_⟩|⟨q,_⟩
            ·rw[hS];unfold ke;rw[hI];simp only[hD]
            ·cases q
            ·cases q
           clear hS;obtain ⟨⟨c0,c1,c2,c3,c4⟩,f0,f1,f2,f3,f4⟩:=bK HR3.o.r;go_wp2;refine bodyPost_ret (v:=bI 5 false 0 0 s) (by simp[results,Tryz.results44,go_sem,bI,f0,f1,f2,f3,f4,c0,c1,c2,c3,c4]) rfl ?_;exact ⟨by rw[hT];rfl,(((((HR3.o.below.setCell (aAa _) _).setCell (aAa _) _).setCell (aAa _) _).setCell (aAa _) _).setCell (aAa _) _)⟩
          |true=>
           have hT:(aX s false).v=bI kd false vi vx ⟨#[]⟩:=by
            rcases HC.o with ⟨q,_⟩|⟨_,i,hI,hV⟩|⟨_,hI,m,k,b,hD,hV⟩
            ·cases q
            ·rw[<-HV.o,hV,hS];unfold ke;rw[hI];rfl
            ·rw[<-HV.o,hV,hS];unfold ke;rw[hI];simp only[hD];rfl
           clear hS;obtain ⟨⟨d0,d1,d2,d3,d4⟩,g0,g1,g2,g3,g4⟩:=bK HB3.o;obtain ⟨⟨c0,c1,c2,c3,c4⟩,f0,f1,f2,f3,f4⟩:=bK HR3.o.r;go_wp2;refine bodyPost_ret (v:=bI kd false vi vx ⟨#[]⟩) (by simp[results,Tryz.results44,go_sem,bI,f0,f1,f2,f3,f4,c0,c1,c2,c3,c4]) rfl ?_;exact ⟨by rw[hT],(((((HR3.o.below.setCell (aAa _) _).setCell (aAa _) _).setCell (aAa _) _).setCell (aAa _) _).setCell (aAa _) _)⟩
