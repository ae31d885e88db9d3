/-
Parts of a proof.
-/
import Derived.Test.YtfenoaeoedobmaaGreatDoorBk06
set_option linter.unusedVariables false
set_option linter.unusedSimpArgs false
set_option maxHeartbeats 8000000
set_option maxRecDepth 20000
namespace Go.Proofs.YtfenoaeoedobmaaGreatDoor
open Go Go.RowKit
def a4t (l:List UInt8) (w:World) (e:Ending) (w':World):Prop:=
 ∃(V:Value) (ok:Bool),e= .returned (.tuple #[V,.bool ok])/\Below w.heap.size w w'/\
  (ok=false/\(∃kd i,V=valV kd false i 0 ⟨#[]⟩)/\intR l=none/\decR l=none\/ok=true/\(∃i,intR l=some i/\V=valV 3 false i 0 ⟨#[]⟩)\/
   ok=true/\intR l=none/\∃m k b,decR l=some (m,k,b)/\V=valV 4 false 0 (if b=true then negW (scW m k) else scW m k) ⟨#[]⟩)
structure NW (w w':World) (x:Nat):Prop where
 below:Below w.heap.size w w'
 r:w'.heap[w.heap.size]? =some (.cells #[.int .i64 0,.bool false,.int .i64 0,.float .f64 0,.string ⟨#[]⟩] 91 (0,0))
 v:w'.heap[w.heap.size+1]? =some (.cells #[.int .i64 4,.bool false,.int .i64 0,.float .f64 x,.string ⟨#[]⟩] 91 (0,0))
theorem NW.first (w:World):NW w ((w.alloc (Obj.cells #[.int .i64 0,.bool false,.int .i64 0,.float .f64 0,.string ⟨#[]⟩] 91)).alloc (Obj.cells #[.int .i64 4,.bool false,.int .i64 0,.float .f64 0,.string ⟨#[]⟩] 91)) 0 where
 below:=((a7d _ _).alloc (a7c _) _).alloc (by simp) _
 r:=by simp[World.alloc,-World.alloc_eq,Array.getElem?_push]
 v:=by
  show ((w.heap.push _).push _)[w.heap.size+1]? =_
  rw[Array.getElem?_push,if_pos (by simp)]
theorem NW.drewN {w w':World} {x:Nat} (h:NW w w' x) (n:Nat):NW w (w'.drewN n) x:=
 ⟨h.below.trans ⟨rfl,rfl,rfl,a7c _,fun _ _=>rfl⟩,h.r,h.v⟩
theorem NW.later {w w' w2:World} {x:Nat} (h:NW w w' x) (hb:Below w'.heap.size w' w2):NW w w2 x:=by
 have hlt:w.heap.size+1<w'.heap.size:=by
  rcases Nat.lt_or_ge (w.heap.size+1) w'.heap.size with q|q
  ·exact q
  ·have:=h.v;rw[Array.getElem?_eq_none q]at this;cases this
 exact ⟨h.below.trans (hb.mono h.below.size),(hb.block _ (by omega)).trans h.r,(hb.block _ hlt).trans h.v⟩
theorem NW.real {w w':World} {x:Nat} (h:NW w w' x) (y:Nat):NW w (w'.setCell ⟨w.heap.size+1,3,none⟩ (.float .f64 y)) y:=by
 refine ⟨h.below.setCell (Nat.le_succ _) _,?_,?_⟩
 ·rw[Below.heap_setCell _ _ _ _ (by simp)];exact h.r
 ·have:=h.v;simp only[World.setCell,Array.getElem?_modify,this];simp
theorem aBh {w:World} {b:Nat} {v0 v1 v2 v3 v4:Value} (h:w.heap[b]? =some (.cells #[v0,v1,v2,v3,v4] 91 (0,0))):
 (w.cell? ⟨b,0,none⟩=some v0/\w.cell? ⟨b,1,none⟩=some v1/\w.cell? ⟨b,2,none⟩=some v2/\w.cell? ⟨b,3,none⟩=some v3/\w.cell? ⟨b,4,none⟩=some v4)/\
 (w.frozen? ⟨b,0,none⟩=false/\w.frozen? ⟨b,1,none⟩=false/\w.frozen? ⟨b,2,none⟩=false/\w.frozen? ⟨b,3,none⟩=false/\w.frozen? ⟨b,4,none⟩=false):=by
 refine ⟨⟨?_,?_,?_,?_,?_⟩,?_,?_,?_,?_,?_⟩<;>simp[World.cell?,World.frozen?,h]
theorem aKy {s:ByteArray} (h:Lib.hasPrefix s.data.toList [45]=true):1<=s.size/\aA4 s.data.toList=((s.extract 1 s.size).data.toList,true):=by
 rw[aCg];have hsz:=aAf s;cases hl:s.data.toList with
 |nil=>rw[hl]at h;cases h
 |cons c r=>
  rw[hl]at h hsz;refine ⟨by simp at hsz;omega,?_⟩;have hc:c=45:=by
   simp[Lib.hasPrefix,List.isPrefixOf]at h;exact h.symm
  simp[aA4,hc]
theorem aNn {s:ByteArray} (h:Lib.hasPrefix s.data.toList [45]=false):aA4 s.data.toList=(s.data.toList,false):=by
 cases hl:s.data.toList with
 |nil=>rfl
 |cons c r=>
  rw[hl]at h;have hc:c≠45:=by
   simp[Lib.hasPrefix,List.isPrefixOf]at h;exact fun q=>h q.symm
  simp[aA4,hc]
theorem aNo (w:World) (s:ByteArray) (hmax:s.size<=2097152) (hv:aB3 w):
 Calls Tryz.prog 78 #[.string s] w fun e w'=>a4t s.data.toList w e w':=by
 have Hv:=hid hv;have hst:= @aEx;clear hv;go_enter Tryz.func78,Tryz.ntmps78;go_wp2;refine aNc 0 rfl ?_;intro J hJ0;have hJ:=hid hJ0;clear hJ0;have Hp:=hid (fun w=> Tryz.strings_HasPrefix s ⟨#[45]⟩ w)
 go_wp2_with fail
 refine (Hp.out _).mono ?_;rintro e w1 ⟨rfl,hw⟩;obtain rfl:=hw.symm;clear Hp;generalize hpre:Lib.hasPrefix s.data.toList (⟨#[45]⟩:ByteArray).data.toList=below;have Hpre:=hid hpre;clear hpre;have hNW:=NW.first w;obtain ⟨w1,hw1⟩:∃w1,w1=(w.alloc (Obj.cells #[.int .i64 0,.bool false,.int .i64 0,.float .f64 0,.string ⟨#[]⟩] 91)).alloc (Obj.cells #[.int .i64 4,.bool false,.int .i64 0,.float .f64 0,.string ⟨#[]⟩] 91):=⟨_,rfl⟩
 rw[<-hw1];rw[<-hw1]at hNW;clear hw1;have HN:=hid hNW;clear hNW
 go_upto_if 18 with (fail)
 go_cut [0] from 18 (fun s0 wc'=>∃r:ByteArray,s0= .string r/\wc'=w1/\Hid (aA4 s.data.toList=(r.data.toList,below)/\r.size<=s.size))
 case first=>
  cases below with
  |true=>
   have h1:=aKy Hpre.out;have Hm:=hid h1.2;have h2:(1:Int)<=(s.size:Int):=by have:=h1.1;omega
   clear h1;go_wp2
   go_meet
   case rel=>exact ⟨_,(by first|rfl|trivial),(by first|rfl|trivial),Hm.out,aD0 _ _ _⟩
  |false=>
   go_wp2
   go_meet
   case rel=>exact ⟨_,(by first|rfl|trivial),(by first|rfl|trivial),aNn Hpre.out,a7c _⟩
 case rest=>
  obtain ⟨r,rfl,rfl,hr⟩:=hcut;have hrmax:r.size<=2097152:=a7g hr.out.2 hmax;have hrmax2:r.size<=maxLen:=a7g hrmax (by decide);obtain ⟨n,hn⟩:∃n,n=(r.data.toList.takeWhile isD).length:=⟨_,rfl⟩;have Hd:=hid (aEw wc r hrmax2 n _ hn.symm rfl);have Hn:=hid hn;clear hn
  go_wp2_with fail
  refine Hd.out.mono ?_;rintro e w1 ⟨rfl,hw⟩;obtain rfl:=hw.symm;clear Hd;have hnr:n<=r.size:=by rw[Hn.out,<-aAf];exact aI8 _
  go_upto_region 9 with (fail)
  go_cut [36] from 15 (fun s36 wc'=>∃b:Bool,s36= .bool b/\wc'=wc/\Hid ((b=true->intR s.data.toList=none/\decR s.data.toList=none)/\(b=false->aB2 (r.data.toList.takeWhile isD)=true)))
  case first=>
   by_cases hn0:n=0
   ·have n1:((n:Int)==0)=true:=by simp[hn0]
    have Hr:=hid (aKw hr.out.1 (by
     rw[List.eq_nil_of_length_eq_zero (Hn.out.symm.trans hn0)];rfl))
    clear hn0 hnr;go_wp2
    go_meet
    case rel=>exact ⟨true,(by first|rfl|trivial),(by first|rfl|trivial),fun _=>Hr.out,fun q=>by cases q⟩
   ·have n1:((n:Int)==0)=false:=by simp;omega
    have hr0:0<r.size:=by omega
    have hhead:(r.data.toList.takeWhile isD).head? =some r[0]:=by
     rw[a4o (by rw[<-Hn.out];omega),aUm r hr0];rfl
    by_cases hn1:1<n
    ·have n2:(1:Int)<(n:Int):=by omega
     by_cases h48:r[0]=48
     ·have n3:((r[0].toNat:Int)==48)=true:=by rw[h48];rfl
      have Hr:=hid (aKw hr.out.1 (aUr (by rw[<-Hn.out];exact hn1) (by rw[hhead,h48])));clear hn0 hn1 hnr hhead h48;go_wp2
      go_meet
      case rel=>exact ⟨true,(by first|rfl|trivial),(by first|rfl|trivial),fun _=>Hr.out,fun q=>by cases q⟩
     ·have n3:((r[0].toNat:Int)==48)=false:=by
       simp;intro e;exact h48 (UInt8.toNat_inj.1 (by simpa using (by omega:r[0].toNat=48)))
      have Hr:=hid (aQ9 (by rw[<-Hn.out];exact hn0) (by rw[hhead];intro q;exact h48 (a7h q.2)));clear hn0 hn1 hnr hhead h48;go_wp2
      go_meet
      case rel=>exact ⟨false,(by first|rfl|trivial),(by first|rfl|trivial),fun q=>(by cases q),fun _=>Hr.out⟩
    ·have n2:¬(1:Int)<(n:Int):=by omega
     have Hr:=hid (aQ9 (by rw[<-Hn.out];exact hn0) (by rw[<-Hn.out];intro q;exact hn1 q.1));clear hn0 hn1 hnr hhead;go_wp2
     go_meet
     case rel=>exact ⟨false,(by first|rfl|trivial),(by first|rfl|trivial),fun q=>(by cases q),fun _=>Hr.out⟩
  case rest=>
   obtain ⟨b36,rfl,hw,hwd⟩:=hcut;obtain rfl:=hw.symm;cases b36 with
   |true=>
    have Hr:=hid (hwd.out.1 rfl);clear hwd hnr;go_wp2
    go_step3
    show 0=0/\J _ _
    refine ⟨rfl,hJ.out _ _ ?_⟩;obtain ⟨⟨c0,c1,c2,c3,c4⟩,f0,f1,f2,f3,f4⟩:=aBh HN.out.r;go_wp2;rw[Exit.noGoto_ret];refine bodyPost_ret (v:= .tuple #[valV 0 false 0 0 ⟨#[]⟩,.bool false]) (by simp[results,Tryz.results78,go_sem,valV,f0,f1,f2,f3,f4,c0,c1,c2,c3,c4]) rfl ?_;exact ⟨_,false,rfl,(((((HN.out.below).setCell (a7c _) _).setCell (a7c _) _).setCell (a7c _) _).setCell (a7c _) _).setCell (a7c _) _,.inl ⟨rfl,⟨0,0,rfl⟩,Hr.out⟩⟩
   |false=>
    have Hwd:=hid (hwd.out.2 rfl);clear hwd;by_cases hfull:n=r.size
    ·have n1:((n:Int)==(r.size:Int))=true:=by simp[hfull]
     have htw:=aL6 (by rw[<-Hn.out,aAf];exact hfull:(r.data.toList.takeWhile isD).length=r.data.toList.length);have hwr:=Hwd.out;rw[htw]at hwr;have hlaid:aB3 wc:=by
      obtain ⟨ev,q1,q2⟩:=Hv.out;exact ⟨ev,by rw[HN.out.below.cell (aCh q1)];exact q1,q2⟩
     have Hi:=hid (aNj wc r hrmax below (aI6 hwr) hlaid);have HI:=hid (And.intro (aS3 hr.out.1 hwr) (aPi hr.out.1 (aFk hwr)));clear hfull htw hwr hlaid hnr
     go_wp2_with fail
     refine Hi.out.mono ?_;rintro e w2 ⟨i,ok,rfl,hb,hio⟩;have HN2:=hid (HN.out.later hb);have Hio:=hid hio;clear Hi hb hio;dsimp only[valV];obtain ⟨⟨c0,c1,c2,c3,c4⟩,f0,f1,f2,f3,f4⟩:=aBh HN2.out.r;go_wp2;refine bodyPost_ret (v:= .tuple #[valV 3 false i 0 ⟨#[]⟩,.bool ok]) (by simp[results,Tryz.results78,go_sem,valV,f0,f1,f2,f3,f4,c0,c1,c2,c3,c4]) rfl ?_;refine ⟨_,ok,rfl,(((((HN2.out.below).setCell (a7c _) _).setCell (a7c _) _).setCell (a7c _) _).setCell (a7c _) _).setCell (a7c _) _,?_⟩
     rcases Hio.out with ⟨q1,q2⟩|⟨q1,q2⟩
     ·exact .inr (.inl ⟨q1,i,HI.out.1.trans q2,rfl⟩)
     ·exact .inl ⟨q1,⟨3,i,rfl⟩,HI.out.1.trans q2,HI.out.2⟩
    ·have n1:((n:Int)==(r.size:Int))=false:=by simp;omega
     have hlt:n<r.size:=by omega
     have HI:=hid (a4p hr.out.1 (by rw[<-Hn.out,aAf];exact hfull));by_cases h46:r[n]=46
     ·have n2:((r[n].toNat:Int) != 46)=false:=by rw[h46];rfl
      have hpt:=aS4 Hn.out hlt h46;have hm:=hr.out.1;rw[hpt]at hm;have Hm:=hid hm;have hTs:(r.extract (n+1) r.size).size=r.size-(n+1):=by rw[<-aAf,aCg,List.length_drop,aAf]
      obtain ⟨k,hk⟩:∃k,k=((r.extract (n+1) r.size).data.toList.takeWhile isD).length:=⟨_,rfl⟩;have hkle:k<=r.size-(n+1):=by rw[<-hTs,<-aAf,hk];exact aI8 _
      have Hd:=hid (aEw wc (r.extract (n+1) r.size) (a7g (aD0 _ _ _) hrmax2) k _ hk.symm rfl);have Hk:=hid hk;have m1:(n:Int)+1<=(r.size:Int):=by omega
      clear hfull h46 hpt hm hTs hk
      go_wp2_with fail
      refine Hd.out.mono ?_;rintro e w1 ⟨rfl,hw⟩;obtain rfl:=hw.symm;clear Hd;obtain ⟨N,hN⟩:∃N,N=n+1+k:=⟨_,rfl⟩;have hNr:N<=r.size:=by omega
      go_upto_region 14 with (fail)
      go_cut [12] from 15 (fun s12 wc'=>s12= .int .i64 (N:Int)/\wc'=wc)
      case first=>
       go_wp2
       go_meet
       case rel=>exact ⟨by first|(congr 1;omega)|(rw[hN];rfl),(by first|rfl|trivial)⟩
      case rest=>
       obtain ⟨rfl,hw⟩:=hcut;obtain rfl:=hw.symm;by_cases hk0:k=0
       ·have n3:((k:Int)==0)=true:=by simp[hk0]
        have Hr:=hid (And.intro HI.out (aIi Hm.out (aB6 _) (Hk.out.symm.trans hk0)));clear hk0 hN hNr hkle;go_wp2
        go_step3
        show 0=0/\J _ _
        refine ⟨rfl,hJ.out _ _ ?_⟩;obtain ⟨⟨c0,c1,c2,c3,c4⟩,f0,f1,f2,f3,f4⟩:=aBh HN.out.r;go_wp2;rw[Exit.noGoto_ret];refine bodyPost_ret (v:= .tuple #[valV 0 false 0 0 ⟨#[]⟩,.bool false]) (by simp[results,Tryz.results78,go_sem,valV,f0,f1,f2,f3,f4,c0,c1,c2,c3,c4]) rfl ?_;exact ⟨_,false,rfl,(((((HN.out.below).setCell (a7c _) _).setCell (a7c _) _).setCell (a7c _) _).setCell (a7c _) _).setCell (a7c _) _,.inl ⟨rfl,⟨0,0,rfl⟩,Hr.out⟩⟩
       ·have n3:((k:Int)==0)=false:=by simp;omega
        have hA:(r.extract 0 n).data.toList=r.data.toList.takeWhile isD:=by
         rw[aFw,List.drop_zero,Nat.sub_zero,Hn.out];exact (aL7 _).symm
        have hB:(r.extract (n+1) N).data.toList=(r.extract (n+1) r.size).data.toList.takeWhile isD:=by
         rw[aFw,show N-(n+1)=k by omega,<-aCg,Hk.out];exact (aL7 _).symm
        have hAB:(r.extract 0 n++r.extract (n+1) N).data.toList=r.data.toList.takeWhile isD++(r.extract (n+1) r.size).data.toList.takeWhile isD:=by
         rw[<-hA,<-hB];exact ByteArray.toList_data_append
        have hABall:(r.extract 0 n++r.extract (n+1) N).data.toList.all isD=true:=by
         rw[hAB,List.all_append,aB6,aB6];rfl
        have hAs:(r.extract 0 n).size=n:=by rw[<-aAf,hA,<-Hn.out]
        have hBs:(r.extract (n+1) N).size=k:=by rw[<-aAf,hB,<-Hk.out]
        have hABs:(r.extract 0 n++r.extract (n+1) N).size=n+k:=by
         rw[<-aAf,hAB,a7e,<-Hn.out,<-Hk.out]
        obtain ⟨m,hm⟩:∃m,m=valS (r.data.toList.takeWhile isD++(r.extract (n+1) r.size).data.toList.takeWhile isD):=⟨_,rfl⟩;have Hd:=hid (fun w=>aEw w (r.extract 0 n++r.extract (n+1) N) (by rw[hABs];exact a7g (by omega:n+k<=2097152) (by decide)) (n+k) m (by rw[aHp hABall,aAf,hABs]) (by rw[aHp hABall,hAB,hm]));have Hmm:=hid hm;have hcat:(r.extract 0 n).size+(r.extract (n+1) N).size<=9223372036854775807:=by rw[hAs,hBs];omega
        have Hk0:=hid hk0;have m2:(n:Int)<=(r.size:Int):=by omega
        have m3:(N:Int)<=(r.size:Int):=by omega
        have m4:(n:Int)+1<=(N:Int):=by omega
        have m5:IntKind.i64.wrap ((n:Int)+1)=(n:Int)+1:=by rw[IntKind.wrap_i64];omega
        have hsl:∀w,(Instr.slice 9 (.string r) (some (.int .i64 ((n:Int)+1))) (some (.int .i64 (N:Int))) none).run Tryz.prog w= .ok (.string (r.extract (n+1) N)) w:=by
         intro w;have q:=run_slice_string (P:= Tryz.prog) w 9 r .i64 .i64 ((n:Int)+1) (N:Int) Tryz.underlying9 (by omega) m4 m3;rw[show ((n:Int)+1).toNat=n+1 by omega,show ((N:Int)).toNat=N by omega]at q;exact q
        have HNN:=hid hN;clear hA hB hAB hABall hABs hm hk0 hN hAs hBs;go_upto_region 16 with (fail)
        go_quiet (refine Calls.quiet_of_same (Hd.out _));generalize hwc2:wc.drewN nq=wc2;have HN2:=hid (hwc2 ▸ HN.out.drewN nq);clear Hd hcat hsl m5 hwc2;have mw:IntKind.i64.wrap ((N:Int)+1)=(N:Int)+1:=by rw[IntKind.wrap_i64];omega
        go_upto_if 80 with (fail)
        go_cut [10,11] from 15 (fun s10 s11 wc'=>∃(pw:Nat) (sg:Int),s10= .int .u64 (pw:Int)/\s11= .int .i64 sg/\(∃nq,wc'=wc2.drewN nq)/\Hid (pw<=99/\(sg=1\/sg= -1)/\decR s.data.toList=decF (r.data.toList.takeWhile isD) ((r.extract (n+1) r.size).data.toList.takeWhile isD) below (some (sg*(pw:Int)))))
        case first=>
         by_cases hend:N<r.size
         ·have n4:(N:Int)<(r.size:Int):=by omega
          have hbr:=aZc Hk.out HNN.out hend;have m6:(N:Int)+1<=(r.size:Int):=by omega
          by_cases h101:r[N]=101
          ·have n5:((r[N].toNat:Int) != 101)=false:=by rw[h101];rfl
           rw[h101]at hbr;have Hpw:=hid (a4r Hm.out Hwd.out (fun q=>Hk0.out (Hk.out.trans q)) hbr.1);have hVs:(r.extract (N+1) r.size).size<=r.size:=aD0 _ _ _;clear hbr h101 hkle hNr;have Hp:=hid (fun w=> Tryz.strings_HasPrefix (r.extract (N+1) r.size) ⟨#[45]⟩ w)
           go_wp2_with fail
           refine (Hp.out _).mono ?_;rintro e w1 ⟨rfl,hw⟩;obtain rfl:=hw.symm;clear Hp;generalize r.extract (N+1) r.size=V at*;generalize hpre:Lib.hasPrefix V.data.toList (⟨#[45]⟩:ByteArray).data.toList=down;have Hdown:=hid hpre;clear hpre
           go_upto_if 90 with (fail)
           go_cut [0,11] from 15 (fun s0 s11 wc'=>∃(p:ByteArray) (sg:Int),s0= .string p/\s11= .int .i64 sg/\(∃nq,wc'=wc2.drewN nq)/\p.size<=V.size/\Hid (aA4 V.data.toList=(p.data.toList,down)/\sg=if down=true then -1 else 1))
           case first=>
            cases down with
            |true=>
             have h1:=aKy Hdown.out;have Hmv:=hid h1.2;have h2:(1:Int)<=(V.size:Int):=by have:=h1.1;omega
             clear h1;go_wp2;go_quiet (fail);go_wp2
             go_meet
             case rel=>exact ⟨_,-1,(by first|rfl|trivial),(by first|rfl|trivial),⟨_,rfl⟩,aD0 _ _ _,Hmv.out,rfl⟩
            |false=>
             go_wp2
             go_meet
             case rel=>exact ⟨_,1,(by first|rfl|trivial),(by first|rfl|trivial),⟨0,rfl⟩,a7c _,aNn Hdown.out,rfl⟩
           case rest=>
            obtain ⟨p,sg,rfl,rfl,⟨nq2,rfl⟩,hps,hsg⟩:=hcut;have hpmax:p.size<=2097152:=by omega
            have Hpf:=hid (aZd hsg.out.1);obtain ⟨n2',hn2⟩:∃q,q=(p.data.toList.takeWhile isD).length:=⟨_,rfl⟩;have hn2le:n2'<=p.size:=by rw[hn2,<-aAf];exact aI8 _
            obtain ⟨pw,hpw⟩:∃q,q=valS (p.data.toList.takeWhile isD):=⟨_,rfl⟩;have Hd:=hid (aEw (wc2.drewN nq2) p (a7g hpmax (by decide)) n2' pw hn2.symm hpw.symm);have Hn2:=hid hn2;have Hpv:=hid hpw;clear hn2 hpw hVs hps
            go_wp2_with fail
            refine Hd.out.mono ?_;rintro e w1 ⟨rfl,hw⟩;obtain rfl:=hw.symm;clear Hd;by_cases hz:n2'=0\/2<n2'\/n2'<p.size
            ·have hpn:powR true V.data.toList=none:=by
              rw[Hpf.out,if_neg];rw[<-Hn2.out,aAf];omega
             have hdn:=Hpw.out;rw[hpn]at hdn;have Hr:=hid (And.intro HI.out hdn);have HN3:=hid (HN2.out.drewN nq2);clear hpn hdn;by_cases hz0:n2'=0
             ·have n6:((n2':Int)==0)=true:=by simp[hz0]
              clear hz hz0;go_wp2
              go_step3
              show 0=0/\J _ _
              refine ⟨rfl,hJ.out _ _ ?_⟩;obtain ⟨⟨c0,c1,c2,c3,c4⟩,f0,f1,f2,f3,f4⟩:=aBh HN3.out.r;go_wp2;rw[Exit.noGoto_ret];refine bodyPost_ret (v:= .tuple #[valV 0 false 0 0 ⟨#[]⟩,.bool false]) (by simp[results,Tryz.results78,go_sem,valV,f0,f1,f2,f3,f4,c0,c1,c2,c3,c4]) rfl ?_;exact ⟨_,false,rfl,(((((HN3.out.below).setCell (a7c _) _).setCell (a7c _) _).setCell (a7c _) _).setCell (a7c _) _).setCell (a7c _) _,.inl ⟨rfl,⟨0,0,rfl⟩,Hr.out⟩⟩
             ·have n6:((n2':Int)==0)=false:=by simp;omega
              by_cases hz2:2<n2'
              ·have n7:(2:Int)<(n2':Int):=by omega
               clear hz hz0 hz2;go_wp2
               go_step3
               show 0=0/\J _ _
               refine ⟨rfl,hJ.out _ _ ?_⟩;obtain ⟨⟨c0,c1,c2,c3,c4⟩,f0,f1,f2,f3,f4⟩:=aBh HN3.out.r;go_wp2;rw[Exit.noGoto_ret];refine bodyPost_ret (v:= .tuple #[valV 0 false 0 0 ⟨#[]⟩,.bool false]) (by simp[results,Tryz.results78,go_sem,valV,f0,f1,f2,f3,f4,c0,c1,c2,c3,c4]) rfl ?_;exact ⟨_,false,rfl,(((((HN3.out.below).setCell (a7c _) _).setCell (a7c _) _).setCell (a7c _) _).setCell (a7c _) _).setCell (a7c _) _,.inl ⟨rfl,⟨0,0,rfl⟩,Hr.out⟩⟩
              ·have n7:¬(2:Int)<(n2':Int):=by omega
               have n8:(n2':Int)<(p.size:Int):=by omega
               clear hz hz0 hz2;go_wp2
               go_step3
               show 0=0/\J _ _
               refine ⟨rfl,hJ.out _ _ ?_⟩;obtain ⟨⟨c0,c1,c2,c3,c4⟩,f0,f1,f2,f3,f4⟩:=aBh HN3.out.r;go_wp2;rw[Exit.noGoto_ret];refine bodyPost_ret (v:= .tuple #[valV 0 false 0 0 ⟨#[]⟩,.bool false]) (by simp[results,Tryz.results78,go_sem,valV,f0,f1,f2,f3,f4,c0,c1,c2,c3,c4]) rfl ?_;exact ⟨_,false,rfl,(((((HN3.out.below).setCell (a7c _) _).setCell (a7c _) _).setCell (a7c _) _).setCell (a7c _) _).setCell (a7c _) _,.inl ⟨rfl,⟨0,0,rfl⟩,Hr.out⟩⟩
            ·have n6:((n2':Int)==0)=false:=by simp;omega
             have n7:¬(2:Int)<(n2':Int):=by omega
             have n8:¬(n2':Int)<(p.size:Int):=by omega
             have hfullp:p.data.toList.takeWhile isD=p.data.toList:=aL6 (by rw[<-Hn2.out,aAf];omega);have hsm:=aS5 (l:=p.data.toList) (by rw[<-hfullp];exact aB6 _) (by rw[aAf];omega);have hpv:=Hpv.out;rw[hfullp,hsm.1]at hpv;have hpn:powR true V.data.toList=some (sg*(pw:Int)):=by
              rw[Hpf.out,if_pos (by rw[<-Hn2.out,aAf];omega),<-hpv,hsg.out.2];cases down<;>simp
             have hdn:=Hpw.out;rw[hpn]at hdn;have Hres:=hid (show pw<=99/\(sg=1\/sg= -1)/\_ from ⟨by rw[hpv];exact hsm.2,by rw[hsg.out.2];cases down<;>simp,hdn⟩);clear hz hfullp hsm hpv hpn hdn;go_wp2
             go_meet
             case rel=>exact ⟨pw,sg,(by first|rfl|trivial),(by first|rfl|trivial),⟨nq2,rfl⟩,Hres.out⟩
          ·have n5:((r[N].toNat:Int) != 101)=true:=by
            simp;intro e;exact h101 (UInt8.toNat_inj.1 (by simpa using (by omega:r[N].toNat=101)))
           have Hr:=hid (And.intro HI.out (a4s Hm.out (aB6 _) hbr.1 hbr.2 h101));clear hbr h101 hkle hNr mw;go_wp2
           go_step3
           show 0=0/\J _ _
           refine ⟨rfl,hJ.out _ _ ?_⟩;obtain ⟨⟨c0,c1,c2,c3,c4⟩,f0,f1,f2,f3,f4⟩:=aBh HN2.out.r;go_wp2;rw[Exit.noGoto_ret];refine bodyPost_ret (v:= .tuple #[valV 0 false 0 0 ⟨#[]⟩,.bool false]) (by simp[results,Tryz.results78,go_sem,valV,f0,f1,f2,f3,f4,c0,c1,c2,c3,c4]) rfl ?_;exact ⟨_,false,rfl,(((((HN2.out.below).setCell (a7c _) _).setCell (a7c _) _).setCell (a7c _) _).setCell (a7c _) _).setCell (a7c _) _,.inl ⟨rfl,⟨0,0,rfl⟩,Hr.out⟩⟩
         ·have n4:¬(N:Int)<(r.size:Int):=by omega
          have hde:=a4q Hm.out Hwd.out (fun q=>Hk0.out (Hk.out.trans q)) (by
           rw[<-Hk.out,aAf,<-aAf,aCg,List.length_drop,aAf];have:=HNN.out;omega)
          have Hde:=hid hde;clear hde hend hkle hNr;go_wp2
          go_meet
          case rel=>exact ⟨0,1,(by first|rfl|trivial),(by first|rfl|trivial),⟨0,rfl⟩,by decide,.inl rfl,Hde.out⟩
        case rest=>
         obtain ⟨pw,sg,rfl,rfl,⟨nq2,rfl⟩,hq⟩:=hcut;have HN3:=hid (HN2.out.drewN nq2);generalize wc2.drewN nq2=wc3 at*;obtain ⟨kk,hkk⟩:∃kk:Int,kk=sg*(pw:Int)-(k:Int):=⟨_,rfl⟩;have hpw99:=hq.out.1;have hlast:=aZe (d:=r.data.toList.takeWhile isD) (b:=(r.extract (n+1) r.size).data.toList.takeWhile isD) (neg:=below) (p:=sg*(pw:Int)) (by rcases hq.out.2.1 with q|q<;>rw[q]<;>omega) kk (by rw[hkk,<-Hk.out])
         rw[<-Hmm.out,<-hq.out.2.2]at hlast;have Hlast:=hid hlast;clear hlast;have mw1:IntKind.i64.wrap (pw:Int)=(pw:Int):=by rw[IntKind.wrap_i64];omega
         have mw2:IntKind.i64.wrap (sg*(pw:Int))=sg*(pw:Int):=by
          rcases hq.out.2.1 with q|q<;>rw[q,IntKind.wrap_i64]<;>omega
         have mw3:IntKind.i64.wrap (sg*(pw:Int)-(k:Int))=kk:=by
          rw[hkk];rcases hq.out.2.1 with q|q<;>rw[q,IntKind.wrap_i64]<;>omega
         have Hs:=hid (aGg wc3 m kk);have Hkk:=hid hkk;clear hkk hq hkle hNr
         go_wp2_with fail
         refine Hs.out.mono ?_;rintro e w1 ⟨rfl,hw⟩;obtain rfl:=hw.symm;clear Hs;obtain ⟨⟨d0,d1,d2,d3,d4⟩,g0,g1,g2,g3,g4⟩:=aBh HN3.out.v;by_cases hbd:Bad m kk
         ·have hE:(scE m kk != 0)=true:=by unfold scE;rw[if_pos hbd];rfl
          have Hr:=hid (And.intro HI.out (Hlast.out.1 hbd));have HN4:=hid (HN3.out.real (scR m kk));clear hbd;go_wp2
          go_step3
          show 0=0/\J _ _
          refine ⟨rfl,hJ.out _ _ ?_⟩;obtain ⟨⟨c0,c1,c2,c3,c4⟩,f0,f1,f2,f3,f4⟩:=aBh HN4.out.r;go_wp2;rw[Exit.noGoto_ret];refine bodyPost_ret (v:= .tuple #[valV 0 false 0 0 ⟨#[]⟩,.bool false]) (by simp[results,Tryz.results78,go_sem,valV,f0,f1,f2,f3,f4,c0,c1,c2,c3,c4]) rfl ?_;exact ⟨_,false,rfl,(((((HN4.out.below).setCell (a7c _) _).setCell (a7c _) _).setCell (a7c _) _).setCell (a7c _) _).setCell (a7c _) _,.inl ⟨rfl,⟨0,0,rfl⟩,Hr.out⟩⟩
         ·have hE:(scE m kk != 0)=false:=by unfold scE;rw[if_neg hbd];rfl
          have hR:scR m kk=scW m kk:=if_neg hbd;have Hd:=hid (Hlast.out.2 hbd);have HR:=hid hR;clear hbd hR;have hng:=aUn (scR m kk);obtain ⟨⟨c0,c1,c2,c3,c4⟩,f0,f1,f2,f3,f4⟩:=aBh HN3.out.r;cases below with
          |false=>
           go_wp2;refine bodyPost_ret (v:= .tuple #[valV 4 false 0 (scR m kk) ⟨#[]⟩,.bool true]) (by simp[results,Tryz.results78,go_sem,valV,f0,f1,f2,f3,f4,c0,c1,c2,c3,c4]) rfl ?_;exact ⟨_,true,rfl,(((((HN3.out.below.setCell (Nat.le_succ _) _).setCell (a7c _) _).setCell (a7c _) _).setCell (a7c _) _).setCell (a7c _) _).setCell (a7c _) _,.inr (.inr ⟨rfl,HI.out,_,_,_,Hd.out,by rw[HR.out];rfl⟩)⟩
          |true=>
           go_wp2;refine bodyPost_ret (v:= .tuple #[valV 4 false 0 (negW (scR m kk)) ⟨#[]⟩,.bool true]) (by simp[results,Tryz.results78,go_sem,valV,f0,f1,f2,f3,f4,c0,c1,c2,c3,c4]) rfl ?_;exact ⟨_,true,rfl,((((((HN3.out.below.setCell (Nat.le_succ _) _).setCell (Nat.le_succ _) _).setCell (a7c _) _).setCell (a7c _) _).setCell (a7c _) _).setCell (a7c _) _).setCell (a7c _) _,.inr (.inr ⟨rfl,HI.out,_,_,_,Hd.out,by rw[HR.out];rfl⟩)⟩
     ·have n2:((r[n].toNat:Int) != 46)=true:=by
       simp;intro e;exact h46 (UInt8.toNat_inj.1 (by simpa using (by omega:r[n].toNat=46)))
      have Hr:=hid (And.intro HI.out (aZb hr.out.1 Hn.out hlt h46));clear hfull h46 hnr;go_wp2
      go_step3
      show 0=0/\J _ _
      refine ⟨rfl,hJ.out _ _ ?_⟩;obtain ⟨⟨c0,c1,c2,c3,c4⟩,f0,f1,f2,f3,f4⟩:=aBh HN.out.r;go_wp2;rw[Exit.noGoto_ret];refine bodyPost_ret (v:= .tuple #[valV 0 false 0 0 ⟨#[]⟩,.bool false]) (by simp[results,Tryz.results78,go_sem,valV,f0,f1,f2,f3,f4,c0,c1,c2,c3,c4]) rfl ?_;exact ⟨_,false,rfl,(((((HN.out.below).setCell (a7c _) _).setCell (a7c _) _).setCell (a7c _) _).setCell (a7c _) _).setCell (a7c _) _,.inl ⟨rfl,⟨0,0,rfl⟩,Hr.out⟩⟩
def nanB:Nat:=9221120237041090561
def infB:Nat:=9218868437227405312
def ninfB:Nat:=18442240474082181120
theorem aZf:∀w:World,(callFunc 114 #[.int .u64 9221120237041090561]).run Tryz.prog w= .ok (.value (.float .f64 9221120237041090561)) w:=aCz 9221120237041090561
theorem aZg:∀w:World,(callFunc 114 #[.int .u64 9218868437227405312]).run Tryz.prog w= .ok (.value (.float .f64 9218868437227405312)) w:=aCz 9218868437227405312
theorem aUs:∀w:World,(callFunc 114 #[.int .u64 18442240474082181120]).run Tryz.prog w= .ok (.value (.float .f64 18442240474082181120)) w:=aCz 18442240474082181120
theorem aZh (w:World):Calls Tryz.prog 76 #[] w fun e w'=>e= .returned (.float .f64 nanB)/\w'=w:=by
 have h:=aZf;go_enter Tryz.func76,Tryz.ntmps76;go_wp2;go_ret;exact ⟨rfl,rfl⟩
theorem aZi (w:World):Calls Tryz.prog 77 #[.int .i64 1] w fun e w'=>e= .returned (.float .f64 infB)/\w'=w:=by
 have h:=aZg;go_enter Tryz.func77,Tryz.ntmps77;go_wp2;go_ret;exact ⟨rfl,rfl⟩
theorem aUt (w:World):Calls Tryz.prog 77 #[.int .i64 (-1)] w fun e w'=>e= .returned (.float .f64 ninfB)/\w'=w:=by
 have h:=aUs;go_enter Tryz.func77,Tryz.ntmps77;go_wp2;go_ret;exact ⟨rfl,rfl⟩
structure Val where
 kind:Int
 bool:Bool
 int:Int
 real:Nat
 text:ByteArray
def Val.v (a:Val):Value:=valV a.kind a.bool a.int a.real a.text
def readN (s:ByteArray):Val:=
 match intR s.data.toList with
 |some i=>⟨3,false,i,0,⟨#[]⟩⟩
 |none=>match decR s.data.toList with
  |some (m,k,b)=>⟨4,false,0,if b=true then negW (scW m k) else scW m k,⟨#[]⟩⟩
  |none=>⟨5,false,0,0,s⟩
def readS (s:ByteArray) (quoted:Bool):Val:=
 if quoted=true then ⟨5,false,0,0,s⟩
 else if s.data.toList=[]\/s.data.toList=[126]\/s.data.toList=[110,117,108,108] then ⟨1,false,0,0,⟨#[]⟩⟩
 else if s.data.toList=[116,114,117,101] then ⟨2,true,0,0,⟨#[]⟩⟩
 else if s.data.toList=[102,97,108,115,101] then ⟨2,false,0,0,⟨#[]⟩⟩
 else if s.data.toList=[46,110,97,110] then ⟨4,false,0,nanB,⟨#[]⟩⟩
 else if s.data.toList=[46,105,110,102] then ⟨4,false,0,infB,⟨#[]⟩⟩
 else if s.data.toList=[45,46,105,110,102] then ⟨4,false,0,ninfB,⟨#[]⟩⟩
 else readN s
def aIm (s:ByteArray) (quoted:Bool) (w:World) (e:Ending) (w':World):Prop:=
 e= .returned (readS s quoted).v/\Below w.heap.size w w'
theorem aI9 {w:World} (h:aB3 w) (o:Obj):aB3 (w.alloc o):=by
 obtain ⟨ev,q1,q2⟩:=h;exact ⟨ev,by rw[((a7d w.heap.size w).alloc (a7c _) o).cell (aCh q1)];exact q1,q2⟩
theorem aA5 {w:World} {b t:Nat} {v0 v1 v2 v3 v4:Value} (h:w.heap[b]? =some (.cells #[v0,v1,v2,v3,v4] t (0,0))):
 (w.cell? ⟨b,0,none⟩=some v0/\w.cell? ⟨b,1,none⟩=some v1/\w.cell? ⟨b,2,none⟩=some v2/\w.cell? ⟨b,3,none⟩=some v3/\w.cell? ⟨b,4,none⟩=some v4)/\
 (w.frozen? ⟨b,0,none⟩=false/\w.frozen? ⟨b,1,none⟩=false/\w.frozen? ⟨b,2,none⟩=false/\w.frozen? ⟨b,3,none⟩=false/\w.frozen? ⟨b,4,none⟩=false):=by
 refine ⟨⟨?_,?_,?_,?_,?_⟩,?_,?_,?_,?_,?_⟩<;>simp[World.cell?,World.frozen?,h]
structure RW (w w':World) (t:Nat):Prop where
 below:Below w.heap.size w w'
 r:w'.heap[w.heap.size]? =some (.cells #[.int .i64 0,.bool false,.int .i64 0,.float .f64 0,.string ⟨#[]⟩] t (0,0))
 lt:w.heap.size<w'.heap.size
theorem RW.first (w:World) (t:Nat):RW w (w.alloc (Obj.cells #[.int .i64 0,.bool false,.int .i64 0,.float .f64 0,.string ⟨#[]⟩] t)) t where
 below:=(a7d _ _).alloc (a7c _) _
 r:=by simp[World.alloc,-World.alloc_eq]
 lt:=by simp
theorem RW.later {w w' w2:World} {t:Nat} (h:RW w w' t) (hb:Below w'.heap.size w' w2):RW w w2 t:=
 ⟨h.below.trans (hb.mono h.below.size),(hb.block _ h.lt).trans h.r,Nat.lt_of_lt_of_le h.lt hb.size⟩
theorem RW.laid {w w':World} {t:Nat} (h:RW w w' t) (hl:aB3 w):aB3 w':=by
 obtain ⟨ev,q1,q2⟩:=hl;exact ⟨ev,by rw[h.below.cell (aCh q1)];exact q1,q2⟩
theorem RW.drewN {w w':World} {t:Nat} (h:RW w w' t) (n:Nat):RW w (w'.drewN n) t:=
 ⟨h.below.trans ⟨rfl,rfl,rfl,a7c _,fun _ _=>rfl⟩,h.r,h.lt⟩
theorem aEb {s:ByteArray} {l:List UInt8} (h:s.data.toList=l):(s.toList==l)=true:=by
 rw[Lib.toList_data,h];exact beq_self_eq_true l
theorem aF7 {s:ByteArray} {l:List UInt8} (h:¬s.data.toList=l):(s.toList==l)=false:=by
 rw[Lib.toList_data];exact beq_eq_false_iff_ne.2 h
theorem aJa (w:World) (s:ByteArray) (hmax:s.size<=2097152) (quoted:Bool) (hv:aB3 w):
 Calls Tryz.prog 44 #[.string s,.bool quoted] w fun e w'=>aIm s quoted w e w':=by
 have hst:= @aEx;have hRW:=RW.first w 91;have Hv:=hid hv;clear hv;go_enter Tryz.func44,Tryz.ntmps44
 go_upto_if 7 with (fail)
 obtain ⟨w1,hw1⟩:∃w1,w1=w.alloc (Obj.cells #[.int .i64 0,.bool false,.int .i64 0,.float .f64 0,.string ⟨#[]⟩] 91):=⟨_,rfl⟩;rw[<-hw1];rw[<-hw1]at hRW;have HR:=hid hRW;clear hRW hw1;cases quoted with
 |true=>
  have hS:readS s true=⟨5,false,0,0,s⟩:=rfl;obtain ⟨⟨c0,c1,c2,c3,c4⟩,f0,f1,f2,f3,f4⟩:=aA5 HR.out.r;go_wp2;refine bodyPost_ret (v:=valV 5 false 0 0 s) (by simp[results,Tryz.results44,go_sem,valV,f0,f1,f2,f3,f4,c0,c1,c2,c3,c4]) rfl ?_;exact ⟨by rw[hS];rfl,(((((HR.out.below.setCell (a7c _) _).setCell (a7c _) _).setCell (a7c _) _).setCell (a7c _) _).setCell (a7c _) _)⟩
 |false=>
  by_cases hn:s.data.toList=[]
  ·have qn:=aEb hn;have hS:readS s false=⟨1,false,0,0,⟨#[]⟩⟩:=by simp[readS,hn]
   clear hn;obtain ⟨⟨c0,c1,c2,c3,c4⟩,f0,f1,f2,f3,f4⟩:=aA5 HR.out.r;go_wp2;refine bodyPost_ret (v:=valV 1 false 0 0 ⟨#[]⟩) (by simp[results,Tryz.results44,go_sem,valV,f0,f1,f2,f3,f4,c0,c1,c2,c3,c4]) rfl ?_;exact ⟨by rw[hS];rfl,(((((HR.out.below.setCell (a7c _) _).setCell (a7c _) _).setCell (a7c _) _).setCell (a7c _) _).setCell (a7c _) _)⟩
  ·have qn:=aF7 hn;by_cases ht:s.data.toList=[126]
   ·have qt:=aEb ht;have hS:readS s false=⟨1,false,0,0,⟨#[]⟩⟩:=by simp[readS,ht]
    clear hn ht;obtain ⟨⟨c0,c1,c2,c3,c4⟩,f0,f1,f2,f3,f4⟩:=aA5 HR.out.r;go_wp2;refine bodyPost_ret (v:=valV 1 false 0 0 ⟨#[]⟩) (by simp[results,Tryz.results44,go_sem,valV,f0,f1,f2,f3,f4,c0,c1,c2,c3,c4]) rfl ?_;exact ⟨by rw[hS];rfl,(((((HR.out.below.setCell (a7c _) _).setCell (a7c _) _).setCell (a7c _) _).setCell (a7c _) _).setCell (a7c _) _)⟩
   ·have qt:=aF7 ht;by_cases hu:s.data.toList=[110,117,108,108]
    ·have qu:=aEb hu;have hS:readS s false=⟨1,false,0,0,⟨#[]⟩⟩:=by simp[readS,hu]
     clear hn ht hu;obtain ⟨⟨c0,c1,c2,c3,c4⟩,f0,f1,f2,f3,f4⟩:=aA5 HR.out.r;go_wp2;refine bodyPost_ret (v:=valV 1 false 0 0 ⟨#[]⟩) (by simp[results,Tryz.results44,go_sem,valV,f0,f1,f2,f3,f4,c0,c1,c2,c3,c4]) rfl ?_;exact ⟨by rw[hS];rfl,(((((HR.out.below.setCell (a7c _) _).setCell (a7c _) _).setCell (a7c _) _).setCell (a7c _) _).setCell (a7c _) _)⟩
    ·have qu:=aF7 hu;by_cases hy:s.data.toList=[116,114,117,101]
     ·have qy:=aEb hy;have hS:readS s false=⟨2,true,0,0,⟨#[]⟩⟩:=by simp[readS,hy]
      clear hn ht hu hy;obtain ⟨⟨c0,c1,c2,c3,c4⟩,f0,f1,f2,f3,f4⟩:=aA5 HR.out.r;go_wp2;refine bodyPost_ret (v:=valV 2 true 0 0 ⟨#[]⟩) (by simp[results,Tryz.results44,go_sem,valV,f0,f1,f2,f3,f4,c0,c1,c2,c3,c4]) rfl ?_;exact ⟨by rw[hS];rfl,(((((HR.out.below.setCell (a7c _) _).setCell (a7c _) _).setCell (a7c _) _).setCell (a7c _) _).setCell (a7c _) _)⟩
     ·have qy:=aF7 hy;by_cases hf:s.data.toList=[102,97,108,115,101]
      ·have qf:=aEb hf;have hS:readS s false=⟨2,false,0,0,⟨#[]⟩⟩:=by simp[readS,hf]
       clear hn ht hu hy hf;obtain ⟨⟨c0,c1,c2,c3,c4⟩,f0,f1,f2,f3,f4⟩:=aA5 HR.out.r;go_wp2;refine bodyPost_ret (v:=valV 2 false 0 0 ⟨#[]⟩) (by simp[results,Tryz.results44,go_sem,valV,f0,f1,f2,f3,f4,c0,c1,c2,c3,c4]) rfl ?_;exact ⟨by rw[hS];rfl,(((((HR.out.below.setCell (a7c _) _).setCell (a7c _) _).setCell (a7c _) _).setCell (a7c _) _).setCell (a7c _) _)⟩
      ·have qf:=aF7 hf;by_cases ha:s.data.toList=[46,110,97,110]
       ·have qa:=aEb ha;have hS:readS s false=⟨4,false,0,nanB,⟨#[]⟩⟩:=by simp[readS,ha]
        clear hn ht hu hy hf ha;have Hc:=hid aZh
        go_wp2_with fail
        refine (Hc.out _).mono ?_;rintro e w1 ⟨rfl,hw⟩;obtain rfl:=hw.symm;clear Hc;obtain ⟨⟨c0,c1,c2,c3,c4⟩,f0,f1,f2,f3,f4⟩:=aA5 HR.out.r;go_wp2;refine bodyPost_ret (v:=valV 4 false 0 nanB ⟨#[]⟩) (by simp[results,Tryz.results44,go_sem,valV,f0,f1,f2,f3,f4,c0,c1,c2,c3,c4]) rfl ?_;exact ⟨by rw[hS];rfl,(((((HR.out.below.setCell (a7c _) _).setCell (a7c _) _).setCell (a7c _) _).setCell (a7c _) _).setCell (a7c _) _)⟩
       ·have qa:=aF7 ha;by_cases hi:s.data.toList=[46,105,110,102]
        ·have qi:=aEb hi;have hS:readS s false=⟨4,false,0,infB,⟨#[]⟩⟩:=by simp[readS,hi]
         clear hn ht hu hy hf ha hi;have Hc:=hid aZi
         go_wp2_with fail
         refine (Hc.out _).mono ?_;rintro e w1 ⟨rfl,hw⟩;obtain rfl:=hw.symm;clear Hc;obtain ⟨⟨c0,c1,c2,c3,c4⟩,f0,f1,f2,f3,f4⟩:=aA5 HR.out.r;go_wp2;refine bodyPost_ret (v:=valV 4 false 0 infB ⟨#[]⟩) (by simp[results,Tryz.results44,go_sem,valV,f0,f1,f2,f3,f4,c0,c1,c2,c3,c4]) rfl ?_;exact ⟨by rw[hS];rfl,(((((HR.out.below.setCell (a7c _) _).setCell (a7c _) _).setCell (a7c _) _).setCell (a7c _) _).setCell (a7c _) _)⟩
        ·have qi:=aF7 hi;by_cases hm:s.data.toList=[45,46,105,110,102]
         ·have qm:=aEb hm;have hS:readS s false=⟨4,false,0,ninfB,⟨#[]⟩⟩:=by simp[readS,hm]
          clear hn ht hu hy hf ha hi hm;have Hc:=hid aUt
          go_wp2_with fail
          refine (Hc.out _).mono ?_;rintro e w1 ⟨rfl,hw⟩;obtain rfl:=hw.symm;clear Hc;obtain ⟨⟨c0,c1,c2,c3,c4⟩,f0,f1,f2,f3,f4⟩:=aA5 HR.out.r;go_wp2;refine bodyPost_ret (v:=valV 4 false 0 ninfB ⟨#[]⟩) (by simp[results,Tryz.results44,go_sem,valV,f0,f1,f2,f3,f4,c0,c1,c2,c3,c4]) rfl ?_;exact ⟨by rw[hS];rfl,(((((HR.out.below.setCell (a7c _) _).setCell (a7c _) _).setCell (a7c _) _).setCell (a7c _) _).setCell (a7c _) _)⟩
         ·have qm:=aF7 hm;have hS:readS s false=readN s:=by simp[readS,hn,ht,hu,hy,hf,ha,hi,hm]
          clear hn ht hu hy hf ha hi hm;have Hc:=hid (aNo w1 s hmax (HR.out.laid Hv.out))
          go_wp2_with fail
          refine Hc.out.mono ?_;rintro e w2 ⟨V,ok,rfl,hb,hcases⟩;have HR2:=hid (HR.out.later hb);clear hb Hc;obtain ⟨kd,vi,vx,hV⟩:∃kd vi vx,V=valV kd false vi vx ⟨#[]⟩:=by
           rcases hcases with ⟨_,⟨kd,i,h⟩,_⟩|⟨_,i,_,h⟩|⟨_,_,m,k,b,_,h⟩
           ·exact ⟨_,_,_,h⟩
           ·exact ⟨_,_,_,h⟩
           ·exact ⟨_,_,_,h⟩
          have HC:=hid hcases;have HV:=hid hV;clear hcases;rw[hV];clear hV;dsimp only[valV]
          go_upto_if 39 with (fail)
          obtain ⟨w3,hw3⟩:∃w3,w3=w2.alloc (Obj.cells #[.int .i64 kd,.bool false,.int .i64 vi,.float .f64 vx,.string ⟨#[]⟩] 91):=⟨_,rfl⟩;rw[<-hw3];have HR3:=hid (HR2.out.later (w2:=w3) (by rw[hw3];exact (a7d _ _).alloc (a7c _) _));have hB3:w3.heap[w2.heap.size]? =some (.cells #[.int .i64 kd,.bool false,.int .i64 vi,.float .f64 vx,.string ⟨#[]⟩] 91 (0,0)):=by
           rw[hw3];simp[World.alloc,-World.alloc_eq]
          have HB3:=hid hB3;clear hB3 hw3;cases ok with
          |false=>
           have hT:readS s false=⟨5,false,0,0,s⟩:=by
            rcases HC.out with ⟨_,_,hI,hD⟩|⟨q,_⟩|⟨q,_⟩
            ·rw[hS];unfold readN;rw[hI];simp only[hD]
            ·cases q
            ·cases q
           clear hS;obtain ⟨⟨c0,c1,c2,c3,c4⟩,f0,f1,f2,f3,f4⟩:=aA5 HR3.out.r;go_wp2;refine bodyPost_ret (v:=valV 5 false 0 0 s) (by simp[results,Tryz.results44,go_sem,valV,f0,f1,f2,f3,f4,c0,c1,c2,c3,c4]) rfl ?_;exact ⟨by rw[hT];rfl,(((((HR3.out.below.setCell (a7c _) _).setCell (a7c _) _).setCell (a7c _) _).setCell (a7c _) _).setCell (a7c _) _)⟩
          |true=>
           have hT:(readS s false).v=valV kd false vi vx ⟨#[]⟩:=by
            rcases HC.out with ⟨q,_⟩|⟨_,i,hI,hV⟩|⟨_,hI,m,k,b,hD,hV⟩
            ·cases q
            ·rw[<-HV.out,hV,hS];unfold readN;rw[hI];rfl
            ·rw[<-HV.out,hV,hS];unfold readN;rw[hI];simp only[hD];rfl
           clear hS;obtain ⟨⟨d0,d1,d2,d3,d4⟩,g0,g1,g2,g3,g4⟩:=aA5 HB3.out;obtain ⟨⟨c0,c1,c2,c3,c4⟩,f0,f1,f2,f3,f4⟩:=aA5 HR3.out.r;go_wp2;refine bodyPost_ret (v:=valV kd false vi vx ⟨#[]⟩) (by simp[results,Tryz.results44,go_sem,valV,f0,f1,f2,f3,f4,c0,c1,c2,c3,c4]) rfl ?_;exact ⟨by rw[hT],(((((HR3.out.below.setCell (a7c _) _).setCell (a7c _) _).setCell (a7c _) _).setCell (a7c _) _).setCell (a7c _) _)⟩
