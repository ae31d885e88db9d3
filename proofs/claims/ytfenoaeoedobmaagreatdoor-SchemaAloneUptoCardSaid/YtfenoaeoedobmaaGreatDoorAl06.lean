/-
Parts of a proof, one behind the other (laid dense by a program of mine: pack.py).
-/
import Derived.Laws.Bits64b
import Derived.Laws.Externs
import Derived.Test.YtfenoaeoedobmaaGreatDoorAl05
set_option linter.unusedVariables false
set_option linter.unusedSimpArgs false
set_option maxHeartbeats 1000000
set_option maxRecDepth 20000
namespace Go.Proofs.YtfenoaeoedobmaaGreatDoor
open Go Go.RowKit
def NumPost (l:List UInt8) (w:World) (e:Ending) (w':World):Prop:=
 ∃(V:Value) (ok:Bool),e= .returned (.tuple #[V,.bool ok])∧Below w.heap.size w w'∧
  (ok=false∧(∃kd i,V=valV kd false i 0 ⟨#[]⟩)∧intR l=none∧decR l=none∨ok=true∧(∃i,intR l=some i∧V=valV 3 false i 0 ⟨#[]⟩)∨
   ok=true∧intR l=none∧∃m k b,decR l=some (m,k,b)∧V=valV 4 false 0 (if b=true then negW (scW m k) else scW m k) ⟨#[]⟩)
structure NW (w w':World) (x:Nat):Prop where
 below:Below w.heap.size w w'
 r:w'.heap[w.heap.size]? =some (.cells #[.int .i64 0,.bool false,.int .i64 0,.float .f64 0,.string ⟨#[]⟩] 91 (0,0))
 v:w'.heap[w.heap.size+1]? =some (.cells #[.int .i64 4,.bool false,.int .i64 0,.float .f64 x,.string ⟨#[]⟩] 91 (0,0))
theorem NW.first (w:World):NW w ((w.alloc (Obj.cells #[.int .i64 0,.bool false,.int .i64 0,.float .f64 0,.string ⟨#[]⟩] 91)).alloc (Obj.cells #[.int .i64 4,.bool false,.int .i64 0,.float .f64 0,.string ⟨#[]⟩] 91)) 0 where
 below:=((Below.refl _ _).alloc (Nat.le_refl _) _).alloc (by simp) _
 r:=by simp[World.alloc,-World.alloc_eq,Array.getElem?_push]
 v:=by
  show ((w.heap.push _).push _)[w.heap.size+1]? =_
  rw[Array.getElem?_push,if_pos (by simp)]
theorem NW.drewN {w w':World} {x:Nat} (h:NW w w' x) (n:Nat):NW w (w'.drewN n) x:=
 ⟨h.below.trans ⟨rfl,rfl,rfl,Nat.le_refl _,fun _ _=>rfl⟩,h.r,h.v⟩
theorem NW.later {w w' w2:World} {x:Nat} (h:NW w w' x) (hb:Below w'.heap.size w' w2):NW w w2 x:=by
 have hlt:w.heap.size+1<w'.heap.size:=by
  rcases Nat.lt_or_ge (w.heap.size+1) w'.heap.size with q|q
  ·exact q
  ·have:=h.v;rw[Array.getElem?_eq_none q]at this;cases this
 exact ⟨h.below.trans (hb.mono h.below.size),(hb.block _ (by omega)).trans h.r,(hb.block _ hlt).trans h.v⟩
theorem NW.real {w w':World} {x:Nat} (h:NW w w' x) (y:Nat):NW w (w'.setCell ⟨w.heap.size+1,3,none⟩ (.float .f64 y)) y:=by
 refine ⟨h.below.setCell (Nat.le_succ _) _,?_,?_⟩
 ·rw[Below.heap_setCell _ _ _ _ (by simp)];exact h.r
 ·have:=h.v;simp only[World.setCell,Array.getElem?_modify,this];simp
theorem cells_facts {w:World} {b:Nat} {v0 v1 v2 v3 v4:Value} (h:w.heap[b]? =some (.cells #[v0,v1,v2,v3,v4] 91 (0,0))):
 (w.cell? ⟨b,0,none⟩=some v0∧w.cell? ⟨b,1,none⟩=some v1∧w.cell? ⟨b,2,none⟩=some v2∧w.cell? ⟨b,3,none⟩=some v3∧w.cell? ⟨b,4,none⟩=some v4)∧
 (w.frozen? ⟨b,0,none⟩=false∧w.frozen? ⟨b,1,none⟩=false∧w.frozen? ⟨b,2,none⟩=false∧w.frozen? ⟨b,3,none⟩=false∧w.frozen? ⟨b,4,none⟩=false):=by
 refine ⟨⟨?_,?_,?_,?_,?_⟩,?_,?_,?_,?_,?_⟩<;>simp[World.cell?,World.frozen?,h]
theorem minusL_yes {s:ByteArray} (h:Lib.hasPrefix s.data.toList [45]=true):1≤s.size∧minusL s.data.toList=((s.extract 1 s.size).data.toList,true):=by
 rw[ext_from];have hsz:=size_list s;cases hl:s.data.toList with
 |nil=>rw[hl]at h;cases h
 |cons c r=>
  rw[hl]at h hsz;refine ⟨by simp at hsz;omega,?_⟩;have hc:c=45:=by
   simp[Lib.hasPrefix,List.isPrefixOf]at h;exact h.symm
  simp[minusL,hc]
theorem minusL_no {s:ByteArray} (h:Lib.hasPrefix s.data.toList [45]=false):minusL s.data.toList=(s.data.toList,false):=by
 cases hl:s.data.toList with
 |nil=>rfl
 |cons c r=>
  rw[hl]at h;have hc:c≠45:=by
   simp[Lib.hasPrefix,List.isPrefixOf]at h;exact fun q=>h q.symm
  simp[minusL,hc]
theorem number_walk' (w:World) (s:ByteArray) (hmax:s.size≤2097152) (hv:RangeLaid w):
 Calls Tryz.prog 78 #[.string s] w fun e w'=>NumPost s.data.toList w e w':=by
 have Hv:=hid hv;have hst:= @store_float;clear hv;go_enter Tryz.func78,Tryz.ntmps78;go_wp2;refine wp_scope_fwd 0 rfl ?_;intro J hJ0;have hJ:=hid hJ0;clear hJ0;have Hp:=hid (fun w=> Tryz.strings_HasPrefix s ⟨#[45]⟩ w)
 go_wp2_with fail
 refine (Hp.out _).mono ?_;rintro e w1 ⟨rfl,hw⟩;obtain rfl:=hw.symm;clear Hp;generalize hpre:Lib.hasPrefix s.data.toList (⟨#[45]⟩:ByteArray).data.toList=below;have Hpre:=hid hpre;clear hpre;have hNW:=NW.first w;obtain ⟨w1,hw1⟩:∃w1,w1=(w.alloc (Obj.cells #[.int .i64 0,.bool false,.int .i64 0,.float .f64 0,.string ⟨#[]⟩] 91)).alloc (Obj.cells #[.int .i64 4,.bool false,.int .i64 0,.float .f64 0,.string ⟨#[]⟩] 91):=⟨_,rfl⟩
 rw[←hw1];rw[←hw1]at hNW;clear hw1;have HN:=hid hNW;clear hNW
 go_upto_if 18 with (fail)
 go_cut [0] from 18 (fun s0 wc'=>∃r:ByteArray,s0= .string r∧wc'=w1∧Hid (minusL s.data.toList=(r.data.toList,below)∧r.size≤s.size))
 case first=>
  cases below with
  |true=>
   have h1:=minusL_yes Hpre.out;have Hm:=hid h1.2;have h2:(1:Int)≤(s.size:Int):=by have:=h1.1;omega
   clear h1;go_wp2
   go_meet
   case rel=>exact ⟨_,(by first|rfl|trivial),(by first|rfl|trivial),Hm.out,ext_size _ _ _⟩
  |false=>
   go_wp2
   go_meet
   case rel=>exact ⟨_,(by first|rfl|trivial),(by first|rfl|trivial),minusL_no Hpre.out,Nat.le_refl _⟩
 case rest=>
  obtain ⟨r,rfl,rfl,hr⟩:=hcut;have hrmax:r.size≤2097152:=Nat.le_trans hr.out.2 hmax;have hrmax2:r.size≤maxLen:=Nat.le_trans hrmax (by decide);obtain ⟨n,hn⟩:∃n,n=(r.data.toList.takeWhile isD).length:=⟨_,rfl⟩;have Hd:=hid (digits_walk wc r hrmax2 n _ hn.symm rfl);have Hn:=hid hn;clear hn
  go_wp2_with fail
  refine Hd.out.mono ?_;rintro e w1 ⟨rfl,hw⟩;obtain rfl:=hw.symm;clear Hd;have hnr:n≤r.size:=by rw[Hn.out,←size_list];exact tw_len_le _
  go_upto_region 9 with (fail)
  go_cut [36] from 15 (fun s36 wc'=>∃b:Bool,s36= .bool b∧wc'=wc∧Hid ((b=true→intR s.data.toList=none∧decR s.data.toList=none)∧(b=false→wholeL (r.data.toList.takeWhile isD)=true)))
  case first=>
   by_cases hn0:n=0
   ·have n1:((n:Int)==0)=true:=by simp[hn0]
    have Hr:=hid (bad_digits hr.out.1 (by
     rw[List.eq_nil_of_length_eq_zero (Hn.out.symm.trans hn0)];rfl))
    clear hn0 hnr;go_wp2
    go_meet
    case rel=>exact ⟨true,(by first|rfl|trivial),(by first|rfl|trivial),fun _=>Hr.out,fun q=>by cases q⟩
   ·have n1:((n:Int)==0)=false:=by simp;omega
    have hr0:0<r.size:=by omega
    have hhead:(r.data.toList.takeWhile isD).head? =some r[0]:=by
     rw[tw_head (by rw[←Hn.out];omega),list_cons r hr0];rfl
    by_cases hn1:1<n
    ·have n2:(1:Int)<(n:Int):=by omega
     by_cases h48:r[0]=48
     ·have n3:((r[0].toNat:Int)==48)=true:=by rw[h48];rfl
      have Hr:=hid (bad_digits hr.out.1 (not_whole (by rw[←Hn.out];exact hn1) (by rw[hhead,h48])));clear hn0 hn1 hnr hhead h48;go_wp2
      go_meet
      case rel=>exact ⟨true,(by first|rfl|trivial),(by first|rfl|trivial),fun _=>Hr.out,fun q=>by cases q⟩
     ·have n3:((r[0].toNat:Int)==48)=false:=by
       simp;intro e;exact h48 (UInt8.toNat_inj.1 (by simpa using (by omega:r[0].toNat=48)))
      have Hr:=hid (whole_of (by rw[←Hn.out];exact hn0) (by rw[hhead];intro q;exact h48 (Option.some.inj q.2)));clear hn0 hn1 hnr hhead h48;go_wp2
      go_meet
      case rel=>exact ⟨false,(by first|rfl|trivial),(by first|rfl|trivial),fun q=>(by cases q),fun _=>Hr.out⟩
    ·have n2:¬(1:Int)<(n:Int):=by omega
     have Hr:=hid (whole_of (by rw[←Hn.out];exact hn0) (by rw[←Hn.out];intro q;exact hn1 q.1));clear hn0 hn1 hnr hhead;go_wp2
     go_meet
     case rel=>exact ⟨false,(by first|rfl|trivial),(by first|rfl|trivial),fun q=>(by cases q),fun _=>Hr.out⟩
  case rest=>
   obtain ⟨b36,rfl,hw,hwd⟩:=hcut;obtain rfl:=hw.symm;cases b36 with
   |true=>
    have Hr:=hid (hwd.out.1 rfl);clear hwd hnr;go_wp2
    go_step3
    show 0=0∧J _ _
    refine ⟨rfl,hJ.out _ _ ?_⟩;obtain ⟨⟨c0,c1,c2,c3,c4⟩,f0,f1,f2,f3,f4⟩:=cells_facts HN.out.r;go_wp2;rw[Exit.noGoto_ret];refine bodyPost_ret (v:= .tuple #[valV 0 false 0 0 ⟨#[]⟩,.bool false]) (by simp[results,Tryz.results78,go_sem,valV,f0,f1,f2,f3,f4,c0,c1,c2,c3,c4]) rfl ?_;exact ⟨_,false,rfl,(((((HN.out.below).setCell (Nat.le_refl _) _).setCell (Nat.le_refl _) _).setCell (Nat.le_refl _) _).setCell (Nat.le_refl _) _).setCell (Nat.le_refl _) _,.inl ⟨rfl,⟨0,0,rfl⟩,Hr.out⟩⟩
   |false=>
    have Hwd:=hid (hwd.out.2 rfl);clear hwd;by_cases hfull:n=r.size
    ·have n1:((n:Int)==(r.size:Int))=true:=by simp[hfull]
     have htw:=tw_full (by rw[←Hn.out,size_list];exact hfull:(r.data.toList.takeWhile isD).length=r.data.toList.length);have hwr:=Hwd.out;rw[htw]at hwr;have hlaid:RangeLaid wc:=by
      obtain ⟨ev,q1,q2⟩:=Hv.out;exact ⟨ev,by rw[HN.out.below.cell (lt_of_cell q1)];exact q1,q2⟩
     have Hi:=hid (integer_walk wc r hrmax below (wholeL_allD hwr) hlaid);have HI:=hid (And.intro (intR_whole hr.out.1 hwr) (decR_digits hr.out.1 (whole_all hwr)));clear hfull htw hwr hlaid hnr
     go_wp2_with fail
     refine Hi.out.mono ?_;rintro e w2 ⟨i,ok,rfl,hb,hio⟩;have HN2:=hid (HN.out.later hb);have Hio:=hid hio;clear Hi hb hio;dsimp only[valV];obtain ⟨⟨c0,c1,c2,c3,c4⟩,f0,f1,f2,f3,f4⟩:=cells_facts HN2.out.r;go_wp2;refine bodyPost_ret (v:= .tuple #[valV 3 false i 0 ⟨#[]⟩,.bool ok]) (by simp[results,Tryz.results78,go_sem,valV,f0,f1,f2,f3,f4,c0,c1,c2,c3,c4]) rfl ?_;refine ⟨_,ok,rfl,(((((HN2.out.below).setCell (Nat.le_refl _) _).setCell (Nat.le_refl _) _).setCell (Nat.le_refl _) _).setCell (Nat.le_refl _) _).setCell (Nat.le_refl _) _,?_⟩
     rcases Hio.out with ⟨q1,q2⟩|⟨q1,q2⟩
     ·exact .inr (.inl ⟨q1,i,HI.out.1.trans q2,rfl⟩)
     ·exact .inl ⟨q1,⟨3,i,rfl⟩,HI.out.1.trans q2,HI.out.2⟩
    ·have n1:((n:Int)==(r.size:Int))=false:=by simp;omega
     have hlt:n<r.size:=by omega
     have HI:=hid (not_int hr.out.1 (by rw[←Hn.out,size_list];exact hfull));by_cases h46:r[n]=46
     ·have n2:((r[n].toNat:Int) != 46)=false:=by rw[h46];rfl
      have hpt:=point_form Hn.out hlt h46;have hm:=hr.out.1;rw[hpt]at hm;have Hm:=hid hm;have hTs:(r.extract (n+1) r.size).size=r.size-(n+1):=by rw[←size_list,ext_from,List.length_drop,size_list]
      obtain ⟨k,hk⟩:∃k,k=((r.extract (n+1) r.size).data.toList.takeWhile isD).length:=⟨_,rfl⟩;have hkle:k≤r.size-(n+1):=by rw[←hTs,←size_list,hk];exact tw_len_le _
      have Hd:=hid (digits_walk wc (r.extract (n+1) r.size) (Nat.le_trans (ext_size _ _ _) hrmax2) k _ hk.symm rfl);have Hk:=hid hk;have m1:(n:Int)+1≤(r.size:Int):=by omega
      clear hfull h46 hpt hm hTs hk
      go_wp2_with fail
      refine Hd.out.mono ?_;rintro e w1 ⟨rfl,hw⟩;obtain rfl:=hw.symm;clear Hd;obtain ⟨N,hN⟩:∃N,N=n+1+k:=⟨_,rfl⟩;have hNr:N≤r.size:=by omega
      go_upto_region 14 with (fail)
      go_cut [12] from 15 (fun s12 wc'=>s12= .int .i64 (N:Int)∧wc'=wc)
      case first=>
       go_wp2
       go_meet
       case rel=>exact ⟨by first|(congr 1;omega)|(rw[hN];rfl),(by first|rfl|trivial)⟩
      case rest=>
       obtain ⟨rfl,hw⟩:=hcut;obtain rfl:=hw.symm;by_cases hk0:k=0
       ·have n3:((k:Int)==0)=true:=by simp[hk0]
        have Hr:=hid (And.intro HI.out (no_digits_behind Hm.out (tw_all_isD _) (Hk.out.symm.trans hk0)));clear hk0 hN hNr hkle;go_wp2
        go_step3
        show 0=0∧J _ _
        refine ⟨rfl,hJ.out _ _ ?_⟩;obtain ⟨⟨c0,c1,c2,c3,c4⟩,f0,f1,f2,f3,f4⟩:=cells_facts HN.out.r;go_wp2;rw[Exit.noGoto_ret];refine bodyPost_ret (v:= .tuple #[valV 0 false 0 0 ⟨#[]⟩,.bool false]) (by simp[results,Tryz.results78,go_sem,valV,f0,f1,f2,f3,f4,c0,c1,c2,c3,c4]) rfl ?_;exact ⟨_,false,rfl,(((((HN.out.below).setCell (Nat.le_refl _) _).setCell (Nat.le_refl _) _).setCell (Nat.le_refl _) _).setCell (Nat.le_refl _) _).setCell (Nat.le_refl _) _,.inl ⟨rfl,⟨0,0,rfl⟩,Hr.out⟩⟩
       ·have n3:((k:Int)==0)=false:=by simp;omega
        have hA:(r.extract 0 n).data.toList=r.data.toList.takeWhile isD:=by
         rw[ext_list,List.drop_zero,Nat.sub_zero,Hn.out];exact (tw_take _).symm
        have hB:(r.extract (n+1) N).data.toList=(r.extract (n+1) r.size).data.toList.takeWhile isD:=by
         rw[ext_list,show N-(n+1)=k by omega,←ext_from,Hk.out];exact (tw_take _).symm
        have hAB:(r.extract 0 n++r.extract (n+1) N).data.toList=r.data.toList.takeWhile isD++(r.extract (n+1) r.size).data.toList.takeWhile isD:=by
         rw[←hA,←hB];exact ByteArray.toList_data_append
        have hABall:(r.extract 0 n++r.extract (n+1) N).data.toList.all isD=true:=by
         rw[hAB,List.all_append,tw_all_isD,tw_all_isD];rfl
        have hAs:(r.extract 0 n).size=n:=by rw[←size_list,hA,←Hn.out]
        have hBs:(r.extract (n+1) N).size=k:=by rw[←size_list,hB,←Hk.out]
        have hABs:(r.extract 0 n++r.extract (n+1) N).size=n+k:=by
         rw[←size_list,hAB,List.length_append,←Hn.out,←Hk.out]
        obtain ⟨m,hm⟩:∃m,m=valS (r.data.toList.takeWhile isD++(r.extract (n+1) r.size).data.toList.takeWhile isD):=⟨_,rfl⟩;have Hd:=hid (fun w=>digits_walk w (r.extract 0 n++r.extract (n+1) N) (by rw[hABs];exact Nat.le_trans (by omega:n+k≤2097152) (by decide)) (n+k) m (by rw[tw_self hABall,size_list,hABs]) (by rw[tw_self hABall,hAB,hm]));have Hmm:=hid hm;have hcat:(r.extract 0 n).size+(r.extract (n+1) N).size≤9223372036854775807:=by rw[hAs,hBs];omega
        have Hk0:=hid hk0;have m2:(n:Int)≤(r.size:Int):=by omega
        have m3:(N:Int)≤(r.size:Int):=by omega
        have m4:(n:Int)+1≤(N:Int):=by omega
        have m5:IntKind.i64.wrap ((n:Int)+1)=(n:Int)+1:=by rw[IntKind.wrap_i64];omega
        have hsl:∀w,(Instr.slice 9 (.string r) (some (.int .i64 ((n:Int)+1))) (some (.int .i64 (N:Int))) none).run Tryz.prog w= .ok (.string (r.extract (n+1) N)) w:=by
         intro w;have q:=run_slice_string (P:= Tryz.prog) w 9 r .i64 .i64 ((n:Int)+1) (N:Int) Tryz.underlying9 (by omega) m4 m3;rw[show ((n:Int)+1).toNat=n+1 by omega,show ((N:Int)).toNat=N by omega]at q;exact q
        have HNN:=hid hN;clear hA hB hAB hABall hABs hm hk0 hN hAs hBs;go_upto_region 16 with (fail)
        go_quiet (refine Calls.quiet_of_same (Hd.out _));generalize hwc2:wc.drewN nq=wc2;have HN2:=hid (hwc2 ▸ HN.out.drewN nq);clear Hd hcat hsl m5 hwc2;have mw:IntKind.i64.wrap ((N:Int)+1)=(N:Int)+1:=by rw[IntKind.wrap_i64];omega
        go_upto_if 80 with (fail)
        go_cut [10,11] from 15 (fun s10 s11 wc'=>∃(pw:Nat) (sg:Int),s10= .int .u64 (pw:Int)∧s11= .int .i64 sg∧(∃nq,wc'=wc2.drewN nq)∧Hid (pw≤99∧(sg=1∨sg= -1)∧decR s.data.toList=decF (r.data.toList.takeWhile isD) ((r.extract (n+1) r.size).data.toList.takeWhile isD) below (some (sg*(pw:Int)))))
        case first=>
         by_cases hend:N<r.size
         ·have n4:(N:Int)<(r.size:Int):=by omega
          have hbr:=behind_r Hk.out HNN.out hend;have m6:(N:Int)+1≤(r.size:Int):=by omega
          by_cases h101:r[N]=101
          ·have n5:((r[N].toNat:Int) != 101)=false:=by rw[h101];rfl
           rw[h101]at hbr;have Hpw:=hid (dec_pow Hm.out Hwd.out (fun q=>Hk0.out (Hk.out.trans q)) hbr.1);have hVs:(r.extract (N+1) r.size).size≤r.size:=ext_size _ _ _;clear hbr h101 hkle hNr;have Hp:=hid (fun w=> Tryz.strings_HasPrefix (r.extract (N+1) r.size) ⟨#[45]⟩ w)
           go_wp2_with fail
           refine (Hp.out _).mono ?_;rintro e w1 ⟨rfl,hw⟩;obtain rfl:=hw.symm;clear Hp;generalize r.extract (N+1) r.size=V at*;generalize hpre:Lib.hasPrefix V.data.toList (⟨#[45]⟩:ByteArray).data.toList=down;have Hdown:=hid hpre;clear hpre
           go_upto_if 90 with (fail)
           go_cut [0,11] from 15 (fun s0 s11 wc'=>∃(p:ByteArray) (sg:Int),s0= .string p∧s11= .int .i64 sg∧(∃nq,wc'=wc2.drewN nq)∧p.size≤V.size∧Hid (minusL V.data.toList=(p.data.toList,down)∧sg=if down=true then -1 else 1))
           case first=>
            cases down with
            |true=>
             have h1:=minusL_yes Hdown.out;have Hmv:=hid h1.2;have h2:(1:Int)≤(V.size:Int):=by have:=h1.1;omega
             clear h1;go_wp2;go_quiet (fail);go_wp2
             go_meet
             case rel=>exact ⟨_,-1,(by first|rfl|trivial),(by first|rfl|trivial),⟨_,rfl⟩,ext_size _ _ _,Hmv.out,rfl⟩
            |false=>
             go_wp2
             go_meet
             case rel=>exact ⟨_,1,(by first|rfl|trivial),(by first|rfl|trivial),⟨0,rfl⟩,Nat.le_refl _,minusL_no Hdown.out,rfl⟩
           case rest=>
            obtain ⟨p,sg,rfl,rfl,⟨nq2,rfl⟩,hps,hsg⟩:=hcut;have hpmax:p.size≤2097152:=by omega
            have Hpf:=hid (pow_form hsg.out.1);obtain ⟨n2',hn2⟩:∃q,q=(p.data.toList.takeWhile isD).length:=⟨_,rfl⟩;have hn2le:n2'≤p.size:=by rw[hn2,←size_list];exact tw_len_le _
            obtain ⟨pw,hpw⟩:∃q,q=valS (p.data.toList.takeWhile isD):=⟨_,rfl⟩;have Hd:=hid (digits_walk (wc2.drewN nq2) p (Nat.le_trans hpmax (by decide)) n2' pw hn2.symm hpw.symm);have Hn2:=hid hn2;have Hpv:=hid hpw;clear hn2 hpw hVs hps
            go_wp2_with fail
            refine Hd.out.mono ?_;rintro e w1 ⟨rfl,hw⟩;obtain rfl:=hw.symm;clear Hd;by_cases hz:n2'=0∨2<n2'∨n2'<p.size
            ·have hpn:powR true V.data.toList=none:=by
              rw[Hpf.out,if_neg];rw[←Hn2.out,size_list];omega
             have hdn:=Hpw.out;rw[hpn]at hdn;have Hr:=hid (And.intro HI.out hdn);have HN3:=hid (HN2.out.drewN nq2);clear hpn hdn;by_cases hz0:n2'=0
             ·have n6:((n2':Int)==0)=true:=by simp[hz0]
              clear hz hz0;go_wp2
              go_step3
              show 0=0∧J _ _
              refine ⟨rfl,hJ.out _ _ ?_⟩;obtain ⟨⟨c0,c1,c2,c3,c4⟩,f0,f1,f2,f3,f4⟩:=cells_facts HN3.out.r;go_wp2;rw[Exit.noGoto_ret];refine bodyPost_ret (v:= .tuple #[valV 0 false 0 0 ⟨#[]⟩,.bool false]) (by simp[results,Tryz.results78,go_sem,valV,f0,f1,f2,f3,f4,c0,c1,c2,c3,c4]) rfl ?_;exact ⟨_,false,rfl,(((((HN3.out.below).setCell (Nat.le_refl _) _).setCell (Nat.le_refl _) _).setCell (Nat.le_refl _) _).setCell (Nat.le_refl _) _).setCell (Nat.le_refl _) _,.inl ⟨rfl,⟨0,0,rfl⟩,Hr.out⟩⟩
             ·have n6:((n2':Int)==0)=false:=by simp;omega
              by_cases hz2:2<n2'
              ·have n7:(2:Int)<(n2':Int):=by omega
               clear hz hz0 hz2;go_wp2
               go_step3
               show 0=0∧J _ _
               refine ⟨rfl,hJ.out _ _ ?_⟩;obtain ⟨⟨c0,c1,c2,c3,c4⟩,f0,f1,f2,f3,f4⟩:=cells_facts HN3.out.r;go_wp2;rw[Exit.noGoto_ret];refine bodyPost_ret (v:= .tuple #[valV 0 false 0 0 ⟨#[]⟩,.bool false]) (by simp[results,Tryz.results78,go_sem,valV,f0,f1,f2,f3,f4,c0,c1,c2,c3,c4]) rfl ?_;exact ⟨_,false,rfl,(((((HN3.out.below).setCell (Nat.le_refl _) _).setCell (Nat.le_refl _) _).setCell (Nat.le_refl _) _).setCell (Nat.le_refl _) _).setCell (Nat.le_refl _) _,.inl ⟨rfl,⟨0,0,rfl⟩,Hr.out⟩⟩
              ·have n7:¬(2:Int)<(n2':Int):=by omega
               have n8:(n2':Int)<(p.size:Int):=by omega
               clear hz hz0 hz2;go_wp2
               go_step3
               show 0=0∧J _ _
               refine ⟨rfl,hJ.out _ _ ?_⟩;obtain ⟨⟨c0,c1,c2,c3,c4⟩,f0,f1,f2,f3,f4⟩:=cells_facts HN3.out.r;go_wp2;rw[Exit.noGoto_ret];refine bodyPost_ret (v:= .tuple #[valV 0 false 0 0 ⟨#[]⟩,.bool false]) (by simp[results,Tryz.results78,go_sem,valV,f0,f1,f2,f3,f4,c0,c1,c2,c3,c4]) rfl ?_;exact ⟨_,false,rfl,(((((HN3.out.below).setCell (Nat.le_refl _) _).setCell (Nat.le_refl _) _).setCell (Nat.le_refl _) _).setCell (Nat.le_refl _) _).setCell (Nat.le_refl _) _,.inl ⟨rfl,⟨0,0,rfl⟩,Hr.out⟩⟩
            ·have n6:((n2':Int)==0)=false:=by simp;omega
             have n7:¬(2:Int)<(n2':Int):=by omega
             have n8:¬(n2':Int)<(p.size:Int):=by omega
             have hfullp:p.data.toList.takeWhile isD=p.data.toList:=tw_full (by rw[←Hn2.out,size_list];omega);have hsm:=valS_small (l:=p.data.toList) (by rw[←hfullp];exact tw_all_isD _) (by rw[size_list];omega);have hpv:=Hpv.out;rw[hfullp,hsm.1]at hpv;have hpn:powR true V.data.toList=some (sg*(pw:Int)):=by
              rw[Hpf.out,if_pos (by rw[←Hn2.out,size_list];omega),←hpv,hsg.out.2];cases down<;>simp
             have hdn:=Hpw.out;rw[hpn]at hdn;have Hres:=hid (show pw≤99∧(sg=1∨sg= -1)∧_ from ⟨by rw[hpv];exact hsm.2,by rw[hsg.out.2];cases down<;>simp,hdn⟩);clear hz hfullp hsm hpv hpn hdn;go_wp2
             go_meet
             case rel=>exact ⟨pw,sg,(by first|rfl|trivial),(by first|rfl|trivial),⟨nq2,rfl⟩,Hres.out⟩
          ·have n5:((r[N].toNat:Int) != 101)=true:=by
            simp;intro e;exact h101 (UInt8.toNat_inj.1 (by simpa using (by omega:r[N].toNat=101)))
           have Hr:=hid (And.intro HI.out (dec_odd Hm.out (tw_all_isD _) hbr.1 hbr.2 h101));clear hbr h101 hkle hNr mw;go_wp2
           go_step3
           show 0=0∧J _ _
           refine ⟨rfl,hJ.out _ _ ?_⟩;obtain ⟨⟨c0,c1,c2,c3,c4⟩,f0,f1,f2,f3,f4⟩:=cells_facts HN2.out.r;go_wp2;rw[Exit.noGoto_ret];refine bodyPost_ret (v:= .tuple #[valV 0 false 0 0 ⟨#[]⟩,.bool false]) (by simp[results,Tryz.results78,go_sem,valV,f0,f1,f2,f3,f4,c0,c1,c2,c3,c4]) rfl ?_;exact ⟨_,false,rfl,(((((HN2.out.below).setCell (Nat.le_refl _) _).setCell (Nat.le_refl _) _).setCell (Nat.le_refl _) _).setCell (Nat.le_refl _) _).setCell (Nat.le_refl _) _,.inl ⟨rfl,⟨0,0,rfl⟩,Hr.out⟩⟩
         ·have n4:¬(N:Int)<(r.size:Int):=by omega
          have hde:=dec_end Hm.out Hwd.out (fun q=>Hk0.out (Hk.out.trans q)) (by
           rw[←Hk.out,size_list,←size_list,ext_from,List.length_drop,size_list];have:=HNN.out;omega)
          have Hde:=hid hde;clear hde hend hkle hNr;go_wp2
          go_meet
          case rel=>exact ⟨0,1,(by first|rfl|trivial),(by first|rfl|trivial),⟨0,rfl⟩,by decide,.inl rfl,Hde.out⟩
        case rest=>
         obtain ⟨pw,sg,rfl,rfl,⟨nq2,rfl⟩,hq⟩:=hcut;have HN3:=hid (HN2.out.drewN nq2);generalize wc2.drewN nq2=wc3 at*;obtain ⟨kk,hkk⟩:∃kk:Int,kk=sg*(pw:Int)-(k:Int):=⟨_,rfl⟩;have hpw99:=hq.out.1;have hlast:=dec_last (d:=r.data.toList.takeWhile isD) (b:=(r.extract (n+1) r.size).data.toList.takeWhile isD) (neg:=below) (p:=sg*(pw:Int)) (by rcases hq.out.2.1 with q|q<;>rw[q]<;>omega) kk (by rw[hkk,←Hk.out])
         rw[←Hmm.out,←hq.out.2.2]at hlast;have Hlast:=hid hlast;clear hlast;have mw1:IntKind.i64.wrap (pw:Int)=(pw:Int):=by rw[IntKind.wrap_i64];omega
         have mw2:IntKind.i64.wrap (sg*(pw:Int))=sg*(pw:Int):=by
          rcases hq.out.2.1 with q|q<;>rw[q,IntKind.wrap_i64]<;>omega
         have mw3:IntKind.i64.wrap (sg*(pw:Int)-(k:Int))=kk:=by
          rw[hkk];rcases hq.out.2.1 with q|q<;>rw[q,IntKind.wrap_i64]<;>omega
         have Hs:=hid (scaled_walk wc3 m kk);have Hkk:=hid hkk;clear hkk hq hkle hNr
         go_wp2_with fail
         refine Hs.out.mono ?_;rintro e w1 ⟨rfl,hw⟩;obtain rfl:=hw.symm;clear Hs;obtain ⟨⟨d0,d1,d2,d3,d4⟩,g0,g1,g2,g3,g4⟩:=cells_facts HN3.out.v;by_cases hbd:Bad m kk
         ·have hE:(scE m kk != 0)=true:=by unfold scE;rw[if_pos hbd];rfl
          have Hr:=hid (And.intro HI.out (Hlast.out.1 hbd));have HN4:=hid (HN3.out.real (scR m kk));clear hbd;go_wp2
          go_step3
          show 0=0∧J _ _
          refine ⟨rfl,hJ.out _ _ ?_⟩;obtain ⟨⟨c0,c1,c2,c3,c4⟩,f0,f1,f2,f3,f4⟩:=cells_facts HN4.out.r;go_wp2;rw[Exit.noGoto_ret];refine bodyPost_ret (v:= .tuple #[valV 0 false 0 0 ⟨#[]⟩,.bool false]) (by simp[results,Tryz.results78,go_sem,valV,f0,f1,f2,f3,f4,c0,c1,c2,c3,c4]) rfl ?_;exact ⟨_,false,rfl,(((((HN4.out.below).setCell (Nat.le_refl _) _).setCell (Nat.le_refl _) _).setCell (Nat.le_refl _) _).setCell (Nat.le_refl _) _).setCell (Nat.le_refl _) _,.inl ⟨rfl,⟨0,0,rfl⟩,Hr.out⟩⟩
         ·have hE:(scE m kk != 0)=false:=by unfold scE;rw[if_neg hbd];rfl
          have hR:scR m kk=scW m kk:=if_neg hbd;have Hd:=hid (Hlast.out.2 hbd);have HR:=hid hR;clear hbd hR;have hng:=neg_run (scR m kk);obtain ⟨⟨c0,c1,c2,c3,c4⟩,f0,f1,f2,f3,f4⟩:=cells_facts HN3.out.r;cases below with
          |false=>
           go_wp2;refine bodyPost_ret (v:= .tuple #[valV 4 false 0 (scR m kk) ⟨#[]⟩,.bool true]) (by simp[results,Tryz.results78,go_sem,valV,f0,f1,f2,f3,f4,c0,c1,c2,c3,c4]) rfl ?_;exact ⟨_,true,rfl,(((((HN3.out.below.setCell (Nat.le_succ _) _).setCell (Nat.le_refl _) _).setCell (Nat.le_refl _) _).setCell (Nat.le_refl _) _).setCell (Nat.le_refl _) _).setCell (Nat.le_refl _) _,.inr (.inr ⟨rfl,HI.out,_,_,_,Hd.out,by rw[HR.out];rfl⟩)⟩
          |true=>
           go_wp2;refine bodyPost_ret (v:= .tuple #[valV 4 false 0 (negW (scR m kk)) ⟨#[]⟩,.bool true]) (by simp[results,Tryz.results78,go_sem,valV,f0,f1,f2,f3,f4,c0,c1,c2,c3,c4]) rfl ?_;exact ⟨_,true,rfl,((((((HN3.out.below.setCell (Nat.le_succ _) _).setCell (Nat.le_succ _) _).setCell (Nat.le_refl _) _).setCell (Nat.le_refl _) _).setCell (Nat.le_refl _) _).setCell (Nat.le_refl _) _).setCell (Nat.le_refl _) _,.inr (.inr ⟨rfl,HI.out,_,_,_,Hd.out,by rw[HR.out];rfl⟩)⟩
     ·have n2:((r[n].toNat:Int) != 46)=true:=by
       simp;intro e;exact h46 (UInt8.toNat_inj.1 (by simpa using (by omega:r[n].toNat=46)))
      have Hr:=hid (And.intro HI.out (no_point hr.out.1 Hn.out hlt h46));clear hfull h46 hnr;go_wp2
      go_step3
      show 0=0∧J _ _
      refine ⟨rfl,hJ.out _ _ ?_⟩;obtain ⟨⟨c0,c1,c2,c3,c4⟩,f0,f1,f2,f3,f4⟩:=cells_facts HN.out.r;go_wp2;rw[Exit.noGoto_ret];refine bodyPost_ret (v:= .tuple #[valV 0 false 0 0 ⟨#[]⟩,.bool false]) (by simp[results,Tryz.results78,go_sem,valV,f0,f1,f2,f3,f4,c0,c1,c2,c3,c4]) rfl ?_;exact ⟨_,false,rfl,(((((HN.out.below).setCell (Nat.le_refl _) _).setCell (Nat.le_refl _) _).setCell (Nat.le_refl _) _).setCell (Nat.le_refl _) _).setCell (Nat.le_refl _) _,.inl ⟨rfl,⟨0,0,rfl⟩,Hr.out⟩⟩
end Go.Proofs.YtfenoaeoedobmaaGreatDoor
namespace Go.Proofs.YtfenoaeoedobmaaGreatDoor
open Go Ieee
theorem andNot_mask (a s:Nat) (ha:a<18446744073709551616) (hs:s≤52):bits .andNot .u64 (a:Int) ((2 ^ s-1:Nat):Int)=((a / 2 ^ s*2 ^ s:Nat):Int):=by
 have e:(BitVec.ofInt 64 (a:Int)&&& ~~~ BitVec.ofInt 64 ((2 ^ s-1:Nat):Int)).toNat=a / 2 ^ s*2 ^ s:=by
  rw[BitVec.ofInt_natCast,BitVec.ofInt_natCast];apply Nat.eq_of_testBit_eq;intro i;rw[BitVec.testBit_toNat,BitVec.getLsbD_and,BitVec.getLsbD_not,BitVec.getLsbD_ofNat,BitVec.getLsbD_ofNat,Nat.testBit_two_pow_sub_one,←Nat.shiftRight_eq_div_pow,←Nat.shiftLeft_eq,Nat.testBit_shiftLeft,Nat.testBit_shiftRight];by_cases h64:i<64
  ·by_cases hi:i<s
   ·simp[h64,hi];intro h;omega
   ·have e1:s+(i-s)=i:=by omega
    have e2:s≤i:=by omega
    rw[e1];simp[h64,hi,e2]
  ·have:a.testBit i=false:=Nat.testBit_lt_two_pow (Nat.lt_of_lt_of_le ha (by
    have:2 ^ 64≤2 ^ i:=Nat.pow_le_pow_right (by decide) (by omega);omega))
   have e2:s≤i:=by omega
   have e1:s+(i-s)=i:=by omega
   rw[e1];simp[h64,this]
 show IntKind.u64.wrap ((BitVec.ofInt 64 (a:Int)&&& ~~~ BitVec.ofInt 64 ((2 ^ s-1:Nat):Int)).toNat:Int)=_
 rw[e,IntKind.wrap_u64];have:=Nat.div_mul_le_self a (2 ^ s);omega
theorem half_shift:∀d,d<52→(2251799813685248:Int) / 2 ^ d=((2 ^ (51-d):Nat):Int):=by decide+kernel
theorem mask_shift:∀d,d<52→(4503599627370495:Int) / 2 ^ d=((2 ^ (52-d)-1:Nat):Int):=by decide+kernel
theorem dbl (k:Nat) (h:1≤k):2*2 ^ (k-1)=2 ^ k:=by
 obtain ⟨j,rfl⟩:∃j,k=j+1:=⟨k-1,by omega⟩;rw[Nat.add_sub_cancel,Nat.pow_succ,Nat.mul_comm]
def roundW (b:Nat):Nat:=
 if b / 4503599627370496<1023 then (if b / 4503599627370496=1022 then 4607182418800017408 else 0)
 else (b+2 ^ (1074-b / 4503599627370496)) / 2 ^ (1075-b / 4503599627370496)*2 ^ (1075-b / 4503599627370496)
theorem FV_one:FV 4607182418800017408=2 ^ kU:=by decide+kernel
theorem FV_zero:FV 0=0:=rfl
theorem FV_exp {b e:Nat} (he:e=b / 4503599627370496) (h1:1≤e):∃kept,4503599627370496≤kept∧kept<9007199254740992∧b=(e-1)*4503599627370496+kept∧FV b=kept*2 ^ (e-1):=by
 refine ⟨4503599627370496+b % 4503599627370496,by omega,by omega,by omega,?_⟩;unfold FV;rw[if_neg (by omega),←he]
theorem round_ok {U:Nat} (hUe:U=2 ^ kU) {b:Nat} (hb:b / 4503599627370496<1075):roundW b<INF∧FV (roundW b)=(2*FV b+U) / (2*U)*U:=by
 obtain ⟨_,_,hU⟩:=U_facts hUe;have hk:=kU_eq;obtain ⟨e,he⟩:∃e,e=b / 4503599627370496:=⟨_,rfl⟩;unfold roundW;rw[←he]at hb ⊢;by_cases h1:e<1023
 ·rw[if_pos h1];by_cases h2:e=1022
  ·rw[if_pos h2,FV_one,←hUe];obtain ⟨kept,k1,k2,_,k3⟩:=FV_exp he (by omega);have e1:2 ^ 53*2 ^ (e-1)=U:=by rw[hUe];exact pow_split (by omega)
   have e2:2*FV b<2*U∧U≤2*FV b:=by
    rw[k3,←e1];generalize 2 ^ (e-1)=z at*;have a1:kept*z≤9007199254740991*z:=Nat.mul_le_mul_right _ (by omega);have a2:4503599627370496*z≤kept*z:=Nat.mul_le_mul_right _ k1;generalize kept*z=y at*;have hz:0<z:=by
     rcases Nat.eq_zero_or_pos z with h|h
     ·rw[h]at e1;omega
     ·exact h
    constructor<;>omega
   have e3:(2*FV b+U) / (2*U)=1:=by
    rw[Nat.div_eq_iff (by omega)];omega
   rw[e3,Nat.one_mul];exact ⟨by decide,rfl⟩
  ·rw[if_neg h2];have e2:2*FV b<U:=by
    by_cases h0:1≤e
    ·obtain ⟨kept,k1,k2,_,k3⟩:=FV_exp he h0;have e1:2 ^ 53*2 ^ (e-1)≤2 ^ (kU-1):=by
      rw[←Nat.pow_add];exact Nat.pow_le_pow_right (by decide) (by omega)
     have e4:2*2 ^ (kU-1)=U:=(dbl kU (by omega)).trans hUe.symm;rw[k3];have hz:0<2 ^ (e-1):=Nat.two_pow_pos _;generalize 2 ^ (e-1)=z at*;have a1:kept*z≤9007199254740991*z:=Nat.mul_le_mul_right _ (by omega);generalize kept*z=y at*;omega
    ·have hlt:b<4503599627370496:=by omega
     have:FV b=b:=by unfold FV;rw[if_pos hlt]
     rw[this];have:2 ^ 53≤2 ^ kU:=Nat.pow_le_pow_right (by decide) (by omega);rw[←hUe]at this;omega
   have e3:(2*FV b+U) / (2*U)=0:=Nat.div_eq_of_lt (by omega);rw[e3,Nat.zero_mul];exact ⟨by decide,FV_zero⟩
 ·rw[if_neg h1];obtain ⟨kept,k1,k2,k0,k3⟩:=FV_exp he (by omega);obtain ⟨s,hs⟩:∃s,s=1075-e:=⟨_,rfl⟩;rw[←hs,show 1074-e=s-1 by omega];have hs1:1≤s:=by omega
  have hS:0<2 ^ s:=Nat.two_pow_pos _;have hhalf:2*2 ^ (s-1)=2 ^ s:=dbl s hs1;have h52:2 ^ (52-s)*2 ^ s=4503599627370496:=pow_split (c:=52) (by omega);have hUs:2 ^ s*2 ^ (e-1)=U:=by rw[hUe];exact pow_split (by omega)
  have hz:0<2 ^ (e-1):=Nat.two_pow_pos _;obtain ⟨n,hn⟩:∃n,n=(kept+2 ^ (s-1)) / 2 ^ s:=⟨_,rfl⟩;have hr:(b+2 ^ (s-1)) / 2 ^ s*2 ^ s=(e-1)*4503599627370496+n*2 ^ s:=by
   rw[k0,hn,←h52];have:(e-1)*(2 ^ (52-s)*2 ^ s)+kept+2 ^ (s-1)=kept+2 ^ (s-1)+(e-1)*2 ^ (52-s)*2 ^ s:=by
    rw[←Nat.mul_assoc];omega
   rw[this,Nat.add_mul_div_right _ _ hS,Nat.add_mul,Nat.mul_assoc];omega
  have hlo:4503599627370496≤n*2 ^ s:=by
   rw[←h52];refine Nat.mul_le_mul_right _ ?_;rw[hn,Nat.le_div_iff_mul_le hS,h52];omega
  have hhi:n*2 ^ s≤9007199254740992:=by
   have q:n<2*2 ^ (52-s)+1:=by
    rw[hn,Nat.div_lt_iff_lt_mul hS,Nat.add_mul,Nat.mul_assoc,h52];omega
   have q2:n≤2*2 ^ (52-s):=by omega
   have:=Nat.mul_le_mul_right (2 ^ s) q2;rw[Nat.mul_assoc,h52]at this;exact this
  rw[hr,FV_mk _ _ hlo hhi];refine ⟨by unfold INF;omega,?_⟩;have hm:(2*FV b+U) / (2*U)=n:=by
   rw[k3,←hUs,hn];have q1:2*(kept*2 ^ (e-1))+2 ^ s*2 ^ (e-1)=(kept+2 ^ (s-1))*(2*2 ^ (e-1)):=by
    rw[←hhalf,Nat.add_mul];have:2*(kept*2 ^ (e-1))=kept*(2*2 ^ (e-1)):=by ac_rfl
    rw[this];congr 1
    ac_rfl
   have q2:2*(2 ^ s*2 ^ (e-1))=2 ^ s*(2*2 ^ (e-1)):=by ac_rfl
   rw[q1,q2,Nat.mul_div_mul_right _ _ (by omega)]
  rw[hm,←hUs]
  ac_rfl
end Go.Proofs.YtfenoaeoedobmaaGreatDoor
namespace Go.Proofs.YtfenoaeoedobmaaGreatDoor
open Go Go.RowKit
theorem bits_run (b:Nat) (w:World):(callFunc 204 #[.float .f64 b]).run Tryz.prog w= .ok (.value (.int .u64 (b:Int))) w:=by
 rw[run_callFunc_extern Tryz.func204 (by kernel_rfl) (by kernel_rfl) (by kernel_rfl) (show Extern.find Tryz.f204 =some Extern.MathFloatBits.float64bits by kernel_rfl)];rfl
theorem frombits_run (b:Nat) (w:World):(callFunc 114 #[.int .u64 (b:Int)]).run Tryz.prog w= .ok (.value (.float .f64 b)) w:=by
 rw[run_callFunc_extern Tryz.func114 (by kernel_rfl) (by kernel_rfl) (by kernel_rfl) (show Extern.find Tryz.f114 =some Extern.MathFloatBits.float64frombits by kernel_rfl)];rfl
theorem isInf_walk (w:World) (x:Nat) (b:Bool) (hb:(FloatKind.f64.format.order x 9218868437227405311==some .gt)=b):Calls Tryz.prog 185 #[.float .f64 x,.int .i64 1] w fun e w'=>e= .returned (.bool b)∧w'=w:=by
 go_enter Tryz.func185,Tryz.ntmps185;go_wp2;go_ret;exact ⟨rfl,rfl⟩
theorem one_word:∀w:World,(callFunc 114 #[.int .u64 4607182418800017408]).run Tryz.prog w= .ok (.value (.float .f64 4607182418800017408)) w:=frombits_run 4607182418800017408
theorem zero_word:∀w:World,(callFunc 114 #[.int .u64 0]).run Tryz.prog w= .ok (.value (.float .f64 0)) w:=frombits_run 0
theorem round_walk (w:World) (b:Nat) (hb:b / 4503599627370496<1075):Calls Tryz.prog 207 #[.float .f64 b] w fun e w'=>e= .returned (.float .f64 (roundW b))∧w'=w:=by
 obtain ⟨e,he⟩:∃e,e=b / 4503599627370496:=⟨_,rfl⟩;have hlt:b<4841369599423283200:=by omega
 have hE:bits BinOp.and IntKind.u64 ((b:Int) / 4503599627370496) 2047=(e:Int):=by
  have e1:(b:Int) / 4503599627370496=(e:Int):=by omega
  have e2:e&&& 2047=e:=by
   rw[show 2047=2 ^ 11-1 from rfl,Nat.and_two_pow_sub_one_eq_mod,Nat.mod_eq_of_lt (by omega)]
  rw[e1];have:=bits_and_u64_nat e 2047 (by omega) (by decide);rw[e2]at this;exact this
 have hZ:bits BinOp.and IntKind.u64 (b:Int) 9223372036854775808=0:=by
  have:=bits_and_u64_nat b 9223372036854775808 (by omega) (by decide);have e2:b&&& 9223372036854775808=0:=by
   apply Nat.eq_of_testBit_eq;intro i;rw[Nat.testBit_and,show 9223372036854775808=2 ^ 63 from rfl,Nat.testBit_two_pow,Nat.zero_testBit];by_cases hi:63=i
   ·subst hi;rw[Nat.testBit_lt_two_pow (by omega)];rfl
   ·simp[hi]
  rw[e2]at this;exact this
 have hO:bits BinOp.or IntKind.u64 0 4607182418800017408=4607182418800017408:=by decide+kernel
 have hd1:=bits_run b;unfold roundW;rw[←he]at hb ⊢;by_cases h1:e<1023
 ·have n1:(e:Int)<1023:=by omega
  rw[if_pos h1];by_cases h2:e=1022
  ·rw[if_pos h2];have n2:((e:Int)==1022)=true:=by simp[h2]
   have hd2:=one_word;clear hlt he hb h1 h2;go_enter Tryz.func207,Tryz.ntmps207;go_wp2;go_ret;exact ⟨rfl,rfl⟩
  ·rw[if_neg h2];have n2:((e:Int)==1022)=false:=by simp;omega
   have hd2:=zero_word;clear hlt he hb h1 h2 hO;go_enter Tryz.func207,Tryz.ntmps207;go_wp2;go_ret;exact ⟨rfl,rfl⟩
 ·rw[if_neg h1];have n1:¬(e:Int)<1023:=by omega
  have n2:(e:Int)<1075:=by omega
  have a1:=half_shift (e-1023) (by omega);have a2:=mask_shift (e-1023) (by omega);rw[show 51-(e-1023)=1074-e by omega]at a1;rw[show 52-(e-1023)=1075-e by omega]at a2;have hp:2 ^ (1074-e)≤2 ^ 51:=Nat.pow_le_pow_right (by decide) (by omega);obtain ⟨c,hc⟩:∃c,c=b+2 ^ (1074-e):=⟨_,rfl⟩;have hcb:c<18446744073709551616:=by omega
  have hW:IntKind.u64.wrap ((b:Int)+2251799813685248 / 2 ^ (e-1023))=(c:Int):=by
   rw[a1,IntKind.wrap_u64];omega
  have hA:bits BinOp.andNot IntKind.u64 (c:Int) (4503599627370495 / 2 ^ (e-1023))=((c / 2 ^ (1075-e)*2 ^ (1075-e):Nat):Int):=by
   rw[a2];exact andNot_mask c _ hcb (by omega)
  rw[←hc];have hd2:=frombits_run (c / 2 ^ (1075-e)*2 ^ (1075-e));generalize c / 2 ^ (1075-e)*2 ^ (1075-e)=r at*;clear hlt he hb h1 hO hZ hc hcb hp a1 a2;go_enter Tryz.func207,Tryz.ntmps207;go_wp2;go_ret;exact ⟨rfl,rfl⟩
end Go.Proofs.YtfenoaeoedobmaaGreatDoor
