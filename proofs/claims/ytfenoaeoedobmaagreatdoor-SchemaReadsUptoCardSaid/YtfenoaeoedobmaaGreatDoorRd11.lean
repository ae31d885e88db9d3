/-
Parts of a proof, one behind the other (laid dense by a program of mine: pack.py).
-/
import Derived.Test.YtfenoaeoedobmaaGreatDoorProg
import Derived.Deep.MidRow
import Derived.Deep.WholeRow
import Derived.Test.YtfenoaeoedobmaaGreatDoorRd09
import Derived.Test.YtfenoaeoedobmaaGreatDoorRd10
set_option linter.unusedVariables false
set_option linter.unusedSimpArgs false
set_option maxHeartbeats 16000000
set_option maxRecDepth 100000
namespace Go.Proofs.YtfenoaeoedobmaaGreatDoor
open Go Go.RowKit
def hexAt (l:List UInt8) (j:Nat):Int:=match l[j]? with|some c=>hexD c|none=> -1
theorem hexAt_some {l:List UInt8} {j:Nat} {c:UInt8} (h:l[j]? =some c):hexAt l j=hexD c:=by unfold hexAt;rw[h]
theorem hexAt_none {l:List UInt8} {j:Nat} (h:l.length≤j):hexAt l j= -1:=by unfold hexAt;rw[List.getElem?_eq_none h]
theorem hex_hit_fin:∀c:Fin 256,∀k:Fin 16,hexes.data.toList[k.val]? =some (UInt8.ofNat c.val)→hexD (UInt8.ofNat c.val)=(k.val:Int):=by decide+kernel
theorem hex_miss_fin:∀c:Fin 256,(∀k:Fin 16,hexes.data.toList[k.val]? ≠some (UInt8.ofNat c.val))→hexD (UInt8.ofNat c.val)= -1:=by decide+kernel
theorem hex_hit {c:UInt8} {k:Nat} (hk:k<16) (h:hexes.data.toList[k]? =some c):hexD c=(k:Int):=by
 have:=hex_hit_fin ⟨c.toNat,c.toNat_lt⟩ ⟨k,hk⟩;rw[UInt8.ofNat_toNat]at this;exact this h
theorem hex_miss {c:UInt8} (h:∀k,k<16→hexes.data.toList[k]? ≠some c):hexD c= -1:=by
 have:=hex_miss_fin ⟨c.toNat,c.toNat_lt⟩;rw[UInt8.ofNat_toNat]at this;exact this fun k=>h k.val k.isLt
def Drew (w w':World):Prop:=∃m,w'=w.drewN m
theorem Drew.refl (w:World):Drew w w:=⟨0,rfl⟩
theorem Drew.more {w w':World} (h:Drew w w') (k:Nat):Drew w (w'.drewN k):=by
 obtain ⟨m,rfl⟩:=h;exact ⟨m+k,World.drewN_drewN w m k⟩
theorem Drew.trans {a b c:World} (h:Drew a b) (k:Drew b c):Drew a c:=by
 obtain ⟨m,rfl⟩:=k;exact h.more m
theorem Drew.below {w w':World} (h:Drew w w'):Below w.heap.size w w':=by
 obtain ⟨m,rfl⟩:=h;exact bdH (Below.refl _ w) m
theorem digit_c (w:World) (s:ByteArray) (i:Nat):
 Calls Tryz.prog 229 #[.string s,.int .i64 (i:Int)] w fun r w'=>r= .returned (.int .i64 (hexAt s.data.toList i))∧Drew w w':=by
 rcases Nat.lt_or_ge i s.size with hlt|hge
 ·obtain ⟨c,hc⟩:=at_lt hlt;rw[hexAt_some hc];have t0:decide (s.size≤i)=false:=dF (by omega);have hidx:=idx_run' (s:=s) (i:Int) rfl hc;clear hc hlt;go_enter Tryz.func229,Tryz.ntmps229;go_wp2
  go_loopw [5] (fun v wr=>∃k:Nat,v= .int .i64 (k:Int)∧Hid (k≤16∧Drew w wr∧∀j,j<k→hexes.data.toList[j]? ≠some c)) (fun v _=>16-(intOf v).toNat)
  case atStart=>exact ⟨0,rfl,hid ⟨Nat.zero_le _,Drew.refl w,fun j h=>absurd h (Nat.not_lt_zero _)⟩⟩
  case round=>
   obtain ⟨k,rfl,H⟩:=hrel;by_cases hk:k<16
   ·obtain ⟨d,hd⟩:∃d,hexes.data.toList[k]? =some d:=at_of_lt (by show k<16;exact hk);have hidx2:=idx_run' (s:=hexes) (k:Int) rfl hd;have b3:decide ((k:Int)<16)=true:=dT (by omega);have wk:=wrap_ok (z:=(k:Int)+1) (by omega) (by omega);have Hms:=hid (meas_step hk wk);have Hgo:=hid (go_step wk);have Hdr:=hid (fun m=>H.out.2.1.more m);by_cases hdc:d=c
    ·have t1:((d.toNat:Int)==(c.toNat:Int))=true:=by rw[beq_iff_eq,hdc]
     have He:=hid (show hexD c=(k:Int) from hex_hit hk (by rw[hd,hdc]));clear hk hd H wk hdc
     go_wp2_with fail
     go_quiet (fail);go_wp2;go_ret;exact ⟨ret_i He.out.symm,Hdr.out _⟩
    ·have t1:((d.toNat:Int)==(c.toNat:Int))=false:=by rw[beq_eq_false_iff_ne];intro q;exact hdc (UInt8.toNat_inj.1 (by omega))
     have He:=hid (fun m=>show k+1≤16∧Drew w (wr.drewN m)∧∀j,j<k+1→hexes.data.toList[j]? ≠some c from ⟨hk,H.out.2.1.more m,fun j hj hq=>by
      by_cases e:j=k
      ·subst e;rw[hd]at hq;exact hdc (Option.some.inj hq)
      ·exact H.out.2.2 j (by omega) hq⟩)
     clear hk hd H wk hdc
     go_wp2_with fail
     go_quiet (fail);go_wp2;go_roundw
     case rel=>exact ⟨k+1,Hgo.out,hid (He.out _)⟩
     case measure=>exact Hms.out
   ·have b3:decide ((k:Int)<16)=false:=dF (by omega);have He:=hid (show hexD c= -1 from hex_miss fun j hj=>H.out.2.2 j (by omega));have Hdr:=hid H.out.2.1;clear hk H;go_wp2;go_ret;exact ⟨ret_i He.out.symm,Hdr.out⟩
 ·rw[hexAt_none (by rw[len_str];exact hge)];have t0:decide (s.size≤i)=true:=dT hge;clear hge;go_enter Tryz.func229,Tryz.ntmps229;go_wp2;go_ret;exact ⟨rfl,Drew.refl w⟩
theorem bad_mem {c:UInt8}:badCh c=true↔∃k,k<18∧badS.data.toList[k]? =some c:=by
 unfold badCh;rw[List.contains_iff_mem];constructor
 ·intro h;obtain ⟨k,hk,e⟩:=List.getElem_of_mem h;exact ⟨k,hk,by show ([34,39,35,44,91,93,123,125,38,42,33,124,62,37,64,63,58,96]:List UInt8)[k]? =some c;rw[List.getElem?_eq_getElem hk,e]⟩
 ·rintro ⟨k,_,h⟩;exact List.mem_of_getElem? (show ([34,39,35,44,91,93,123,125,38,42,33,124,62,37,64,63,58,96]:List UInt8)[k]? =some c from h)
theorem first_c (w:World) (s:ByteArray) (i:Nat) (c:UInt8) (hs:s.size≤1048576) (hc:s.data.toList[i]? =some c):
 Calls Tryz.prog 193 #[.string s,.int .i64 (i:Int)] w fun r w'=>r= .returned (.bool (!(badCh c||dashL (s.data.toList.drop i))))∧Drew w w':=by
 have hlt:i<s.size:=by rw[←len_str];exact (List.getElem?_eq_some_iff.1 hc).1
 have hidx:=idx_run' (s:=s) (i:Int) rfl hc;have wi1:=wrap_ok (z:=(i:Int)+1) (by omega) (by omega);obtain ⟨D,hD⟩:∃D,D=dashL (s.data.toList.drop i):=⟨_,rfl⟩;have HT:Hid ((c.toNat=45∧(i+1=s.size∧D=true∨∃d:UInt8,s.data.toList[i+1]? =some d∧i+1<s.size∧D=decide (d.toNat=32)))∨(¬c.toNat=45∧D=false)):=hid (by
  rw[hD,dropAt hc];by_cases h45:c.toNat=45
  ·by_cases hl:i+1=s.size
   ·rw[dropEnd (by rw[len_str];omega)];exact .inl ⟨h45,.inl ⟨hl,dT h45⟩⟩
   ·obtain ⟨d,hd⟩:=at_lt (s:=s) (k:=i+1) (by omega);rw[dropAt hd];refine .inl ⟨h45,.inr ⟨d,hd,by omega,?_⟩⟩
    show decide (c.toNat=45∧d.toNat=32)=_
    exact decide_eq_decide.2 ⟨fun q=>q.2,fun q=>⟨h45,q⟩⟩
  ·refine .inr ⟨h45,?_⟩;cases s.data.toList.drop (i+1) with
   |nil=>exact dF h45
   |cons d r=>exact dF (fun q=>h45 q.1))
 rw[←hD];have Hlt:=hid hlt;clear hc hlt hs hD;go_enter Tryz.func193,Tryz.ntmps193;go_wp2
 go_loopw [6] (fun v wr=>∃k:Nat,v= .int .i64 (k:Int)∧Hid (k≤18∧Drew w wr∧∀j,j<k→badS.data.toList[j]? ≠some c)) (fun v _=>18-(intOf v).toNat)
 case atStart=>exact ⟨0,rfl,hid ⟨Nat.zero_le _,Drew.refl w,fun j h=>absurd h (Nat.not_lt_zero _)⟩⟩
 case round=>
  obtain ⟨k,rfl,H⟩:=hrel;by_cases hk:k<18
  ·obtain ⟨d,hd⟩:∃d,badS.data.toList[k]? =some d:=at_of_lt (by show k<18;exact hk);have hidx2:=idx_run' (s:=badS) (k:Int) rfl hd;have b3:decide ((k:Int)<18)=true:=dT (by omega);have wk:=wrap_ok (z:=(k:Int)+1) (by omega) (by omega);have Hms:=hid (meas_step hk wk);have Hgo:=hid (go_step wk);have Hdr:=hid (fun m=>H.out.2.1.more m);by_cases hdc:d=c
   ·have t1:((c.toNat:Int)==(d.toNat:Int))=true:=by rw[beq_iff_eq,hdc]
    have He:=hid (show (!(badCh c||D))=false by rw[bad_mem.2 ⟨k,hk,by rw[hd,hdc]⟩];rfl);clear hk hd H wk hdc wi1
    go_wp2_with fail
    go_quiet (fail);go_wp2;go_ret;exact ⟨ret_b He.out.symm,Hdr.out _⟩
   ·have t1:((c.toNat:Int)==(d.toNat:Int))=false:=by rw[beq_eq_false_iff_ne];intro q;exact hdc (UInt8.toNat_inj.1 (by omega))
    have He:=hid (fun m=>show k+1≤18∧Drew w (wr.drewN m)∧∀j,j<k+1→badS.data.toList[j]? ≠some c from ⟨hk,H.out.2.1.more m,fun j hj hq=>by
     by_cases e:j=k
     ·subst e;rw[hd]at hq;exact hdc (Option.some.inj hq)
     ·exact H.out.2.2 j (by omega) hq⟩)
    clear hk hd H wk hdc wi1
    go_wp2_with fail
    go_quiet (fail);go_wp2;go_roundw
    case rel=>exact ⟨k+1,Hgo.out,hid (He.out _)⟩
    case measure=>exact Hms.out
  ·have b3:decide ((k:Int)<18)=false:=dF (by omega);have hbc:badCh c=false:=by
    cases hb:badCh c with
    |false=>rfl
    |true=>
     obtain ⟨j,hj,e⟩:=bad_mem.1 hb;exact absurd e (H.out.2.2 j (by omega))
   have Hdr:=hid H.out.2.1;have Hbc:=hid hbc;clear hk H hbc;rcases HT.out with ⟨h45,⟨hl,hD⟩|⟨d,hd,hl,hD⟩⟩|⟨h45,hD⟩
   ·have t1:((c.toNat:Int) != 45)=false:=by rw[bne_eq_false_iff_eq];omega
    have t2:decide ((i:Int)+1<(s.size:Int))=false:=dF (by omega);have He:=hid (show (!(badCh c||D))=false by rw[Hbc.out,hD];rfl);clear HT h45 hl hD;go_wp2;go_ret;exact ⟨ret_b He.out.symm,Hdr.out⟩
   ·have t1:((c.toNat:Int) != 45)=false:=by rw[bne_eq_false_iff_eq];omega
    have t2:decide ((i:Int)+1<(s.size:Int))=true:=dT (by omega);have hidx3:=idx_run' (s:=s) ((i:Int)+1) (by omega) hd;have He:=hid (show (!(badCh c||D))=((d.toNat:Int) != 32) by
     rw[Hbc.out,hD];by_cases q:d.toNat=32
     ·rw[dT q,q];rfl
     ·rw[dF q,(bne_iff_ne.2 (show (d.toNat:Int)≠32 by omega))];rfl)
    clear HT h45 hl hD hd;go_wp2;go_ret;exact ⟨ret_b He.out.symm,Hdr.out⟩
   ·have t1:((c.toNat:Int) != 45)=true:=by rw[bne_iff_ne];omega
    have He:=hid (show (!(badCh c||D))=true by rw[Hbc.out,hD];rfl);clear HT h45 hD;go_wp2;go_ret;exact ⟨ret_b He.out.symm,Hdr.out⟩
def RQuoPost (w:World) (l:List UInt8) (i:Nat) (r:Ending) (w':World):Prop:=
 Below w.heap.size w w'∧r=match quotL (l.drop i) with
  |none=> .returned (.tuple #[.string ⟨#[]⟩,.int .i64 (-1)])
  |some (x,n)=> .returned (.tuple #[.string ⟨x.toArray⟩,.int .i64 ((i+n:Nat):Int)])
theorem rquo_none {w w':World} {q:UInt8} {l:List UInt8} {i k:Nat} {out:List UInt8} {v:Value} (h:QRel q l i k out) (hq:l[i]? =some q) (hs:quotR q (l.drop k)=none) (hb:RB w w' v out):
 RQuoPost w l i (.returned (.tuple #[.string ⟨#[]⟩,.int .i64 (-1)])) w':=by
 refine ⟨hb.below,?_⟩;rw[h.none hq hs]
theorem rquo_done {w w':World} {q:UInt8} {l:List UInt8} {i k:Nat} {out:List UInt8} {v:Value} {z:Int} (hz:z=(k:Int)+1) (h:QRel q l i k out) (hq:l[i]? =some q) (hs:quotR q (l.drop k)=some ([],1)) (hb:RB w w' v out):
 RQuoPost w l i (.returned (.tuple #[.string ⟨out.toArray⟩,.int .i64 z])) w':=by
 refine ⟨hb.below,?_⟩;rw[h.done hq hs,hz];have:=h.1
 show _=Ending.returned (.tuple #[.string ⟨out.toArray⟩,.int .i64 ((i+(k+1-i):Nat):Int)])
 rw[show i+(k+1-i)=k+1 by omega];rfl
theorem single_c (w:World) (s:ByteArray) (i:Nat) (q:UInt8) (hs:s.size≤1048576) (hi:s.data.toList[i]? =some q) (hq:q.toNat=39):
 Calls Tryz.prog 216 #[.string s,.int .i64 ((i:Int)+1)] w (RQuoPost w s.data.toList i):=by
 obtain ⟨n,hn⟩:∃n,n=s.size:=⟨_,rfl⟩;have Hn:=hid hn;obtain ⟨l,hl⟩:∃l,l=s.data.toList:=⟨_,rfl⟩;have Hl:=hid hl;have Hs:=hid hs;have Hi:=hid hi;have Hq:=hid hq;have Hlt:=hid (show i<l.length by rw[hl];exact (List.getElem?_eq_some_iff.1 hi).1);rw[←hl];clear hn hl hs hi hq;go_enter Tryz.func216,Tryz.ntmps216;go_wp2
 go_loopw [1,6] (fun vi vo wr=>∃(k:Nat) (vb:Value) (out:List UInt8),vb=vo∧vi= .int .i64 (k:Int)∧Hid (QW w wr q l i k vb out)) (fun vi _ _=>n-(intOf vi).toNat)
 case atStart=>exact ⟨i+1,_,[],rfl,rfl,hid (QW.first Hlt.out)⟩
 case round=>
  obtain ⟨k,vb,out,rfl,rfl,H⟩:=hrel;have hn:n=s.size:=Hn.out;have hl:l=s.data.toList:=Hl.out;have hs:=Hs.out;have hq:=Hq.out;have hqi:l[i]? =some q:=by rw[hl];exact Hi.out
  have hlen:l.length=s.size:=by rw[hl,len_str]
  have hout:out.length≤1000000000:=by have:=H.out.len;have:=H.out.rel.2.1;omega
  have Hout:=hid hout;have hqr:quotR q=sqL:=by funext m;unfold quotR;rw[if_neg (by omega)]
  clear hout;by_cases hkn:k<n
  ·obtain ⟨c,hc⟩:=at_lt (s:=s) (by rw[←hn];exact hkn);have hcl:l[k]? =some c:=by rw[hl];exact hc
   have hdk:=dropAt hcl;have hidx:=idx_run' (s:=s) (k:Int) rfl hc;have b3:decide (k<s.size)=true:=dT (by omega);have b3':decide (s.size≤k)=false:=dF (by omega);have wk1:=wrap_ok (z:=(k:Int)+1) (by omega) (by omega);have wk2:=wrap_ok (z:=(k:Int)+2) (by omega) (by omega);have wk3:=wrap_ok (z:=(k:Int)+3) (by omega) (by omega);have wk4:=wrap_ok (z:=(k:Int)+4) (by omega) (by omega);by_cases h39:c.toNat=39
   ·have t1:((c.toNat:Int)==39)=true:=by rw[beq_iff_eq];omega
    have hc39:c=39:=by apply UInt8.toNat_inj.1;rw[h39];rfl
    by_cases hk1:k+1<n
    ·obtain ⟨d,hd⟩:=at_lt (s:=s) (k:=k+1) (by omega);have hdl:l[k+1]? =some d:=by rw[hl];exact hd
     have hdk1:=dropAt hdl;have hidx1:=idx_run' (s:=s) ((k:Int)+1) (by omega) hd;have b4:decide ((k:Int)+1<(s.size:Int))=true:=dT (by omega);by_cases hd39:d.toNat=39
     ·have t2:((d.toNat:Int)==39)=true:=by rw[beq_iff_eq];omega
      have hst:quotR q (l.drop k)=(quotR q (l.drop (k+2))).map fun p=>((39:UInt8)::p.1,p.2+2):=by rw[hqr];rw[hdk,hdk1,←hc39];exact sq_two h39 hd39
      have hW:=H.out;have Hrow:=hid hW.row;have Hown:=hid (fun o=>hW.row.row.alloc o);have Hst:=hid (fun w2 v' (h:RB w w2 v' (out++[(39:UInt8)]))=>QW.step hW (show 1≤2 by decide) (by omega) hst h);have Hgo:=hid (go_num2 (k:=k) (m:=2) (z:=wrap64 ((k:Int)+2)) (by rw[wk2];rfl));have Hms:=hid (meas_num (n:=n) (k:=k) (m:=2) (z:=wrap64 ((k:Int)+2)) hkn (by decide) (by rw[wk2];rfl));clear hn hl hs hq hqi hlen hqr hkn hc hcl hdk H hst hW h39 hc39 hk1 hd hdl hdk1 hd39
      go_wp2_with (at_builtin;refine byteAppend rfl _ _ rfl vb out rfl (Hown.out _) _ (39:UInt8) rfl (World.cell?_alloc_new _ _ _ _) Hout.out ?_;intro v' w2 own2 gr2 new2;have Hend:=hid (Hst.out w2 v' (RB.app Hrow.out own2 gr2 new2));clear own2 gr2 new2)
      go_roundw
      case rel=>exact ⟨_,_,_,rfl,Hgo.out,Hend⟩
      case measure=>exact Hms.out
     ·have t2:((d.toNat:Int)==39)=false:=bF (by omega);have He:=hid (rquo_done (w:=w) (z:=wrap64 ((k:Int)+1)) wk1 H.out.rel hqi (by rw[hqr];rw[hdk];exact sq_close h39 (fun e he=>by rw[hdk1]at he;simp only[List.head?_cons,Option.some.injEq]at he;subst he;exact hd39)) H.out.row);have hcv:=conv_row H.out.row.row;clear hn hl hs hq hqi hlen hqr hkn hc hcl hdk H h39 hc39 hk1 hd hdl hdk1 hd39;go_wp2
      go_ret2
      exact He.out
    ·have b4:decide ((k:Int)+1<(s.size:Int))=false:=dF (by omega);have He:=hid (rquo_done (w:=w) (z:=wrap64 ((k:Int)+1)) wk1 H.out.rel hqi (by rw[hqr];rw[hdk];exact sq_close h39 (fun e he=>by rw[dropEnd (by omega)]at he;cases he)) H.out.row);have hcv:=conv_row H.out.row.row;clear hn hl hs hq hqi hlen hqr hkn hc hcl hdk H h39 hc39 hk1;go_wp2
     go_ret2
     exact He.out
   ·have t1:((c.toNat:Int)==39)=false:=bF (by omega);have hst:quotR q (l.drop k)=(quotR q (l.drop (k+1))).map fun p=>(c::p.1,p.2+1):=by rw[hqr];rw[hdk];exact sq_other h39
    have hW:=H.out;have Hrow:=hid hW.row;have Hown:=hid (fun o=>hW.row.row.alloc o);have Hst:=hid (fun w2 v' (h:RB w w2 v' (out++[c]))=>QW.step hW (show 1≤1 by decide) (by omega) hst h);have Hgo:=hid (go_num2 (k:=k) (m:=1) (z:=wrap64 ((k:Int)+1)) (by rw[wk1];rfl));have Hms:=hid (meas_num (n:=n) (k:=k) (m:=1) (z:=wrap64 ((k:Int)+1)) hkn (by decide) (by rw[wk1];rfl));clear hn hl hs hq hqi hlen hqr hkn hc hcl hdk H hst hW h39
    go_wp2_with (at_builtin;refine byteAppend rfl _ _ rfl vb out rfl (Hown.out _) _ c rfl (World.cell?_alloc_new _ _ _ _) Hout.out ?_;intro v' w2 own2 gr2 new2;have Hend:=hid (Hst.out w2 v' (RB.app Hrow.out own2 gr2 new2));clear own2 gr2 new2)
    go_roundw
    case rel=>exact ⟨_,_,_,rfl,Hgo.out,Hend⟩
    case measure=>exact Hms.out
  ·have b3:decide (k<s.size)=false:=dF (by omega);have b3':decide (s.size≤k)=true:=dT (by omega);have He:=hid (rquo_none (w:=w) H.out.rel hqi (by rw[dropEnd (by omega)];exact quotR_nil q) H.out.row);clear hn hl hs hq hqi hlen hqr hkn H;go_wp2
   go_ret2
   exact He.out
theorem double_c (w:World) (s:ByteArray) (i:Nat) (q:UInt8) (hs:s.size≤1048576) (hi:s.data.toList[i]? =some q) (hq:q.toNat=34):
 Calls Tryz.prog 215 #[.string s,.int .i64 ((i:Int)+1)] w (RQuoPost w s.data.toList i):=by
 obtain ⟨n,hn⟩:∃n,n=s.size:=⟨_,rfl⟩;have Hn:=hid hn;obtain ⟨l,hl⟩:∃l,l=s.data.toList:=⟨_,rfl⟩;have Hl:=hid hl;have Hs:=hid hs;have Hi:=hid hi;have Hq:=hid hq;have Hlt:=hid (show i<l.length by rw[hl];exact (List.getElem?_eq_some_iff.1 hi).1);rw[←hl];clear hn hl hs hi hq;go_enter Tryz.func215,Tryz.ntmps215;go_wp2
 go_loopw [1,6] (fun vi vo wr=>∃(k:Nat) (vb:Value) (out:List UInt8),vb=vo∧vi= .int .i64 (k:Int)∧Hid (QW w wr q l i k vb out)) (fun vi _ _=>n-(intOf vi).toNat)
 case atStart=>exact ⟨i+1,_,[],rfl,rfl,hid (QW.first Hlt.out)⟩
 case round=>
  obtain ⟨k,vb,out,rfl,rfl,H⟩:=hrel;have hn:n=s.size:=Hn.out;have hl:l=s.data.toList:=Hl.out;have hs:=Hs.out;have hq:=Hq.out;have hqi:l[i]? =some q:=by rw[hl];exact Hi.out
  have hlen:l.length=s.size:=by rw[hl,len_str]
  have hout:out.length≤1000000000:=by have:=H.out.len;have:=H.out.rel.2.1;omega
  have Hout:=hid hout;have hqr:quotR q=dqL:=by funext m;unfold quotR;rw[if_pos hq]
  clear hout;by_cases hkn:k<n
  ·obtain ⟨c,hc⟩:=at_lt (s:=s) (by rw[←hn];exact hkn);have hcl:l[k]? =some c:=by rw[hl];exact hc
   have hdk:=dropAt hcl;have hidx:=idx_run' (s:=s) (k:Int) rfl hc;have b3:decide (k<s.size)=true:=dT (by omega);have b3':decide (s.size≤k)=false:=dF (by omega);have wk1:=wrap_ok (z:=(k:Int)+1) (by omega) (by omega);have wk2:=wrap_ok (z:=(k:Int)+2) (by omega) (by omega);have wk3:=wrap_ok (z:=(k:Int)+3) (by omega) (by omega);have wk4:=wrap_ok (z:=(k:Int)+4) (by omega) (by omega);by_cases h34:c.toNat=34
   ·have t1:((c.toNat:Int) != 34)=false:=by rw[bne_eq_false_iff_eq];omega
    have He:=hid (rquo_done (w:=w) (z:=wrap64 ((k:Int)+1)) wk1 H.out.rel hqi (by rw[hqr];rw[hdk];exact dq_close h34) H.out.row);have hcv:=conv_row H.out.row.row;clear hn hl hs hq hqi hlen hqr hkn hc hcl hdk H h34;go_wp2
    go_ret2
    exact He.out
   ·have t1:((c.toNat:Int) != 34)=true:=by rw[bne_iff_ne];omega
    by_cases h92:c.toNat=92
    ·have t2:((c.toNat:Int) != 92)=false:=by rw[bne_eq_false_iff_eq];omega
     by_cases hk1:k+1<n
     ·obtain ⟨d,hd⟩:=at_lt (s:=s) (k:=k+1) (by omega);have hdl:l[k+1]? =some d:=by rw[hl];exact hd
      have hdk1:=dropAt hdl;have hidx1:=idx_run' (s:=s) ((k:Int)+1) (by omega) hd;have b4:decide ((s.size:Int)≤(k:Int)+1)=false:=dF (by omega);by_cases e120:d.toNat=120
      ·have q120:((d.toNat:Int)==120)=true:=by rw[beq_iff_eq];omega
       obtain ⟨hi,hhi⟩:∃hi,hi=hexAt s.data.toList (k+2):=⟨_,rfl⟩;obtain ⟨lo,hlo⟩:∃lo,lo=hexAt s.data.toList (k+3):=⟨_,rfl⟩;have Hd2:=hid (show ∀w1,Calls Tryz.prog 229 #[.string s,.int .i64 ((k:Int)+2)] w1 fun r w'=>r= .returned (.int .i64 hi)∧Drew w1 w' from fun w1=>by rw[hhi];exact digit_c w1 s (k+2));have Hd3:=hid (show ∀w1,Calls Tryz.prog 229 #[.string s,.int .i64 ((k:Int)+3)] w1 fun r w'=>r= .returned (.int .i64 lo)∧Drew w1 w' from fun w1=>by rw[hlo];exact digit_c w1 s (k+3))
       have hnone:(hi<0∨lo<0)→quotR q (l.drop k)=none:=fun hbad=>by
        rw[hqr,hdk,hdk1];by_cases hk3:k+3<n
        ·obtain ⟨h,hh⟩:=at_lt (s:=s) (k:=k+2) (by omega);obtain ⟨o,ho⟩:=at_lt (s:=s) (k:=k+3) (by omega);rw[hexAt_some hh]at hhi;rw[hexAt_some ho]at hlo;rw[dropAt (show l[k+1+1]? =some h by rw[hl];exact hh),dropAt (show l[k+1+1+1]? =some o by rw[hl];exact ho)];exact dq_hexBad h92 e120 (by rw[←hhi,←hlo];exact hbad)
        ·exact dq_hexEnd h92 e120 (by rw[List.length_drop];omega)
       have hnone2:(hi<0∨lo<0)→Hid (∀w2,Below wr.heap.size wr w2→RQuoPost w l i (.returned (.tuple #[.string ⟨#[]⟩,.int .i64 (-1)])) w2):=fun hbad=>hid fun w2 hb=>rquo_none (w:=w) H.out.rel hqi (hnone hbad) (RO.later H.out.row hb);by_cases g1:hi<0
       ·have t3:decide (hi<0)=true:=dT g1;have He:=hnone2 (.inl g1);clear g1;clear hn hl hs hq hqi hlen hqr hkn hc hcl hdk H h34 h92 hk1 hd hdl hdk1 e120 hhi hlo hnone hnone2
        go_wp2_with fail
        refine (Hd2.out _).mono ?_;rintro r w1 ⟨rfl,hd1⟩;have HD1:=hid hd1;clear hd1 Hd2
        go_wp2_with fail
        refine (Hd3.out _).mono ?_;rintro r w2 ⟨rfl,hd2⟩;have HD2:=hid (HD1.out.trans hd2);clear hd2 HD1 Hd3;have He2:=hid (He.out _ HD2.out.below);clear He HD2;go_wp2
        go_ret2
        exact He2.out
       ·have t3:decide (hi<0)=false:=dF g1;by_cases g2:lo<0
        ·have t4:decide (lo<0)=true:=dT g2;have He:=hnone2 (.inr g2);clear g1 g2;clear hn hl hs hq hqi hlen hqr hkn hc hcl hdk H h34 h92 hk1 hd hdl hdk1 e120 hhi hlo hnone hnone2
         go_wp2_with fail
         refine (Hd2.out _).mono ?_;rintro r w1 ⟨rfl,hd1⟩;have HD1:=hid hd1;clear hd1 Hd2
         go_wp2_with fail
         refine (Hd3.out _).mono ?_;rintro r w2 ⟨rfl,hd2⟩;have HD2:=hid (HD1.out.trans hd2);clear hd2 HD1 Hd3;have He2:=hid (He.out _ HD2.out.below);clear He HD2;go_wp2
         go_ret2
         exact He2.out
        ·have t4:decide (lo<0)=false:=dF g2;have hk3:k+3<n:=by
          rcases Nat.lt_or_ge (k+3) n with h|h
          ·exact h
          ·rw[hexAt_none (by rw[len_str];omega)]at hlo;omega
         obtain ⟨h,hh⟩:=at_lt (s:=s) (k:=k+2) (by omega);obtain ⟨o,ho⟩:=at_lt (s:=s) (k:=k+3) (by omega);rw[hexAt_some hh]at hhi;rw[hexAt_some ho]at hlo;have hB:=hexB_nat (h:=h) (l:=o) (by omega) (by omega);have q1:=hexD_le h;have q2:=hexD_le o;have hst:quotR q (l.drop k)=(quotR q (l.drop (k+4))).map fun p=>(hexB h o::p.1,p.2+4):=by
          rw[hqr,hdk,hdk1,dropAt (show l[k+1+1]? =some h by rw[hl];exact hh),dropAt (show l[k+1+1+1]? =some o by rw[hl];exact ho)];exact dq_hex h92 e120 (by omega) (by omega)
         obtain ⟨B,hBe⟩:∃B,B=hexB h o:=⟨_,rfl⟩;rw[←hBe]at hst hB;have m1:=wrap_ok (z:=16*hi) (by omega) (by omega);have m2:wrap64 (16*hi+lo)=(B.toNat:Int):=by rw[wrap_ok (by omega) (by omega),hB,hhi,hlo]
         have m3:(B.toNat:Int) % 256=(B.toNat:Int):=by have:=B.toNat_lt;omega
         have hW:=H.out;have Hlat:=hid (fun w2 (hd:Drew wr w2)=>RO.later hW.row hd.below);have Hst:=hid (fun w2 v' (h:RB w w2 v' (out++[B]))=>QW.step hW (show 1≤4 by decide) (by omega) hst h);have Hgo:=hid (go_num2 (k:=k) (m:=4) (z:=wrap64 ((k:Int)+4)) (by rw[wk4];rfl));have Hms:=hid (meas_num (n:=n) (k:=k) (m:=4) (z:=wrap64 ((k:Int)+4)) hkn (by decide) (by rw[wk4];rfl));clear hn hl hs hq hqi hlen hqr hkn hc hcl hdk H hst hW h34 h92 hk1 hd hdl hdk1 e120 hhi hlo hnone hnone2 g1 g2 hk3 hh ho hB hBe q1 q2
         go_wp2_with fail
         refine (Hd2.out _).mono ?_;rintro r w1 ⟨rfl,hd1⟩;have HD1:=hid hd1;clear hd1 Hd2
         go_wp2_with fail
         refine (Hd3.out _).mono ?_;rintro r w2 ⟨rfl,hd2⟩;have HD2:=hid (HD1.out.trans hd2);clear hd2 HD1 Hd3;have Hrow:=hid (Hlat.out _ HD2.out);have Hown:=hid (fun o=>Hrow.out.row.alloc o);clear HD2 Hlat
         go_wp2_with (at_builtin;refine byteAppend rfl _ _ rfl vb out rfl (Hown.out _) _ B rfl (World.cell?_alloc_new _ _ _ _) Hout.out ?_;intro v' w2 own2 gr2 new2;have Hend:=hid (Hst.out w2 v' (RB.app Hrow.out own2 gr2 new2));clear own2 gr2 new2)
         go_roundw
         case rel=>exact ⟨_,_,_,rfl,Hgo.out,Hend⟩
         case measure=>exact Hms.out
      ·have q120:((d.toNat:Int)==120)=false:=bF (by omega);by_cases e110:d.toNat=110
       ·have q110:((d.toNat:Int)==110)=true:=by rw[beq_iff_eq];omega
        have hst:quotR q (l.drop k)=(quotR q (l.drop (k+2))).map fun p=>((10:UInt8)::p.1,p.2+2):=by rw[hqr];rw[hdk,hdk1];exact dq_esc h92 (by omega) (by unfold escC;simp[e110])
        have hW:=H.out;have Hrow:=hid hW.row;have Hown:=hid (fun o=>hW.row.row.alloc o);have Hst:=hid (fun w2 v' (h:RB w w2 v' (out++[(10:UInt8)]))=>QW.step hW (show 1≤2 by decide) (by omega) hst h);have Hgo:=hid (go_num2 (k:=k) (m:=2) (z:=wrap64 ((k:Int)+2)) (by rw[wk2];rfl));have Hms:=hid (meas_num (n:=n) (k:=k) (m:=2) (z:=wrap64 ((k:Int)+2)) hkn (by decide) (by rw[wk2];rfl));clear hn hl hs hq hqi hlen hqr hkn hc hcl hdk H hst hW h34 h92 hk1 hd hdl hdk1 e120 e110
        go_wp2_with (at_builtin;refine byteAppend rfl _ _ rfl vb out rfl (Hown.out _) _ (10:UInt8) rfl (World.cell?_alloc_new _ _ _ _) Hout.out ?_;intro v' w2 own2 gr2 new2;have Hend:=hid (Hst.out w2 v' (RB.app Hrow.out own2 gr2 new2));clear own2 gr2 new2)
        go_roundw
        case rel=>exact ⟨_,_,_,rfl,Hgo.out,Hend⟩
        case measure=>exact Hms.out
       ·have q110:((d.toNat:Int)==110)=false:=bF (by omega);by_cases e116:d.toNat=116
        ·have q116:((d.toNat:Int)==116)=true:=by rw[beq_iff_eq];omega
         have hst:quotR q (l.drop k)=(quotR q (l.drop (k+2))).map fun p=>((9:UInt8)::p.1,p.2+2):=by rw[hqr];rw[hdk,hdk1];exact dq_esc h92 (by omega) (by unfold escC;simp[e116])
         have hW:=H.out;have Hrow:=hid hW.row;have Hown:=hid (fun o=>hW.row.row.alloc o);have Hst:=hid (fun w2 v' (h:RB w w2 v' (out++[(9:UInt8)]))=>QW.step hW (show 1≤2 by decide) (by omega) hst h);have Hgo:=hid (go_num2 (k:=k) (m:=2) (z:=wrap64 ((k:Int)+2)) (by rw[wk2];rfl));have Hms:=hid (meas_num (n:=n) (k:=k) (m:=2) (z:=wrap64 ((k:Int)+2)) hkn (by decide) (by rw[wk2];rfl));clear hn hl hs hq hqi hlen hqr hkn hc hcl hdk H hst hW h34 h92 hk1 hd hdl hdk1 e120 e110 e116
         go_wp2_with (at_builtin;refine byteAppend rfl _ _ rfl vb out rfl (Hown.out _) _ (9:UInt8) rfl (World.cell?_alloc_new _ _ _ _) Hout.out ?_;intro v' w2 own2 gr2 new2;have Hend:=hid (Hst.out w2 v' (RB.app Hrow.out own2 gr2 new2));clear own2 gr2 new2)
         go_roundw
         case rel=>exact ⟨_,_,_,rfl,Hgo.out,Hend⟩
         case measure=>exact Hms.out
        ·have q116:((d.toNat:Int)==116)=false:=bF (by omega);by_cases e34:d.toNat=34
         ·have q34:((d.toNat:Int)==34)=true:=by rw[beq_iff_eq];omega
          have hst:quotR q (l.drop k)=(quotR q (l.drop (k+2))).map fun p=>(d::p.1,p.2+2):=by rw[hqr];rw[hdk,hdk1];exact dq_esc h92 (by omega) (by unfold escC;simp[e34])
          have hW:=H.out;have Hrow:=hid hW.row;have Hown:=hid (fun o=>hW.row.row.alloc o);have Hst:=hid (fun w2 v' (h:RB w w2 v' (out++[d]))=>QW.step hW (show 1≤2 by decide) (by omega) hst h);have Hgo:=hid (go_num2 (k:=k) (m:=2) (z:=wrap64 ((k:Int)+2)) (by rw[wk2];rfl));have Hms:=hid (meas_num (n:=n) (k:=k) (m:=2) (z:=wrap64 ((k:Int)+2)) hkn (by decide) (by rw[wk2];rfl));clear hn hl hs hq hqi hlen hqr hkn hc hcl hdk H hst hW h34 h92 hk1 hd hdl hdk1 e120 e110 e116 e34
          go_wp2_with (at_builtin;refine byteAppend rfl _ _ rfl vb out rfl (Hown.out _) _ d rfl (World.cell?_alloc_new _ _ _ _) Hout.out ?_;intro v' w2 own2 gr2 new2;have Hend:=hid (Hst.out w2 v' (RB.app Hrow.out own2 gr2 new2));clear own2 gr2 new2)
          go_roundw
          case rel=>exact ⟨_,_,_,rfl,Hgo.out,Hend⟩
          case measure=>exact Hms.out
         ·have q34:((d.toNat:Int)==34)=false:=bF (by omega);by_cases e92:d.toNat=92
          ·have q92:((d.toNat:Int)==92)=true:=by rw[beq_iff_eq];omega
           have hst:quotR q (l.drop k)=(quotR q (l.drop (k+2))).map fun p=>(d::p.1,p.2+2):=by rw[hqr];rw[hdk,hdk1];exact dq_esc h92 (by omega) (by unfold escC;simp[e92])
           have hW:=H.out;have Hrow:=hid hW.row;have Hown:=hid (fun o=>hW.row.row.alloc o);have Hst:=hid (fun w2 v' (h:RB w w2 v' (out++[d]))=>QW.step hW (show 1≤2 by decide) (by omega) hst h);have Hgo:=hid (go_num2 (k:=k) (m:=2) (z:=wrap64 ((k:Int)+2)) (by rw[wk2];rfl));have Hms:=hid (meas_num (n:=n) (k:=k) (m:=2) (z:=wrap64 ((k:Int)+2)) hkn (by decide) (by rw[wk2];rfl));clear hn hl hs hq hqi hlen hqr hkn hc hcl hdk H hst hW h34 h92 hk1 hd hdl hdk1 e120 e110 e116 e34 e92
           go_wp2_with (at_builtin;refine byteAppend rfl _ _ rfl vb out rfl (Hown.out _) _ d rfl (World.cell?_alloc_new _ _ _ _) Hout.out ?_;intro v' w2 own2 gr2 new2;have Hend:=hid (Hst.out w2 v' (RB.app Hrow.out own2 gr2 new2));clear own2 gr2 new2)
           go_roundw
           case rel=>exact ⟨_,_,_,rfl,Hgo.out,Hend⟩
           case measure=>exact Hms.out
          ·have q92:((d.toNat:Int)==92)=false:=bF (by omega);have hesc:escC d=none:=by unfold escC;rw[if_neg (by omega),if_neg e110,if_neg e116]
           have He:=hid (rquo_none (w:=w) H.out.rel hqi (by rw[hqr];rw[hdk,hdk1];exact dq_bad h92 e120 hesc) H.out.row);clear hn hl hs hq hqi hlen hqr hkn hc hcl hdk H h34 h92 hk1 hd hdl hdk1 e34 e92 e110 e116 e120 hesc;go_wp2
           go_ret2
           exact He.out
     ·have b4:decide ((s.size:Int)≤(k:Int)+1)=true:=dT (by omega);have He:=hid (rquo_none (w:=w) H.out.rel hqi (by rw[hqr];rw[hdk,dropEnd (by omega)];exact dq_last h92) H.out.row);clear hn hl hs hq hqi hlen hqr hkn hc hcl hdk H h34 h92 hk1;go_wp2
      go_ret2
      exact He.out
    ·have t2:((c.toNat:Int) != 92)=true:=by rw[bne_iff_ne];omega
     have hst:quotR q (l.drop k)=(quotR q (l.drop (k+1))).map fun p=>(c::p.1,p.2+1):=by rw[hqr];rw[hdk];exact dq_other h34 h92
     have hW:=H.out;have Hrow:=hid hW.row;have Hown:=hid (fun o=>hW.row.row.alloc o);have Hst:=hid (fun w2 v' (h:RB w w2 v' (out++[c]))=>QW.step hW (show 1≤1 by decide) (by omega) hst h);have Hgo:=hid (go_num2 (k:=k) (m:=1) (z:=wrap64 ((k:Int)+1)) (by rw[wk1];rfl));have Hms:=hid (meas_num (n:=n) (k:=k) (m:=1) (z:=wrap64 ((k:Int)+1)) hkn (by decide) (by rw[wk1];rfl));clear hn hl hs hq hqi hlen hqr hkn hc hcl hdk H hst hW h34 h92
     go_wp2_with (at_builtin;refine byteAppend rfl _ _ rfl vb out rfl (Hown.out _) _ c rfl (World.cell?_alloc_new _ _ _ _) Hout.out ?_;intro v' w2 own2 gr2 new2;have Hend:=hid (Hst.out w2 v' (RB.app Hrow.out own2 gr2 new2));clear own2 gr2 new2)
     go_roundw
     case rel=>exact ⟨_,_,_,rfl,Hgo.out,Hend⟩
     case measure=>exact Hms.out
  ·have b3:decide (k<s.size)=false:=dF (by omega);have b3':decide (s.size≤k)=true:=dT (by omega);have He:=hid (rquo_none (w:=w) H.out.rel hqi (by rw[dropEnd (by omega)];exact quotR_nil q) H.out.row);clear hn hl hs hq hqi hlen hqr hkn H;go_wp2
   go_ret2
   exact He.out
theorem rquoted_c (w:World) (s:ByteArray) (i:Nat) (q:UInt8) (hs:s.size≤1048576) (hi:s.data.toList[i]? =some q) (hq:q.toNat=34∨q.toNat=39):
 Calls Tryz.prog 191 #[.string s,.int .i64 (i:Int)] w (RQuoPost w s.data.toList i):=by
 have hidx:=idx_run' (s:=s) (i:Int) rfl hi;have hlt:i<s.size:=by rw[←len_str];exact (List.getElem?_eq_some_iff.1 hi).1
 have wi1:=wrap_ok (z:=(i:Int)+1) (by omega) (by omega);rcases hq with hq|hq
 ·have t1:((q.toNat:Int)==34)=true:=by rw[beq_iff_eq];omega
  have Hc:=hid (double_c w s i q hs hi hq);cases hp:quotL (s.data.toList.drop i) with
  |none=>
   have He:=hid (fun w2 (hb:Below w.heap.size w w2)=>show RQuoPost w s.data.toList i (.returned (.tuple #[.string ⟨#[]⟩,.int .i64 (-1)])) w2 from ⟨hb,by rw[hp]⟩);unfold RQuoPost at Hc;rw[hp]at Hc;clear hs hi hq hlt hp;go_enter Tryz.func191,Tryz.ntmps191
   go_wp2_with fail
   refine Hc.out.mono ?_;rintro r w1 ⟨hb,rfl⟩;have He2:=hid (He.out _ hb);clear hb He Hc;go_wp2
   go_ret2
   exact He2.out
  |some p=>
   obtain ⟨y,m⟩:=p;have He:=hid (fun w2 (hb:Below w.heap.size w w2)=>show RQuoPost w s.data.toList i (.returned (.tuple #[.string ⟨y.toArray⟩,.int .i64 ((i+m:Nat):Int)])) w2 from ⟨hb,by rw[hp]⟩);unfold RQuoPost at Hc;rw[hp]at Hc;simp only at Hc;generalize ((i+m:Nat):Int)=z at*;clear hs hi hq hlt hp;go_enter Tryz.func191,Tryz.ntmps191
   go_wp2_with fail
   refine Hc.out.mono ?_;rintro r w1 ⟨hb,rfl⟩;have He2:=hid (He.out _ hb);clear hb He Hc;go_wp2
   go_ret2
   exact He2.out
 ·have t1:((q.toNat:Int)==34)=false:=bF (by omega);have Hc:=hid (single_c w s i q hs hi hq);cases hp:quotL (s.data.toList.drop i) with
  |none=>
   have He:=hid (fun w2 (hb:Below w.heap.size w w2)=>show RQuoPost w s.data.toList i (.returned (.tuple #[.string ⟨#[]⟩,.int .i64 (-1)])) w2 from ⟨hb,by rw[hp]⟩);unfold RQuoPost at Hc;rw[hp]at Hc;clear hs hi hq hlt hp;go_enter Tryz.func191,Tryz.ntmps191
   go_wp2_with fail
   refine Hc.out.mono ?_;rintro r w1 ⟨hb,rfl⟩;have He2:=hid (He.out _ hb);clear hb He Hc;go_wp2
   go_ret2
   exact He2.out
  |some p=>
   obtain ⟨y,m⟩:=p;have He:=hid (fun w2 (hb:Below w.heap.size w w2)=>show RQuoPost w s.data.toList i (.returned (.tuple #[.string ⟨y.toArray⟩,.int .i64 ((i+m:Nat):Int)])) w2 from ⟨hb,by rw[hp]⟩);unfold RQuoPost at Hc;rw[hp]at Hc;simp only at Hc;generalize ((i+m:Nat):Int)=z at*;clear hs hi hq hlt hp;go_enter Tryz.func191,Tryz.ntmps191
   go_wp2_with fail
   refine Hc.out.mono ?_;rintro r w1 ⟨hb,rfl⟩;have He2:=hid (He.out _ hb);clear hb He Hc;go_wp2
   go_ret2
   exact He2.out
def ncl:Code→Code
 | .seq a _=>a
 |c=>c
def ncr:Code→Code
 | .seq _ b=>b
 |c=>c
def ncb:Code→Code
 | .block _ b=>b
 |c=>c
def nco:Code→Code
 | .loop b=>b
 |c=>c
def nct:Code→Code
 | .cond _ t _=>t
 |c=>c
def nce:Code→Code
 | .cond _ _ e=>e
 |c=>c
def ncs:Code→Code
 | .scope b=>b
 |c=>c
def ncx:Option Code→Code
 |some c=>c
 |none=> .skip
theorem getD_of {t:Array Value} {i:Nat} {v:Value} (h:t[i]? =some v):t.getD i undef=v:=by
 rw[Array.getD_eq_getD_getElem?,h];rfl
theorem out_block {id:Nat} {K:Act→World→Prop} {Q:Exit→Act→World→Prop} {a:Act} {w:World} (h:K a w):Exit.inBlock id (Exit.then K Q) (.exit id) a w:=by
 show (if id=id then K a w else Exit.then K Q (.exit id) a w)
 rw[if_pos rfl];exact h
end Go.Proofs.YtfenoaeoedobmaaGreatDoor
