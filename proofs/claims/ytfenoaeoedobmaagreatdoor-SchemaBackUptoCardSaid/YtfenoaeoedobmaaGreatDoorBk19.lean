/-
Parts of a proof.
-/
import Derived.Laws.CopyOwn
import Derived.Test.YtfenoaeoedobmaaGreatDoorBk17
set_option linter.unusedVariables false
set_option linter.unusedSimpArgs false
set_option maxHeartbeats 4000000
set_option maxRecDepth 20000
namespace Go.Proofs.YtfenoaeoedobmaaGreatDoor
open Go Go.RowKit
theorem a0b {l:List UInt8} {k:Nat} {c:UInt8} (h:l[k]? =some c):l.drop k=c::l.drop (k+1):=by
 obtain ⟨hk,he⟩:=a7j h;rw[List.drop_eq_getElem_cons hk,he]
theorem aP1 {l:List UInt8} (h:¬(1<=l.length/\l.length<=256/\l[0]? =some 47)):pathB l=false:=by
 unfold pathB;rw[dF h];rfl
theorem aRm {l:List UInt8} {k:Nat} {c:UInt8} (hc:l[k]? =some c) (h:pchar c=false):pathB l=false:=by
 unfold pathB;rw[Bool.and_eq_false_iff];refine .inr ?_;rw[List.all_eq_false];exact ⟨c,List.mem_of_getElem? hc,by rw[h];decide⟩
theorem a0c {l:List UInt8} (h:1<=l.length/\l.length<=256/\l[0]? =some 47) (ha:∀(j:Nat) (c:UInt8),j<l.length->l[j]? =some c->pchar c=true):pathB l=true:=by
 unfold pathB;rw[dT h,Bool.true_and,List.all_eq_true];intro c hc;obtain ⟨j,hj,e⟩:=List.getElem_of_mem hc;exact ha j c hj (by rw[a7i hj,e])
theorem path_c (w:World) (s:ByteArray):Calls Tryz.prog 158 #[.string s] w fun r w'=>r= .returned (.bool (pathB s.data.toList))/\w'=w:=by
 have hsl:=aAf s;by_cases h1:s.size<1
 ·have hf:=aP1 (l:=s.data.toList) (by omega);rw[hf];have b1:(s.size:Int)<1:=by omega
  clear hf hsl h1;go_enter Tryz.func158,Tryz.ntmps158;go_wp2;go_ret;exact ⟨rfl,rfl⟩
 have b1:(1:Int)<=(s.size:Int):=by omega
 by_cases h2:256<s.size
 ·have hf:=aP1 (l:=s.data.toList) (by omega);rw[hf];have b2:(256:Int)<(s.size:Int):=by omega
  clear hf hsl h1 h2;go_enter Tryz.func158,Tryz.ntmps158;go_wp2;go_ret;exact ⟨rfl,rfl⟩
 have b2:(s.size:Int)<=256:=by omega
 obtain ⟨c0,hc0⟩:∃c,s.data.toList[0]? =some c:=⟨s.data.toList[0]'(by omega),a7i _⟩;have hi0:=aAm (0:Int) rfl hc0;by_cases h3:c0.toNat=47;rotate_left
 ·have hf:=aP1 (l:=s.data.toList) (fun ⟨_,_,q⟩=>by
   rw[hc0]at q;obtain rfl:=a7h q;exact h3 rfl)
  rw[hf];have t1:((c0.toNat:Int) != 47)=true:=by rw[bne_iff_ne];omega
  clear hf hsl h1 h2 h3 hc0;go_enter Tryz.func158,Tryz.ntmps158;go_wp2;go_ret;exact ⟨rfl,rfl⟩
 have t1:((c0.toNat:Int) != 47)=false:=by rw[bne_eq_false_iff_eq];omega
 have hc47:c0=47:=by apply UInt8.toNat_inj.1;rw[h3];rfl
 have Hh:=hid (show 1<=s.data.toList.length/\s.data.toList.length<=256/\s.data.toList[0]? =some 47 from ⟨by omega,by omega,by rw[hc0,hc47]⟩);obtain ⟨n,hn⟩:∃n,n=s.size:=⟨_,rfl⟩;have Hn:=hid hn;obtain ⟨l,hl⟩:∃l,l=s.data.toList:=⟨_,rfl⟩;have Hl:=hid hl;have H256:=hid (show n<=256 by omega);rw[<-hl];clear hsl h1 h2 h3 hc47 hc0 hn hl;go_enter Tryz.func158,Tryz.ntmps158
 go_wp2
 go_loop [19] (fun v=>∃k:Nat,v= .int .i64 (k:Int)/\Hid (k<=n/\∀(j:Nat) (c:UInt8),j<k->l[j]? =some c->pchar c=true)) (fun v=>n-(intOf v).toNat)
 case atStart=>exact ⟨0,rfl,hid ⟨Nat.zero_le _,fun j c h=>absurd h (Nat.not_lt_zero _)⟩⟩
 case round=>
  obtain ⟨k,rfl,H⟩:=hrel;have hn:n=s.size:=Hn.out;have hl:l=s.data.toList:=Hl.out;by_cases hkn:k<n
  ·obtain ⟨c,hc⟩:∃c,l[k]? =some c:=⟨l[k]'(by rw[hl,aAf];omega),a7i _⟩;have hidx:=aAm (s:=s) (k:Int) rfl (by rw[<-hl];exact hc);have b3:(k:Int)<(s.size:Int):=by omega
   have wk:wrap64 ((k:Int)+1)=(k:Int)+1:=by have:=H256.out;unfold wrap64;omega
   have Hms:=hid (aCc hkn wk);have Hgo:=hid (aDw wk);by_cases hlo:c.toNat<33
   ·have p1:(c.toNat:Int)<33:=by omega
    have hf:=aRm hc (show pchar c=false by unfold pchar;exact dF (by omega));have Hf:=hid hf;clear hn hl hkn hc hlo H hf wk;go_wp2;go_ret;exact ⟨(congrArg (fun b=>Ending.returned (.bool b)) Hf.out).symm,rfl⟩
   ·have p1:(33:Int)<=(c.toNat:Int):=by omega
    by_cases hhi:126<c.toNat
    ·have p2:(126:Int)<(c.toNat:Int):=by omega
     have hf:=aRm hc (show pchar c=false by unfold pchar;exact dF (by omega));have Hf:=hid hf;clear hn hl hkn hc hlo hhi H hf wk;go_wp2;go_ret;exact ⟨(congrArg (fun b=>Ending.returned (.bool b)) Hf.out).symm,rfl⟩
    ·have p2:(c.toNat:Int)<=126:=by omega
     have Hend:=hid (show k+1<=n/\∀(j:Nat) (c:UInt8),j<k+1->l[j]? =some c->pchar c=true from ⟨hkn,fun j d hj hd=>by
      by_cases e:j=k
      ·subst e;rw[hc]at hd;obtain rfl:=a7h hd;unfold pchar;exact dT (by omega)
      ·exact H.out.2 j d (by omega) hd⟩)
     clear hn hl hkn hc hlo hhi H wk;go_wp2;go_round
     case rel=>exact ⟨k+1,by go_num,Hend⟩
     case measure=>have:=Hn.out;simp[intOf];omega
  ·have b3:(s.size:Int)<=(k:Int):=by omega
   have hf:=a0c (l:=l) (by rw[hl];exact Hh.out) (fun j c hj hc=>H.out.2 j c (by rw[hl,aAf]at hj;omega) hc);have Hf:=hid hf;clear hn hl hkn H hf;go_wp2;go_ret;exact ⟨(congrArg (fun b=>Ending.returned (.bool b)) Hf.out).symm,rfl⟩
def cur (l:List UInt8) (k:Nat):List UInt8:=(l.take k).map foldC++l.drop k
theorem aV3 (l:List UInt8) (k:Nat):(cur l k).length=l.length:=by
 unfold cur;rw[a7e,List.length_map,List.length_take,List.length_drop];omega
theorem aV4 {l:List UInt8} {k:Nat} {c:UInt8} (h:l[k]? =some c):(cur l k)[k]? =some c:=by
 have hk:=(a7j h).1;unfold cur;rw[List.getElem?_append_right (by rw[List.length_map,List.length_take];omega),List.length_map,List.length_take,List.getElem?_drop,show k+(k-min k l.length)=k by omega,h]
theorem aMf {l:List UInt8} {k:Nat} {c:UInt8} (h:l[k]? =some c):cur l (k+1)=(cur l k).set k (foldC c):=by
 have hk:=(a7j h).1;have e1:l.take (k+1)=l.take k++[c]:=by rw[List.take_add_one,h];rfl
 unfold cur;rw[e1,List.map_append,List.set_append_right _ _ (by rw[List.length_map,List.length_take];omega),List.length_map,List.length_take,show k-min k l.length=0 by omega,a0b h,List.set_cons_zero,List.append_assoc];rfl
theorem aRn {l:List UInt8} {k:Nat} {c:UInt8} (h:l[k]? =some c) (hc:foldC c=c):cur l (k+1)=cur l k:=by
 rw[aMf h,hc];have h1:=aV4 h;apply List.ext_getElem?;intro j;by_cases e:j=k
 ·subst e;rw[List.getElem?_set_self (a7j h1).1,h1]
 ·rw[List.getElem?_set_ne (fun q=>e q.symm)]
theorem aV5 (l:List UInt8):cur l l.length=l.map foldC:=by
 unfold cur;rw[List.take_length,List.drop_length,List.append_nil]
theorem aRo {c:UInt8} (h1:65<=c.toNat) (h2:c.toNat<=90):((foldC c).toNat:Int)=(c.toNat:Int)+32:=by
 unfold foldC;rw[if_pos ⟨h1,h2⟩,UInt8.toNat_add];have:(32:UInt8).toNat=32:=rfl;rw[this];omega
theorem aEj {c:UInt8} (h:¬(65<=c.toNat/\c.toNat<=90)):foldC c=c:=by
 unfold foldC;rw[if_neg h]
structure FB (w wr:World) (l:List UInt8):Prop where
 below:Below w.heap.size w wr
 cell:∀(j:Nat) (c:UInt8),l[j]? =some c->wr.cell? ⟨w.heap.size,j,none⟩=some (.int .u8 (c.toNat:Int))
 free:∀j,j<l.length->wr.frozen? ⟨w.heap.size,j,none⟩=false
theorem FB.set {w wr:World} {l:List UInt8} (h:FB w wr l) (k:Nat) (c:UInt8) (hk:k<l.length):FB w (wr.setCell ⟨w.heap.size,k,none⟩ (.int .u8 (c.toNat:Int))) (l.set k c):=by
 refine ⟨h.below.setCell (a7c _) _,fun j d hj=> ?_,fun j hj=> ?_⟩
 ·by_cases e:j=k
  ·subst e;rw[List.getElem?_set_self hk]at hj;obtain rfl:=a7h hj;exact World.cell?_setCell_same _ _ _ (h.cell j _ (a7i hk))
  ·rw[List.getElem?_set_ne (fun q=>e q.symm)]at hj;rw[World.cell?_setCell_other _ _ _ _ (fun q=>e (by injection q with _ q2 _;exact q2.symm))];exact h.cell j d hj
 ·rw[List.length_set]at hj;rw[World.frozen?_setCell];exact h.free j hj
theorem FB.first (w:World) (s:ByteArray):FB w (Lib.bytesWorld w 5 s) s.data.toList:=by
 refine ⟨Lib.bytesWorld_below _ _ _,fun j c hj=> ?_,fun j hj=> ?_⟩
 ·have hlt:=(a7j hj).1;rw[aAf]at hlt;rw[Lib.bytesWorld_cell w 5 s j hlt,List.getD_eq_getElem?_getD,hj];rfl
 ·rw[aAf]at hj;unfold World.frozen?;rw[show (⟨w.heap.size,j,none⟩:Addr).block=w.heap.size from rfl,Lib.bytesWorld_at_new];have:j<(Lib.bytesCells w 5 s).size:=by
   unfold Lib.bytesCells;rw[Array.size_append,Array.size_map]
   show j<s.size+_
   omega
  simp;omega
def aDf (w:World) (s:ByteArray) (r:Ending) (w':World):Prop:=r= .returned (.tuple #[.string (foldV s).1,.bool (foldV s).2])/\Below w.heap.size w w'
theorem aP2 {w w':World} {s:ByteArray} (h:¬(1<=s.size/\s.size<=64/\s.data.toList.all aCa=true)) (hb:Below w.heap.size w w'):aDf w s (.returned (.tuple #[.string ⟨#[]⟩,.bool false])) w':=by
 unfold aDf foldV;rw[if_neg h];exact ⟨rfl,hb⟩
theorem a0d {w w':World} {s:ByteArray} {k:Nat} {c:UInt8} (hc:s.data.toList[k]? =some c) (h:aCa c=false) (hb:Below w.heap.size w w'):aDf w s (.returned (.tuple #[.string ⟨#[]⟩,.bool false])) w':=
 aP2 (fun q=>by
  have:=List.all_eq_true.1 q.2.2 c (List.mem_of_getElem? hc);rw[h]at this;cases this) hb
theorem a0e {w w':World} {s:ByteArray} (h1:1<=s.size) (h2:s.size<=64) (ha:∀(j:Nat) (c:UInt8),j<s.size->s.data.toList[j]? =some c->aCa c=true) (hb:Below w.heap.size w w'):
 aDf w s (.returned (.tuple #[.string ⟨(s.data.toList.map foldC).toArray⟩,.bool true])) w':=by
 have hall:s.data.toList.all aCa=true:=by
  rw[List.all_eq_true];intro c hc;obtain ⟨j,hj,e⟩:=List.getElem_of_mem hc;have hj2:=hj;rw[aAf]at hj2;exact ha j c hj2 (by rw[a7i hj,e])
 unfold aDf foldV;rw[if_pos ⟨h1,h2,hall⟩];exact ⟨rfl,hb⟩
theorem a3p (w:World) (s:ByteArray):Calls Tryz.prog 156 #[.string s] w (aDf w s):=by
 by_cases h1:s.size<1
 ·have Hend:=hid (aP2 (w:=w) (s:=s) (fun q=>by omega) (a7d _ w));have b1:(s.size:Int)<1:=by omega
  clear h1;go_enter Tryz.func156,Tryz.ntmps156;go_wp2
  go_ret2
  exact Hend.out
 have b1:(1:Int)<=(s.size:Int):=by omega
 by_cases h2:64<s.size
 ·have Hend:=hid (aP2 (w:=w) (s:=s) (fun q=>by omega) (a7d _ w));have b2:(64:Int)<(s.size:Int):=by omega
  clear h1 h2;go_enter Tryz.func156,Tryz.ntmps156;go_wp2
  go_ret2
  exact Hend.out
 have b2:(s.size:Int)<=64:=by omega
 have hcv:=Lib.run_convert_string_bytes (P:= Tryz.prog) w 9 42 5 s Tryz.underlying9 Tryz.underlying42 Tryz.underlying5;obtain ⟨cap,hcap⟩:∃cap,cap=grownCap w s.size 0 5 :=⟨_,rfl⟩;obtain ⟨w1,hw1⟩:∃w1,w1=Lib.bytesWorld w 5 s:=⟨_,rfl⟩;have H0:=hid (FB.first w s);rw[<-hcap,<-hw1]at hcv;rw[<-hw1]at H0;obtain ⟨n,hn⟩:∃n,n=s.size:=⟨_,rfl⟩
 have Hn:=hid hn;obtain ⟨l,hl⟩:∃l,l=s.data.toList:=⟨_,rfl⟩;have Hl:=hid hl;have H64:=hid (show 1<=n/\n<=64 by omega);have b3:(0:Int)<=(s.size:Int):=by omega
 clear hcap hw1 hn hl h1 h2;go_enter Tryz.func156,Tryz.ntmps156;go_wp2
 go_loopw [19] (fun v wr=>∃k:Nat,v= .int .i64 (k:Int)/\Hid (k<=n/\FB w wr (cur l k)/\∀(j:Nat) (c:UInt8),j<k->l[j]? =some c->aCa c=true)) (fun v _=>n-(intOf v).toNat)
 case atStart=>exact ⟨0,rfl,hid ⟨Nat.zero_le _,by rw[show cur l 0=l from rfl,Hl.out];exact H0.out,fun j c h=>absurd h (Nat.not_lt_zero _)⟩⟩
 case round=>
  obtain ⟨k,rfl,H⟩:=hrel;have hn:n=s.size:=Hn.out;have hl:l=s.data.toList:=Hl.out;clear H0;by_cases hkn:k<n
  ·obtain ⟨c,hc⟩:∃c,l[k]? =some c:=⟨l[k]'(by rw[hl,aAf];omega),a7i _⟩;have hlen:k<(cur l k).length:=by rw[aV3,hl,aAf];omega
   have x0:wr.cell? ⟨w.heap.size,k,none⟩=some (.int .u8 (c.toNat:Int)):=H.out.2.1.cell k c (aV4 hc);have f0:wr.frozen? ⟨w.heap.size,k,none⟩=false:=H.out.2.1.free k hlen;have b4:(k:Int)<(s.size:Int):=by omega
   have b5:(k:Int)<=64:=by omega
   have Hall:=hid (fun (hok:aCa c=true)=>show ∀(j:Nat) (d:UInt8),j<k+1->l[j]? =some d->aCa d=true from fun j d hj hd=>by
    by_cases e:j=k
    ·subst e;rw[hc]at hd;obtain rfl:=a7h hd;exact hok
    ·exact H.out.2.2 j d (by omega) hd)
   have Hc:=hid hc;have hcs:s.data.toList[k]? =some c:=by rw[<-hl];exact hc
   have Hbad:=hid (fun (hb:aCa c=false)=>a0d hcs hb H.out.2.1.below);have Hkeep:=hid (fun (hk:foldC c=c)=>show FB w wr (cur l (k+1)) from by rw[aRn hc hk];exact H.out.2.1);have Hup:=hid (show FB w (wr.setCell ⟨w.heap.size,k,none⟩ (.int .u8 ((foldC c).toNat:Int))) (cur l (k+1)) from by rw[aMf hc];exact H.out.2.1.set k _ hlen);have Hkn:=hid hkn;have hcase:(c.toNat<45)\/(c.toNat=45)\/(c.toNat=46)\/(c.toNat=47)\/(48<=c.toNat/\c.toNat<=57)\/(58<=c.toNat/\c.toNat<=64)\/(65<=c.toNat/\c.toNat<=90)\/(91<=c.toNat/\c.toNat<=96)\/(97<=c.toNat/\c.toNat<=122)\/(123<=c.toNat):=by omega
   clear hn hl hkn hc hlen H hcs;rcases hcase with h|h|h|h|h|h|h|h|h|h
   ·have e45:((c.toNat:Int)==45)=false:=bF (by omega);have e46:((c.toNat:Int)==46)=false:=bF (by omega);have p0:(c.toNat:Int)<65:=by omega
    have p1:(c.toNat:Int)<=90:=by omega
    have p2:(c.toNat:Int)<97:=by omega
    have p3:(c.toNat:Int)<=122:=by omega
    have p4:(c.toNat:Int)<48:=by omega
    have p5:(c.toNat:Int)<=57:=by omega
    have Hend:=hid (Hbad.out (by unfold aCa;exact dF (by omega)));clear h Hbad Hkeep Hup Hall;go_wp2
    go_ret2
    exact Hend.out
   ·have e45:((c.toNat:Int)==45)=true:=by rw[beq_iff_eq];omega
    have e46:((c.toNat:Int)==46)=false:=bF (by omega);have p0:(c.toNat:Int)<65:=by omega
    have p1:(c.toNat:Int)<=90:=by omega
    have p2:(c.toNat:Int)<97:=by omega
    have p3:(c.toNat:Int)<=122:=by omega
    have p4:(c.toNat:Int)<48:=by omega
    have p5:(c.toNat:Int)<=57:=by omega
    have Hend:=hid (show k+1<=n/\FB w wr (cur l (k+1))/\∀(j:Nat) (d:UInt8),j<k+1->l[j]? =some d->aCa d=true from ⟨Hkn.out,Hkeep.out (aEj (by omega)),Hall.out (by unfold aCa;exact dT (by omega))⟩);clear h Hbad Hkeep Hup Hall;go_wp2;go_roundw
    case rel=>exact ⟨k+1,by go_num,Hend⟩
    case measure=>have:=Hn.out;simp[intOf];omega
   ·have e45:((c.toNat:Int)==45)=false:=bF (by omega);have e46:((c.toNat:Int)==46)=true:=by rw[beq_iff_eq];omega
    have p0:(c.toNat:Int)<65:=by omega
    have p1:(c.toNat:Int)<=90:=by omega
    have p2:(c.toNat:Int)<97:=by omega
    have p3:(c.toNat:Int)<=122:=by omega
    have p4:(c.toNat:Int)<48:=by omega
    have p5:(c.toNat:Int)<=57:=by omega
    have Hend:=hid (show k+1<=n/\FB w wr (cur l (k+1))/\∀(j:Nat) (d:UInt8),j<k+1->l[j]? =some d->aCa d=true from ⟨Hkn.out,Hkeep.out (aEj (by omega)),Hall.out (by unfold aCa;exact dT (by omega))⟩);clear h Hbad Hkeep Hup Hall;go_wp2;go_roundw
    case rel=>exact ⟨k+1,by go_num,Hend⟩
    case measure=>have:=Hn.out;simp[intOf];omega
   ·have e45:((c.toNat:Int)==45)=false:=bF (by omega);have e46:((c.toNat:Int)==46)=false:=bF (by omega);have p0:(c.toNat:Int)<65:=by omega
    have p1:(c.toNat:Int)<=90:=by omega
    have p2:(c.toNat:Int)<97:=by omega
    have p3:(c.toNat:Int)<=122:=by omega
    have p4:(c.toNat:Int)<48:=by omega
    have p5:(c.toNat:Int)<=57:=by omega
    have Hend:=hid (Hbad.out (by unfold aCa;exact dF (by omega)));clear h Hbad Hkeep Hup Hall;go_wp2
    go_ret2
    exact Hend.out
   ·have e45:((c.toNat:Int)==45)=false:=bF (by omega);have e46:((c.toNat:Int)==46)=false:=bF (by omega);have p0:(c.toNat:Int)<65:=by omega
    have p1:(c.toNat:Int)<=90:=by omega
    have p2:(c.toNat:Int)<97:=by omega
    have p3:(c.toNat:Int)<=122:=by omega
    have p4:(48:Int)<=(c.toNat:Int):=by omega
    have p5:(c.toNat:Int)<=57:=by omega
    have Hend:=hid (show k+1<=n/\FB w wr (cur l (k+1))/\∀(j:Nat) (d:UInt8),j<k+1->l[j]? =some d->aCa d=true from ⟨Hkn.out,Hkeep.out (aEj (by omega)),Hall.out (by unfold aCa;exact dT (by omega))⟩);clear h Hbad Hkeep Hup Hall;go_wp2;go_roundw
    case rel=>exact ⟨k+1,by go_num,Hend⟩
    case measure=>have:=Hn.out;simp[intOf];omega
   ·have e45:((c.toNat:Int)==45)=false:=bF (by omega);have e46:((c.toNat:Int)==46)=false:=bF (by omega);have p0:(c.toNat:Int)<65:=by omega
    have p1:(c.toNat:Int)<=90:=by omega
    have p2:(c.toNat:Int)<97:=by omega
    have p3:(c.toNat:Int)<=122:=by omega
    have p4:(48:Int)<=(c.toNat:Int):=by omega
    have p5:(57:Int)<(c.toNat:Int):=by omega
    have Hend:=hid (Hbad.out (by unfold aCa;exact dF (by omega)));clear h Hbad Hkeep Hup Hall;go_wp2
    go_ret2
    exact Hend.out
   ·have e45:((c.toNat:Int)==45)=false:=bF (by omega);have e46:((c.toNat:Int)==46)=false:=bF (by omega);have p0:(65:Int)<=(c.toNat:Int):=by omega
    have p1:(c.toNat:Int)<=90:=by omega
    have p2:(c.toNat:Int)<97:=by omega
    have p3:(c.toNat:Int)<=122:=by omega
    have p4:(48:Int)<=(c.toNat:Int):=by omega
    have p5:(57:Int)<(c.toNat:Int):=by omega
    have hup:=aRo (c:=c) (by omega) (by omega);have wu:IntKind.u8.wrap ((c.toNat:Int)+32)=(c.toNat:Int)+32:=by rw[IntKind.wrap_u8];omega
    rw[hup]at Hup;have Hend:=hid (show k+1<=n/\FB w (wr.setCell ⟨w.heap.size,k,none⟩ (.int .u8 ((c.toNat:Int)+32))) (cur l (k+1))/\∀(j:Nat) (d:UInt8),j<k+1->l[j]? =some d->aCa d=true from ⟨Hkn.out,Hup.out,Hall.out (by unfold aCa;exact dT (by omega))⟩);clear h Hbad Hkeep Hup Hall hup;go_wp2;go_roundw
    case rel=>exact ⟨k+1,by go_num,Hend⟩
    case measure=>have:=Hn.out;simp[intOf];omega
   ·have e45:((c.toNat:Int)==45)=false:=bF (by omega);have e46:((c.toNat:Int)==46)=false:=bF (by omega);have p0:(65:Int)<=(c.toNat:Int):=by omega
    have p1:(90:Int)<(c.toNat:Int):=by omega
    have p2:(c.toNat:Int)<97:=by omega
    have p3:(c.toNat:Int)<=122:=by omega
    have p4:(48:Int)<=(c.toNat:Int):=by omega
    have p5:(57:Int)<(c.toNat:Int):=by omega
    have Hend:=hid (Hbad.out (by unfold aCa;exact dF (by omega)));clear h Hbad Hkeep Hup Hall;go_wp2
    go_ret2
    exact Hend.out
   ·have e45:((c.toNat:Int)==45)=false:=bF (by omega);have e46:((c.toNat:Int)==46)=false:=bF (by omega);have p0:(65:Int)<=(c.toNat:Int):=by omega
    have p1:(90:Int)<(c.toNat:Int):=by omega
    have p2:(97:Int)<=(c.toNat:Int):=by omega
    have p3:(c.toNat:Int)<=122:=by omega
    have p4:(48:Int)<=(c.toNat:Int):=by omega
    have p5:(57:Int)<(c.toNat:Int):=by omega
    have Hend:=hid (show k+1<=n/\FB w wr (cur l (k+1))/\∀(j:Nat) (d:UInt8),j<k+1->l[j]? =some d->aCa d=true from ⟨Hkn.out,Hkeep.out (aEj (by omega)),Hall.out (by unfold aCa;exact dT (by omega))⟩);clear h Hbad Hkeep Hup Hall;go_wp2;go_roundw
    case rel=>exact ⟨k+1,by go_num,Hend⟩
    case measure=>have:=Hn.out;simp[intOf];omega
   ·have e45:((c.toNat:Int)==45)=false:=bF (by omega);have e46:((c.toNat:Int)==46)=false:=bF (by omega);have p0:(65:Int)<=(c.toNat:Int):=by omega
    have p1:(90:Int)<(c.toNat:Int):=by omega
    have p2:(97:Int)<=(c.toNat:Int):=by omega
    have p3:(122:Int)<(c.toNat:Int):=by omega
    have p4:(48:Int)<=(c.toNat:Int):=by omega
    have p5:(57:Int)<(c.toNat:Int):=by omega
    have Hend:=hid (Hbad.out (by unfold aCa;exact dF (by omega)));clear h Hbad Hkeep Hup Hall;go_wp2
    go_ret2
    exact Hend.out
  ·have hk:k=n:=by have:=H.out.1;omega
   subst hk;have b4:(s.size:Int)<=(k:Int):=by omega
   have hln:l.length=s.size:=by rw[hl,aAf]
   have hcur:cur l k=l.map foldC:=by rw[<-aV5 l,hln,<-hn]
   have hfb:=H.out.2.1;rw[hcur,hl]at hfb;have hcb:=run_convert_bytes_back (P:= Tryz.prog) wr 42 9 5 ⟨w.heap.size,0,none⟩ cap (s.data.toList.map foldC) Tryz.underlying42 Tryz.underlying5 Tryz.underlying9 (fun j hj=>by
    rw[Addr.add_mid,Nat.zero_add];exact hfb.cell j _ (a7i hj))
   rw[List.length_map,aAf]at hcb;have Hend:=hid (a0e (w:=w) (s:=s) (by omega) (by omega) (fun j c hj hc=>H.out.2.2 j c (by omega) (by rw[hl];exact hc)) hfb.below);generalize (⟨(s.data.toList.map foldC).toArray⟩:ByteArray)=res at*;clear hn hl hkn H hfb hcur hln;go_wp2
   go_ret2
   exact Hend.out
theorem a0f (w:World) (s:ByteArray) (hs:s.size<=40000000):Calls Tryz.prog 157 #[.string s] w fun r w'=>r= .returned (.tuple #[.string (begP s),.bool (begB s)])/\w'=w:=by
 have Hc:=hid (show Calls Tryz.prog 190 #[.string s,.string ⟨#[42]⟩] w fun e w'=>e= .returned (.tuple #[.string (begP s),.bool (begB s)])/\w'=w from Tryz.strings_CutSuffix s ⟨#[42]⟩ w (by omega));clear hs;generalize begP s=p at*;generalize begB s=b at*;go_enter Tryz.func157,Tryz.ntmps157
 go_wp2_with fail
 refine cS Hc.out ?_;clear Hc;go_wp2
 go_ret2
 exact ⟨rfl,rfl⟩
theorem aV6 (w:World) (s:ByteArray) (hs:s.size<=40000000):Calls Tryz.prog 121 #[.string s] w fun r w'=>r= .returned (.bool (patB s))/\w'=w:=by
 have Hb:=hid (a0f w s hs);have Hp:=hid (path_c w (begP s));have Hv:=hid (show patB s=((begB s&&(begP s).toList==[])||pathB (begP s).data.toList) from rfl);clear hs;generalize patB s=v at*;generalize pathB (begP s).data.toList=pv at*;generalize begP s=p at*;generalize begB s=b at*;cases b with
 |false=>
  have hv:v=pv:=by rw[Hv.out];rfl
  subst hv;go_enter Tryz.func121,Tryz.ntmps121
  go_wp2_with fail
  refine cS Hb.out ?_;clear Hb
  go_wp2_with fail
  refine cS Hp.out ?_;clear Hp;go_wp2;go_ret;exact ⟨rfl,rfl⟩
 |true=>
  cases he:(p.toList==[]) with
  |true=>
   have t2:p.toList=[]:=by simpa using he
   have t3:p.toList.isEmpty=true:=by rw[t2];rfl
   have hv:v=true:=by rw[Hv.out,he];rfl
   subst hv;have T2:=hid t2;clear t2;go_enter Tryz.func121,Tryz.ntmps121
   go_wp2_with fail
   refine cS Hb.out ?_;clear Hb;go_wp2;go_ret;exact ⟨rfl,rfl⟩
  |false=>
   have t3:p.toList.isEmpty=false:=by
    cases hq:p.toList with
    |nil=>rw[hq]at he;cases he
    |cons a b=>rfl
   have hv:v=pv:=by rw[Hv.out,he];rfl
   subst hv;go_enter Tryz.func121,Tryz.ntmps121
   go_wp2_with fail
   refine cS Hb.out ?_;clear Hb
   go_wp2_with fail
   refine cS Hp.out ?_;clear Hp;go_wp2;go_ret;exact ⟨rfl,rfl⟩
def aCv (w:World) (s:ByteArray) (r:Ending) (w':World):Prop:=r= .returned (.tuple #[.int .i64 (hostV s).1,.string (hostV s).2])/\Below w.heap.size w w'
theorem host_c (w:World) (s:ByteArray):Calls Tryz.prog 119 #[.string s] w (aCv w s):=by
 have Hh:=hid (show Calls Tryz.prog 115 #[.string s,.string ⟨#[42,46]⟩] w fun e w'=>e= .returned (.bool (Lib.hasPrefix s.data.toList [42,46]))/\w'=w from Tryz.strings_HasPrefix s ⟨#[42,46]⟩ w);cases hst:(s.toList==[42]) with
 |true=>
  have Hend:=hid (show aCv w s (.returned (.tuple #[.int .i64 2,.string ⟨#[]⟩])) w from by unfold aCv hostV;rw[if_pos hst];exact ⟨rfl,a7d _ _⟩);clear Hh;go_enter Tryz.func119,Tryz.ntmps119;go_wp2
  go_ret2
  exact Hend.out
 |false=>
  cases hp:Lib.hasPrefix s.data.toList [42,46] with
  |true=>
   have h2:=aS7 hp;have b1:(2:Int)<=(s.size:Int):=by omega
   have b2:(0:Int)<=(s.size:Int):=by omega
   rw[hp]at Hh;have Hf:=hid (fun k=>a3p (w.drewN k) (s.extract 2 s.size));have Hv:=hid (show hostV s=hostR s (s.extract 2 s.size) 1 from by unfold hostV;rw[if_neg (by rw[hst];decide),if_pos hp]);cases hok:(foldV (s.extract 2 s.size)).2 with
   |true=>
    have Hend:=hid (fun w2 (hb:Below w.heap.size w w2)=>show aCv w s (.returned (.tuple #[.int .i64 1,.string (foldV (s.extract 2 s.size)).1])) w2 from by unfold aCv;rw[Hv.out];unfold hostR;rw[if_pos hok];exact ⟨rfl,hb⟩);unfold aDf at Hf;rw[hok]at Hf;have HT:=hid hst;generalize (foldV (s.extract 2 s.size)).1=fv at*;clear hp h2 hok Hv;go_enter Tryz.func119,Tryz.ntmps119
    go_wp2_with fail
    refine cS Hh.out ?_;clear Hh
    go_wp2_with fail
    go_quiet (fail)
    go_wp2_with fail
    refine (Hf.out _).mono ?_;rintro r w2 ⟨rfl,hb⟩;have He:=hid (Hend.out w2 ((bdH (a7d _ w) _).trans hb));clear hb Hf Hend;go_wp2
    go_ret2
    exact He.out
   |false=>
    have Hend:=hid (fun w2 (hb:Below w.heap.size w w2)=>show aCv w s (.returned (.tuple #[.int .i64 3,.string s])) w2 from by unfold aCv;rw[Hv.out];unfold hostR;rw[if_neg (by rw[hok];decide)];exact ⟨rfl,hb⟩);unfold aDf at Hf;rw[hok]at Hf;have HT:=hid hst;generalize (foldV (s.extract 2 s.size)).1=fv at*;clear hp h2 hok Hv;go_enter Tryz.func119,Tryz.ntmps119
    go_wp2_with fail
    refine cS Hh.out ?_;clear Hh
    go_wp2_with fail
    go_quiet (fail)
    go_wp2_with fail
    refine (Hf.out _).mono ?_;rintro r w2 ⟨rfl,hb⟩;have He:=hid (Hend.out w2 ((bdH (a7d _ w) _).trans hb));clear hb Hf Hend;go_wp2
    go_ret2
    exact He.out
  |false=>
   rw[hp]at Hh;have Hf:=hid (a3p w s);have Hv:=hid (show hostV s=hostR s s 0 from by unfold hostV;rw[if_neg (by rw[hst];decide),if_neg (by rw[hp];decide)]);cases hok:(foldV s).2 with
   |true=>
    have Hend:=hid (fun w2 (hb:Below w.heap.size w w2)=>show aCv w s (.returned (.tuple #[.int .i64 0,.string (foldV s).1])) w2 from by unfold aCv;rw[Hv.out];unfold hostR;rw[if_pos hok];exact ⟨rfl,hb⟩);unfold aDf at Hf;rw[hok]at Hf;have HT:=hid hst;generalize (foldV s).1=fv at*;clear hp hok Hv;go_enter Tryz.func119,Tryz.ntmps119
    go_wp2_with fail
    refine cS Hh.out ?_;clear Hh
    go_wp2_with fail
    refine Hf.out.mono ?_;rintro r w2 ⟨rfl,hb⟩;have He:=hid (Hend.out w2 hb);clear hb Hf Hend;go_wp2
    go_ret2
    exact He.out
   |false=>
    have Hend:=hid (fun w2 (hb:Below w.heap.size w w2)=>show aCv w s (.returned (.tuple #[.int .i64 3,.string s])) w2 from by unfold aCv;rw[Hv.out];unfold hostR;rw[if_neg (by rw[hok];decide)];exact ⟨rfl,hb⟩);unfold aDf at Hf;rw[hok]at Hf;have HT:=hid hst;generalize (foldV s).1=fv at*;clear hp hok Hv;go_enter Tryz.func119,Tryz.ntmps119
    go_wp2_with fail
    refine cS Hh.out ?_;clear Hh
    go_wp2_with fail
    refine Hf.out.mono ?_;rintro r w2 ⟨rfl,hb⟩;have He:=hid (Hend.out w2 hb);clear hb Hf Hend;go_wp2
    go_ret2
    exact He.out
theorem all_of {l:List UInt8} {p:UInt8->Bool} (h:∀(j:Nat) (c:UInt8),j<l.length->l[j]? =some c->p c=true):l.all p=true:=by
 rw[List.all_eq_true];intro c hc;obtain ⟨j,hj,e⟩:=List.getElem_of_mem hc;exact h j c hj (by rw[a7i hj,e])
theorem all_no {l:List UInt8} {p:UInt8->Bool} {k:Nat} {c:UInt8} (hc:l[k]? =some c) (h:p c=false):l.all p=false:=by
 rw[List.all_eq_false];exact ⟨c,List.mem_of_getElem? hc,by rw[h];decide⟩
theorem aRp {s:ByteArray} {k:Nat} {c:UInt8} (hc:s.data.toList[k]? =some c) (h:upCh c=false):methL s.data.toList=false:=by
 unfold methL;rw[all_no hc h];rfl
theorem aN7 {s:ByteArray} (h:s.data.toList.all upCh=true) (h2:¬(0<s.size/\s.size<=64)):methL s.data.toList=false:=by
 unfold methL;rw[h,aAg,dF h2];rfl
theorem a0g {s:ByteArray} (h:s.data.toList.all upCh=true) (h2:0<s.size/\s.size<=64):methL s.data.toList=true:=by
 unfold methL;rw[h,aAg,dT h2];rfl
theorem meth_c (w:World) (s:ByteArray) (hs:s.size<=1048576):
 Calls Tryz.prog 159 #[.string s] w fun r w'=>r= .returned (.bool (methL s.data.toList))/\w'=w:=by
 obtain ⟨n,hn⟩:∃n,n=s.size:=⟨_,rfl⟩;have Hn:=hid hn;obtain ⟨l,hl⟩:∃l,l=s.data.toList:=⟨_,rfl⟩;have Hl:=hid hl;have Hs:=hid hs;clear hn hl hs;go_enter Tryz.func159,Tryz.ntmps159;go_wp2
 go_loop [6] (fun v=>∃k:Nat,v= .int .i64 (k:Int)/\Hid (k<=n/\∀(j:Nat) (c:UInt8),j<k->l[j]? =some c->upCh c=true)) (fun v=>n-(intOf v).toNat)
 case atStart=>exact ⟨0,rfl,hid ⟨Nat.zero_le _,fun j c h=>absurd h (Nat.not_lt_zero _)⟩⟩
 case round=>
  obtain ⟨k,rfl,H⟩:=hrel;have hn:n=s.size:=Hn.out;have hl:l=s.data.toList:=Hl.out;have hs:=Hs.out;by_cases hkn:k<n
  ·obtain ⟨c,hc⟩:=at_lt (s:=s) (by rw[<-hn];exact hkn);have hidx:=aAm (s:=s) (k:Int) rfl hc;have b3:(k:Int)<(s.size:Int):=by omega
   have wk:=aA1 (z:=(k:Int)+1) (by omega) (by omega);have Hms:=hid (aCc hkn wk);have Hgo:=hid (aDw wk);by_cases h1:c.toNat<65
   ·have hch:upCh c=false:=dF (by omega);have g0:(c.toNat:Int)<65:=by omega
    have He:=hid (show false=methL s.data.toList from (aRp hc hch).symm);clear hn hl hs hkn hc H wk hch h1;go_wp2;go_ret;exact ⟨ret_b He.out,rfl⟩
   have g0:(65:Int)<=(c.toNat:Int):=by omega
   by_cases h2:90<c.toNat
   ·have hch:upCh c=false:=dF (by omega);have g1:(90:Int)<(c.toNat:Int):=by omega
    have He:=hid (show false=methL s.data.toList from (aRp hc hch).symm);clear hn hl hs hkn hc H wk hch h1 h2;go_wp2;go_ret;exact ⟨ret_b He.out,rfl⟩
   have g1:(c.toNat:Int)<=90:=by omega
   have hch:upCh c=true:=dT (by omega);have He:=hid (show k+1<=n/\∀(j:Nat) (c:UInt8),j<k+1->l[j]? =some c->upCh c=true from ⟨hkn,fun j d hj hd=>by
    by_cases e:j=k
    ·subst e;rw[hl,hc]at hd;obtain rfl:=a7h hd;exact hch
    ·exact H.out.2 j d (by omega) hd⟩)
   clear hn hl hs hkn hc H wk hch h1 h2;go_wp2;go_round
   case rel=>exact ⟨k+1,Hgo.out,He⟩
   case measure=>exact Hms.out
  ·have b3:(s.size:Int)<=(k:Int):=by omega
   have hall:s.data.toList.all upCh=true:=all_of fun j c hj hc=>H.out.2 j c (by rw[aAg]at hj;omega) (by rw[hl];exact hc);rcases Nat.eq_zero_or_pos s.size with h0|h0
   ·have q2:(s.size:Int)<=0:=by omega
    have q3:(s.size:Int)<1:=by omega
    have He:=hid (show false=methL s.data.toList from (aN7 hall (by omega)).symm);clear hn hl hs hkn H hall h0;go_wp2;go_ret;exact ⟨ret_b He.out,rfl⟩
   ·have q2:(0:Int)<(s.size:Int):=by omega
    have q3:(1:Int)<=(s.size:Int):=by omega
    by_cases h64:s.size<=64
    ·have b4:(s.size:Int)<=64:=by omega
     have He:=hid (show true=methL s.data.toList from (a0g hall (by omega)).symm);clear hn hl hs hkn H hall h0 h64;go_wp2;go_ret;exact ⟨ret_b He.out,rfl⟩
    ·have b4:decide ((s.size:Int)<=64)=false:=dF (by omega);have b5:(64:Int)<(s.size:Int):=by omega
     have He:=hid (show false=methL s.data.toList from (aN7 hall (by omega)).symm);clear hn hl hs hkn H hall h0 h64;go_wp2;go_ret;exact ⟨ret_b He.out,rfl⟩
theorem aV7 (w:World) (s:ByteArray) (hs:s.size<=1048576):
 Calls Tryz.prog 122 #[.string s] w fun r w'=>r= .returned (.bool (methB s))/\w'=w:=by
 have Hm:=hid (meth_c w s hs);have hv:methB s=((s.toList==[42])||methL s.data.toList):=rfl;rw[hv];clear hs hv;cases h:(s.toList==[42]) with
 |true=>
  clear Hm;go_enter Tryz.func122,Tryz.ntmps122;go_wp2;go_ret;exact ⟨rfl,rfl⟩
 |false=>
  generalize methL s.data.toList=m at*;go_enter Tryz.func122,Tryz.ntmps122
  go_wp2_with fail
  refine Hm.out.mono ?_;rintro r w1 ⟨rfl,rfl⟩;clear Hm;go_wp2;go_ret;exact ⟨rfl,rfl⟩
theorem a5l (w:World) (s:ByteArray):
 Calls Tryz.prog 83 #[.string s] w fun r w'=>r= .returned (.bool (hostB s))/\Below w.heap.size w w':=by
 have Hh:=hid (host_c w s);unfold aCv at Hh;have hv:hostB s=decide ((hostV s).1≠3):=rfl;rw[hv];clear hv;obtain ⟨z,hz⟩:∃z,z=(hostV s).1:=⟨_,rfl⟩;rw[<-hz]at Hh |-;clear hz;by_cases h3:z=3
 ·have t1:(z==3)=true:=by rw[beq_iff_eq];exact h3
  have He:=hid (show false=decide (z≠3) from (dF (fun q=>q h3)).symm);have p3:z=3:=h3;clear h3;go_enter Tryz.func83,Tryz.ntmps83
  go_wp2_with fail
  refine Hh.out.mono ?_;rintro r w1 ⟨rfl,hb⟩;have Hb:=hid hb;have HE:=hid p3;clear hb Hh p3;go_wp2;go_ret;exact ⟨ret_b (by rw[<-He.out];first|rfl|(rw[HE.out];rfl)|simp[HE.out]),Hb.out⟩
 ·have t1:(z==3)=false:=by rw[beq_eq_false_iff_ne];exact h3
  have He:=hid (show true=decide (z≠3) from (dT h3).symm);clear h3;go_enter Tryz.func83,Tryz.ntmps83
  go_wp2_with fail
  refine Hh.out.mono ?_;rintro r w1 ⟨rfl,hb⟩;have Hb:=hid hb;clear hb Hh;go_wp2;go_ret;exact ⟨ret_b (by rw[<-He.out];first|rfl|(simp;exact beq_eq_false_iff_ne.1 t1)),Hb.out⟩
theorem a0h (w:World) (s:ByteArray) (hs:s.size<=1048576):Calls Tryz.prog 82 #[.string s] w fun r w'=>r= .returned (.string (foldB s))/\Below w.heap.size w w':=by
 have hcv:=Lib.run_convert_string_bytes (P:= Tryz.prog) w 9 42 5 s Tryz.underlying9 Tryz.underlying42 Tryz.underlying5;obtain ⟨cap,hcap⟩:∃cap,cap=grownCap w s.size 0 5 :=⟨_,rfl⟩;obtain ⟨w1,hw1⟩:∃w1,w1=Lib.bytesWorld w 5 s:=⟨_,rfl⟩;have H0:=hid (FB.first w s);rw[<-hcap,<-hw1]at hcv;rw[<-hw1]at H0;obtain ⟨n,hn⟩:∃n,n=s.size:=⟨_,rfl⟩
 have Hn:=hid hn;obtain ⟨l,hl⟩:∃l,l=s.data.toList:=⟨_,rfl⟩;have Hl:=hid hl;have Hs:=hid (show n<=1048576 by omega);have hv:foldB s=⟨(s.data.toList.map foldC).toArray⟩:=rfl;rw[hv];have b3:(0:Int)<=(s.size:Int):=by omega
 clear hcap hw1 hn hl hs hv;go_enter Tryz.func82,Tryz.ntmps82;go_wp2
 go_loopw [10] (fun v wr=>∃k:Nat,v= .int .i64 (k:Int)/\Hid (k<=n/\FB w wr (cur l k))) (fun v _=>n-(intOf v).toNat)
 case atStart=>exact ⟨0,rfl,hid ⟨Nat.zero_le _,by rw[show cur l 0=l from rfl,Hl.out];exact H0.out⟩⟩
 case round=>
  obtain ⟨k,rfl,H⟩:=hrel;have hn:n=s.size:=Hn.out;have hl:l=s.data.toList:=Hl.out;clear H0;by_cases hkn:k<n
  ·obtain ⟨c,hc⟩:∃c,l[k]? =some c:=⟨l[k]'(by rw[hl,aAf];omega),a7i _⟩;have hlen:k<(cur l k).length:=by rw[aV3,hl,aAf];omega
   have x0:wr.cell? ⟨w.heap.size,k,none⟩=some (.int .u8 (c.toNat:Int)):=H.out.2.cell k c (aV4 hc);have f0:wr.frozen? ⟨w.heap.size,k,none⟩=false:=H.out.2.free k hlen;have b4:(k:Int)<(s.size:Int):=by omega
   obtain ⟨Hms,Hgo⟩:=aA3 (k:=k) (n:=n) hkn (by have:=Hs.out;omega);have hcl:=c.toNat_lt;by_cases h1:65<=c.toNat/\c.toNat<=90
   ·have p0:(65:Int)<=(c.toNat:Int):=by omega
    have p1:(c.toNat:Int)<=90:=by omega
    have wu:IntKind.u8.wrap ((c.toNat:Int)+97)=(c.toNat:Int)+97:=by rw[IntKind.wrap_u8];omega
    have wv:IntKind.u8.wrap ((c.toNat:Int)+97-65)=(c.toNat:Int)+97-65:=by rw[IntKind.wrap_u8];omega
    have hup:=aRo (c:=c) h1.1 h1.2;have Hend:=hid (show k+1<=n/\FB w (wr.setCell ⟨w.heap.size,k,none⟩ (.int .u8 ((c.toNat:Int)+97-65))) (cur l (k+1)) from ⟨hkn,by
     rw[aMf hc,show (c.toNat:Int)+97-65=((foldC c).toNat:Int) by rw[hup];omega];exact H.out.2.set k _ hlen⟩)
    clear hn hl hc hlen H hkn hcl h1 hup;go_wp2;go_roundw
    case rel=>exact ⟨k+1,Hgo.out,Hend⟩
    case measure=>exact Hms.out
   ·have Hend:=hid (show k+1<=n/\FB w wr (cur l (k+1)) from ⟨hkn,by rw[aRn hc (aEj h1)];exact H.out.2⟩);by_cases h2:65<=c.toNat
    ·have p0:(65:Int)<=(c.toNat:Int):=by omega
     have p1:decide ((c.toNat:Int)<=90)=false:=dF (by omega);clear hn hl hc hlen H hkn hcl h1 h2;go_wp2;go_roundw
     case rel=>exact ⟨k+1,Hgo.out,Hend⟩
     case measure=>exact Hms.out
    ·have p0:(c.toNat:Int)<65:=by omega
     clear hn hl hc hlen H hkn hcl h1 h2;go_wp2;go_roundw
     case rel=>exact ⟨k+1,Hgo.out,Hend⟩
     case measure=>exact Hms.out
  ·have hk:k=n:=by have:=H.out.1;omega
   subst hk;have b4:(s.size:Int)<=(k:Int):=by omega
   have hln:l.length=s.size:=by rw[hl,aAf]
   have hcur:cur l k=l.map foldC:=by rw[<-aV5 l,hln,<-hn]
   have hfb:=H.out.2;rw[hcur,hl]at hfb;have hcb:=run_convert_bytes_back (P:= Tryz.prog) wr 42 9 5 ⟨w.heap.size,0,none⟩ cap (s.data.toList.map foldC) Tryz.underlying42 Tryz.underlying5 Tryz.underlying9 (fun j hj=>by
    rw[Addr.add_mid,Nat.zero_add];exact hfb.cell j _ (a7i hj))
   rw[List.length_map,aAf]at hcb;have Hb:=hid hfb.below;clear H hkn hcur hfb hln hn hl;go_wp2;go_ret;exact ⟨rfl,Hb.out⟩
