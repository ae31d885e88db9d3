/-
Parts of a proof.
-/
import Derived.Laws.CopyOwn
import Derived.Test.YtfenoaeoedobmaaGreatDoorOw16
set_option linter.unusedVariables false
set_option linter.unusedSimpArgs false
set_option maxHeartbeats 4000000
set_option maxRecDepth 20000
namespace Go.Proofs.YtfenoaeoedobmaaGreatDoor
open Go Go.RowKit
theorem Dt {l:List UInt8} {k:Nat} {c:UInt8} (h:l[k]? =some c):l.drop k=c::l.drop (k+1):=by
 obtain ⟨hk,he⟩:=aAh h;rw[List.drop_eq_getElem_cons hk,he]
theorem rC {l:List UInt8} (h:¬(1<=l.length/\l.length<=256/\l[0]? =some 47)):jw l=false:=by
 unfold jw;rw[dF h];rfl
theorem tM {l:List UInt8} {k:Nat} {c:UInt8} (hc:l[k]? =some c) (h:pchar c=false):jw l=false:=by
 unfold jw;rw[Bool.and_eq_false_iff];refine .inr ?_;rw[List.all_eq_false];exact ⟨c,List.mem_of_getElem? hc,by rw[h];decide⟩
theorem B7 {l:List UInt8} (h:1<=l.length/\l.length<=256/\l[0]? =some 47) (ha:∀(j:Nat) (c:UInt8),j<l.length->l[j]? =some c->pchar c=true):jw l=true:=by
 unfold jw;rw[dT h,Bool.true_and,List.all_eq_true];intro c hc;obtain ⟨j,hj,e⟩:=List.getElem_of_mem hc;exact ha j c hj (by rw[aAg hj,e])
theorem II (w:World) (s:ByteArray):Calls Tryz.prog 158 #[.string s] w fun r w'=>r= .returned (.bool (jw s.data.toList))/\w'=w:=by
 have hsl:=al s;by_cases h1:s.size<1
 ·have hf:=rC (l:=s.data.toList) (by omega);rw[hf];have b1:(s.size:Int)<1:=by omega
  clear hf hsl h1;go_enter Tryz.func158,Tryz.ntmps158;go_wp2;go_ret;exact ⟨rfl,rfl⟩
 have b1:(1:Int)<=(s.size:Int):=by omega
 by_cases h2:256<s.size
 ·have hf:=rC (l:=s.data.toList) (by omega);rw[hf];have b2:(256:Int)<(s.size:Int):=by omega
  clear hf hsl h1 h2;go_enter Tryz.func158,Tryz.ntmps158;go_wp2;go_ret;exact ⟨rfl,rfl⟩
 have b2:(s.size:Int)<=256:=by omega
 obtain ⟨c0,hc0⟩:∃c,s.data.toList[0]? =some c:=⟨s.data.toList[0]'(by omega),aAg _⟩;have hi0:=aN (0:Int) rfl hc0;by_cases h3:c0.toNat=47;rotate_left
 ·have hf:=rC (l:=s.data.toList) (fun ⟨_,_,q⟩=>by
   rw[hc0]at q;obtain rfl:=aAf q;exact h3 rfl)
  rw[hf];have t1:((c0.toNat:Int) != 47)=true:=by rw[bne_iff_ne];omega
  clear hf hsl h1 h2 h3 hc0;go_enter Tryz.func158,Tryz.ntmps158;go_wp2;go_ret;exact ⟨rfl,rfl⟩
 have t1:((c0.toNat:Int) != 47)=false:=by rw[bne_eq_false_iff_eq];omega
 have hc47:c0=47:=by apply UInt8.toNat_inj.1;rw[h3];rfl
 have Hh:=hid (show 1<=s.data.toList.length/\s.data.toList.length<=256/\s.data.toList[0]? =some 47 from ⟨by omega,by omega,by rw[hc0,hc47]⟩);obtain ⟨n,hn⟩:=ex (s.size);have Hn:=hid hn;obtain ⟨l,hl⟩:=ex (s.data.toList);have Hl:=hid hl;have H256:=hid (show n<=256 by omega);rw[<-hl];clear hsl h1 h2 h3 hc47 hc0 hn hl;go_enter Tryz.func158,Tryz.ntmps158;go_wp2
 go_loop [19] (fun v=>∃k:Nat,v= .int .i64 (k:Int)/\Hid (k<=n/\∀(j:Nat) (c:UInt8),j<k->l[j]? =some c->pchar c=true)) (fun v=>n-(intOf v).toNat)
 case atStart=>exact ⟨0,rfl,hid ⟨Nat.zero_le _,fun j c h=>absurd h (Nat.not_lt_zero _)⟩⟩
 case round=>
  obtain ⟨k,rfl,H⟩:=hrel;have hn:n=s.size:=Hn.o;have hl:l=s.data.toList:=Hl.o;by_cases hkn:k<n
  ·obtain ⟨c,hc⟩:∃c,l[k]? =some c:=⟨l[k]'(by rw[hl,al];omega),aAg _⟩;have hidx:=aN (s:=s) (k:Int) rfl (by rw[<-hl];exact hc);have b3:(k:Int)<(s.size:Int):=by omega
   have wk:wrap64 ((k:Int)+1)=(k:Int)+1:=by have:=H256.o;unfold wrap64;omega
   have Hms:=hid (df hkn wk);have Hgo:=hid (fh wk);by_cases hlo:c.toNat<33
   ·have p1:(c.toNat:Int)<33:=by omega
    have hf:=tM hc (show pchar c=false by unfold pchar;exact dF (by omega));have Hf:=hid hf;clear hn hl hkn hc hlo H hf wk;go_wp2;go_ret;exact ⟨(congrArg (fun b=>Ending.returned (.bool b)) Hf.o).symm,rfl⟩
   ·have p1:(33:Int)<=(c.toNat:Int):=by omega
    by_cases hhi:126<c.toNat
    ·have p2:(126:Int)<(c.toNat:Int):=by omega
     have hf:=tM hc (show pchar c=false by unfold pchar;exact dF (by omega));have Hf:=hid hf;clear hn hl hkn hc hlo hhi H hf wk;go_wp2;go_ret;exact ⟨(congrArg (fun b=>Ending.returned (.bool b)) Hf.o).symm,rfl⟩
    ·have p2:(c.toNat:Int)<=126:=by omega
     have Hend:=hid (show k+1<=n/\∀(j:Nat) (c:UInt8),j<k+1->l[j]? =some c->pchar c=true from ⟨hkn,fun j d hj hd=>by
      by_cases e:j=k
      ·subst e;rw[hc]at hd;obtain rfl:=aAf hd;unfold pchar;exact dT (by omega)
      ·exact H.o.2 j d (by omega) hd⟩)
     clear hn hl hkn hc hlo hhi H wk;go_wp2;go_round
     case rel=>exact ⟨k+1,by go_num,Hend⟩
     case measure=>have:=Hn.o;simp[intOf];omega
  ·have b3:(s.size:Int)<=(k:Int):=by omega
   have hf:=B7 (l:=l) (by rw[hl];exact Hh.o) (fun j c hj hc=>H.o.2 j c (by rw[hl,al]at hj;omega) hc);have Hf:=hid hf;clear hn hl hkn H hf;go_wp2;go_ret;exact ⟨(congrArg (fun b=>Ending.returned (.bool b)) Hf.o).symm,rfl⟩
def cur (l:List UInt8) (k:Nat):List UInt8:=(l.take k).map bO++l.drop k
theorem yu (l:List UInt8) (k:Nat):(cur l k).length=l.length:=by
 unfold cur;rw[aAc,List.length_map,List.length_take,List.length_drop];omega
theorem xl {l:List UInt8} {k:Nat} {c:UInt8} (h:l[k]? =some c):(cur l k)[k]? =some c:=by
 have hk:=(aAh h).1;unfold cur;rw[List.getElem?_append_right (by rw[List.length_map,List.length_take];omega),List.length_map,List.length_take,List.getElem?_drop,show k+(k-min k l.length)=k by omega,h]
theorem px {l:List UInt8} {k:Nat} {c:UInt8} (h:l[k]? =some c):cur l (k+1)=(cur l k).set k (bO c):=by
 have hk:=(aAh h).1;have e1:l.take (k+1)=l.take k++[c]:=by rw[List.take_add_one,h];rfl
 unfold cur;rw[e1,List.map_append,List.set_append_right _ _ (by rw[List.length_map,List.length_take];omega),List.length_map,List.length_take,show k-min k l.length=0 by omega,Dt h,List.set_cons_zero,List.append_assoc];rfl
theorem uQ {l:List UInt8} {k:Nat} {c:UInt8} (h:l[k]? =some c) (hc:bO c=c):cur l (k+1)=cur l k:=by
 rw[px h,hc];have h1:=xl h;apply List.ext_getElem?;intro j;by_cases e:j=k
 ·subst e;rw[List.getElem?_set_self (aAh h1).1,h1]
 ·rw[List.getElem?_set_ne (fun q=>e q.symm)]
theorem yw (l:List UInt8):cur l l.length=l.map bO:=by
 unfold cur;rw[List.take_length,List.drop_length,List.append_nil]
theorem um {c:UInt8} (h1:65<=c.toNat) (h2:c.toNat<=90):((bO c).toNat:Int)=(c.toNat:Int)+32:=by
 unfold bO;rw[if_pos ⟨h1,h2⟩,UInt8.toNat_add];have:(32:UInt8).toNat=32:=rfl;rw[this];omega
theorem gT {c:UInt8} (h:¬(65<=c.toNat/\c.toNat<=90)):bO c=c:=by
 unfold bO;rw[if_neg h]
structure FB (w wr:World) (l:List UInt8):Prop where
 below:Below w.heap.size w wr
 cell:∀(j:Nat) (c:UInt8),l[j]? =some c->wr.cell? ⟨w.heap.size,j,none⟩=some (.int .u8 (c.toNat:Int))
 free:∀j,j<l.length->wr.frozen? ⟨w.heap.size,j,none⟩=false
theorem FB.set {w wr:World} {l:List UInt8} (h:FB w wr l) (k:Nat) (c:UInt8) (hk:k<l.length):FB w (wr.setCell ⟨w.heap.size,k,none⟩ (.int .u8 (c.toNat:Int))) (l.set k c):=by
 refine ⟨h.below.setCell (aAa _) _,fun j d hj=> ?_,fun j hj=> ?_⟩
 ·by_cases e:j=k
  ·subst e;rw[List.getElem?_set_self hk]at hj;obtain rfl:=aAf hj;exact World.cell?_setCell_same _ _ _ (h.cell j _ (aAg hk))
  ·rw[List.getElem?_set_ne (fun q=>e q.symm)]at hj;rw[World.cell?_setCell_other _ _ _ _ (fun q=>e (by injection q with _ q2 _;exact q2.symm))];exact h.cell j d hj
 ·rw[List.length_set]at hj;rw[World.frozen?_setCell];exact h.free j hj
theorem FB.first (w:World) (s:ByteArray):FB w (Lib.bytesWorld w 5 s) s.data.toList:=by
 refine ⟨Lib.bytesWorld_below _ _ _,fun j c hj=> ?_,fun j hj=> ?_⟩
 ·have hlt:=(aAh hj).1;rw[al]at hlt;rw[Lib.bytesWorld_cell w 5 s j hlt,List.getD_eq_getElem?_getD,hj];rfl
 ·rw[al]at hj;unfold World.frozen?;rw[show (⟨w.heap.size,j,none⟩:Addr).block=w.heap.size from rfl,Lib.bytesWorld_at_new];have:j<(Lib.bytesCells w 5 s).size:=by
   unfold Lib.bytesCells;rw[Array.size_append,Array.size_map]
   show j<s.size+_
   omega
  simp;omega
def eL (w:World) (s:ByteArray) (r:Ending) (w':World):Prop:=r= .returned (.tuple #[.string (fO s).1,.bool (fO s).2])/\Below w.heap.size w w'
theorem rZ {w w':World} {s:ByteArray} (h:¬(1<=s.size/\s.size<=64/\s.data.toList.all bY=true)) (hb:Below w.heap.size w w'):eL w s (.returned (.tuple #[.string ⟨#[]⟩,.bool false])) w':=by
 unfold eL fO;rw[if_neg h];exact ⟨rfl,hb⟩
theorem Db {w w':World} {s:ByteArray} {k:Nat} {c:UInt8} (hc:s.data.toList[k]? =some c) (h:bY c=false) (hb:Below w.heap.size w w'):eL w s (.returned (.tuple #[.string ⟨#[]⟩,.bool false])) w':=
 rZ (fun q=>by
  have:=List.all_eq_true.1 q.2.2 c (List.mem_of_getElem? hc);rw[h]at this;cases this) hb
theorem C9 {w w':World} {s:ByteArray} (h1:1<=s.size) (h2:s.size<=64) (ha:∀(j:Nat) (c:UInt8),j<s.size->s.data.toList[j]? =some c->bY c=true) (hb:Below w.heap.size w w'):
 eL w s (.returned (.tuple #[.string ⟨(s.data.toList.map bO).toArray⟩,.bool true])) w':=by
 have hall:s.data.toList.all bY=true:=by
  rw[List.all_eq_true];intro c hc;obtain ⟨j,hj,e⟩:=List.getElem_of_mem hc;have hj2:=hj;rw[al]at hj2;exact ha j c hj2 (by rw[aAg hj,e])
 unfold eL fO;rw[if_pos ⟨h1,h2,hall⟩];exact ⟨rfl,hb⟩
theorem Da (w:World) (s:ByteArray):Calls Tryz.prog 156 #[.string s] w (eL w s):=by
 by_cases h1:s.size<1
 ·have Hend:=hid (rZ (w:=w) (s:=s) (fun q=>by omega) (aAb _ w));have b1:(s.size:Int)<1:=by omega
  clear h1;go_enter Tryz.func156,Tryz.ntmps156;go_wp2
  go_ret2
  exact Hend.o
 have b1:(1:Int)<=(s.size:Int):=by omega
 by_cases h2:64<s.size
 ·have Hend:=hid (rZ (w:=w) (s:=s) (fun q=>by omega) (aAb _ w));have b2:(64:Int)<(s.size:Int):=by omega
  clear h1 h2;go_enter Tryz.func156,Tryz.ntmps156;go_wp2
  go_ret2
  exact Hend.o
 have b2:(s.size:Int)<=64:=by omega
 have hcv:=Lib.run_convert_string_bytes (P:= Tryz.prog) w 9 42 5 s Tryz.underlying9 Tryz.underlying42 Tryz.underlying5;obtain ⟨cap,hcap⟩:=ex (grownCap w s.size 0 5);obtain ⟨w1,hw1⟩:=ex (Lib.bytesWorld w 5 s);have H0:=hid (FB.first w s);rw[<-hcap,<-hw1]at hcv;rw[<-hw1]at H0;obtain ⟨n,hn⟩:=ex (s.size);have Hn:=hid hn;obtain ⟨l,hl⟩:=ex (s.data.toList)
 have Hl:=hid hl;have H64:=hid (show 1<=n/\n<=64 by omega);have b3:(0:Int)<=(s.size:Int):=by omega
 clear hcap hw1 hn hl h1 h2;go_enter Tryz.func156,Tryz.ntmps156;go_wp2
 go_loopw [19] (fun v wr=>∃k:Nat,v= .int .i64 (k:Int)/\Hid (k<=n/\FB w wr (cur l k)/\∀(j:Nat) (c:UInt8),j<k->l[j]? =some c->bY c=true)) (fun v _=>n-(intOf v).toNat)
 case atStart=>exact ⟨0,rfl,hid ⟨Nat.zero_le _,by rw[show cur l 0=l from rfl,Hl.o];exact H0.o,fun j c h=>absurd h (Nat.not_lt_zero _)⟩⟩
 case round=>
  obtain ⟨k,rfl,H⟩:=hrel;have hn:n=s.size:=Hn.o;have hl:l=s.data.toList:=Hl.o;clear H0;by_cases hkn:k<n
  ·obtain ⟨c,hc⟩:∃c,l[k]? =some c:=⟨l[k]'(by rw[hl,al];omega),aAg _⟩;have hlen:k<(cur l k).length:=by rw[yu,hl,al];omega
   have x0:wr.cell? ⟨w.heap.size,k,none⟩=some (.int .u8 (c.toNat:Int)):=H.o.2.1.cell k c (xl hc);have f0:wr.frozen? ⟨w.heap.size,k,none⟩=false:=H.o.2.1.free k hlen;have b4:(k:Int)<(s.size:Int):=by omega
   have b5:(k:Int)<=64:=by omega
   have Hall:=hid (fun (hok:bY c=true)=>show ∀(j:Nat) (d:UInt8),j<k+1->l[j]? =some d->bY d=true from fun j d hj hd=>by
    by_cases e:j=k
    ·subst e;rw[hc]at hd;obtain rfl:=aAf hd;exact hok
    ·exact H.o.2.2 j d (by omega) hd)
   have Hc:=hid hc;have hcs:s.data.toList[k]? =some c:=by rw[<-hl];exact hc
   have Hbad:=hid (fun (hb:bY c=false)=>Db hcs hb H.o.2.1.below);have Hkeep:=hid (fun (hk:bO c=c)=>show FB w wr (cur l (k+1)) from by rw[uQ hc hk];exact H.o.2.1);have Hup:=hid (show FB w (wr.setCell ⟨w.heap.size,k,none⟩ (.int .u8 ((bO c).toNat:Int))) (cur l (k+1)) from by rw[px hc];exact H.o.2.1.set k _ hlen);have Hkn:=hid hkn;have hcase:(c.toNat<45)\/(c.toNat=45)\/(c.toNat=46)\/(c.toNat=47)\/(48<=c.toNat/\c.toNat<=57)\/(58<=c.toNat/\c.toNat<=64)\/(65<=c.toNat/\c.toNat<=90)\/(91<=c.toNat/\c.toNat<=96)\/(97<=c.toNat/\c.toNat<=122)\/(123<=c.toNat):=by omega
   clear hn hl hkn hc hlen H hcs;rcases hcase with h|h|h|h|h|h|h|h|h|h
   ·have e45:((c.toNat:Int)==45)=false:=bF (by omega);have e46:((c.toNat:Int)==46)=false:=bF (by omega);have p0:(c.toNat:Int)<65:=by omega
    have p1:(c.toNat:Int)<=90:=by omega
    have p2:(c.toNat:Int)<97:=by omega
    have p3:(c.toNat:Int)<=122:=by omega
    have p4:(c.toNat:Int)<48:=by omega
    have p5:(c.toNat:Int)<=57:=by omega
    have Hend:=hid (Hbad.o (by unfold bY;exact dF (by omega)));clear h Hbad Hkeep Hup Hall;go_wp2
    go_ret2
    exact Hend.o
   ·have e45:((c.toNat:Int)==45)=true:=by rw[beq_iff_eq];omega
    have e46:((c.toNat:Int)==46)=false:=bF (by omega);have p0:(c.toNat:Int)<65:=by omega
    have p1:(c.toNat:Int)<=90:=by omega
    have p2:(c.toNat:Int)<97:=by omega
    have p3:(c.toNat:Int)<=122:=by omega
    have p4:(c.toNat:Int)<48:=by omega
    have p5:(c.toNat:Int)<=57:=by omega
    have Hend:=hid (show k+1<=n/\FB w wr (cur l (k+1))/\∀(j:Nat) (d:UInt8),j<k+1->l[j]? =some d->bY d=true from ⟨Hkn.o,Hkeep.o (gT (by omega)),Hall.o (by unfold bY;exact dT (by omega))⟩);clear h Hbad Hkeep Hup Hall;go_wp2;go_roundw
    case rel=>exact ⟨k+1,by go_num,Hend⟩
    case measure=>have:=Hn.o;simp[intOf];omega
   ·have e45:((c.toNat:Int)==45)=false:=bF (by omega);have e46:((c.toNat:Int)==46)=true:=by rw[beq_iff_eq];omega
    have p0:(c.toNat:Int)<65:=by omega
    have p1:(c.toNat:Int)<=90:=by omega
    have p2:(c.toNat:Int)<97:=by omega
    have p3:(c.toNat:Int)<=122:=by omega
    have p4:(c.toNat:Int)<48:=by omega
    have p5:(c.toNat:Int)<=57:=by omega
    have Hend:=hid (show k+1<=n/\FB w wr (cur l (k+1))/\∀(j:Nat) (d:UInt8),j<k+1->l[j]? =some d->bY d=true from ⟨Hkn.o,Hkeep.o (gT (by omega)),Hall.o (by unfold bY;exact dT (by omega))⟩);clear h Hbad Hkeep Hup Hall;go_wp2;go_roundw
    case rel=>exact ⟨k+1,by go_num,Hend⟩
    case measure=>have:=Hn.o;simp[intOf];omega
   ·have e45:((c.toNat:Int)==45)=false:=bF (by omega);have e46:((c.toNat:Int)==46)=false:=bF (by omega);have p0:(c.toNat:Int)<65:=by omega
    have p1:(c.toNat:Int)<=90:=by omega
    have p2:(c.toNat:Int)<97:=by omega
    have p3:(c.toNat:Int)<=122:=by omega
    have p4:(c.toNat:Int)<48:=by omega
    have p5:(c.toNat:Int)<=57:=by omega
    have Hend:=hid (Hbad.o (by unfold bY;exact dF (by omega)));clear h Hbad Hkeep Hup Hall;go_wp2
    go_ret2
    exact Hend.o
   ·have e45:((c.toNat:Int)==45)=false:=bF (by omega);have e46:((c.toNat:Int)==46)=false:=bF (by omega);have p0:(c.toNat:Int)<65:=by omega
    have p1:(c.toNat:Int)<=90:=by omega
    have p2:(c.toNat:Int)<97:=by omega
    have p3:(c.toNat:Int)<=122:=by omega
    have p4:(48:Int)<=(c.toNat:Int):=by omega
    have p5:(c.toNat:Int)<=57:=by omega
    have Hend:=hid (show k+1<=n/\FB w wr (cur l (k+1))/\∀(j:Nat) (d:UInt8),j<k+1->l[j]? =some d->bY d=true from ⟨Hkn.o,Hkeep.o (gT (by omega)),Hall.o (by unfold bY;exact dT (by omega))⟩);clear h Hbad Hkeep Hup Hall;go_wp2;go_roundw
    case rel=>exact ⟨k+1,by go_num,Hend⟩
    case measure=>have:=Hn.o;simp[intOf];omega
   ·have e45:((c.toNat:Int)==45)=false:=bF (by omega);have e46:((c.toNat:Int)==46)=false:=bF (by omega);have p0:(c.toNat:Int)<65:=by omega
    have p1:(c.toNat:Int)<=90:=by omega
    have p2:(c.toNat:Int)<97:=by omega
    have p3:(c.toNat:Int)<=122:=by omega
    have p4:(48:Int)<=(c.toNat:Int):=by omega
    have p5:(57:Int)<(c.toNat:Int):=by omega
    have Hend:=hid (Hbad.o (by unfold bY;exact dF (by omega)));clear h Hbad Hkeep Hup Hall;go_wp2
    go_ret2
    exact Hend.o
   ·have e45:((c.toNat:Int)==45)=false:=bF (by omega);have e46:((c.toNat:Int)==46)=false:=bF (by omega);have p0:(65:Int)<=(c.toNat:Int):=by omega
    have p1:(c.toNat:Int)<=90:=by omega
    have p2:(c.toNat:Int)<97:=by omega
    have p3:(c.toNat:Int)<=122:=by omega
    have p4:(48:Int)<=(c.toNat:Int):=by omega
    have p5:(57:Int)<(c.toNat:Int):=by omega
    have hup:=um (c:=c) (by omega) (by omega);have wu:IntKind.u8.wrap ((c.toNat:Int)+32)=(c.toNat:Int)+32:=by rw[IntKind.wrap_u8];omega
    rw[hup]at Hup;have Hend:=hid (show k+1<=n/\FB w (wr.setCell ⟨w.heap.size,k,none⟩ (.int .u8 ((c.toNat:Int)+32))) (cur l (k+1))/\∀(j:Nat) (d:UInt8),j<k+1->l[j]? =some d->bY d=true from ⟨Hkn.o,Hup.o,Hall.o (by unfold bY;exact dT (by omega))⟩);clear h Hbad Hkeep Hup Hall hup;go_wp2;go_roundw
    case rel=>exact ⟨k+1,by go_num,Hend⟩
    case measure=>have:=Hn.o;simp[intOf];omega
   ·have e45:((c.toNat:Int)==45)=false:=bF (by omega);have e46:((c.toNat:Int)==46)=false:=bF (by omega);have p0:(65:Int)<=(c.toNat:Int):=by omega
    have p1:(90:Int)<(c.toNat:Int):=by omega
    have p2:(c.toNat:Int)<97:=by omega
    have p3:(c.toNat:Int)<=122:=by omega
    have p4:(48:Int)<=(c.toNat:Int):=by omega
    have p5:(57:Int)<(c.toNat:Int):=by omega
    have Hend:=hid (Hbad.o (by unfold bY;exact dF (by omega)));clear h Hbad Hkeep Hup Hall;go_wp2
    go_ret2
    exact Hend.o
   ·have e45:((c.toNat:Int)==45)=false:=bF (by omega);have e46:((c.toNat:Int)==46)=false:=bF (by omega);have p0:(65:Int)<=(c.toNat:Int):=by omega
    have p1:(90:Int)<(c.toNat:Int):=by omega
    have p2:(97:Int)<=(c.toNat:Int):=by omega
    have p3:(c.toNat:Int)<=122:=by omega
    have p4:(48:Int)<=(c.toNat:Int):=by omega
    have p5:(57:Int)<(c.toNat:Int):=by omega
    have Hend:=hid (show k+1<=n/\FB w wr (cur l (k+1))/\∀(j:Nat) (d:UInt8),j<k+1->l[j]? =some d->bY d=true from ⟨Hkn.o,Hkeep.o (gT (by omega)),Hall.o (by unfold bY;exact dT (by omega))⟩);clear h Hbad Hkeep Hup Hall;go_wp2;go_roundw
    case rel=>exact ⟨k+1,by go_num,Hend⟩
    case measure=>have:=Hn.o;simp[intOf];omega
   ·have e45:((c.toNat:Int)==45)=false:=bF (by omega);have e46:((c.toNat:Int)==46)=false:=bF (by omega);have p0:(65:Int)<=(c.toNat:Int):=by omega
    have p1:(90:Int)<(c.toNat:Int):=by omega
    have p2:(97:Int)<=(c.toNat:Int):=by omega
    have p3:(122:Int)<(c.toNat:Int):=by omega
    have p4:(48:Int)<=(c.toNat:Int):=by omega
    have p5:(57:Int)<(c.toNat:Int):=by omega
    have Hend:=hid (Hbad.o (by unfold bY;exact dF (by omega)));clear h Hbad Hkeep Hup Hall;go_wp2
    go_ret2
    exact Hend.o
  ·have hk:k=n:=by have:=H.o.1;omega
   subst hk;have b4:(s.size:Int)<=(k:Int):=by omega
   have hln:l.length=s.size:=by rw[hl,al]
   have hcur:cur l k=l.map bO:=by rw[<-yw l,hln,<-hn]
   have hfb:=H.o.2.1;rw[hcur,hl]at hfb;have hcb:=run_convert_bytes_back (P:= Tryz.prog) wr 42 9 5 ⟨w.heap.size,0,none⟩ cap (s.data.toList.map bO) Tryz.underlying42 Tryz.underlying5 Tryz.underlying9 (fun j hj=>by
    rw[Addr.add_mid,Nat.zero_add];exact hfb.cell j _ (aAg hj))
   rw[List.length_map,al]at hcb;have Hend:=hid (C9 (w:=w) (s:=s) (by omega) (by omega) (fun j c hj hc=>H.o.2.2 j c (by omega) (by rw[hl];exact hc)) hfb.below);generalize (⟨(s.data.toList.map bO).toArray⟩:ByteArray)=res at*;clear hn hl hkn H hfb hcur hln;go_wp2
   go_ret2
   exact Hend.o
theorem DO (w:World) (s:ByteArray) (hs:s.size<=40000000):Calls Tryz.prog 157 #[.string s] w fun r w'=>r= .returned (.tuple #[.string (mI s),.bool (AK s)])/\w'=w:=by
 have Hc:=hid (show Calls Tryz.prog 190 #[.string s,.string ⟨#[42]⟩] w fun e w'=>e= .returned (.tuple #[.string (mI s),.bool (AK s)])/\w'=w from Tryz.strings_CutSuffix s ⟨#[42]⟩ w (by omega));clear hs;generalize mI s=p at*;generalize AK s=b at*;go_enter Tryz.func157,Tryz.ntmps157
 go_wp2_with fail
 refine cS Hc.o ?_;clear Hc;go_wp2
 go_ret2
 exact ⟨rfl,rfl⟩
theorem zA (w:World) (s:ByteArray) (hs:s.size<=40000000):Calls Tryz.prog 121 #[.string s] w fun r w'=>r= .returned (.bool (gP s))/\w'=w:=by
 have Hb:=hid (DO w s hs);have Hp:=hid (II w (mI s));have Hv:=hid (show gP s=((AK s&&(mI s).toList==[])||jw (mI s).data.toList) from rfl);clear hs;generalize gP s=v at*;generalize jw (mI s).data.toList=pv at*;generalize mI s=p at*;generalize AK s=b at*;cases b with
 |false=>
  have hv:v=pv:=by rw[Hv.o];rfl
  subst hv;go_enter Tryz.func121,Tryz.ntmps121
  go_wp2_with fail
  refine cS Hb.o ?_;clear Hb
  go_wp2_with fail
  refine cS Hp.o ?_;clear Hp;go_wp2;go_ret;exact ⟨rfl,rfl⟩
 |true=>
  cases he:(p.toList==[]) with
  |true=>
   have t2:p.toList=[]:=by simpa using he
   have t3:p.toList.isEmpty=true:=by rw[t2];rfl
   have hv:v=true:=by rw[Hv.o,he];rfl
   subst hv;have T2:=hid t2;clear t2;go_enter Tryz.func121,Tryz.ntmps121
   go_wp2_with fail
   refine cS Hb.o ?_;clear Hb;go_wp2;go_ret;exact ⟨rfl,rfl⟩
  |false=>
   have t3:p.toList.isEmpty=false:=by
    cases hq:p.toList with
    |nil=>rw[hq]at he;cases he
    |cons a b=>rfl
   have hv:v=pv:=by rw[Hv.o,he];rfl
   subst hv;go_enter Tryz.func121,Tryz.ntmps121
   go_wp2_with fail
   refine cS Hb.o ?_;clear Hb
   go_wp2_with fail
   refine cS Hp.o ?_;clear Hp;go_wp2;go_ret;exact ⟨rfl,rfl⟩
def dM (w:World) (s:ByteArray) (r:Ending) (w':World):Prop:=r= .returned (.tuple #[.int .i64 (jz s).1,.string (jz s).2])/\Below w.heap.size w w'
theorem Je (w:World) (s:ByteArray):Calls Tryz.prog 119 #[.string s] w (dM w s):=by
 have Hh:=hid (show Calls Tryz.prog 115 #[.string s,.string ⟨#[42,46]⟩] w fun e w'=>e= .returned (.bool (Lib.hasPrefix s.data.toList [42,46]))/\w'=w from Tryz.strings_HasPrefix s ⟨#[42,46]⟩ w);cases hst:(s.toList==[42]) with
 |true=>
  have Hend:=hid (show dM w s (.returned (.tuple #[.int .i64 2,.string ⟨#[]⟩])) w from by unfold dM jz;rw[if_pos hst];exact ⟨rfl,aAb _ _⟩);clear Hh;go_enter Tryz.func119,Tryz.ntmps119;go_wp2
  go_ret2
  exact Hend.o
 |false=>
  cases hp:Lib.hasPrefix s.data.toList [42,46] with
  |true=>
   have h2:=vU hp;have b1:(2:Int)<=(s.size:Int):=by omega
   have b2:(0:Int)<=(s.size:Int):=by omega
   rw[hp]at Hh;have Hf:=hid (fun k=>Da (w.drewN k) (s.extract 2 s.size));have Hv:=hid (show jz s=kj s (s.extract 2 s.size) 1 from by unfold jz;rw[if_neg (by rw[hst];decide),if_pos hp]);cases hok:(fO (s.extract 2 s.size)).2 with
   |true=>
    have Hend:=hid (fun w2 (hb:Below w.heap.size w w2)=>show dM w s (.returned (.tuple #[.int .i64 1,.string (fO (s.extract 2 s.size)).1])) w2 from by unfold dM;rw[Hv.o];unfold kj;rw[if_pos hok];exact ⟨rfl,hb⟩);unfold eL at Hf;rw[hok]at Hf;have HT:=hid hst;generalize (fO (s.extract 2 s.size)).1=fv at*;clear hp h2 hok Hv;go_enter Tryz.func119,Tryz.ntmps119
    go_wp2_with fail
    refine cS Hh.o ?_;clear Hh
    go_wp2_with fail
    go_quiet (fail)
    go_wp2_with fail
    refine (Hf.o _).mono ?_;rintro r w2 ⟨rfl,hb⟩;have He:=hid (Hend.o w2 ((bdH (aAb _ w) _).trans hb));clear hb Hf Hend;go_wp2
    go_ret2
    exact He.o
   |false=>
    have Hend:=hid (fun w2 (hb:Below w.heap.size w w2)=>show dM w s (.returned (.tuple #[.int .i64 3,.string s])) w2 from by unfold dM;rw[Hv.o];unfold kj;rw[if_neg (by rw[hok];decide)];exact ⟨rfl,hb⟩);unfold eL at Hf;rw[hok]at Hf;have HT:=hid hst;generalize (fO (s.extract 2 s.size)).1=fv at*;clear hp h2 hok Hv;go_enter Tryz.func119,Tryz.ntmps119
    go_wp2_with fail
    refine cS Hh.o ?_;clear Hh
    go_wp2_with fail
    go_quiet (fail)
    go_wp2_with fail
    refine (Hf.o _).mono ?_;rintro r w2 ⟨rfl,hb⟩;have He:=hid (Hend.o w2 ((bdH (aAb _ w) _).trans hb));clear hb Hf Hend;go_wp2
    go_ret2
    exact He.o
  |false=>
   rw[hp]at Hh;have Hf:=hid (Da w s);have Hv:=hid (show jz s=kj s s 0 from by unfold jz;rw[if_neg (by rw[hst];decide),if_neg (by rw[hp];decide)]);cases hok:(fO s).2 with
   |true=>
    have Hend:=hid (fun w2 (hb:Below w.heap.size w w2)=>show dM w s (.returned (.tuple #[.int .i64 0,.string (fO s).1])) w2 from by unfold dM;rw[Hv.o];unfold kj;rw[if_pos hok];exact ⟨rfl,hb⟩);unfold eL at Hf;rw[hok]at Hf;have HT:=hid hst;generalize (fO s).1=fv at*;clear hp hok Hv;go_enter Tryz.func119,Tryz.ntmps119
    go_wp2_with fail
    refine cS Hh.o ?_;clear Hh
    go_wp2_with fail
    refine Hf.o.mono ?_;rintro r w2 ⟨rfl,hb⟩;have He:=hid (Hend.o w2 hb);clear hb Hf Hend;go_wp2
    go_ret2
    exact He.o
   |false=>
    have Hend:=hid (fun w2 (hb:Below w.heap.size w w2)=>show dM w s (.returned (.tuple #[.int .i64 3,.string s])) w2 from by unfold dM;rw[Hv.o];unfold kj;rw[if_neg (by rw[hok];decide)];exact ⟨rfl,hb⟩);unfold eL at Hf;rw[hok]at Hf;have HT:=hid hst;generalize (fO s).1=fv at*;clear hp hok Hv;go_enter Tryz.func119,Tryz.ntmps119
    go_wp2_with fail
    refine cS Hh.o ?_;clear Hh
    go_wp2_with fail
    refine Hf.o.mono ?_;rintro r w2 ⟨rfl,hb⟩;have He:=hid (Hend.o w2 hb);clear hb Hf Hend;go_wp2
    go_ret2
    exact He.o
theorem JB {l:List UInt8} {p:UInt8->Bool} (h:∀(j:Nat) (c:UInt8),j<l.length->l[j]? =some c->p c=true):l.all p=true:=by
 rw[List.all_eq_true];intro c hc;obtain ⟨j,hj,e⟩:=List.getElem_of_mem hc;exact h j c hj (by rw[aAg hj,e])
theorem JC {l:List UInt8} {p:UInt8->Bool} {k:Nat} {c:UInt8} (hc:l[k]? =some c) (h:p c=false):l.all p=false:=by
 rw[List.all_eq_false];exact ⟨c,List.mem_of_getElem? hc,by rw[h];decide⟩
theorem tT {s:ByteArray} {k:Nat} {c:UInt8} (hc:s.data.toList[k]? =some c) (h:pS c=false):gi s.data.toList=false:=by
 unfold gi;rw[JC hc h];rfl
theorem qO {s:ByteArray} (h:s.data.toList.all pS=true) (h2:¬(0<s.size/\s.size<=64)):gi s.data.toList=false:=by
 unfold gi;rw[h,an,dF h2];rfl
theorem Cy {s:ByteArray} (h:s.data.toList.all pS=true) (h2:0<s.size/\s.size<=64):gi s.data.toList=true:=by
 unfold gi;rw[h,an,dT h2];rfl
theorem I2 (w:World) (s:ByteArray) (hs:s.size<=1048576):
 Calls Tryz.prog 159 #[.string s] w fun r w'=>r= .returned (.bool (gi s.data.toList))/\w'=w:=by
 obtain ⟨n,hn⟩:=ex (s.size);have Hn:=hid hn;obtain ⟨l,hl⟩:=ex (s.data.toList);have Hl:=hid hl;have Hs:=hid hs;clear hn hl hs;go_enter Tryz.func159,Tryz.ntmps159;go_wp2
 go_loop [6] (fun v=>∃k:Nat,v= .int .i64 (k:Int)/\Hid (k<=n/\∀(j:Nat) (c:UInt8),j<k->l[j]? =some c->pS c=true)) (fun v=>n-(intOf v).toNat)
 case atStart=>exact ⟨0,rfl,hid ⟨Nat.zero_le _,fun j c h=>absurd h (Nat.not_lt_zero _)⟩⟩
 case round=>
  obtain ⟨k,rfl,H⟩:=hrel;have hn:n=s.size:=Hn.o;have hl:l=s.data.toList:=Hl.o;have hs:=Hs.o;by_cases hkn:k<n
  ·obtain ⟨c,hc⟩:=dL (s:=s) (by rw[<-hn];exact hkn);have hidx:=aN (s:=s) (k:Int) rfl hc;have b3:(k:Int)<(s.size:Int):=by omega
   have wk:=aW (z:=(k:Int)+1) (by omega) (by omega);have Hms:=hid (df hkn wk);have Hgo:=hid (fh wk);by_cases h1:c.toNat<65
   ·have hch:pS c=false:=dF (by omega);have g0:(c.toNat:Int)<65:=by omega
    have He:=hid (show false=gi s.data.toList from (tT hc hch).symm);clear hn hl hs hkn hc H wk hch h1;go_wp2;go_ret;exact ⟨eD He.o,rfl⟩
   have g0:(65:Int)<=(c.toNat:Int):=by omega
   by_cases h2:90<c.toNat
   ·have hch:pS c=false:=dF (by omega);have g1:(90:Int)<(c.toNat:Int):=by omega
    have He:=hid (show false=gi s.data.toList from (tT hc hch).symm);clear hn hl hs hkn hc H wk hch h1 h2;go_wp2;go_ret;exact ⟨eD He.o,rfl⟩
   have g1:(c.toNat:Int)<=90:=by omega
   have hch:pS c=true:=dT (by omega);have He:=hid (show k+1<=n/\∀(j:Nat) (c:UInt8),j<k+1->l[j]? =some c->pS c=true from ⟨hkn,fun j d hj hd=>by
    by_cases e:j=k
    ·subst e;rw[hl,hc]at hd;obtain rfl:=aAf hd;exact hch
    ·exact H.o.2 j d (by omega) hd⟩)
   clear hn hl hs hkn hc H wk hch h1 h2;go_wp2;go_round
   case rel=>exact ⟨k+1,Hgo.o,He⟩
   case measure=>exact Hms.o
  ·have b3:(s.size:Int)<=(k:Int):=by omega
   have hall:s.data.toList.all pS=true:=JB fun j c hj hc=>H.o.2 j c (by rw[an]at hj;omega) (by rw[hl];exact hc);rcases Nat.eq_zero_or_pos s.size with h0|h0
   ·have q2:(s.size:Int)<=0:=by omega
    have q3:(s.size:Int)<1:=by omega
    have He:=hid (show false=gi s.data.toList from (qO hall (by omega)).symm);clear hn hl hs hkn H hall h0;go_wp2;go_ret;exact ⟨eD He.o,rfl⟩
   ·have q2:(0:Int)<(s.size:Int):=by omega
    have q3:(1:Int)<=(s.size:Int):=by omega
    by_cases h64:s.size<=64
    ·have b4:(s.size:Int)<=64:=by omega
     have He:=hid (show true=gi s.data.toList from (Cy hall (by omega)).symm);clear hn hl hs hkn H hall h0 h64;go_wp2;go_ret;exact ⟨eD He.o,rfl⟩
    ·have b4:decide ((s.size:Int)<=64)=false:=dF (by omega);have b5:(64:Int)<(s.size:Int):=by omega
     have He:=hid (show false=gi s.data.toList from (qO hall (by omega)).symm);clear hn hl hs hkn H hall h0 h64;go_wp2;go_ret;exact ⟨eD He.o,rfl⟩
theorem zy (w:World) (s:ByteArray) (hs:s.size<=1048576):
 Calls Tryz.prog 122 #[.string s] w fun r w'=>r= .returned (.bool (fm s))/\w'=w:=by
 have Hm:=hid (I2 w s hs);have hv:fm s=((s.toList==[42])||gi s.data.toList):=rfl;rw[hv];clear hs hv;cases h:(s.toList==[42]) with
 |true=>
  clear Hm;go_enter Tryz.func122,Tryz.ntmps122;go_wp2;go_ret;exact ⟨rfl,rfl⟩
 |false=>
  generalize gi s.data.toList=m at*;go_enter Tryz.func122,Tryz.ntmps122
  go_wp2_with fail
  refine Hm.o.mono ?_;rintro r w1 ⟨rfl,rfl⟩;clear Hm;go_wp2;go_ret;exact ⟨rfl,rfl⟩
theorem EV (w:World) (s:ByteArray):
 Calls Tryz.prog 83 #[.string s] w fun r w'=>r= .returned (.bool (iL s))/\Below w.heap.size w w':=by
 have Hh:=hid (Je w s);unfold dM at Hh;have hv:iL s=decide ((jz s).1≠3):=rfl;rw[hv];clear hv;obtain ⟨z,hz⟩:=ex ((jz s).1);rw[<-hz]at Hh |-;clear hz;by_cases h3:z=3
 ·have t1:(z==3)=true:=by rw[beq_iff_eq];exact h3
  have He:=hid (show false=decide (z≠3) from (dF (fun q=>q h3)).symm);have p3:z=3:=h3;clear h3;go_enter Tryz.func83,Tryz.ntmps83
  go_wp2_with fail
  refine Hh.o.mono ?_;rintro r w1 ⟨rfl,hb⟩;have Hb:=hid hb;have HE:=hid p3;clear hb Hh p3;go_wp2;go_ret;exact ⟨eD (by rw[<-He.o];first|rfl|(rw[HE.o];rfl)|simp[HE.o]),Hb.o⟩
 ·have t1:(z==3)=false:=by rw[beq_eq_false_iff_ne];exact h3
  have He:=hid (show true=decide (z≠3) from (dT h3).symm);clear h3;go_enter Tryz.func83,Tryz.ntmps83
  go_wp2_with fail
  refine Hh.o.mono ?_;rintro r w1 ⟨rfl,hb⟩;have Hb:=hid hb;clear hb Hh;go_wp2;go_ret;exact ⟨eD (by rw[<-He.o];first|rfl|(simp;exact beq_eq_false_iff_ne.1 t1)),Hb.o⟩
theorem C8 (w:World) (s:ByteArray) (hs:s.size<=1048576):Calls Tryz.prog 82 #[.string s] w fun r w'=>r= .returned (.string (yj s))/\Below w.heap.size w w':=by
 have hcv:=Lib.run_convert_string_bytes (P:= Tryz.prog) w 9 42 5 s Tryz.underlying9 Tryz.underlying42 Tryz.underlying5;obtain ⟨cap,hcap⟩:=ex (grownCap w s.size 0 5);obtain ⟨w1,hw1⟩:=ex (Lib.bytesWorld w 5 s);have H0:=hid (FB.first w s);rw[<-hcap,<-hw1]at hcv;rw[<-hw1]at H0;obtain ⟨n,hn⟩:=ex (s.size);have Hn:=hid hn;obtain ⟨l,hl⟩:=ex (s.data.toList)
 have Hl:=hid hl;have Hs:=hid (show n<=1048576 by omega);have hv:yj s=⟨(s.data.toList.map bO).toArray⟩:=rfl;rw[hv];have b3:(0:Int)<=(s.size:Int):=by omega
 clear hcap hw1 hn hl hs hv;go_enter Tryz.func82,Tryz.ntmps82;go_wp2
 go_loopw [10] (fun v wr=>∃k:Nat,v= .int .i64 (k:Int)/\Hid (k<=n/\FB w wr (cur l k))) (fun v _=>n-(intOf v).toNat)
 case atStart=>exact ⟨0,rfl,hid ⟨Nat.zero_le _,by rw[show cur l 0=l from rfl,Hl.o];exact H0.o⟩⟩
 case round=>
  obtain ⟨k,rfl,H⟩:=hrel;have hn:n=s.size:=Hn.o;have hl:l=s.data.toList:=Hl.o;clear H0;by_cases hkn:k<n
  ·obtain ⟨c,hc⟩:∃c,l[k]? =some c:=⟨l[k]'(by rw[hl,al];omega),aAg _⟩;have hlen:k<(cur l k).length:=by rw[yu,hl,al];omega
   have x0:wr.cell? ⟨w.heap.size,k,none⟩=some (.int .u8 (c.toNat:Int)):=H.o.2.cell k c (xl hc);have f0:wr.frozen? ⟨w.heap.size,k,none⟩=false:=H.o.2.free k hlen;have b4:(k:Int)<(s.size:Int):=by omega
   obtain ⟨Hms,Hgo⟩:=aM (k:=k) (n:=n) hkn (by have:=Hs.o;omega);have hcl:=c.toNat_lt;by_cases h1:65<=c.toNat/\c.toNat<=90
   ·have p0:(65:Int)<=(c.toNat:Int):=by omega
    have p1:(c.toNat:Int)<=90:=by omega
    have wu:IntKind.u8.wrap ((c.toNat:Int)+97)=(c.toNat:Int)+97:=by rw[IntKind.wrap_u8];omega
    have wv:IntKind.u8.wrap ((c.toNat:Int)+97-65)=(c.toNat:Int)+97-65:=by rw[IntKind.wrap_u8];omega
    have hup:=um (c:=c) h1.1 h1.2;have Hend:=hid (show k+1<=n/\FB w (wr.setCell ⟨w.heap.size,k,none⟩ (.int .u8 ((c.toNat:Int)+97-65))) (cur l (k+1)) from ⟨hkn,by
     rw[px hc,show (c.toNat:Int)+97-65=((bO c).toNat:Int) by rw[hup];omega];exact H.o.2.set k _ hlen⟩)
    clear hn hl hc hlen H hkn hcl h1 hup;go_wp2;go_roundw
    case rel=>exact ⟨k+1,Hgo.o,Hend⟩
    case measure=>exact Hms.o
   ·have Hend:=hid (show k+1<=n/\FB w wr (cur l (k+1)) from ⟨hkn,by rw[uQ hc (gT h1)];exact H.o.2⟩);by_cases h2:65<=c.toNat
    ·have p0:(65:Int)<=(c.toNat:Int):=by omega
     have p1:decide ((c.toNat:Int)<=90)=false:=dF (by omega);clear hn hl hc hlen H hkn hcl h1 h2;go_wp2;go_roundw
     case rel=>exact ⟨k+1,Hgo.o,Hend⟩
     case measure=>exact Hms.o
    ·have p0:(c.toNat:Int)<65:=by omega
     clear hn hl hc hlen H hkn hcl h1 h2;go_wp2;go_roundw
     case rel=>exact ⟨k+1,Hgo.o,Hend⟩
     case measure=>exact Hms.o
  ·have hk:k=n:=by have:=H.o.1;omega
   subst hk;have b4:(s.size:Int)<=(k:Int):=by omega
   have hln:l.length=s.size:=by rw[hl,al]
   have hcur:cur l k=l.map bO:=by rw[<-yw l,hln,<-hn]
   have hfb:=H.o.2;rw[hcur,hl]at hfb;have hcb:=run_convert_bytes_back (P:= Tryz.prog) wr 42 9 5 ⟨w.heap.size,0,none⟩ cap (s.data.toList.map bO) Tryz.underlying42 Tryz.underlying5 Tryz.underlying9 (fun j hj=>by
    rw[Addr.add_mid,Nat.zero_add];exact hfb.cell j _ (aAg hj))
   rw[List.length_map,al]at hcb;have Hb:=hid hfb.below;clear H hkn hcur hfb hln hn hl;go_wp2;go_ret;exact ⟨rfl,Hb.o⟩
