/-
Parts of a proof.
-/
import Derived.Test.YtfenoaeoedobmaaGreatDoorChecked
import Derived.Shelf.Strings.Search1
import Derived.Shelf.Strings.Search2
import Derived.Shelf.Strings.Search3
import Derived.Shelf.Small.Strs
import Derived.Shelf.Small.Wraps
import Derived.Shelf.Strings.Repeat
import Derived.Shelf.Slices.Turned
import Derived.Shelf.Slices.Equal
import Derived.Shelf.Slices.Empties2
import Derived.Shelf.LaysM
import Derived.Outline
import Derived.Deep.Cut
import Derived.Deep.RegionHeld3
import Derived.Lib.Strings
import Derived.Test.YtfenoaeoedobmaaGreatDoorOw02
import Derived.Test.YtfenoaeoedobmaaGreatDoorOw03
set_option linter.unusedVariables false
set_option linter.unusedSimpArgs false
set_option maxHeartbeats 2000000
namespace Go.Proofs
open Go.Shelf Go.RowKit Go.Sort Go.Lib
def Tryz.lays137_ren:Go.Shelf.Ren:=⟨fun|137=>177|217=>197|266=>217|n=>n,fun|9=>9|5=>5|3=>3|n=>n,fun|n=>n⟩
theorem Tryz.lays137:Go.Proofs.Lays.n137 Tryz.prog Tryz.lays137_ren:=by repeat' first|kernel_rfl|(intros;kernel_rfl)|exact fun _=>rfl|decide|constructor
theorem Tryz.strings_IndexByte (s:ByteArray) (c:Int) (w:World):
 Calls Tryz.prog 177 #[.string s,.int .u8 c] w fun e w'=>e= .returned (.int .i64 (Lib.indexByte s.data.toList c.toNat.toUInt8))/\w'=w:=Any.strings_IndexByte Tryz.lays137 s c w
def Tryz.lays104_ren:Go.Shelf.Ren:=⟨fun|104=>190|211=>214|207=>199|n=>n,fun|9=>9|4=>4|24=>197|3=>3|n=>n,fun|n=>n⟩
theorem Tryz.lays104:Go.Proofs.Lays.n104 Tryz.prog Tryz.lays104_ren:=by repeat' first|kernel_rfl|(intros;kernel_rfl)|exact fun _=>rfl|decide|constructor
theorem Tryz.strings_CutSuffix (s p:ByteArray) (w:World) (hs:s.size<=9223372036854775807):
 Calls Tryz.prog 190 #[.string s,.string p] w fun e w'=>e= .returned (.tuple #[.string ⟨(Lib.trimSuffix s.data.toList p.data.toList).toArray⟩,.bool (Lib.hasSuffix s.data.toList p.data.toList)])/\w'=w:=Any.strings_CutSuffix Tryz.lays104 s p w hs
def Tryz.lays143_ren:Go.Shelf.Ren:=⟨fun|143=>178|219=>198|217=>197|225=>218|224=>175|267=>219|266=>217|314=>230|n=>n,fun|9=>9|3=>3|4=>4|5=>5|46=>205|146=>229|51=>228|n=>n,fun|1=>1|n=>n⟩
theorem Tryz.lays143:Go.Proofs.Lays.n143 Tryz.prog Tryz.lays143_ren:=by repeat' first|kernel_rfl|(intros;kernel_rfl)|exact fun _=>rfl|decide|constructor
theorem Tryz.strings_Index (s sub:ByteArray) (m:Int) (w:World) (hs:s.size<4294967281) (hm:w.cell? ⟨1,0,none⟩=some (.int .i64 m)):
 Calls Tryz.prog 178 #[.string s,.string sub] w fun e w'=>e= .returned (.int .i64 (Lib.index s.data.toList sub.data.toList))/\w'=w:=Any.strings_Index Tryz.lays143 s sub m w hs hm
def Tryz.lays144_ren:Go.Shelf.Ren:=⟨fun|144=>179|143=>178|219=>198|217=>197|225=>218|224=>175|267=>219|266=>217|314=>230|n=>n,fun|9=>9|4=>4|3=>3|5=>5|46=>205|146=>229|51=>228|n=>n,fun|1=>1|n=>n⟩
theorem Tryz.lays144:Go.Proofs.Lays.n144 Tryz.prog Tryz.lays144_ren:=by repeat' first|kernel_rfl|(intros;kernel_rfl)|exact fun _=>rfl|decide|constructor
theorem Tryz.strings_Contains (s sub:ByteArray) (m:Int) (w:World) (hs:s.size<4294967281) (hm:w.cell? ⟨1,0,none⟩=some (.int .i64 m)):
 Calls Tryz.prog 179 #[.string s,.string sub] w fun e w'=>e= .returned (.bool (Lib.contains s.data.toList sub.data.toList))/\w'=w:=Any.strings_Contains Tryz.lays144 s sub m w hs hm
def Tryz.lays100_ren:Go.Shelf.Ren:=⟨fun|100=>180|207=>199|n=>n,fun|9=>9|4=>4|3=>3|n=>n,fun|n=>n⟩
theorem Tryz.lays100:Go.Proofs.Lays.n100 Tryz.prog Tryz.lays100_ren:=by repeat' first|kernel_rfl|(intros;kernel_rfl)|exact fun _=>rfl|decide|constructor
theorem Tryz.strings_HasSuffix (s p:ByteArray) (w:World) (hs:s.size<=9223372036854775807):
 Calls Tryz.prog 180 #[.string s,.string p] w fun e w'=>e= .returned (.bool (Lib.hasSuffix s.data.toList p.data.toList))/\w'=w:=Any.strings_HasSuffix Tryz.lays100 s p w hs
def Tryz.lays105_ren:Go.Shelf.Ren:=⟨fun|105=>98|212=>135|99=>115|165=>100|166=>101|170=>136|169=>102|263=>168|264=>169|206=>153|240=>137|241=>138|276=>170|277=>171|n=>n,fun|9=>9|3=>3|4=>4|20=>20|0=>0|46=>205|109=>206|5=>5|72=>161|76=>165|51=>228|146=>229|53=>184|148=>231|70=>159|37=>42|75=>164|127=>209|164=>233|80=>167|n=>n,fun|n=>n⟩
theorem Tryz.lays105:Go.Proofs.Lays.n105 Tryz.prog Tryz.lays105_ren:=by repeat' first|kernel_rfl|(intros;kernel_rfl)|exact fun _=>rfl|decide|constructor
theorem Tryz.Builder_Extra_105:Builder.Extra Tryz.prog Tryz.lays105_ren:=by repeat' first|kernel_rfl|(intros;kernel_rfl)|exact fun _=>rfl|decide|constructor
theorem Tryz.strings_Repeat (s:ByteArray) (c:Nat) (w:World) (hc:c<=9223372036854775807) (hlen:s.size*c<=140737488355328):
 Calls Tryz.prog 98 #[.string s,.int .i64 c] w fun e w'=>e= .returned (.string ⟨(Lib.repeatL s.data.toList c).toArray⟩)/\Below w.heap.size w w':=Any.strings_Repeat Tryz.lays105 Tryz.Builder_Extra_105 s c w hc hlen
def Tryz.lays109_ren:Go.Shelf.Ren:=⟨fun|109=>39|n=>n,fun|31=>45|9=>9|3=>3|0=>0|4=>4|n=>n,fun|n=>n⟩
theorem Tryz.lays109:Go.Proofs.Lays.n109 Tryz.prog Tryz.lays109_ren:=by repeat' first|kernel_rfl|(intros;kernel_rfl)|exact fun _=>rfl|decide|constructor
theorem Tryz.slices_Index_string (b off n c:Nat) (zs:List ByteArray) (x:ByteArray) (w:World) (hz:n<=zs.length) (hbig:n<=9223372036854775807) (hc:∀j,j<zs.length->w.cell? ⟨b,off+j,none⟩=some (.string (zs.getD j ByteArray.empty))):
 Calls Tryz.prog 39 #[.slice (some ⟨b,off,none⟩) n c,.string x] w fun e w'=>e= .returned (.int .i64 (Lib.idxOfS (zs.take n) x))/\w'=w:=Any.slices_Index_string Tryz.lays109 b off n c zs x w hz hbig hc
def Tryz.lays110_ren:Go.Shelf.Ren:=⟨fun|110=>79|109=>39|n=>n,fun|31=>45|9=>9|4=>4|3=>3|0=>0|n=>n,fun|n=>n⟩
theorem Tryz.lays110:Go.Proofs.Lays.n110 Tryz.prog Tryz.lays110_ren:=by repeat' first|kernel_rfl|(intros;kernel_rfl)|exact fun _=>rfl|decide|constructor
theorem Tryz.slices_Contains_string (b off n c:Nat) (zs:List ByteArray) (x:ByteArray) (w:World) (hz:n<=zs.length) (hbig:n<=9223372036854775807) (hc:∀j,j<zs.length->w.cell? ⟨b,off+j,none⟩=some (.string (zs.getD j ByteArray.empty))):
 Calls Tryz.prog 79 #[.slice (some ⟨b,off,none⟩) n c,.string x] w fun e w'=>e= .returned (.bool (Lib.containsS (zs.take n) x))/\w'=w:=Any.slices_Contains_string Tryz.lays110 b off n c zs x w hz hbig hc
theorem Tryz.slices_Contains_string_empty (a:Option Addr) (c:Nat) (x:ByteArray) (w:World):
 Calls Tryz.prog 79 #[.slice a 0 c,.string x] w fun e w'=>e= .returned (.bool false)/\w'=w:=Any.slices_Contains_string_empty Tryz.lays110 a c x w
def Tryz.lays111_ren:Go.Shelf.Ren:=⟨fun|111=>33|n=>n,fun|28=>53|3=>3|4=>4|0=>0|n=>n,fun|n=>n⟩
theorem Tryz.lays111:Go.Proofs.Lays.n111 Tryz.prog Tryz.lays111_ren:=by repeat' first|kernel_rfl|(intros;kernel_rfl)|exact fun _=>rfl|decide|constructor
theorem Tryz.slices_Equal_int (b1 o1 n c b2 o2 m d:Nat) (xs ys:List Int) (w:World) (hx:n<=xs.length) (hy:m<=ys.length) (hbig:n<=9223372036854775807) (hbig2:m<=9223372036854775807) (hc1:∀j,j<xs.length->w.cell? ⟨b1,o1+j,none⟩=some (.int .i64 (xs.getD j 0))) (hc2:∀j,j<ys.length->w.cell? ⟨b2,o2+j,none⟩=some (.int .i64 (ys.getD j 0))):
 Calls Tryz.prog 33 #[.slice (some ⟨b1,o1,none⟩) n c,.slice (some ⟨b2,o2,none⟩) m d] w fun e w'=>e= .returned (.bool (xs.take n==ys.take m))/\∃q,w'=w.drewN q:=Any.slices_Equal_int Tryz.lays111 b1 o1 n c b2 o2 m d xs ys w hx hy hbig hbig2 hc1 hc2
theorem Tryz.slices_Equal_int_empty (a1 a2:Option Addr) (c m d:Nat) (w:World) (hbig2:m<=9223372036854775807):
 Calls Tryz.prog 33 #[.slice a1 0 c,.slice a2 m d] w fun e w'=>e= .returned (.bool (decide (m=0)))/\w'=w:=Any.slices_Equal_int_empty Tryz.lays111 a1 a2 c m d w hbig2
end Go.Proofs
namespace Go.Proofs.YtfenoaeoedobmaaGreatDoor
open Go Go.RowKit
theorem an (s:ByteArray):s.data.toList.length=s.size:=by rw[Array.length_toList];rfl
theorem lB {s:ByteArray} {k:Nat} {c:UInt8} (kd:IntKind) (h:s.data.toList[k]? =some c):∀w,(Instr.index 9 (.string s) (.int kd (k:Int))).run Tryz.prog w= .ok (.int .u8 (c.toNat:Int)) w:=by
 intro w;obtain ⟨hk,he⟩:=aAh h;have hk2:k<s.size:=by rw[<-ByteArray.size_data,<-Array.length_toList];exact hk
 rw[run_index_string w _ s kd _ Tryz.underlying9,dif_pos ⟨by omega,by omega⟩];have e:s[(k:Int).toNat]'(by omega)=c:=by
  rw[<-he];rfl
 rw[e]
theorem aN {s:ByteArray} {k:Nat} {c:UInt8} (z:Int) (hz:z=(k:Int)) (h:s.data.toList[k]? =some c):∀w,(Instr.index 9 (.string s) (.int .i64 z)).run Tryz.prog w= .ok (.int .u8 (c.toNat:Int)) w:=by
 subst hz;exact lB .i64 h
theorem df {n k:Nat} (h:k<n) (hw:wrap64 ((k:Int)+1)=(k:Int)+1):n-(intOf (.int .i64 (wrap64 ((k:Int)+1)))).toNat<n-(intOf (.int .i64 (k:Int))).toNat:=by
 rw[hw]
 show n-((k:Int)+1).toNat<n-(k:Int).toNat
 omega
theorem fh {k:Nat} (hw:wrap64 ((k:Int)+1)=(k:Int)+1):Value.int .i64 (wrap64 ((k:Int)+1))= .int .i64 ((k+1:Nat):Int):=by
 rw[hw,Int.natCast_add];rfl
theorem bdH {B:Nat} {a w:World} (h:Below B a w) (n:Nat):Below B a (w.drewN n):=⟨h.os,h.tape,h.output,h.size,h.block⟩
theorem oz {k:IntKind} {a b:Int} (h:a=b):Ending.returned (.int k a)= .returned (.int k b):=by rw[h]
theorem eD {a b:Bool} (h:a=b):Ending.returned (.bool a)= .returned (.bool b):=by rw[h]
theorem dL {s:ByteArray} {k:Nat} (h:k<s.size):∃c,s.data.toList[k]? =some c:=au (by rw[an];exact h)
theorem aW {z:Int} (h1: -9223372036854775808<=z) (h2:z<=9223372036854775807):wrap64 z=z:=by unfold wrap64;omega
theorem cL {w w':World} {base e size n:Nat} {v:Value} {xs:List Value} (h:w.ownsRow base e size v n xs)
 (hk:∀g,v.ownBlock=some g->w'.heap[g]? =w.heap[g]?):w'.ownsRow base e size v n xs:=by
 refine ⟨h.1,?_⟩;rcases h.2 with hn|⟨g,cap,cur,rfl,hb,hgg,rest⟩
 ·exact .inl hn
 ·exact .inr ⟨g,cap,cur,rfl,hb,(hk g (by simp[Value.ownBlock])).trans hgg,rest⟩
theorem jS {w w':World} {b e z n:Nat} {v:Value} {xs:List Value} (h:w.ownsRow b e z v n xs) (hb:Below w.heap.size w w'):w'.ownsRow b e z v n xs:=
 cL h fun g hg=>hb.block g (h.lt g hg).2
structure Glob (w:World):Prop where
 max:∃m,w.cell? ⟨1,0,none⟩=some (.int .i64 m)
 rng:∃ev,w.cell? ⟨4,0,none⟩=some ev/\(ev= .nilIface\/∃te pe,ev= .iface te pe)
theorem Glob.later {w w2:World} (h:Glob w) (hb:Below w.heap.size w w2):Glob w2:=by
 obtain ⟨⟨m,h0⟩,⟨e3,h3,g3⟩⟩:=h;exact ⟨⟨m,(hb.cell (World.block_lt_of_cell? w _ h0)).trans h0⟩,⟨e3,(hb.cell (World.block_lt_of_cell? w _ h3)).trans h3,g3⟩⟩
theorem lK (w:World) (s:ByteArray) (i:Nat) (hs:s.size<=1048576) (hi:i<=s.size):
 Calls Tryz.prog 141 #[.string s,.int .i64 (i:Int)] w fun r w'=>r= .returned (.int .i64 ((i+aT (s.data.toList.drop i):Nat):Int))/\w'=w:=by
 obtain ⟨n,hn⟩:=ex (s.size);have Hn:=hid hn;obtain ⟨l,hl⟩:=ex (s.data.toList);have Hl:=hid hl;have Hs:=hid hs;have Hi:=hid hi;rw[<-hl];clear hn hl hs hi;go_enter Tryz.func141,Tryz.ntmps141;go_wp2
 go_loop [1] (fun v=>∃k:Nat,v= .int .i64 (k:Int)/\Hid (k<=n/\i+aT (l.drop i)=k+aT (l.drop k))) (fun v=>n-(intOf v).toNat)
 case atStart=>exact ⟨i,rfl,hid ⟨by rw[Hn.o];exact Hi.o,rfl⟩⟩
 case round=>
  obtain ⟨k,rfl,H⟩:=hrel;have hn:n=s.size:=Hn.o;have hl:l=s.data.toList:=Hl.o;have hs:=Hs.o;by_cases hkn:k<n
  ·obtain ⟨c,hc⟩:=dL (s:=s) (by rw[<-hn];exact hkn);have hidx:=aN (s:=s) (k:Int) rfl hc;have b3:(k:Int)<(s.size:Int):=by omega
   have wk:=aW (z:=(k:Int)+1) (by omega) (by omega);have Hms:=hid (df hkn wk);have Hgo:=hid (fh wk);by_cases h32:c.toNat=32
   ·have t1:((c.toNat:Int)==32)=true:=by rw[beq_iff_eq];omega
    have He:=hid (show k+1<=n/\i+aT (l.drop i)=k+1+aT (l.drop (k+1)) from ⟨hkn,by rw[H.o.2,Ey (by rw[hl];exact hc) h32];omega⟩);clear hn hl hs hkn hc h32 H wk;go_wp2;go_round
    case rel=>exact ⟨k+1,Hgo.o,He⟩
    case measure=>exact Hms.o
   ·have t1:((c.toNat:Int)==32)=false:=bF (by omega);have He:=hid (show k=i+aT (l.drop i) by rw[H.o.2,Ex (by rw[hl];exact hc) h32];omega);clear hn hl hs hkn hc h32 H wk;go_wp2;go_ret;exact ⟨oz (by have:=He.o;omega),rfl⟩
  ·have b3:(s.size:Int)<=(k:Int):=by omega
   have He:=hid (show k=i+aT (l.drop i) by rw[H.o.2,Bh (by rw[hl,an];omega)];omega);clear hn hl hs hkn H;go_wp2;go_ret;exact ⟨oz (by have:=He.o;omega),rfl⟩
theorem me (w:World) (s:ByteArray) (i:Nat) (hi:i<=s.size):
 Calls Tryz.prog 142 #[.string s,.int .i64 (i:Int)] w fun r w'=>r= .returned (.bool (bP (s.data.toList.drop i)))/\w'=w:=by
 rcases Nat.lt_or_ge i s.size with hlt|hge
 ·obtain ⟨c,hc⟩:=dL hlt;have hidx:=aN (s:=s) (i:Int) rfl hc;have t0:((i:Int)==(s.size:Int))=false:=bF (by omega);have He:=hid (show ((c.toNat:Int)==35)=bP (s.data.toList.drop i) by rw[nS hc];by_cases h:c.toNat=35<;>simp[h];omega);clear hi hlt hc;go_enter Tryz.func142,Tryz.ntmps142;go_wp2;go_ret;exact ⟨eD He.o,rfl⟩
 ·have t0:((i:Int)==(s.size:Int))=true:=by rw[beq_iff_eq];omega
  have He:=hid (show true=bP (s.data.toList.drop i) by rw[jx (by rw[an];omega)]);clear hi hge;go_enter Tryz.func142,Tryz.ntmps142;go_wp2;go_ret;exact ⟨eD He.o,rfl⟩
def jf (ns:List Nd) (i k:Nat):List Nat:=
 (List.range i).flatMap fun j=>((ns[j]!).kids.filter fun x=>decide (x=(k:Int))).map fun _=>j
theorem oF (ns:List Nd) (k:Nat):kE ns k=jf ns k k:=rfl
theorem jT (ns:List Nd) (i k:Nat):jf ns (i+1) k=jf ns i k++((ns[i]!).kids.filter fun x=>decide (x=(k:Int))).map fun _=>i:=by
 unfold jf;rw[List.range_succ,List.flatMap_append];simp
theorem EX {ns:List Nd} {i k p:Nat} (h:p∈jf ns i k):p<i:=by
 unfold jf at h;obtain ⟨j,hj,hp⟩:=List.mem_flatMap.1 h;obtain ⟨_,_,rfl⟩:=List.mem_map.1 hp;exact List.mem_range.1 hj
theorem qJ (ns:List Nd) (k:Nat):∀(m i:Nat),∃r,jf ns (i+m) k=jf ns i k++r
 |0,i=>⟨[],by simp⟩
 |m+1,i=>by
  obtain ⟨r,hr⟩:=qJ ns k m i;refine ⟨r++((ns[i+m]!).kids.filter fun x=>decide (x=(k:Int))).map fun _=>i+m,?_⟩;rw[<-Nat.add_assoc,jT,hr,List.append_assoc]
theorem fq {ns:List Nd} {kind:Int}:∀{l:List Int} {last:Int} {had:List ByteArray},dw ns kind l last had=true->
 (∀x∈l,last<x/\x<(ns.length:Int))/\l.Pairwise (· <·)
 |[],_,_,_=>⟨(fun _ h=>nomatch h),List.Pairwise.nil⟩
 |k::r,last,had,h=>by
  unfold dw at h
  split at h
  ·cases h
  ·rename_i h1
   split at h
   ·cases h
   ·obtain ⟨h3,h4⟩:=fq h;have h5:last<k/\k<(ns.length:Int):=by omega
    refine ⟨fun x hx=> ?_,List.Pairwise.cons (fun x hx=>(h3 x hx).1) h4⟩;rcases List.mem_cons.1 hx with rfl|hx
    ·exact h5
    ·have:=h3 x hx;omega
theorem Bj (d:List Nat) (a b v:Nat) (h:a≠b):(d.set a v)[b]! =d[b]! :=by
 simp[List.getElem!_eq_getElem?_getD,List.getElem?_set,h]
theorem Bi (d:List Nat) (a v:Nat) (h:a<d.length):(d.set a v)[a]! =v:=by
 simp[List.getElem!_eq_getElem?_getD,List.getElem?_set,h]
def iW (v:Nat) (l:List Int) (d:List Nat):List Nat:=l.foldl (fun d x=>d.set x.toNat v) d
theorem ky (v:Nat):∀(l:List Int) (d:List Nat),(iW v l d).length=d.length
 |[],d=>rfl
 |x::r,d=>by
  show (iW v r (d.set x.toNat v)).length=_
  rw[ky v r,List.length_set]
theorem gM (v:Nat) (k:Nat):∀(l:List Int) (d:List Nat),(∀x∈l,x.toNat≠k)->(iW v l d)[k]! =d[k]!
 |[],d,_=>rfl
 |x::r,d,h=>by
  show (iW v r (d.set x.toNat v))[k]! =_
  rw[gM v k r _ fun y hy=>h y (List.mem_cons_of_mem _ hy),Bj _ _ _ _ (h x (List.mem_cons_self ..))]
theorem lV (v:Nat) (k:Nat):∀(l:List Int) (d:List Nat),k<d.length->(∃x∈l,x.toNat=k)->(iW v l d)[k]! =v
 |[],d,_,⟨x,hx,_⟩=>nomatch hx
 |x::r,d,hk,h=>by
  show (iW v r (d.set x.toNat v))[k]! =_
  by_cases hr:∃y∈r,y.toNat=k
  ·exact lV v k r _ (by rw[List.length_set];exact hk) hr
  ·rw[gM v k r _ fun y hy he=>hr ⟨y,hy,he⟩];obtain ⟨y,hy,he⟩:=h;rcases List.mem_cons.1 hy with rfl|hy
   ·rw[he];exact Bi _ _ _ hk
   ·exact absurd ⟨y,hy,he⟩ hr
theorem oY {ns:List Nd} {kind:Int} {deep:Nat}:∀(l:List Int) (last:Int) (had:List ByteArray) (d:List Nat),0<=last->
 ((dw ns kind l last had=true/\∀x∈l,d[x.toNat]! =0)->cN ns kind deep l last had d=some (iW (deep+1) l d))/\
 (¬(dw ns kind l last had=true/\∀x∈l,d[x.toNat]! =0)->cN ns kind deep l last had d=none)
 |[],last,had,d,_=>⟨fun _=>rfl,fun h=>absurd ⟨rfl,fun _ hx=>nomatch hx⟩ h⟩
 |k::r,last,had,d,h0=>by
  by_cases h1:k<=last\/(ns.length:Int)<=k
  ·have e1:dw ns kind (k::r) last had=false:=by unfold dw;rw[if_pos h1]
   have e2:cN ns kind deep (k::r) last had d=none:=by
    unfold cN;rw[if_pos (by rcases h1 with h|h;exact .inl h;exact .inr (.inl h))]
   exact ⟨fun h=>absurd h.1 (by rw[e1];simp),fun _=>e2⟩
  ·by_cases h2:d[k.toNat]! ≠0
   ·have e2:cN ns kind deep (k::r) last had d=none:=by
     unfold cN;rw[if_pos (.inr (.inr h2))]
    exact ⟨fun h=>absurd (h.2 k (List.mem_cons_self ..)) h2,fun _=>e2⟩
   ·have h3:¬(k<=last\/(ns.length:Int)<=k\/d[k.toNat]! ≠0):=fun h=>by
     rcases h with h|h|h
     ·exact h1 (.inl h)
     ·exact h1 (.inr h)
     ·exact h2 h
    by_cases h4:g8 kind (ns[k.toNat]!).key had=false
    ·have e1:dw ns kind (k::r) last had=false:=by unfold dw;rw[if_neg h1,if_pos h4]
     have e2:cN ns kind deep (k::r) last had d=none:=by unfold cN;rw[if_neg h3,if_pos h4]
     exact ⟨fun h=>absurd h.1 (by rw[e1];simp),fun _=>e2⟩
    ·have e1:dw ns kind (k::r) last had=dw ns kind r k ((ns[k.toNat]!).key::had):=by rw[dw,if_neg h1,if_neg h4]
     have e2:cN ns kind deep (k::r) last had d=cN ns kind deep r k ((ns[k.toNat]!).key::had) (d.set k.toNat (deep+1)):=by rw[cN,if_neg h3,if_neg h4]
     have hk0:0<=k:=by omega
     obtain ⟨i1,i2⟩:=oY (ns:=ns) (kind:=kind) (deep:=deep) r k ((ns[k.toNat]!).key::had) (d.set k.toNat (deep+1)) hk0;have he:dw ns kind r k ((ns[k.toNat]!).key::had)=true->∀x∈r,(d.set k.toNat (deep+1))[x.toNat]! =d[x.toNat]! :=fun h x hx=>by
      have:=(fq h).1 x hx;exact Bj _ _ _ _ (by omega)
     rw[e1,e2];refine ⟨fun h=> ?_,fun h=>i2 fun hh=>h ⟨hh.1,fun x hx=> ?_⟩⟩
     ·rw[i1 ⟨h.1,fun x hx=>by rw[he h.1 x hx];exact h.2 x (List.mem_cons_of_mem _ hx)⟩];rfl
     ·rcases List.mem_cons.1 hx with rfl|hx
      ·exact Decidable.not_not.1 h2
      ·rw[<-he hh.1 x hx];exact hh.2 x hx
def dep (ns:List Nd) (k:Nat):Nat:=
 if k=0 then 1
 else
  match kE ns k with
  |[p]=>if h:p<k then dep ns p+1 else 0
  |_=>0
termination_by k
decreasing_by exact h
theorem DA (ns:List Nd):dep ns 0=1:=by rw[dep,if_pos rfl]
theorem yq {ns:List Nd} {k p:Nat} (hk:1<=k) (h:kE ns k=[p]):dep ns k=dep ns p+1:=by
 have hp:p<k:=EX (i:=k) (k:=k) (ns:=ns) (by rw[<-oF,h];exact List.mem_cons_self ..);rw[dep,if_neg (by omega),h];simp only;rw[dif_pos hp]
structure Good (ns:List Nd):Prop where
 node:∀j,j<ns.length->jd ns j (ns[j]!)=true
 one:∀j,1<=j->j<ns.length->∃p,kE ns j=[p]
 deep:∀j,j<ns.length->dep ns j<=16
structure TInv (ns:List Nd) (i:Nat) (d:List Nat):Prop where
 len:d.length=ns.length
 zero:d[0]! =1
 had:∀k p,1<=k->k<ns.length->jf ns i k=[p]->d[k]! =dep ns p+1
 nil:∀k,1<=k->k<ns.length->jf ns i k=[]->d[k]! =0
 few:∀k,1<=k->k<ns.length->jf ns i k=[]\/∃p,jf ns i k=[p]
 node:∀j,j<i->jd ns j (ns[j]!)=true
 one:∀j,1<=j->j<i->∃p,kE ns j=[p]
 deep:∀j,j<i->dep ns j<=16
theorem filter_one {k:Int}:∀{l:List Int},l.Pairwise (· <·)->k∈l->l.filter (fun x=>decide (x=k))=[k]
 |[],_,h=>nomatch h
 |x::r,hp,h=>by
  obtain ⟨h1,h2⟩:=List.pairwise_cons.1 hp;by_cases e:x=k
  ·subst e;rw[List.filter_cons,if_pos (by simp)];rw[List.filter_eq_nil_iff.2 fun y hy=>by have:=h1 y hy;simp;omega]
  ·rw[List.filter_cons,if_neg (by simp[e])];rcases List.mem_cons.1 h with rfl|h
   ·exact absurd rfl e
   ·exact filter_one h2 h
theorem wX {k:Int} {l:List Int} (h:¬k∈l):l.filter (fun x=>decide (x=k))=[]:=
 List.filter_eq_nil_iff.2 fun y hy=>by
  simp;rintro rfl;exact h hy
theorem TInv.first (ns:List Nd) (h:ns≠[]):TInv ns 0 (1::List.replicate (ns.length-1) 0):=by
 have hl:0<ns.length:=List.length_pos_iff.2 h;refine ⟨by simp;omega,rfl,fun k p h1 h2 e=>by simp[jf]at e,fun k h1 h2 _=> ?_,fun k _ _=> .inl (by simp[jf]),fun j hj=>absurd hj (Nat.not_lt_zero _),fun j _ hj=>absurd hj (Nat.not_lt_zero _),fun j hj=>absurd hj (Nat.not_lt_zero _)⟩;obtain ⟨m,rfl⟩:∃m,k=m+1:=⟨k-1,by omega⟩;rw[List.getElem!_eq_getElem?_getD,List.getElem?_cons_succ,List.getElem?_replicate]
 split<;>rfl
theorem TInv.next {ns:List Nd} {i:Nat} {d d':List Nat} (h:TInv ns i d) (hi:i<ns.length) (hn:jd ns i (ns[i]!)=true) (h1:1<=i->∃p,kE ns i=[p]) (h2:dep ns i<=16) (hd:d[i]! =dep ns i)
 (hlen:d'.length=d.length) (hk:∀x∈(ns[i]!).kids,(i:Int)<x/\d[x.toNat]! =0) (hp:(ns[i]!).kids.Pairwise (· <·))
 (hin:∀k:Nat,k<ns.length->(k:Int)∈(ns[i]!).kids->d'[k]! =dep ns i+1) (hout:∀k:Nat,¬(k:Int)∈(ns[i]!).kids->d'[k]! =d[k]!):TInv ns (i+1) d':=by
 have hE:∀k:Nat,1<=k->k<ns.length->(k:Int)∈(ns[i]!).kids->jf ns (i+1) k=[i]:=fun k hk1 hk2 hm=>by
  have h0:=(hk _ hm).2;rw[Int.toNat_natCast]at h0;have he:jf ns i k=[]:=by
   rcases h.few k hk1 hk2 with e|⟨p,e⟩
   ·exact e
   ·have:=h.had k p hk1 hk2 e;omega
  rw[jT,he,filter_one hp hm];rfl
 have hN:∀k:Nat,¬(k:Int)∈(ns[i]!).kids->jf ns (i+1) k=jf ns i k:=fun k hm=>by
  rw[jT,wX hm];simp
 have hz:¬((0:Nat):Int)∈(ns[i]!).kids:=fun hm=>by
  have:=(hk _ hm).1;omega
 refine ⟨hlen.trans h.len,(hout 0 hz).trans h.zero,fun k p hk1 hk2 e=> ?_,fun k hk1 hk2 e=> ?_,fun k hk1 hk2=> ?_,fun j hj=> ?_,fun j hj1 hj=> ?_,fun j hj=> ?_⟩
 ·by_cases hm:(k:Int)∈(ns[i]!).kids
  ·rw[hE k hk1 hk2 hm]at e;obtain rfl:i=p:=by simpa using e
   exact hin k hk2 hm
  ·rw[hN k hm]at e;rw[hout k hm];exact h.had k p hk1 hk2 e
 ·by_cases hm:(k:Int)∈(ns[i]!).kids
  ·rw[hE k hk1 hk2 hm]at e;cases e
  ·rw[hN k hm]at e;rw[hout k hm];exact h.nil k hk1 hk2 e
 ·by_cases hm:(k:Int)∈(ns[i]!).kids
  ·exact .inr ⟨i,hE k hk1 hk2 hm⟩
  ·rw[hN k hm];exact h.few k hk1 hk2
 ·rcases Nat.lt_succ_iff_lt_or_eq.1 hj with g|rfl
  ·exact h.node j g
  ·exact hn
 ·rcases Nat.lt_succ_iff_lt_or_eq.1 hj with g|rfl
  ·exact h.one j hj1 g
  ·exact h1 hj1
 ·rcases Nat.lt_succ_iff_lt_or_eq.1 hj with g|rfl
  ·exact h.deep j g
  ·exact h2
theorem mT {n:Nd} (h:dd n=true):n.kids=[]:=by
 unfold dd at h;rw[Bool.and_eq_true]at h;exact of_decide_eq_true h.1
theorem wy {ns:List Nd} {i:Nat} {d:List Nat} (h:TInv ns i d) (hi:i<ns.length):
 (cM ns i (ns[i]!) d=none->¬Good ns)/\∀d',cM ns i (ns[i]!) d=some d'->TInv ns (i+1) d':=by
 have hT:d[i]! =0\/16<d[i]! ->¬Good ns:=fun ht hg=>by
  rcases Nat.eq_zero_or_pos i with h0|h0
  ·subst h0;have:=h.zero;omega
  ·obtain ⟨p,hp⟩:=hg.one i h0 hi;have e:=h.had i p h0 hi hp;have hd:=hg.deep i hi;rw[yq h0 hp]at hd;omega
 by_cases ht:d[i]! =0\/16<d[i]!
 ·have e:cM ns i (ns[i]!) d=none:=by unfold cM;rw[if_pos ht]
  exact ⟨fun _=>hT ht,fun d' hd=>by rw[e]at hd;cases hd⟩
 ·have hdep:d[i]! =dep ns i:=by
   rcases Nat.eq_zero_or_pos i with h0|h0
   ·subst h0;rw[DA];exact h.zero
   ·rcases h.few i h0 hi with e|⟨p,e⟩
    ·have:=h.nil i h0 hi e;omega
    ·rw[h.had i p h0 hi e,yq h0 e]
  have hone:1<=i->∃p,kE ns i=[p]:=fun h0=>by
   rcases h.few i h0 hi with e|⟨p,e⟩
   ·have:=h.nil i h0 hi e;omega
   ·exact ⟨p,e⟩
  have h16:dep ns i<=16:=by omega
  by_cases hk:(ns[i]!).kind=1
  ·by_cases hs:dd (ns[i]!)=true
   ·have e:cM ns i (ns[i]!) d=some d:=by unfold cM;rw[if_neg ht,if_pos hk,if_pos hs]
    have hkd:=mT hs;refine ⟨(fun hh=>by rw[e]at hh;cases hh),fun d' hd=> ?_⟩;rw[e]at hd;obtain rfl:=aAf hd;refine h.next hi ?_ hone h16 hdep rfl (fun x hx=>by rw[hkd]at hx;cases hx) (by rw[hkd];exact List.Pairwise.nil) (fun k _ hm=>by rw[hkd]at hm;cases hm) (fun _ _=>rfl);unfold jd;rw[if_neg (by omega),if_neg (fun hh=>hh.2 hs),if_neg (by omega)]
   ·have e:cM ns i (ns[i]!) d=none:=by unfold cM;rw[if_neg ht,if_pos hk,if_neg hs]
    refine ⟨fun _ hg=> ?_,fun d' hd=>by rw[e]at hd;cases hd⟩;have hn:=hg.node i hi;unfold jd at hn;rw[if_neg (by omega),if_pos ⟨hk,hs⟩]at hn;cases hn
  ·by_cases hb:((ns[i]!).kind≠2/\(ns[i]!).kind≠3)\/(ns[i]!).kids=[]\/(ns[i]!).text≠⟨#[]⟩\/(ns[i]!).quoted=true
   ·have e:cM ns i (ns[i]!) d=none:=by unfold cM;rw[if_neg ht,if_neg hk,if_pos hb]
    refine ⟨fun _ hg=> ?_,fun d' hd=>by rw[e]at hd;cases hd⟩;have hn:=hg.node i hi;unfold jd at hn;by_cases hr:(ns[i]!).kind<1\/3<(ns[i]!).kind
    ·rw[if_pos hr]at hn;cases hn
    ·rw[if_neg hr,if_neg (fun hh=>hk hh.1),if_pos ⟨by omega,by
      rcases hb with hb|hb|hb|hb
      ·omega
      ·exact .inl hb
      ·exact .inr (.inl hb)
      ·exact .inr (.inr (.inl hb))⟩]at hn
     cases hn
   ·have e:cM ns i (ns[i]!) d=cN ns (ns[i]!).kind d[i]! (ns[i]!).kids (i:Int) [] d:=by unfold cM;rw[if_neg ht,if_neg hk,if_neg hb]
    obtain ⟨i1,i2⟩:=oY (ns:=ns) (kind:=(ns[i]!).kind) (deep:=d[i]!) (ns[i]!).kids (i:Int) [] d (Int.natCast_nonneg _);rw[e];have hkd:(ns[i]!).kind=2\/(ns[i]!).kind=3:=by
     rcases Decidable.em ((ns[i]!).kind=2) with g|g
     ·exact .inl g
     ·rcases Decidable.em ((ns[i]!).kind=3) with g2|g2
      ·exact .inr g2
      ·exact absurd (.inl ⟨g,g2⟩) hb
    have hnR:jd ns i (ns[i]!)=dw ns (ns[i]!).kind (ns[i]!).kids (i:Int) []:=by
     unfold jd;rw[if_neg (by omega),if_neg (fun hh=>hk hh.1)];cases hq:dw ns (ns[i]!).kind (ns[i]!).kids (i:Int) [] with
     |true=>rw[if_neg];rintro ⟨_,g|g|g|g⟩<;>first|exact g rfl|exact hb (.inr (.inl g))|exact hb (.inr (.inr (.inl g)))|exact hb (.inr (.inr (.inr g)))
     |false=>rw[if_pos ⟨by omega,.inr (.inr (.inr (by simp)))⟩]
    by_cases hc:dw ns (ns[i]!).kind (ns[i]!).kids (i:Int) []=true/\∀x∈(ns[i]!).kids,d[x.toNat]! =0
    ·rw[i1 hc];refine ⟨(fun hh=>by cases hh),fun d' hd=> ?_⟩;obtain rfl:=aAf hd;obtain ⟨s1,s2⟩:=fq hc.1;refine h.next hi (hnR.trans hc.1) hone h16 hdep (ky _ _ _) (fun x hx=>⟨(s1 x hx).1,hc.2 x hx⟩) s2 (fun k hk2 hm=> ?_) (fun k hm=> ?_)
     ·rw[<-hdep];exact lV _ k _ _ (by rw[h.len];exact hk2) ⟨_,hm,Int.toNat_natCast _⟩
     ·refine gM _ k _ _ fun x hx he=>hm ?_;have:=(s1 x hx).1;have e2:(k:Int)=x:=by omega
      rw[e2];exact hx
    ·rw[i2 hc];refine ⟨fun _ hg=>hc ⟨hnR ▸ hg.node i hi,fun x hx=> ?_⟩,fun d' hd=>by cases hd⟩;have hkR:dw ns (ns[i]!).kind (ns[i]!).kids (i:Int) []=true:=hnR ▸ hg.node i hi;obtain ⟨s1,s2⟩:=fq hkR;have hx1:=s1 x hx;obtain ⟨k,rfl⟩:∃k:Nat,x=(k:Int):=⟨x.toNat,by omega⟩;rw[Int.toNat_natCast];rcases h.few k (by omega) (by omega) with e0|⟨p,e0⟩
     ·exact h.nil k (by omega) (by omega) e0
     ·exfalso
      obtain ⟨q,hq⟩:=hg.one k (by omega) (by omega);obtain ⟨r,hr⟩:=qJ ns k (k-(i+1)) (i+1);rw[show i+1+(k-(i+1))=k from by omega,<-oF,hq,jT,e0,filter_one s2 hx]at hr;simp at hr
theorem oA {ns:List Nd}:∀(r:List Nd) (i:Nat) (d:List Nat),ns.drop i=r->i<=ns.length->TInv ns i d->(eJ ns r i d=true↔Good ns)
 |[],i,d,hr,hi,h=>by
  have hl:i=ns.length:=by
   have:=congrArg List.length hr;simp at this;omega
  subst hl;exact ⟨fun _=>⟨h.node,h.one,h.deep⟩,fun _=>rfl⟩
 |n::r,i,d,hr,hi,h=>by
  have hlt:i<ns.length:=by
   have:=congrArg List.length hr;simp at this;omega
  have hn:ns[i]! =n:=by
   have e:(ns.drop i)[0]? =some n:=by rw[hr];rfl
   rw[List.getElem?_drop]at e;rw[List.getElem!_eq_getElem?_getD]
   simpa using congrArg (fun o=>o.getD default) e
  have hd:ns.drop (i+1)=r:=by
   rw[<-List.drop_drop,hr];rfl
  obtain ⟨h1,h2⟩:=wy h hlt;rw[hn]at h1 h2;unfold eJ;cases hp:cM ns i n d with
  |none=>exact ⟨fun hh=>by simp at hh,fun hg=>absurd hg (h1 hp)⟩
  |some d'=>exact oA r (i+1) d' hd hlt (h2 d' hp)
theorem iz (ns:List Nd):dI ns=true↔(ns≠[]/\ns.length<=4096/\(ns[0]!).key=⟨#[]⟩)/\Good ns:=by
 unfold dI;rw[Bool.and_eq_true,decide_eq_true_eq];refine and_congr_right fun h=> ?_;exact oA ns 0 _ (by simp) (Nat.zero_le _) (TInv.first ns h.1)
def isD (c:UInt8):Bool:=decide (48<=c.toNat)&&decide (c.toNat<=57)
theorem j1 (c:UInt8):isD c=true↔48<=c.toNat/\c.toNat<=57:=by simp[isD]
def jk (l:List UInt8):Bool:= !l.isEmpty&&l.all isD
theorem al (s:ByteArray):s.data.toList.length=s.size:=by rw[Array.length_toList];rfl
theorem gS (s:ByteArray) (k:Nat) (h:k<s.size):s[k]=s.data.toList[k]'(by rw[al];exact h):=rfl
theorem qp (s:ByteArray) (k:Nat) (h:k<s.size):s.data.toList.take (k+1)=s.data.toList.take k++[s[k]]:=by
 rw[List.take_succ_eq_append_getElem (by rw[al];exact h),gS s k h]
def jl (l:List UInt8):Nat:=l.foldl (fun m c=>min (m*10+(c.toNat-48)) 1000000000000000000) 0
theorem qj (l:List UInt8) (c:UInt8):jl (l++[c])=min (jl l*10+(c.toNat-48)) 1000000000000000000:=by simp[jl]
theorem D1 (l:List UInt8):jl l<=1000000000000000000:=by
 rcases List.eq_nil_or_concat l with rfl|⟨r,c,rfl⟩
 ·exact Nat.zero_le _
 ·rw[List.concat_eq_append,qj];exact Nat.min_le_right _ _
theorem jO {l:List UInt8} (h:l.all isD=true):l.takeWhile isD=l:=by
 have h2:∀x∈l,isD x=true:=by simpa using h
 have:=List.takeWhile_append_of_pos (p:=isD) (l₁:=l) (l₂:=[]) h2
 simpa using this
theorem GY {l:List UInt8} {k:Nat} (h:(l.take k).all isD=true) (hk:l.length<=k):l.takeWhile isD=l.take k:=by
 rw[List.take_of_length_le hk]at h |-;exact jO h
theorem D5 {s:ByteArray} {k:Nat} (h:(s.data.toList.take k).all isD=true) (hk:k<s.size) (hn:¬isD s[k]=true):s.data.toList.takeWhile isD=s.data.toList.take k:=by
 have e:s.data.toList=s.data.toList.take k++s[k]::s.data.toList.drop (k+1):=by
  rw[gS s k hk,<-List.drop_eq_getElem_cons (by rw[al];exact hk),List.take_append_drop]
 have h2:∀x∈s.data.toList.take k,isD x=true:=by simpa using h
 conv=>lhs;rw[e]
 rw[List.takeWhile_append_of_pos h2,List.takeWhile_cons_of_neg hn,List.append_nil]
theorem g9 (w:World) (s:ByteArray) (hmax:s.size<=maxLen) (n m:Nat) (hn:(s.data.toList.takeWhile isD).length=n) (hm:jl (s.data.toList.takeWhile isD)=m):
 Calls Tryz.prog 116 #[.string s] w fun e w'=>e= .returned (.tuple #[.int .i64 n,.int .u64 m])/\w'=w:=by
 have Hn:=hid hn;have Hm:=hid hm;clear hn hm;have hle:s.size<=9223372036854775807:=by unfold maxLen at hmax;omega
 go_enter Tryz.func116,Tryz.ntmps116;go_wp2
 go_loopw [4,5] (fun i v wr=>∃k v':Nat,i= .int .i64 k/\v= .int .u64 v'/\w=wr/\Hid (k<=s.size/\(s.data.toList.take k).all isD=true/\v'=jl (s.data.toList.take k))) (fun i _ _=>s.size-(intOf i).toNat)
 case atStart=>exact ⟨0,0,rfl,rfl,rfl,Nat.zero_le _,rfl,rfl⟩
 case round=>
  obtain ⟨k,v',rfl,rfl,rfl,hk⟩:=hrel;by_cases hlt:k<s.size
  ·by_cases hd:isD s[k]=true
   ·have hd2:=(j1 _).1 hd;have n1:(48:Int)<=(s[k].toNat:Int):=by omega
    have n2:(s[k].toNat:Int)<=57:=by omega
    have hv:=D1 (s.data.toList.take k);rw[<-hk.o.2.2]at hv;obtain ⟨d,hdd⟩:∃d:Nat,d=s[k].toNat-48:=⟨_,rfl⟩;obtain ⟨t,ht⟩:∃t:Nat,t=v'*10:=⟨_,rfl⟩;obtain ⟨u,hu⟩:∃u:Nat,u=t+d:=⟨_,rfl⟩;have hsub:IntKind.u8.wrap ((s[k].toNat:Int)-48)=(d:Int):=by
     rw[IntKind.wrap_u8];omega
    have hmul:IntKind.u64.wrap ((v':Int)*10)=(t:Int):=by rw[IntKind.wrap_u64];omega
    have hadd:IntKind.u64.wrap ((t:Int)+IntKind.u64.wrap (d:Int))=(u:Int):=by rw[IntKind.wrap_u64,IntKind.wrap_u64];omega
    obtain ⟨v2,hv2⟩:∃v2:Nat,v2=min u 1000000000000000000:=⟨_,rfl⟩;have hmin:(if (1000000000000000000:Int)<(u:Int) then (1000000000000000000:Int) else (u:Int))=(v2:Int):=by split<;>omega
    have Hnew:=hid (show v2=jl (s.data.toList.take (k+1)) by rw[qp s k hlt,qj,<-hk.o.2.2,hv2,hu,ht,hdd]);have Hd:=hid hd;clear hd hd2 hv hdd ht hu hv2;go_wp2;go_roundw
    case rel=>
     refine ⟨k+1,v2,rfl,by first|rfl|(rw[<-hmin];done)|(rw[<-hmin];congr 1;split<;>omega),(by first|rfl|trivial),by omega,?_,Hnew.o⟩;rw[qp s k hlt,List.all_append,hk.o.2.1];simp[Hd.o]
    case measure=>simp[intOf];omega
   ·have htw:=D5 hk.o.2.1 hlt hd;have hkn:k=n:=by rw[<-Hn.o,htw,List.length_take,al];omega
    have hvm:v'=m:=by rw[<-Hm.o,htw];exact hk.o.2.2
    subst hkn;subst hvm;by_cases n1:(48:Int)<=(s[k].toNat:Int)
    ·have n2:¬(s[k].toNat:Int)<=57:=by
      rw[j1]at hd;omega
     clear hd htw;go_wp2
     go_ret2
     exact ⟨rfl,rfl⟩
    ·clear hd htw;go_wp2
     go_ret2
     exact ⟨rfl,rfl⟩
  ·have htw:=GY hk.o.2.1 (by rw[al];have:=hk.o.1;omega);have hkn:k=n:=by rw[<-Hn.o,htw,List.length_take,al];have:=hk.o.1;omega
   have hvm:v'=m:=by rw[<-Hm.o,htw];exact hk.o.2.2
   subst hkn;subst hvm;clear htw;go_wp2
   go_ret2
   exact ⟨rfl,rfl⟩
def bc:List UInt8->List UInt8×Bool
 |[]=>([],false)
 |c::r=>if c=45 then (r,true) else (c::r,false)
theorem iM (s:ByteArray) (a b:Nat):(s.extract a b).data.toList=(s.data.toList.drop a).take (b-a):=by
 rw[ByteArray.data_extract,Array.toList_extract]
theorem dm (s:ByteArray) (a:Nat):(s.extract a s.size).data.toList=s.data.toList.drop a:=by
 rw[iM,List.take_of_length_le (by rw[List.length_drop,al];exact aAa _)]
theorem fQ (s:ByteArray) (a b:Nat):(s.extract a b).size<=s.size:=by
 rw[<-al,iM,<-al,List.length_take,List.length_drop];omega
theorem zW (s:ByteArray) (h:0<s.size):s.data.toList=s[0]::s.data.toList.drop 1:=by
 have:=List.drop_eq_getElem_cons (l:=s.data.toList) (i:=0) (by rw[al];exact h);rw[List.drop_zero]at this;rw[gS s 0 h];exact this
def cF (l:List UInt8):Bool:=jk l&&(decide (l.head? ≠some 48)||decide (l.length=1))
def numN (l:List UInt8):Nat:=l.foldl (fun n c=>10*n+(c.toNat-48)) 0
def dV (l:List UInt8) (c:UInt8):List UInt8×List UInt8×Bool:=
 if l.all (· != c)=true then (l,[],false) else (l.takeWhile (· != c),(l.dropWhile (· != c)).drop 1,true)
def pd (l:List UInt8):Option Int:=
 if cF (bc l).1=false then none
 else if (bc l).2=true then
  if (bc l).1=[48] then none
  else if numN (bc l).1<=9223372036854775808/\0<numN (bc l).1 then some (-(numN (bc l).1:Int)) else none
 else if numN (bc l).1<=9223372036854775807 then some (numN (bc l).1:Int) else none
theorem iw {l:List UInt8} (h:cF l=true):l.all isD=true:=by
 unfold cF jk at h;simp only[Bool.and_eq_true]at h;exact h.1.2
def vW (powered:Bool) (tail:List UInt8):Option Int:=
 if powered=true then
  if jk (bc tail).1=true/\(bc tail).1.length<=2 then some (if (bc tail).2=true then -(numN (bc tail).1:Int) else (numN (bc tail).1:Int)) else none
 else some 0
def jh (l:List UInt8):Option (Nat×Int×Bool):=
 let m:=bc l
 let c:=dV m.1 101
 let d:=dV c.1 46
 if d.2.2=true/\cF d.1=true/\jk d.2.1=true then
  match vW c.2.2 c.2.1 with
  |some k=>if numN (d.1++d.2.1)<=999999999999999/\d.2.1.length<=200/\¬Bad (numN (d.1++d.2.1)) (k-(d.2.1.length:Int)) then some (numN (d.1++d.2.1),k-(d.2.1.length:Int),m.2) else none
  |none=>none
 else none
theorem tO:∀(l:List UInt8) (acc:Nat),l.all isD=true->l.foldl (fun n c=>10*n+(c.toNat-48)) acc<(acc+1)*10 ^ l.length:=by
 intro l
 induction l with
 |nil=>intro acc _;simp
 |cons c r ih=>
  intro acc h;rw[List.all_cons]at h;simp only[Bool.and_eq_true]at h;have h2:=(j1 c).1 h.1;have h1:=ih (10*acc+(c.toNat-48)) h.2;rw[List.foldl_cons,aAd,Nat.pow_succ];refine Nat.lt_of_lt_of_le h1 ?_;have h3:10*acc+(c.toNat-48)+1<=(acc+1)*10:=by omega
  generalize 10*acc+(c.toNat-48)+1=z at*;have:=Nat.mul_le_mul_right (10 ^ r.length) h3;rw[Nat.mul_assoc,Nat.mul_comm 10 (10 ^ r.length)]at this;exact this
theorem E6 {l:List UInt8} (h:l.all isD=true):numN l<10 ^ l.length:=by
 have:=tO l 0 h
 simpa[numN] using this
theorem jK {l:List UInt8} (h:jk l=true):l.all isD=true:=by
 unfold jk at h;simp only[Bool.and_eq_true]at h;exact h.2
def j9 (x:Nat):Nat:=Op.negFloat .f64 x
theorem xP (x:Nat):∀w,(Op.unary .neg (.float .f64 x)).run Tryz.prog w= .ok (.float .f64 (j9 x)) w:=fun _=>rfl
