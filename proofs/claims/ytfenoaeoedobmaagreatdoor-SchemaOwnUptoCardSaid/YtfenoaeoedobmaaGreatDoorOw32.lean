/-
Parts of a proof.
-/
import Derived.Shelf.Bytes.SlCut
import Derived.Shelf.Bytes.SlIndexAt
import Derived.Shelf.Strings.OnBuilder
import Derived.Shelf.Strconv.Itoa3
import Derived.Shelf.Strconv.Itoa4
import Derived.Lib.ItoaMem
import Derived.BigCall
import Derived.BigGuard
import Derived.Lib.Repeat
import Derived.Test.YtfenoaeoedobmaaGreatDoorOw31
set_option linter.unusedVariables false
set_option linter.unusedSimpArgs false
set_option maxHeartbeats 6400000
set_option maxRecDepth 100000
namespace Go.Proofs.YtfenoaeoedobmaaGreatDoor
open Go Go.RowKit
theorem gg.before {w0 w w1 w2:World} {rb:Nat} {nv:Value} {ms:List NdM} {ns2:List Nd} (hb:Below w.heap.size w w1) (h:gg w0 w1 rb nv ms ns2 w2):gg w0 w rb nv ms ns2 w2:=
 gg.trans hb.size (Mod.ofBelow hb (fun b hb hge=>by omega)) (fun g hg=> .inl hg) h
theorem xp {w0 w:World} {rb:Nat} {nv:Value} {ms:List NdM} (h:WrS w0 w rb nv ms) (p:Option Nat) (hp:∀i,p=some i->∃m,ms[i]? =some m/\m.nd.kids.length<1048576) (kind:Int) (hk:I64 kind) (key:ByteArray) (hkey:key.size<=1048576) (hlen:ms.length<1048576):
 Calls Tryz.prog 70 #[.pointer (some ⟨rb,0,none⟩),.int .i64 (zD p),.int .i64 kind,.string key] w
  fun r w'=>r= .returned (.int .i64 (ms.length:Int))/\gg w0 w rb nv ms (Ac (nds ms) p ⟨kind,key,⟨#[]⟩,false,0,[]⟩) w':=by
 have HL:=hid (oU h p hp ⟨kind,key,⟨#[]⟩,false,0,[]⟩ rfl hk (by show I64 0;decide) (by show (0:Nat)<=1048576;decide) hkey hlen);obtain ⟨n,hn⟩:=ex (ms.length);rw[<-hn]at HL |-;generalize zD p=pv at*;clear h hp hk hkey hlen hn;go_enter Tryz.func70,Tryz.ntmps70
 go_wp2_with fail
 refine HL.o.mono ?_;rintro r w2 ⟨rfl,h2⟩;have H2:=hid h2;clear HL h2;go_wp2;refine bodyPost_ret (results_tmp (t:=8) rfl _ _ _) rfl ⟨rfl,H2.o⟩
theorem DY {w0 w:World} {rb:Nat} {nv:Value} {ms:List NdM} (h:WrS w0 w rb nv ms) (hg:Glob w) (p:Nat) (hp:∃m,ms[p]? =some m/\m.nd.kids.length<1048576) (key:ByteArray) (hkey:key.size<=1048576) (s:ByteArray) (hs:s.size<=1048576) (hlen:ms.length<1048576):
 Calls Tryz.prog 71 #[.pointer (some ⟨rb,0,none⟩),.int .i64 (p:Int),.string key,.string s] w
  fun r w'=>(∃v,r= .returned v)/\gg w0 w rb nv ms (aI (nds ms) p (aJ key s .nil)) w':=by
 have Hpl:=hid (tL w s hs hg);have hpn:p<(nds ms).length:=by obtain ⟨m,hm,-⟩:=hp;rw[bt];exact (aAh hm).1
 have HL:=hid (fun w1 (hb:Below w.heap.size w w1)=>oU (h.later hb) (some p) (fun i hi=>by cases hi;exact hp) ⟨1,key,s,!fV s.data.toList,0,[]⟩ rfl (by show I64 1;decide) (by show I64 0;decide) hs hkey hlen);have Hns:=hid (x8 hpn key s (!fV s.data.toList));obtain ⟨b,hb⟩:=ex (fV s.data.toList);unfold aJ;rw[<-hb]at Hpl HL Hns |-;unfold zD at HL;clear h hp hkey hs hlen hg hpn hb
 go_enter Tryz.func71,Tryz.ntmps71
 go_wp2_with fail
 refine Hpl.o.mono ?_;rintro r w1 ⟨rfl,hb1⟩;have HL1:=hid (HL.o w1 hb1);have Hb1:=hid hb1;clear HL hb1 Hpl
 go_wp2_with fail
 refine HL1.o.mono ?_;rintro r w2 ⟨rfl,h2⟩;have H2:=hid (gg.before Hb1.o h2);clear HL1 h2;go_wp2
 go_end0
 refine ⟨⟨_,rfl⟩,?_⟩;have:=H2.o;rw[Hns.o]at this;exact this
end Go.Proofs.YtfenoaeoedobmaaGreatDoor
namespace Go.Proofs
open Go.Shelf Go.RowKit Go.Sort Go.Lib
def Tryz.lays185_ren:Go.Shelf.Ren:=⟨fun|185=>139|187=>172|115=>173|253=>174|224=>175|254=>176|255=>195|291=>196|n=>n,fun|37=>42|3=>3|4=>4|0=>0|5=>5|46=>205|9=>9|146=>229|51=>228|n=>n,fun|1=>1|n=>n⟩
theorem Tryz.lays185:Go.Proofs.Lays.n185 Tryz.prog Tryz.lays185_ren:=by repeat' first|kernel_rfl|(intros;kernel_rfl)|exact fun _=>rfl|decide|constructor
theorem Tryz.bytes_Index_one_at (a:Addr) (n c b2 o2 d:Nat) (xs:List Int) (cv:Int) (w:World) (hx:xs.length=n) (hc:∀i,i<n->w.cell? (a.add i)=some (.int .u8 (xs.getD i 0))) (hc2:w.cell? ⟨b2,o2,none⟩=some (.int .u8 cv)):
 Calls Tryz.prog 139 #[.slice (some a) n c,.slice (some ⟨b2,o2,none⟩) 1 d] w fun e w'=>e= .returned (.int .i64 (Lib.indexByte (Lib.bytesOf xs) cv.toNat.toUInt8))/\w'=w:=Any.bytes_Index_one_at Tryz.lays185 a n c b2 o2 d xs cv w hx hc hc2
def Tryz.laysSlT4_ren:Go.Shelf.Ren:=⟨fun|4=>104|5=>139|6=>172|7=>173|8=>174|9=>175|10=>176|11=>195|12=>196|n=>n,fun|22=>42|4=>4|3=>3|0=>0|5=>5|29=>205|9=>9|31=>229|30=>228|n=>n,fun|0=>1|n=>n⟩
theorem Tryz.laysSlT4:Go.Proofs.SlLaysT.n4 Tryz.prog Tryz.laysSlT4_ren:=by repeat' first|kernel_rfl|(intros;kernel_rfl)|exact fun _=>rfl|decide|constructor
theorem Tryz.bytes_Cut_of (p1 p2:Option Addr) (n c1 k c2:Nat) (i:Int) (w:World) (hcap:n<=c1) (hlo: -1<=i) (hroom:0<=i->i+k<=n) (hn:n<=4611686018427387904) (hidx:Calls Tryz.prog 139 #[.slice p1 n c1,.slice p2 k c2] w fun e w'=>e= .returned (.int .i64 i)/\∃q,w'=w.drewN q):
 Calls Tryz.prog 104 #[.slice p1 n c1,.slice p2 k c2] w fun e w'=>e= .returned (Lib.cutV p1 n c1 k i)/\∃q,w'=w.drewN q:=Any.bytes_Cut_of Tryz.laysSlT4 p1 p2 n c1 k c2 i w hcap hlo hroom hn hidx
def Tryz.lays156_ren:Go.Shelf.Ren:=⟨fun|156=>65|165=>100|166=>101|169=>102|240=>137|241=>138|276=>170|277=>171|n=>n,fun|31=>45|9=>9|3=>3|4=>4|0=>0|20=>20|72=>161|76=>165|70=>159|37=>42|75=>164|127=>209|164=>233|5=>5|80=>167|n=>n,fun|n=>n⟩
theorem Tryz.lays156:Go.Proofs.Lays.n156 Tryz.prog Tryz.lays156_ren:=by repeat' first|kernel_rfl|(intros;kernel_rfl)|exact fun _=>rfl|decide|constructor
theorem Tryz.Builder_Extra_156:Builder.Extra Tryz.prog Tryz.lays156_ren:=by repeat' first|kernel_rfl|(intros;kernel_rfl)|exact fun _=>rfl|decide|constructor
theorem Tryz.strings_Join_none (a:Option Addr) (c:Nat) (sep:ByteArray) (w:World):
 Calls Tryz.prog 65 #[.slice a 0 c,.string sep] w fun e w'=>e= .returned (.string ⟨#[]⟩)/\w'=w:=Any.strings_Join_none Tryz.lays156 Tryz.Builder_Extra_156 a c sep w
theorem Tryz.strings_Join (bk o c:Nat) (xs:List ByteArray) (sep:ByteArray) (w:World) (hcells:∀(j:Nat) x,xs[j]? =some x->w.cell? ⟨bk,o+j,none⟩=some (.string x)) (hbk:bk<w.heap.size) (hN:xs.length<=140737488355328) (hcap:xs.length<=c) (hlen:(Lib.join (xs.map (·.data.toList)) sep.data.toList).length<=140737488355328):
 Calls Tryz.prog 65 #[.slice (some ⟨bk,o,none⟩) xs.length c,.string sep] w fun e w'=>e= .returned (.string ⟨(Lib.join (xs.map (·.data.toList)) sep.data.toList).toArray⟩)/\Below w.heap.size w w':=Any.strings_Join Tryz.lays156 Tryz.Builder_Extra_156 bk o c xs sep w hcells hbk hN hcap hlen
def Tryz.lays121_ren:Go.Shelf.Ren:=⟨fun|121=>150|214=>183|n=>n,fun|4=>4|9=>9|n=>n,fun|n=>n⟩
theorem Tryz.lays121:Go.Proofs.Lays.n121 Tryz.prog Tryz.lays121_ren:=by repeat' first|kernel_rfl|(intros;kernel_rfl)|exact fun _=>rfl|decide|constructor
theorem Tryz.strconv_FormatBool (b:Bool) (w:World):
 Calls Tryz.prog 150 #[.bool b] w fun e w'=>e= .returned (.string ⟨(Lib.formatBool b).toArray⟩)/\w'=w:=Any.strconv_FormatBool Tryz.lays121 b w
def Tryz.lays283_ren:Go.Shelf.Ren:=⟨fun|283=>200|n=>n,fun|3=>3|9=>9|4=>4|n=>n,fun|n=>n⟩
theorem Tryz.lays283:Go.Proofs.Lays.n283 Tryz.prog Tryz.lays283_ren:=by repeat' first|kernel_rfl|(intros;kernel_rfl)|exact fun _=>rfl|decide|constructor
theorem Tryz.internal_strconv_small (i:Nat) (h:i<100) (w:World):
 Calls Tryz.prog 200 #[.int .i64 i] w fun e w'=>e= .returned (.string ⟨(Lib.decDigits i).toArray⟩)/\w'=w:=Any.internal_strconv_small Tryz.lays283 i h w
def Tryz.laysM284_ren:Go.Shelf.Ren:=⟨fun|284=>201|129=>221|317=>220|318=>222|n=>n,fun|53=>184|3=>3|212=>268|0=>0|4=>4|46=>205|5=>5|9=>9|n=>n,fun|17=>2|n=>n⟩
theorem Tryz.laysM284:Go.Proofs.LaysM.n284 Tryz.prog Tryz.laysM284_ren:=by repeat' first|kernel_rfl|(intros;kernel_rfl)|exact fun _=>rfl|decide|constructor
theorem Tryz.internal_strconv_numDigits (u:Nat) (h1:1<=u) (h2:u<18446744073709551616) (w:World) (htab:Lib.TabIs Tryz.prog w "internal/strconv.uint64pow10" .u64 Lib.pow10Tab):
 Calls Tryz.prog 201 #[.int .u64 u] w fun e w'=>e= .returned (.int .i64 (Lib.nDigits u))/\w'=w:=Any.internal_strconv_numDigits Tryz.laysM284 u h1 h2 w htab
def Tryz.lays285_ren:Go.Shelf.Ren:=⟨fun|285=>202|n=>n,fun|37=>42|53=>184|3=>3|4=>4|51=>228|9=>9|5=>5|0=>0|n=>n,fun|n=>n⟩
theorem Tryz.lays285:Go.Proofs.Lays.n285 Tryz.prog Tryz.lays285_ren:=by repeat' first|kernel_rfl|(intros;kernel_rfl)|exact fun _=>rfl|decide|constructor
theorem Tryz.internal_strconv_formatBase10 (blk off cap:Nat) (u:Nat) (d:Array UInt8) (w:World) (hH:Holds (fun (b:UInt8)=>Value.int .u8 (b.toNat:Int)) w blk off d) (hu:u<10 ^ d.size) (hu64:u<18446744073709551616) (hsz:d.size<4611686018427387904):
 Calls Tryz.prog 202 #[.slice (some ⟨blk,off,none⟩) d.size cap,.int .u64 u] w fun e w'=>
  e= .returned (.tuple #[])/\∃(n v':Nat) (dk:Array UInt8),w'=(putRow (fun (b:UInt8)=>Value.int .u8 (b.toNat:Int)) w blk off dk).drewN n/\FmtInv d.size u 0 v' dk:=Any.internal_strconv_formatBase10 Tryz.lays285 blk off cap u d w hH hu hu64 hsz
def Tryz.laysM171_ren:Go.Shelf.Ren:=⟨fun|171=>112|243=>149|246=>182|283=>200|284=>201|285=>202|286=>203|129=>221|317=>220|318=>222|319=>223|320=>224|337=>231|338=>232|n=>n,fun|3=>3|9=>9|2=>2|4=>4|171=>253|0=>0|53=>184|37=>42|5=>5|173=>256|212=>268|51=>228|20=>20|213=>269|46=>205|232=>280|233=>281|n=>n,fun|17=>2|18=>5|19=>6|n=>n⟩
theorem Tryz.laysM171:Go.Proofs.LaysM.n171 Tryz.prog Tryz.laysM171_ren:=by repeat' first|kernel_rfl|(intros;kernel_rfl)|exact fun _=>rfl|decide|constructor
theorem Tryz.strconv_Itoa (n:Int) (h0: -9223372036854775808<=n) (h1:n<=9223372036854775807) (w:World) (htab:Lib.TabIs Tryz.prog w "internal/strconv.uint64pow10" .u64 Lib.pow10Tab):
 Calls Tryz.prog 112 #[.int .i64 n] w fun e w'=>e= .returned (.string ⟨(Lib.itoa n).toArray⟩)/\∃k os,w'=grow (w.drewN k) os:=Any.strconv_Itoa Tryz.laysM171 n h0 h1 w htab
def Tryz.lays171_ren:Go.Shelf.Ren:=⟨fun|171=>112|243=>149|246=>182|283=>200|284=>201|285=>202|286=>203|129=>221|317=>220|318=>222|319=>223|320=>224|337=>231|338=>232|n=>n,fun|3=>3|9=>9|2=>2|4=>4|171=>253|0=>0|53=>184|37=>42|5=>5|173=>256|212=>268|51=>228|20=>20|213=>269|46=>205|232=>280|233=>281|n=>n,fun|17=>2|18=>5|19=>6|n=>n⟩
theorem Tryz.lays171:Go.Proofs.Lays.n171 Tryz.prog Tryz.lays171_ren:=by repeat' first|kernel_rfl|(intros;kernel_rfl)|exact fun _=>rfl|decide|constructor
theorem Tryz.strconv_Itoa_small (i:Nat) (hi:i<100) (w:World):
 Calls Tryz.prog 112 #[.int .i64 i] w fun e w'=>e= .returned (.string ⟨(Lib.decDigits i).toArray⟩)/\w'=w:=Any.strconv_Itoa_small Tryz.lays171 i hi w
def Tryz.laysM173_ren:Go.Shelf.Ren:=⟨fun|173=>151|246=>182|283=>200|284=>201|285=>202|286=>203|129=>221|317=>220|318=>222|319=>223|320=>224|337=>231|338=>232|n=>n,fun|2=>2|3=>3|9=>9|4=>4|171=>253|0=>0|53=>184|37=>42|5=>5|173=>256|212=>268|51=>228|20=>20|213=>269|46=>205|232=>280|233=>281|n=>n,fun|17=>2|18=>5|19=>6|n=>n⟩
theorem Tryz.laysM173:Go.Proofs.LaysM.n173 Tryz.prog Tryz.laysM173_ren:=by repeat' first|kernel_rfl|(intros;kernel_rfl)|exact fun _=>rfl|decide|constructor
theorem Tryz.strconv_FormatInt_10 (n:Int) (h0: -9223372036854775808<=n) (h1:n<=9223372036854775807) (w:World) (htab:Lib.TabIs Tryz.prog w "internal/strconv.uint64pow10" .u64 Lib.pow10Tab):
 Calls Tryz.prog 151 #[.int .i64 n,.int .i64 10] w fun e w'=>e= .returned (.string ⟨(Lib.itoa n).toArray⟩)/\∃k os,w'=grow (w.drewN k) os:=Any.strconv_FormatInt_10 Tryz.laysM173 n h0 h1 w htab
def Tryz.lays193_ren:Go.Shelf.Ren:=⟨fun|193=>73|n=>n,fun|31=>45|9=>9|4=>4|3=>3|0=>0|n=>n,fun|n=>n⟩
theorem Tryz.lays193:Go.Proofs.Lays.n193 Tryz.prog Tryz.lays193_ren:=by repeat' first|kernel_rfl|(intros;kernel_rfl)|exact fun _=>rfl|decide|constructor
theorem Tryz.slices_Equal_string (b1 o1 n c b2 o2 m d:Nat) (xs ys:List ByteArray) (w:World) (hx:n<=xs.length) (hy:m<=ys.length) (hbig:n<=9223372036854775807) (hbig2:m<=9223372036854775807) (hc1:∀j,j<xs.length->w.cell? ⟨b1,o1+j,none⟩=some (.string (xs.getD j ByteArray.empty))) (hc2:∀j,j<ys.length->w.cell? ⟨b2,o2+j,none⟩=some (.string (ys.getD j ByteArray.empty))):
 Calls Tryz.prog 73 #[.slice (some ⟨b1,o1,none⟩) n c,.slice (some ⟨b2,o2,none⟩) m d] w fun e w'=>e= .returned (.bool (decide (xs.take n=ys.take m)))/\∃q,w'=w.drewN q:=Any.slices_Equal_string Tryz.lays193 b1 o1 n c b2 o2 m d xs ys w hx hy hbig hbig2 hc1 hc2
theorem Tryz.slices_Equal_string_empty (a1 a2:Option Addr) (c m d:Nat) (w:World) (hbig2:m<=9223372036854775807):
 Calls Tryz.prog 73 #[.slice a1 0 c,.slice a2 m d] w fun e w'=>e= .returned (.bool (decide (m=0)))/\w'=w:=Any.slices_Equal_string_empty Tryz.lays193 a1 a2 c m d w hbig2
theorem Tryz.slices_Equal_string_lens (a1 a2:Option Addr) (n c m d:Nat) (w:World) (hnm:n≠m):
 Calls Tryz.prog 73 #[.slice a1 n c,.slice a2 m d] w fun e w'=>e= .returned (.bool false)/\w'=w:=Any.slices_Equal_string_lens Tryz.lays193 a1 a2 n c m d w hnm
end Go.Proofs
namespace Go.Proofs.YtfenoaeoedobmaaGreatDoor
open Go Go.RowKit Go.Sort Go.Lib
theorem uh (w:World) (T:TypeId) (nd:Nat) (hs:nd<=24):Holds (fun (b:UInt8)=>Value.int .u8 (b.toNat:Int)) (w.alloc (.cells zeros24 T)) w.heap.size 0 (Array.replicate nd (0:UInt8)):=fun j hj=>by
 have hj':j<nd:=by simpa using hj
 refine ⟨?_,World.frozen?_alloc_new _ _ _ _⟩;rw[World.cell?_alloc_new,zeros24_at _ (by omega),getElem!_pos _ j hj];simp
theorem fin0 (w:World) (o:Obj) (dk:Array UInt8) (k:Nat):∃os,(putRow (fun (b:UInt8)=>Value.int .u8 (b.toNat:Int)) (w.alloc o) w.heap.size 0 dk).drewN k=grow (w.drewN k) os:=by
 rw[alloc_eq_grow];obtain ⟨os',_,e⟩:=putRow_grow_new (fun (b:UInt8)=>Value.int .u8 (b.toNat:Int)) w #[o] w.heap.size 0 dk (aAa _);exact ⟨os',by rw[e];rfl⟩
theorem kM (w:World) (k:Nat) (os:Array Obj):Below w.heap.size w (grow (w.drewN k) os):=by
 refine ⟨rfl,rfl,rfl,?_,fun i hi=> ?_⟩
 ·show w.heap.size<=(w.heap++os).size
  rw[Array.size_append];omega
 ·show (w.heap++os)[i]? =w.heap[i]?
  rw[Array.getElem?_append_left hi]
theorem qd (u:Nat) (h1:u<18446744073709551616) (w:World) (htab:Lib.TabIs Tryz.prog w "internal/strconv.uint64pow10" .u64 Lib.pow10Tab):
 Calls Tryz.prog 208 #[.int .u64 u,.int .i64 10] w fun e w'=>e= .returned (.string ⟨(Lib.decDigits u).toArray⟩)/\Below w.heap.size w w':=by
 by_cases hs:u<100
 ·have Hs:=hid (Tryz.internal_strconv_small u hs w);have n1:(u:Int)<100:=by omega
  have n2:IntKind.i64.wrap (u:Int)=(u:Int):=by rw[IntKind.wrap_i64];omega
  clear h1;go_enter Tryz.func208,Tryz.ntmps208
  go_wp2_with fail
  refine Hs.o.mono ?_;rintro e w1 ⟨rfl,hw⟩;obtain rfl:=hw.symm;go_wp2;go_ret;exact ⟨rfl,aAb _ _⟩
 ·have hu1:1<=u:=by omega
  have hnd20:Lib.nDigits u<=20:=by have:=Lib.numDigits_eq u hu1 h1;split at this<;>omega
  have hal: Tryz.prog.arrayLen 253 =24:=by simp[Program.arrayLen,Tryz.underlying253]
  have hsl1:∀W,(Instr.sliceAt 253 (.pointer (some ⟨w.heap.size,0,none⟩)) none (some (.int .i64 (Lib.nDigits u:Int))) none).run Tryz.prog W= .ok (.slice (some ⟨w.heap.size,0,none⟩) (Lib.nDigits u) 24) W:=fun W=>by
   rw[run_sliceAt_array_h W 253 ⟨w.heap.size,0,none⟩ (by simp[Program.arrayLen,Program.elem,Tryz.underlying253]) .i64 (Lib.nDigits u:Int) (by omega) (by rw[hal];omega)];go_simp
  have hH0:=uh w 253 (Lib.nDigits u) (by omega);have hfmt:= Tryz.internal_strconv_formatBase10 w.heap.size 0 24 u (Array.replicate (Lib.nDigits u) 0) (w.alloc (.cells Lib.zeros24 253)) hH0 (by rw[Array.size_replicate];exact Lib.lt_pow_nDigits u) h1 (by rw[Array.size_replicate];omega);rw[Array.size_replicate]at hfmt;have HH0:=hid hH0;have Hfmt:=hid hfmt;have Hnd:=hid (Tryz.internal_strconv_numDigits u hu1 h1 (w.alloc (.cells Lib.zeros24 253)) (Lib.tabIs_alloc htab _))
  have n1:¬(u:Int)<100:=by omega
  clear hH0 hal hfmt htab h1 hs;go_enter Tryz.func208,Tryz.ntmps208
  go_wp2_with fail
  refine Hnd.o.mono ?_;rintro e w1 ⟨rfl,hw⟩;obtain rfl:=hw.symm
  go_wp2_with fail
  refine Hfmt.o.mono ?_;rintro e w' ⟨rfl,k,v',dk,rfl,hF⟩;have hcv:(convert 42 9 (.slice (some ⟨w.heap.size,0,none⟩) (Lib.nDigits u) 24)).run Tryz.prog ((putRow (fun (b:UInt8)=>Value.int .u8 (b.toNat:Int)) (w.alloc (.cells Lib.zeros24 253)) w.heap.size 0 dk).drewN k)= .ok (.string ⟨(Lib.decDigits u).toArray⟩) ((putRow (fun (b:UInt8)=>Value.int .u8 (b.toNat:Int)) (w.alloc (.cells Lib.zeros24 253)) w.heap.size 0 dk).drewN k):=by
   have h:=run_convert_bytes_back (P:= Tryz.prog) ((putRow (fun (b:UInt8)=>Value.int .u8 (b.toNat:Int)) (w.alloc (.cells Lib.zeros24 253)) w.heap.size 0 dk).drewN k) 42 9 5 ⟨w.heap.size,0,none⟩ 24 (Lib.decDigits u) Tryz.underlying42 Tryz.underlying5 Tryz.underlying9 (fun j hj=>by
    rw[Lib.row_is_numeral hF j hj,Lib.add_plain,World.cell?_drewN];exact cell?_putRow (fun (b:UInt8)=>Value.int .u8 (b.toNat:Int)) _ w.heap.size 0 _ dk HH0.o (by rw[hF.size,Array.size_replicate]) j (by rw[hF.size];rw[Lib.decDigits_length]at hj;exact hj))
   rw[Lib.decDigits_length]at h;exact h
  obtain ⟨os,eo⟩:=fin0 w (.cells Lib.zeros24 253) dk k;have hB:=kM w k os;rw[<-eo]at hB;clear eo hF;go_wp2;go_ret;exact ⟨rfl,hB⟩
theorem nF (u:Nat) (h1:u<18446744073709551616) (w:World) (htab:Lib.TabIs Tryz.prog w "internal/strconv.uint64pow10" .u64 Lib.pow10Tab):
 Calls Tryz.prog 187 #[.int .u64 u,.int .i64 10] w fun e w'=>e= .returned (.string ⟨(Lib.decDigits u).toArray⟩)/\Below w.heap.size w w':=by
 have Hs:=hid (qd u h1 w htab);clear h1 htab;go_enter Tryz.func187,Tryz.ntmps187
 go_wp2_with fail
 refine Hs.o.mono ?_;rintro e w1 ⟨rfl,hb⟩;go_wp2;go_ret;exact ⟨rfl,hb⟩
end Go.Proofs.YtfenoaeoedobmaaGreatDoor
namespace Go.Proofs.YtfenoaeoedobmaaGreatDoor
open Go Go.RowKit
theorem EC {r:Nat} (h:r<=INF):(FloatKind.f64.format.order r r==some .eq)=true:=by
 rcases Nat.lt_or_eq_of_le h with h|rfl
 ·rw[uv h h,dT rfl]
 ·decide+kernel
theorem iZ:∀(k u:Nat),u<10 ^ (k+1)->Lib.nDigits u<=k+1:=by
 intro k
 induction k with
 |zero=>intro u h;rw[Lib.nDigits_small (by simpa using h)];exact aAa _
 |succ k ih=>
  intro u h;by_cases hs:u<10
  ·rw[Lib.nDigits_small hs];omega
  ·rw[Lib.nDigits_big hs];have:u / 10<10 ^ (k+1):=by
    rw[Nat.div_lt_iff_lt_mul (by decide)];rw[Nat.pow_succ]at h;exact h
   have:=ih _ this;omega
def mY (M:Nat) (k:Int):List UInt8:=
 if 0<=k then
  if (Lib.nDigits M:Int)+k+1<=15 then Lib.decDigits M++List.replicate k.toNat 48++[46,48]
  else (Lib.decDigits M).take 1++[46]++(if Lib.nDigits M=1 then [48] else (Lib.decDigits M).drop 1)++[101]++Lib.decDigits (k+(Lib.nDigits M:Int)-1).toNat
 else
  (List.replicate (1-k-(Lib.nDigits M:Int)).toNat 48++Lib.decDigits M).take ((max (1-k) (Lib.nDigits M:Int))+k).toNat++[46]++
   (List.replicate (1-k-(Lib.nDigits M:Int)).toNat 48++Lib.decDigits M).drop ((max (1-k) (Lib.nDigits M:Int))+k).toNat
def nI (x:Nat):Nat:=if 9223372036854775808<=x then j9 x else x
def mR (x:Nat):ByteArray:=if 9223372036854775808<=x then ⟨#[45]⟩ else ⟨#[]⟩
def mS (x:Nat):List UInt8:=if 9223372036854775808<=x then [45] else []
theorem vF (x:Nat):(mR x).data.toList=mS x:=by
 unfold mR mS;split<;>rfl
theorem vE (x:Nat):(mR x).size<=1:=by
 unfold mR;split
 ·exact aAa _
 ·exact Nat.zero_le _
theorem rK {x:Nat} (h1:9223372036854775808<=x) (h2:x<18446744073709551616):j9 x=x-9223372036854775808:=by
 unfold j9 Op.negFloat
 show x ^^^ 2 ^ 63=x-9223372036854775808
 have e:x=2 ^ 63+(x-9223372036854775808):=by omega
 have hy:x-9223372036854775808<2 ^ 63:=by omega
 generalize x-9223372036854775808=y at*;subst e;apply Nat.eq_of_testBit_eq;intro i;rw[Nat.testBit_xor,Nat.testBit_two_pow];by_cases hi:63=i
 ·subst hi;rw[Nat.testBit_lt_two_pow hy];rw[Nat.testBit_two_pow_add_eq,Nat.testBit_lt_two_pow hy];rfl
 ·rcases Nat.lt_or_gt_of_ne hi with h|h
  ·have h3:y<2 ^ i:=Nat.lt_of_lt_of_le hy (Nat.pow_le_pow_right (by decide) (Nat.le_of_lt h));have h4:2 ^ 63+y<2 ^ i:=by
    have:2 ^ 64<=2 ^ i:=Nat.pow_le_pow_right (by decide) h;omega
   rw[Nat.testBit_lt_two_pow h3,Nat.testBit_lt_two_pow h4];simp[hi]
  ·rw[Nat.testBit_two_pow_add_gt h];simp[hi]
theorem Gc {x:Nat} (h:x<18446744073709551616):nI x<9223372036854775808:=by
 unfold nI
 split
 ·rename_i h1
  rw[rK h1 h];omega
 ·omega
theorem rq (w:World) (x:Nat) (hx:x<18446744073709551616):Calls Tryz.prog 184 #[.float .f64 x] w fun e w'=>e= .returned (.bool (decide (9223372036854775808<=x)))/\w'=w:=by
 have hb:=uW x;by_cases h:9223372036854775808<=x
 ·have h1:IntKind.i64.wrap (x:Int)=(x:Int)-18446744073709551616:=by rw[IntKind.wrap_i64];omega
  have h2:(x:Int)-18446744073709551616<0:=by omega
  rw[dT h];clear h hx;go_enter Tryz.func184,Tryz.ntmps184;go_wp2;go_ret;exact ⟨rfl,rfl⟩
 ·have h1:IntKind.i64.wrap (x:Int)=(x:Int):=by rw[IntKind.wrap_i64];omega
  have h2:¬(x:Int)<0:=by omega
  rw[dF h];clear h hx;go_enter Tryz.func184,Tryz.ntmps184;go_wp2;go_ret;exact ⟨rfl,rfl⟩
def ny (x:Nat) (l:List UInt8) (er:Int):Prop:=
 (INF<nI x/\l=[46,110,97,110]/\er=0)\/
 (nI x=INF/\l=mS x++[46,105,110,102]/\er=0)\/
 (nI x=0/\l=mS x++[48,46,48]/\er=0)\/
 (nI x<INF/\0<nI x/\∃M k e,Dec (nI x) M k e/\(e=2/\l=[]/\er=2\/e=0/\l=mS x++mY M k/\er=0))
def pM (x:Nat) (w:World) (e:Ending) (w':World):Prop:=
 ∃(s:ByteArray) (er:Int),e= .returned (.tuple #[.string s,.int .i64 er])/\Below w.heap.size w w'/\ny x s.data.toList er
theorem zR {y:Nat} (h1:INF<y) (h2:y<9223372036854775808):FloatKind.f64.format.order y y=none:=by
 have hr:∃f,Ieee.double.read y= .nan false f:=by
  refine ⟨y-INF,?_⟩;unfold Ieee.Format.read;rw[sn,pD,ko];have e1:y % 9223372036854775808=y:=Nat.mod_eq_of_lt h2;have e2:(y / 9223372036854775808 % 2==1)=false:=by
   have:y / 9223372036854775808=0:=Nat.div_eq_of_lt h2;rw[this];rfl
  unfold INF at*;simp only[e1,e2];rw[if_neg (by omega),if_neg (by omega),if_neg (by omega)]
 obtain ⟨f,hf⟩:=hr
 show Ieee.double.order y y=none
 unfold Ieee.Format.order;rw[hf];rfl
theorem DX {y:Nat} (h:0<y):0<FV y:=by
 unfold FV
 split
 ·exact h
 ·exact Nat.mul_pos (by omega) (Nat.two_pow_pos _)
theorem I3 {y:Nat} (h:y<INF):(FloatKind.f64.format.order y 9218868437227405311==some .gt)=false:=by
 rw[yi h (by decide),dF (Nat.not_lt.2 (q7 h))]
theorem Sol.bounds {x M:Nat} {k:Int} (h:Sol x k M):1<=M/\Lib.nDigits M<=15:=
 ⟨h.1,iZ 14 M h.2.1⟩
abbrev Tab (w:World):Prop:=Lib.TabIs Tryz.prog w "internal/strconv.uint64pow10" .u64 Lib.pow10Tab
theorem dE {a b:ByteArray} (ha:a.size<=1000) (hb:b.size<=1000):a.size+b.size<=9223372036854775807:=by omega
theorem bo (a b:ByteArray):(a++b).size=a.size+b.size:=by
 have h:(a++b).data.toList=a.data.toList++b.data.toList:=ByteArray.toList_data_append;rw[<-al,h,aAc,al,al]
theorem cV (a b:ByteArray):(a++b).data.toList=a.data.toList++b.data.toList:=ByteArray.toList_data_append
theorem jt (n:Nat):Lib.repeatL [48] n=List.replicate n 48:=by
 induction n with
 |zero=>rfl
 |succ n ih=>rw[List.replicate_succ,Lib.repeatL,ih];rfl
theorem tE (w:World) (x:Nat) (hx:x<18446744073709551616) (htab:Tab w):
 Calls Tryz.prog 152 #[.float .f64 x] w fun e w'=>pM x w e w':=by
 obtain ⟨b,hb⟩:=ex (decide (9223372036854775808<=x));have hsb:=rq w x hx;rw[<-hb]at hsb;have Hsb:=hid hsb;have Hb:=hid hb;clear hsb hb;have hy:=Gc hx;have Htab:=hid htab;have hng:=xP x;clear htab;go_enter Tryz.func152,Tryz.ntmps152
 go_wp2_with fail
 refine Hsb.o.mono ?_;rintro e w1 ⟨rfl,hw⟩;obtain rfl:=hw.symm;clear Hsb
 go_upto_if 12 with (fail)
 go_cut [0,4] from 11 (fun s0 s4 wc'=>s0= .float .f64 (nI x)/\s4= .string (mR x)/\wc'=w)
 case first=>
  cases b with
  |true=>
   have h:=of_decide_eq_true Hb.o.symm;have h2:nI x=j9 x:=if_pos h;have h3:mR x=⟨#[45]⟩:=if_pos h;clear h hx hy;go_wp2
   go_meet
   case rel=>exact ⟨by rw[h2],by rw[h3],(by first|rfl|trivial)⟩
  |false=>
   have h:=of_decide_eq_false Hb.o.symm;have h2:nI x=x:=if_neg h;have h3:mR x=⟨#[]⟩:=if_neg h;clear h hx hy;go_wp2
   go_meet
   case rel=>exact ⟨by rw[h2],by rw[h3],(by first|rfl|trivial)⟩
 case rest=>
  obtain ⟨rfl,rfl,hw⟩:=hcut;obtain rfl:=hw.symm;have hsz:=vE x;have hsl:=vF x;have hR:∀(s:ByteArray) er w',Below w.heap.size w w'->ny x s.data.toList er->pM x w (.returned (.tuple #[.string s,.int .i64 er])) w':=fun s er w' h1 h2=>⟨s,er,rfl,h1,h2⟩;unfold ny at hR;generalize mR x=sg at*;generalize mS x=sl at*;generalize hyy:nI x=y at*;have HR:=hid hR;have Hsl:=hid hsl
  clear hR hyy hng hx hsl;rcases Nat.lt_trichotomy y INF with hlt|rfl|hgt
  ·have e1:(FloatKind.f64.format.order y y != some .eq)=false:=by rw[bne,EC (Nat.le_of_lt hlt)];rfl
   have Hi:=hid (kJ w y _ (I3 hlt));by_cases h0:y=0
   ·subst h0;have e2:(FloatKind.f64.format.order 0 0==some .eq)=true:=by decide+kernel
    have hc:=dE (a:=sg) (b:=⟨#[48,46,48]⟩) (by omega) (by decide);clear hlt hy
    go_wp2_with fail
    refine Hi.o.mono ?_;rintro e w1 ⟨rfl,hw⟩;obtain rfl:=hw.symm;go_wp2
    go_ret2
    exact HR.o (sg++⟨#[48,46,48]⟩) 0 w (aAb _ _) (.inr (.inr (.inl ⟨(by first|rfl|trivial),by rw[cV,Hsl.o],rfl⟩)))
   ·have hpos:0<y:=by omega
    have e2:(FloatKind.f64.format.order y 0==some .eq)=false:=by
     rw[uv hlt (by decide),sC,dF];have:=DX hpos;omega
    have Hd:=hid (si w y hlt (DX hpos));have Hc:=hid (And.intro hlt hpos);clear h0 hpos hlt hy
    go_wp2_with fail
    refine Hi.o.mono ?_;rintro e w1 ⟨rfl,hw⟩;obtain rfl:=hw.symm;clear Hi
    go_wp2_with fail
    refine Hd.o.mono ?_;rintro e w1 ⟨M,k,er,rfl,hw,hdec⟩;obtain rfl:=hw.symm;clear Hd;rcases hdec with ⟨rfl,k1,k2,hsol,hno⟩|⟨rfl,rfl,rfl,hno⟩
    ·have hdec:Dec y M k 0:= .inl ⟨rfl,k1,k2,hsol,hno⟩;have Hdec:=hid hdec;obtain ⟨m1,m2⟩:=hsol.bounds;have hM64:M<18446744073709551616:=Nat.lt_trans hsol.2.1 (by decide);obtain ⟨ds,hds⟩:∃ds:ByteArray,ds=⟨(Lib.decDigits M).toArray⟩:=⟨_,rfl⟩;have Hf:=hid (nF M hM64 w Htab.o);rw[<-hds]at Hf;have hdl:ds.data.toList=Lib.decDigits M:=by rw[hds]
     have hdn:ds.size=Lib.nDigits M:=by rw[<-al,hdl,Lib.decDigits_length]
     have d1:1<=ds.size:=by rw[hdn];exact Lib.nDigits_pos M
     have d2:ds.size<=15:=by omega
     have hres:∀(s:ByteArray) w',Below w.heap.size w w'->s.data.toList=sl++mY M k->pM x w (.returned (.tuple #[.string s,.int .i64 0])) w':=fun s w' h1 h2=>
      HR.o s 0 w' h1 (.inr (.inr (.inr ⟨Hc.o.1,Hc.o.2,M,k,0,hdec,.inr ⟨rfl,h2,rfl⟩⟩)))
     have Hres:=hid hres;have Hdl:=hid hdl;have Hdn:=hid hdn;clear hdec hno hsol hM64 hds hdl hdn hres HR Hdec m2
     go_wp2_with fail
     refine Hf.o.mono ?_;rintro e w1 ⟨rfl,hb1⟩;clear Hf;by_cases h0:0<=k
     ·obtain ⟨kn,rfl⟩:∃kn:Nat,k=(kn:Int):=⟨k.toNat,by omega⟩;by_cases hs:(ds.size:Int)+(kn:Int)+1<=15
      ·have Hr:=hid (Tryz.strings_Repeat ⟨#[48]⟩ kn w1 (by omega) (by show 1*kn<=_;omega));obtain ⟨rs,hrs⟩:∃rs:ByteArray,rs=⟨(Lib.repeatL (⟨#[48]⟩:ByteArray).data.toList kn).toArray⟩:=⟨_,rfl⟩;rw[<-hrs]at Hr;have hrl:rs.data.toList=List.replicate kn 48:=by rw[hrs];exact jt kn
       have hrn:rs.size<=22:=by rw[<-al,hrl,List.length_replicate];omega
       have Hrl:=hid hrl;clear hrs hrl;have c1:=dE (a:=sg) (b:=ds) (by omega) (by omega);have c2:=dE (a:=sg++ds) (b:=rs) (by rw[bo];omega) (by omega);have c3:=dE (a:=sg++ds++rs) (b:=⟨#[46,48]⟩) (by rw[bo,bo];omega) (by decide);have Hs:=hid hs;have Hb1:=hid hb1;clear hb1
       go_wp2_with fail
       refine Hr.o.mono ?_;rintro e w2 ⟨rfl,hb2⟩;clear Hr;have Hb2:=hid hb2;clear hb2;go_wp2
       go_ret2
       refine Hres.o _ _ (Hb1.o.trans (Hb2.o.mono Hb1.o.size)) ?_;rw[cV,cV,cV,Hsl.o,Hdl.o,Hrl.o];unfold mY;rw[if_pos (by omega),if_pos (by rw[<-Hdn.o];exact Hs.o)];simp
      ·obtain ⟨p,hp⟩:∃p:Nat,p=kn+ds.size-1:=⟨_,rfl⟩;have hpi:(kn:Int)+(ds.size:Int)-1=(p:Int):=by omega
       have hw1:IntKind.i64.wrap ((kn:Int)+(ds.size:Int))=(kn:Int)+(ds.size:Int):=by rw[IntKind.wrap_i64];omega
       have hw2:IntKind.i64.wrap ((kn:Int)+(ds.size:Int)-1)=(p:Int):=by rw[IntKind.wrap_i64];omega
       have hi:=fun w1=> Tryz.strconv_Itoa_small p (by omega) w1;obtain ⟨ps,hps⟩:∃ps:ByteArray,ps=⟨(Lib.decDigits p).toArray⟩:=⟨_,rfl⟩;rw[<-hps]at hi;have hpl:ps.data.toList=Lib.decDigits p:=by rw[hps]
       have hpn:ps.size<=2:=by rw[<-al,hpl,Lib.decDigits_length];exact iZ 1 p (by omega)
       have Hi2:=hid hi;have Hpl:=hid hpl;have Hp:=hid hp;have Hpi:=hid hpi;have x1:=fQ ds 0 1;have x2:=fQ ds 1 ds.size;have xl1:(ds.extract 0 1).data.toList=(Lib.decDigits M).take 1:=by rw[iM,Hdl.o];rfl
       have xl2:(ds.extract 1 ds.size).data.toList=(Lib.decDigits M).drop 1:=by rw[dm,Hdl.o]
       have Hxl1:=hid xl1;have Hxl2:=hid xl2;have Hs:=hid hs;have Hb1:=hid hb1;clear hi hps hpl hp hpi xl1 xl2 hb1;have d1':(1:Int)<=(ds.size:Int):=by omega
       have hres2:∀(rest:ByteArray),rest.data.toList=(if Lib.nDigits M=1 then [48] else (Lib.decDigits M).drop 1)->(sg++ds.extract 0 1++⟨#[46]⟩++rest++⟨#[101]⟩++ps).data.toList=sl++mY M kn:=by
        intro rest hr;rw[cV,cV,cV,cV,cV,Hsl.o,Hxl1.o,hr,Hpl.o];unfold mY;rw[if_pos (show (0:Int)<=(kn:Int) by omega),if_neg (show ¬(Lib.nDigits M:Int)+(kn:Int)+1<=15 by rw[<-Hdn.o];exact Hs.o),<-Hdn.o,Hp.o];have:(kn+ds.size-1:Nat)=((kn:Int)+(ds.size:Int)-1).toNat:=by omega
        rw[this];simp
       have Hres2:=hid hres2;clear hres2;by_cases hn1:ds.size=1
       ·have g1:((ds.size:Int)==1)=true:=by simp;omega
        have c1:=dE (a:=sg) (b:=ds.extract 0 1) (by omega) (by omega);have c2:=dE (a:=sg++ds.extract 0 1) (b:=⟨#[46]⟩) (by rw[bo];omega) (by decide);have c3:=dE (a:=sg++ds.extract 0 1++⟨#[46]⟩) (b:=⟨#[48]⟩) (by rw[bo,bo];show _+_+1<=1000;omega) (by decide);have c4:=dE (a:=sg++ds.extract 0 1++⟨#[46]⟩++⟨#[48]⟩) (b:=⟨#[101]⟩) (by rw[bo,bo,bo];show _+_+1+1<=1000;omega) (by decide)
        have c5:=dE (a:=sg++ds.extract 0 1++⟨#[46]⟩++⟨#[48]⟩++⟨#[101]⟩) (b:=ps) (by rw[bo,bo,bo,bo];show _+_+1+1+1<=1000;omega) (by omega);have Hn1:=hid hn1;clear hn1
        go_wp2_with fail
        go_quiet (exact Calls.quiet_of_same (Hi2.o _));clear Hi2;go_wp2
        go_ret2
        refine Hres.o _ _ (Hb1.o.trans ⟨rfl,rfl,rfl,aAa _,fun _ _=>rfl⟩) (Hres2.o _ ?_);rw[<-Hdn.o,if_pos Hn1.o]
       ·have g1:((ds.size:Int)==1)=false:=by simp;omega
        have c1:=dE (a:=sg) (b:=ds.extract 0 1) (by omega) (by omega);have c2:=dE (a:=sg++ds.extract 0 1) (b:=⟨#[46]⟩) (by rw[bo];omega) (by decide);have c3:=dE (a:=sg++ds.extract 0 1++⟨#[46]⟩) (b:=ds.extract 1 ds.size) (by rw[bo,bo];show _+_+1<=1000;omega) (by omega);have c4:=dE (a:=sg++ds.extract 0 1++⟨#[46]⟩++ds.extract 1 ds.size) (b:=⟨#[101]⟩) (by rw[bo,bo,bo];show _+_+1+_<=1000;omega) (by decide)
        have c5:=dE (a:=sg++ds.extract 0 1++⟨#[46]⟩++ds.extract 1 ds.size++⟨#[101]⟩) (b:=ps) (by rw[bo,bo,bo,bo];show _+_+1+_+1<=1000;omega) (by omega);have Hn1:=hid hn1;clear hn1
        go_wp2_with fail
        go_quiet (exact Calls.quiet_of_same (Hi2.o _));clear Hi2;go_wp2
        go_ret2
        refine Hres.o _ _ (Hb1.o.trans ⟨rfl,rfl,rfl,aAa _,fun _ _=>rfl⟩) (Hres2.o _ ?_);rw[<-Hdn.o,if_neg Hn1.o,Hxl2.o]
     ·have hk0:k<0:=by omega
      have hk1:¬(0<=k):=h0;obtain ⟨z,hz⟩:∃z,z=(1-k-(ds.size:Int)).toNat:=⟨_,rfl⟩;obtain ⟨q,hq⟩:∃q,q=(max (1-k) (ds.size:Int)+k).toNat:=⟨_,rfl⟩;have Hr:=hid (Tryz.strings_Repeat ⟨#[48]⟩ z w1 (by omega) (by show 1*z<=_;omega));obtain ⟨rs,hrs⟩:∃rs:ByteArray,rs=⟨(Lib.repeatL (⟨#[48]⟩:ByteArray).data.toList z).toArray⟩:=⟨_,rfl⟩;rw[<-hrs]at Hr;have hrl:rs.data.toList=List.replicate z 48:=by rw[hrs];exact jt z
      have hrz:rs.size=z:=by rw[<-al,hrl,List.length_replicate]
      have hrn:rs.size<=22:=by omega
      have hz1:(z:Int)=max (1-k-(ds.size:Int)) 0:=by omega
      rw[hz1]at Hr;have hw1:IntKind.i64.wrap (1-k-(ds.size:Int))=1-k-(ds.size:Int):=by rw[IntKind.wrap_i64];omega
      have hSs:(rs++ds).size=z+ds.size:=by rw[bo,hrz]
      have c0:=dE (a:=rs) (b:=ds) (by omega) (by omega);have hw2:IntKind.i64.wrap (((rs++ds).size:Int)+k)=(q:Int):=by rw[IntKind.wrap_i64,hSs];omega
      have hq1:q<=(rs++ds).size:=by omega
      have hq2:(q:Int)<=((rs++ds).size:Int):=by omega
      have hq3:(0:Int)<=(q:Int):=by omega
      have hS2:(rs++ds).size<=40:=by omega
      have hSl:(rs++ds).data.toList=List.replicate z 48++Lib.decDigits M:=by rw[cV,hrl,Hdl.o]
      have hfin:((rs++ds).extract 0 q).data.toList=(List.replicate z 48++Lib.decDigits M).take q/\((rs++ds).extract q (rs++ds).size).data.toList=(List.replicate z 48++Lib.decDigits M).drop q:=by
       rw[iM,dm,hSl];exact ⟨rfl,rfl⟩
      have x1:=fQ (rs++ds) 0 q;have x2:=fQ (rs++ds) q (rs++ds).size;have Hfin:=hid hfin;have Hz:=hid hz;have Hq:=hid hq;have Hb1:=hid hb1;clear hrs hrl hrz hb1 hz1 hz hq hfin hSl hSs
      go_wp2_with fail
      refine Hr.o.mono ?_;rintro e w2 ⟨rfl,hb2⟩;clear Hr hw1;have Hb2:=hid hb2;clear hb2;go_wp2;generalize rs++ds=S at*;have c1:=dE (a:=sg) (b:=S.extract 0 q) (by omega) (by omega);have c2:=dE (a:=sg++S.extract 0 q) (b:=⟨#[46]⟩) (by rw[bo];omega) (by decide);have c3:=dE (a:=sg++S.extract 0 q++⟨#[46]⟩) (b:=S.extract q S.size) (by rw[bo,bo];show _+_+1<=1000;omega) (by omega)
      go_quiet (fail);go_wp2
      go_ret2
      refine Hres.o _ _ ((Hb1.o.trans (Hb2.o.mono Hb1.o.size)).trans ⟨rfl,rfl,rfl,aAa _,fun _ _=>rfl⟩) ?_;rw[cV,cV,cV,Hsl.o,Hfin.o.1,Hfin.o.2];unfold mY;rw[if_neg (show ¬0<=k by omega),<-Hdn.o,<-Hz.o,<-Hq.o];simp
    ·have hdec:Dec y 0 0 2:= .inr ⟨rfl,rfl,rfl,hno⟩;have Hdec:=hid hdec;clear hdec hno;go_wp2
     go_ret2
     exact HR.o ⟨#[]⟩ 2 w (aAb _ _) (.inr (.inr (.inr ⟨Hc.o.1,Hc.o.2,0,0,2,Hdec.o,.inl ⟨rfl,rfl,rfl⟩⟩)))
  ·have e1:(FloatKind.f64.format.order INF INF != some .eq)=false:=by decide+kernel
   have Hi:=hid (kJ w INF true (by decide+kernel));have hc:=dE (a:=sg) (b:=⟨#[46,105,110,102]⟩) (by omega) (by decide);clear hy
   go_wp2_with fail
   refine Hi.o.mono ?_;rintro e w1 ⟨rfl,hw⟩;obtain rfl:=hw.symm;go_wp2
   go_ret2
   exact HR.o (sg++⟨#[46,105,110,102]⟩) 0 w (aAb _ _) (.inr (.inl ⟨(by first|rfl|trivial),by rw[cV,Hsl.o],rfl⟩))
  ·have e1:(FloatKind.f64.format.order y y != some .eq)=true:=by rw[zR hgt hy];rfl
   have Hg:=hid hgt;clear hgt hy;go_wp2
   go_ret2
   exact HR.o ⟨#[46,110,97,110]⟩ 0 w (aAb _ _) (.inl ⟨Hg.o,rfl,rfl⟩)
