/-
Parts of a proof.
-/
import Derived.Shelf.Bytes.SlCut
import Derived.Shelf.Bytes.SlIndexAt
import Derived.Shelf.Strings.OnBuilder
import Derived.Shelf.Strconv.Itoa3
import Derived.Shelf.Strconv.Itoa4
import Derived.Lib.ItoaMem
import Derived.BigCall
import Derived.BigGuard
import Derived.Lib.Repeat
import Derived.Test.YtfenoaeoedobmaaGreatDoorBk34
set_option linter.unusedVariables false
set_option linter.unusedSimpArgs false
set_option maxHeartbeats 6400000
set_option maxRecDepth 100000
namespace Go.Proofs.YtfenoaeoedobmaaGreatDoor
open Go Go.RowKit
theorem aFh.before {w0 w w1 w2:World} {rb:Nat} {nv:Value} {ms:List NdM} {ns2:List Nd} (hb:Below w.heap.size w w1) (h:aFh w0 w1 rb nv ms ns2 w2):aFh w0 w rb nv ms ns2 w2:=
 aFh.trans hb.size (Mod.ofBelow hb (fun b hb hge=>by omega)) (fun g hg=> .inl hg) h
theorem aXv {w0 w:World} {rb:Nat} {nv:Value} {ms:List NdM} (h:WrS w0 w rb nv ms) (p:Option Nat) (hp:∀i,p=some i->∃m,ms[i]? =some m/\m.nd.kids.length<1048576) (kind:Int) (hk:I64 kind) (key:ByteArray) (hkey:key.size<=1048576) (hlen:ms.length<1048576):
 Calls Tryz.prog 70 #[.pointer (some ⟨rb,0,none⟩),.int .i64 (parV p),.int .i64 kind,.string key] w
  fun r w'=>r= .returned (.int .i64 (ms.length:Int))/\aFh w0 w rb nv ms (layN (nds ms) p ⟨kind,key,⟨#[]⟩,false,0,[]⟩) w':=by
 have HL:=hid (aLr h p hp ⟨kind,key,⟨#[]⟩,false,0,[]⟩ rfl hk (by show I64 0;decide) (by show (0:Nat)<=1048576;decide) hkey hlen);obtain ⟨n,hn⟩:∃n,n=ms.length:=⟨_,rfl⟩;rw[<-hn]at HL |-;generalize parV p=pv at*;clear h hp hk hkey hlen hn;go_enter Tryz.func70,Tryz.ntmps70
 go_wp2_with fail
 refine HL.out.mono ?_;rintro r w2 ⟨rfl,h2⟩;have H2:=hid h2;clear HL h2;go_wp2;refine bodyPost_ret (results_tmp (t:=8) rfl _ _ _) rfl ⟨rfl,H2.out⟩
theorem a59 {w0 w:World} {rb:Nat} {nv:Value} {ms:List NdM} (h:WrS w0 w rb nv ms) (hg:Glob w) (p:Nat) (hp:∃m,ms[p]? =some m/\m.nd.kids.length<1048576) (key:ByteArray) (hkey:key.size<=1048576) (s:ByteArray) (hs:s.size<=1048576) (hlen:ms.length<1048576):
 Calls Tryz.prog 71 #[.pointer (some ⟨rb,0,none⟩),.int .i64 (p:Int),.string key,.string s] w
  fun r w'=>(∃v,r= .returned v)/\aFh w0 w rb nv ms (addFo (nds ms) p (leafF key s .nil)) w':=by
 have Hpl:=hid (aRi w s hs hg);have hpn:p<(nds ms).length:=by obtain ⟨m,hm,-⟩:=hp;rw[aBa];exact (a7j hm).1
 have HL:=hid (fun w1 (hb:Below w.heap.size w w1)=>aLr (h.later hb) (some p) (fun i hi=>by cases hi;exact hp) ⟨1,key,s,!aDl s.data.toList,0,[]⟩ rfl (by show I64 1;decide) (by show I64 0;decide) hs hkey hlen);have Hns:=hid (aXt hpn key s (!aDl s.data.toList));obtain ⟨b,hb⟩:∃b,b=aDl s.data.toList:=⟨_,rfl⟩;unfold leafF;rw[<-hb]at Hpl HL Hns |-;unfold parV at HL;clear h hp hkey hs hlen hg hpn hb
 go_enter Tryz.func71,Tryz.ntmps71
 go_wp2_with fail
 refine Hpl.out.mono ?_;rintro r w1 ⟨rfl,hb1⟩;have HL1:=hid (HL.out w1 hb1);have Hb1:=hid hb1;clear HL hb1 Hpl
 go_wp2_with fail
 refine HL1.out.mono ?_;rintro r w2 ⟨rfl,h2⟩;have H2:=hid (aFh.before Hb1.out h2);clear HL1 h2;go_wp2
 go_end0
 refine ⟨⟨_,rfl⟩,?_⟩;have:=H2.out;rw[Hns.out]at this;exact this
end Go.Proofs.YtfenoaeoedobmaaGreatDoor
namespace Go.Proofs
open Go.Shelf Go.RowKit Go.Sort Go.Lib
def Tryz.lays185_ren:Go.Shelf.Ren:=⟨fun|185=>139|187=>172|115=>173|253=>174|224=>175|254=>176|255=>195|291=>196|n=>n,fun|37=>42|3=>3|4=>4|0=>0|5=>5|46=>205|9=>9|146=>229|51=>228|n=>n,fun|1=>1|n=>n⟩
theorem Tryz.lays185:Go.Proofs.Lays.n185 Tryz.prog Tryz.lays185_ren:={
 mixed:=by kernel_rfl
 f115:=Tryz.func173.trans (congrArg some (by kernel_rfl))
 f185:=Tryz.func139.trans (congrArg some (by kernel_rfl))
 f187:=Tryz.func172.trans (congrArg some (by kernel_rfl))
 f224:=Tryz.func175.trans (congrArg some (by kernel_rfl))
 f253:=Tryz.func174.trans (congrArg some (by kernel_rfl))
 f254:=Tryz.func176.trans (congrArg some (by kernel_rfl))
 f255:=Tryz.func195.trans (congrArg some (by kernel_rfl))
 f291:=Tryz.func196.trans (congrArg some (by kernel_rfl))
 t0:=Tryz.underlying0
 a0:=Tryz.isAgg0
 z0:=Tryz.sizeOf0
 v0:=Tryz.zeroValue0
 t3:=Tryz.underlying3
 a3:=Tryz.isAgg3
 z3:=Tryz.sizeOf3
 v3:=Tryz.zeroValue3
 t4:=Tryz.underlying4
 a4:=Tryz.isAgg4
 z4:=Tryz.sizeOf4
 v4:=Tryz.zeroValue4
 t5:=Tryz.underlying5
 a5:=Tryz.isAgg5
 z5:=Tryz.sizeOf5
 v5:=Tryz.zeroValue5
 t9:=Tryz.underlying9
 a9:=Tryz.isAgg9
 z9:=Tryz.sizeOf9
 v9:=Tryz.zeroValue9
 t37:=Tryz.underlying42
 a37:=Tryz.isAgg42
 z37:=Tryz.sizeOf42
 v37:=Tryz.zeroValue42
 t46:=Tryz.underlying205
 a46:=Tryz.isAgg205
 z46:=Tryz.sizeOf205
 v46:=Tryz.zeroValue205
 t51:=Tryz.underlying228
 a51:=Tryz.isAgg228
 z51:=Tryz.sizeOf228
 v51:=Tryz.zeroValue228
 t146:=Tryz.underlying229
 a146:=Tryz.isAgg229
 z146:=Tryz.sizeOf229
 v146:=Tryz.zeroValue229
 g1:=by kernel_rfl}
theorem Tryz.bytes_Index_one_at (a:Addr) (n c b2 o2 d:Nat) (xs:List Int) (cv:Int) (w:World) (hx:xs.length=n) (hc:∀i,i<n->w.cell? (a.add i)=some (.int .u8 (xs.getD i 0))) (hc2:w.cell? ⟨b2,o2,none⟩=some (.int .u8 cv)):
 Calls Tryz.prog 139 #[.slice (some a) n c,.slice (some ⟨b2,o2,none⟩) 1 d] w fun e w'=>e= .returned (.int .i64 (Lib.indexByte (Lib.bytesOf xs) cv.toNat.toUInt8))/\w'=w:=Any.bytes_Index_one_at Tryz.lays185 a n c b2 o2 d xs cv w hx hc hc2
def Tryz.laysSlT4_ren:Go.Shelf.Ren:=⟨fun|4=>104|5=>139|6=>172|7=>173|8=>174|9=>175|10=>176|11=>195|12=>196|n=>n,fun|22=>42|4=>4|3=>3|0=>0|5=>5|29=>205|9=>9|31=>229|30=>228|n=>n,fun|0=>1|n=>n⟩
theorem Tryz.laysSlT4:Go.Proofs.SlLaysT.n4 Tryz.prog Tryz.laysSlT4_ren:={
 mixed:=by kernel_rfl
 f4:=Tryz.func104.trans (congrArg some (by kernel_rfl))
 f5:=Tryz.func139.trans (congrArg some (by kernel_rfl))
 f6:=Tryz.func172.trans (congrArg some (by kernel_rfl))
 f7:=Tryz.func173.trans (congrArg some (by kernel_rfl))
 f8:=Tryz.func174.trans (congrArg some (by kernel_rfl))
 f9:=Tryz.func175.trans (congrArg some (by kernel_rfl))
 f10:=Tryz.func176.trans (congrArg some (by kernel_rfl))
 f11:=Tryz.func195.trans (congrArg some (by kernel_rfl))
 f12:=Tryz.func196.trans (congrArg some (by kernel_rfl))
 t0:=Tryz.underlying0
 a0:=Tryz.isAgg0
 z0:=Tryz.sizeOf0
 v0:=Tryz.zeroValue0
 t3:=Tryz.underlying3
 a3:=Tryz.isAgg3
 z3:=Tryz.sizeOf3
 v3:=Tryz.zeroValue3
 t4:=Tryz.underlying4
 a4:=Tryz.isAgg4
 z4:=Tryz.sizeOf4
 v4:=Tryz.zeroValue4
 t5:=Tryz.underlying5
 a5:=Tryz.isAgg5
 z5:=Tryz.sizeOf5
 v5:=Tryz.zeroValue5
 t9:=Tryz.underlying9
 a9:=Tryz.isAgg9
 z9:=Tryz.sizeOf9
 v9:=Tryz.zeroValue9
 t22:=Tryz.underlying42
 a22:=Tryz.isAgg42
 z22:=Tryz.sizeOf42
 v22:=Tryz.zeroValue42
 t29:=Tryz.underlying205
 a29:=Tryz.isAgg205
 z29:=Tryz.sizeOf205
 v29:=Tryz.zeroValue205
 t30:=Tryz.underlying228
 a30:=Tryz.isAgg228
 z30:=Tryz.sizeOf228
 v30:=Tryz.zeroValue228
 t31:=Tryz.underlying229
 a31:=Tryz.isAgg229
 z31:=Tryz.sizeOf229
 v31:=Tryz.zeroValue229
 g0:=by kernel_rfl}
theorem Tryz.bytes_Cut_of (p1 p2:Option Addr) (n c1 k c2:Nat) (i:Int) (w:World) (hcap:n<=c1) (hlo: -1<=i) (hroom:0<=i->i+k<=n) (hn:n<=4611686018427387904) (hidx:Calls Tryz.prog 139 #[.slice p1 n c1,.slice p2 k c2] w fun e w'=>e= .returned (.int .i64 i)/\∃q,w'=w.drewN q):
 Calls Tryz.prog 104 #[.slice p1 n c1,.slice p2 k c2] w fun e w'=>e= .returned (Lib.cutV p1 n c1 k i)/\∃q,w'=w.drewN q:=Any.bytes_Cut_of Tryz.laysSlT4 p1 p2 n c1 k c2 i w hcap hlo hroom hn hidx
def Tryz.lays156_ren:Go.Shelf.Ren:=⟨fun|156=>65|165=>100|166=>101|169=>102|240=>137|241=>138|276=>170|277=>171|n=>n,fun|31=>45|9=>9|3=>3|4=>4|0=>0|20=>20|72=>161|76=>165|70=>159|37=>42|75=>164|127=>209|164=>233|5=>5|80=>167|n=>n,fun|n=>n⟩
theorem Tryz.lays156:Go.Proofs.Lays.n156 Tryz.prog Tryz.lays156_ren:={
 mixed:=by kernel_rfl
 f156:=Tryz.func65.trans (congrArg some (by kernel_rfl))
 f165:=Tryz.func100.trans (congrArg some (by kernel_rfl))
 f166:=Tryz.func101.trans (congrArg some (by kernel_rfl))
 f169:=Tryz.func102.trans (congrArg some (by kernel_rfl))
 f240:=Tryz.func137.trans (congrArg some (by kernel_rfl))
 f241:=Tryz.func138.trans (congrArg some (by kernel_rfl))
 f276:=Tryz.func170.trans (congrArg some (by kernel_rfl))
 f277:=Tryz.func171.trans (congrArg some (by kernel_rfl))
 t0:=Tryz.underlying0
 a0:=Tryz.isAgg0
 z0:=Tryz.sizeOf0
 v0:=Tryz.zeroValue0
 t3:=Tryz.underlying3
 a3:=Tryz.isAgg3
 z3:=Tryz.sizeOf3
 v3:=Tryz.zeroValue3
 t4:=Tryz.underlying4
 a4:=Tryz.isAgg4
 z4:=Tryz.sizeOf4
 v4:=Tryz.zeroValue4
 t9:=Tryz.underlying9
 a9:=Tryz.isAgg9
 z9:=Tryz.sizeOf9
 v9:=Tryz.zeroValue9
 t20:=Tryz.underlying20
 a20:=Tryz.isAgg20
 z20:=Tryz.sizeOf20
 v20:=Tryz.zeroValue20
 t31:=Tryz.underlying45
 a31:=Tryz.isAgg45
 z31:=Tryz.sizeOf45
 v31:=Tryz.zeroValue45
 t37:=Tryz.underlying42
 a37:=Tryz.isAgg42
 z37:=Tryz.sizeOf42
 v37:=Tryz.zeroValue42
 t70:=Tryz.underlying159
 a70:=Tryz.isAgg159
 z70:=Tryz.sizeOf159
 v70:=Tryz.zeroValue159
 t72:=Tryz.underlying161
 a72:=Tryz.isAgg161
 z72:=Tryz.sizeOf161
 v72:=Tryz.zeroValue161
 t75:=Tryz.underlying164
 a75:=Tryz.isAgg164
 z75:=Tryz.sizeOf164
 v75:=Tryz.zeroValue164
 t76:=Tryz.underlying165
 a76:=Tryz.isAgg165
 z76:=Tryz.sizeOf165
 v76:=Tryz.zeroValue165
 t127:=Tryz.underlying209
 a127:=Tryz.isAgg209
 z127:=Tryz.sizeOf209
 v127:=Tryz.zeroValue209
 t164:=Tryz.underlying233
 a164:=Tryz.isAgg233
 z164:=Tryz.sizeOf233
 v164:=Tryz.zeroValue233}
theorem Tryz.Builder_Extra_156:Builder.Extra Tryz.prog Tryz.lays156_ren:={
 sizeBuilder:=by kernel_rfl
 liesBuilder:=by kernel_rfl
 t5:=Tryz.underlying5
 a5:=Tryz.isAgg5
 z5:=Tryz.sizeOf5
 v5:=Tryz.zeroValue5
 infoByte:=by kernel_rfl
 cellsByte:=by kernel_rfl
 sizeByte:=by kernel_rfl
 neB5:=by decide}
theorem Tryz.strings_Join_none (a:Option Addr) (c:Nat) (sep:ByteArray) (w:World):
 Calls Tryz.prog 65 #[.slice a 0 c,.string sep] w fun e w'=>e= .returned (.string ⟨#[]⟩)/\w'=w:=Any.strings_Join_none Tryz.lays156 Tryz.Builder_Extra_156 a c sep w
theorem Tryz.strings_Join (bk o c:Nat) (xs:List ByteArray) (sep:ByteArray) (w:World) (hcells:∀(j:Nat) x,xs[j]? =some x->w.cell? ⟨bk,o+j,none⟩=some (.string x)) (hbk:bk<w.heap.size) (hN:xs.length<=140737488355328) (hcap:xs.length<=c) (hlen:(Lib.join (xs.map (·.data.toList)) sep.data.toList).length<=140737488355328):
 Calls Tryz.prog 65 #[.slice (some ⟨bk,o,none⟩) xs.length c,.string sep] w fun e w'=>e= .returned (.string ⟨(Lib.join (xs.map (·.data.toList)) sep.data.toList).toArray⟩)/\Below w.heap.size w w':=Any.strings_Join Tryz.lays156 Tryz.Builder_Extra_156 bk o c xs sep w hcells hbk hN hcap hlen
def Tryz.lays121_ren:Go.Shelf.Ren:=⟨fun|121=>150|214=>183|n=>n,fun|4=>4|9=>9|n=>n,fun|n=>n⟩
theorem Tryz.lays121:Go.Proofs.Lays.n121 Tryz.prog Tryz.lays121_ren:={
 mixed:=by kernel_rfl
 f121:=Tryz.func150.trans (congrArg some (by kernel_rfl))
 f214:=Tryz.func183.trans (congrArg some (by kernel_rfl))
 t4:=Tryz.underlying4
 a4:=Tryz.isAgg4
 z4:=Tryz.sizeOf4
 v4:=Tryz.zeroValue4
 t9:=Tryz.underlying9
 a9:=Tryz.isAgg9
 z9:=Tryz.sizeOf9
 v9:=Tryz.zeroValue9}
theorem Tryz.strconv_FormatBool (b:Bool) (w:World):
 Calls Tryz.prog 150 #[.bool b] w fun e w'=>e= .returned (.string ⟨(Lib.formatBool b).toArray⟩)/\w'=w:=Any.strconv_FormatBool Tryz.lays121 b w
def Tryz.lays283_ren:Go.Shelf.Ren:=⟨fun|283=>200|n=>n,fun|3=>3|9=>9|4=>4|n=>n,fun|n=>n⟩
theorem Tryz.lays283:Go.Proofs.Lays.n283 Tryz.prog Tryz.lays283_ren:={
 mixed:=by kernel_rfl
 f283:=Tryz.func200.trans (congrArg some (by kernel_rfl))
 t3:=Tryz.underlying3
 a3:=Tryz.isAgg3
 z3:=Tryz.sizeOf3
 v3:=Tryz.zeroValue3
 t4:=Tryz.underlying4
 a4:=Tryz.isAgg4
 z4:=Tryz.sizeOf4
 v4:=Tryz.zeroValue4
 t9:=Tryz.underlying9
 a9:=Tryz.isAgg9
 z9:=Tryz.sizeOf9
 v9:=Tryz.zeroValue9}
theorem Tryz.internal_strconv_small (i:Nat) (h:i<100) (w:World):
 Calls Tryz.prog 200 #[.int .i64 i] w fun e w'=>e= .returned (.string ⟨(Lib.decDigits i).toArray⟩)/\w'=w:=Any.internal_strconv_small Tryz.lays283 i h w
def Tryz.laysM284_ren:Go.Shelf.Ren:=⟨fun|284=>201|129=>221|317=>220|318=>222|n=>n,fun|53=>184|3=>3|212=>268|0=>0|4=>4|46=>205|5=>5|9=>9|n=>n,fun|17=>2|n=>n⟩
theorem Tryz.laysM284:Go.Proofs.LaysM.n284 Tryz.prog Tryz.laysM284_ren:={
 mixed:=by kernel_rfl
 f129:=Tryz.func221.trans (congrArg some (by kernel_rfl))
 f284:=Tryz.func201.trans (congrArg some (by kernel_rfl))
 f317:=Tryz.func220.trans (congrArg some (by kernel_rfl))
 f318:=Tryz.func222.trans (congrArg some (by kernel_rfl))
 t0:=Tryz.underlying0
 a0:=Tryz.isAgg0
 z0:=Tryz.sizeOf0
 v0:=Tryz.zeroValue0
 t3:=Tryz.underlying3
 a3:=Tryz.isAgg3
 z3:=Tryz.sizeOf3
 v3:=Tryz.zeroValue3
 t4:=Tryz.underlying4
 a4:=Tryz.isAgg4
 z4:=Tryz.sizeOf4
 v4:=Tryz.zeroValue4
 t5:=Tryz.underlying5
 a5:=Tryz.isAgg5
 z5:=Tryz.sizeOf5
 v5:=Tryz.zeroValue5
 t9:=Tryz.underlying9
 a9:=Tryz.isAgg9
 z9:=Tryz.sizeOf9
 v9:=Tryz.zeroValue9
 t46:=Tryz.underlying205
 a46:=Tryz.isAgg205
 z46:=Tryz.sizeOf205
 v46:=Tryz.zeroValue205
 t53:=Tryz.underlying184
 a53:=Tryz.isAgg184
 z53:=Tryz.sizeOf184
 v53:=Tryz.zeroValue184
 t212:=Tryz.underlying268
 a212:=Tryz.isAgg268
 z212:=Tryz.sizeOf268
 v212:=Tryz.zeroValue268
 g17:=by kernel_rfl
 i0:=by kernel_rfl
 i3:=by kernel_rfl
 i4:=by kernel_rfl
 i5:=by kernel_rfl
 i9:=by kernel_rfl
 i46:=by kernel_rfl
 i53:=by kernel_rfl
 i212:=by kernel_rfl
 m17:=by kernel_rfl}
theorem Tryz.internal_strconv_numDigits (u:Nat) (h1:1<=u) (h2:u<18446744073709551616) (w:World) (htab:Lib.TabIs Tryz.prog w "internal/strconv.uint64pow10" .u64 Lib.pow10Tab):
 Calls Tryz.prog 201 #[.int .u64 u] w fun e w'=>e= .returned (.int .i64 (Lib.nDigits u))/\w'=w:=Any.internal_strconv_numDigits Tryz.laysM284 u h1 h2 w htab
def Tryz.lays285_ren:Go.Shelf.Ren:=⟨fun|285=>202|n=>n,fun|37=>42|53=>184|3=>3|4=>4|51=>228|9=>9|5=>5|0=>0|n=>n,fun|n=>n⟩
theorem Tryz.lays285:Go.Proofs.Lays.n285 Tryz.prog Tryz.lays285_ren:={
 mixed:=by kernel_rfl
 f285:=Tryz.func202.trans (congrArg some (by kernel_rfl))
 t0:=Tryz.underlying0
 a0:=Tryz.isAgg0
 z0:=Tryz.sizeOf0
 v0:=Tryz.zeroValue0
 t3:=Tryz.underlying3
 a3:=Tryz.isAgg3
 z3:=Tryz.sizeOf3
 v3:=Tryz.zeroValue3
 t4:=Tryz.underlying4
 a4:=Tryz.isAgg4
 z4:=Tryz.sizeOf4
 v4:=Tryz.zeroValue4
 t5:=Tryz.underlying5
 a5:=Tryz.isAgg5
 z5:=Tryz.sizeOf5
 v5:=Tryz.zeroValue5
 t9:=Tryz.underlying9
 a9:=Tryz.isAgg9
 z9:=Tryz.sizeOf9
 v9:=Tryz.zeroValue9
 t37:=Tryz.underlying42
 a37:=Tryz.isAgg42
 z37:=Tryz.sizeOf42
 v37:=Tryz.zeroValue42
 t51:=Tryz.underlying228
 a51:=Tryz.isAgg228
 z51:=Tryz.sizeOf228
 v51:=Tryz.zeroValue228
 t53:=Tryz.underlying184
 a53:=Tryz.isAgg184
 z53:=Tryz.sizeOf184
 v53:=Tryz.zeroValue184}
theorem Tryz.internal_strconv_formatBase10 (blk off cap:Nat) (u:Nat) (d:Array UInt8) (w:World) (hH:Holds (fun (b:UInt8)=>Value.int .u8 (b.toNat:Int)) w blk off d) (hu:u<10 ^ d.size) (hu64:u<18446744073709551616) (hsz:d.size<4611686018427387904):
 Calls Tryz.prog 202 #[.slice (some ⟨blk,off,none⟩) d.size cap,.int .u64 u] w fun e w'=>
  e= .returned (.tuple #[])/\∃(n v':Nat) (dk:Array UInt8),w'=(putRow (fun (b:UInt8)=>Value.int .u8 (b.toNat:Int)) w blk off dk).drewN n/\FmtInv d.size u 0 v' dk:=Any.internal_strconv_formatBase10 Tryz.lays285 blk off cap u d w hH hu hu64 hsz
def Tryz.laysM171_ren:Go.Shelf.Ren:=⟨fun|171=>112|243=>149|246=>182|283=>200|284=>201|285=>202|286=>203|129=>221|317=>220|318=>222|319=>223|320=>224|337=>231|338=>232|n=>n,fun|3=>3|9=>9|2=>2|4=>4|171=>253|0=>0|53=>184|37=>42|5=>5|173=>256|212=>268|51=>228|20=>20|213=>269|46=>205|232=>280|233=>281|n=>n,fun|17=>2|18=>5|19=>6|n=>n⟩
theorem Tryz.laysM171:Go.Proofs.LaysM.n171 Tryz.prog Tryz.laysM171_ren:={
 mixed:=by kernel_rfl
 f129:=Tryz.func221.trans (congrArg some (by kernel_rfl))
 f171:=Tryz.func112.trans (congrArg some (by kernel_rfl))
 f243:=Tryz.func149.trans (congrArg some (by kernel_rfl))
 f246:=Tryz.func182.trans (congrArg some (by kernel_rfl))
 f283:=Tryz.func200.trans (congrArg some (by kernel_rfl))
 f284:=Tryz.func201.trans (congrArg some (by kernel_rfl))
 f285:=Tryz.func202.trans (congrArg some (by kernel_rfl))
 f286:=Tryz.func203.trans (congrArg some (by kernel_rfl))
 f317:=Tryz.func220.trans (congrArg some (by kernel_rfl))
 f318:=Tryz.func222.trans (congrArg some (by kernel_rfl))
 f319:=Tryz.func223.trans (congrArg some (by kernel_rfl))
 f320:=Tryz.func224.trans (congrArg some (by kernel_rfl))
 f337:=Tryz.func231.trans (congrArg some (by kernel_rfl))
 f338:=Tryz.func232.trans (congrArg some (by kernel_rfl))
 t0:=Tryz.underlying0
 a0:=Tryz.isAgg0
 z0:=Tryz.sizeOf0
 v0:=Tryz.zeroValue0
 t2:=Tryz.underlying2
 a2:=Tryz.isAgg2
 z2:=Tryz.sizeOf2
 v2:=Tryz.zeroValue2
 t3:=Tryz.underlying3
 a3:=Tryz.isAgg3
 z3:=Tryz.sizeOf3
 v3:=Tryz.zeroValue3
 t4:=Tryz.underlying4
 a4:=Tryz.isAgg4
 z4:=Tryz.sizeOf4
 v4:=Tryz.zeroValue4
 t5:=Tryz.underlying5
 a5:=Tryz.isAgg5
 z5:=Tryz.sizeOf5
 v5:=Tryz.zeroValue5
 t9:=Tryz.underlying9
 a9:=Tryz.isAgg9
 z9:=Tryz.sizeOf9
 v9:=Tryz.zeroValue9
 t20:=Tryz.underlying20
 a20:=Tryz.isAgg20
 z20:=Tryz.sizeOf20
 v20:=Tryz.zeroValue20
 t37:=Tryz.underlying42
 a37:=Tryz.isAgg42
 z37:=Tryz.sizeOf42
 v37:=Tryz.zeroValue42
 t46:=Tryz.underlying205
 a46:=Tryz.isAgg205
 z46:=Tryz.sizeOf205
 v46:=Tryz.zeroValue205
 t51:=Tryz.underlying228
 a51:=Tryz.isAgg228
 z51:=Tryz.sizeOf228
 v51:=Tryz.zeroValue228
 t53:=Tryz.underlying184
 a53:=Tryz.isAgg184
 z53:=Tryz.sizeOf184
 v53:=Tryz.zeroValue184
 t171:=Tryz.underlying253
 a171:=Tryz.isAgg253
 z171:=Tryz.sizeOf253
 v171:=Tryz.zeroValue253
 t173:=Tryz.underlying256
 a173:=Tryz.isAgg256
 z173:=Tryz.sizeOf256
 v173:=Tryz.zeroValue256
 t212:=Tryz.underlying268
 a212:=Tryz.isAgg268
 z212:=Tryz.sizeOf268
 v212:=Tryz.zeroValue268
 t213:=Tryz.underlying269
 a213:=Tryz.isAgg269
 z213:=Tryz.sizeOf269
 t232:=Tryz.underlying280
 a232:=Tryz.isAgg280
 z232:=Tryz.sizeOf280
 v232:=Tryz.zeroValue280
 t233:=Tryz.underlying281
 a233:=Tryz.isAgg281
 z233:=Tryz.sizeOf281
 v233:=Tryz.zeroValue281
 g17:=by kernel_rfl
 g18:=by kernel_rfl
 g19:=by kernel_rfl
 i0:=by kernel_rfl
 i2:=by kernel_rfl
 i3:=by kernel_rfl
 i4:=by kernel_rfl
 i5:=by kernel_rfl
 i9:=by kernel_rfl
 i20:=by kernel_rfl
 i37:=by kernel_rfl
 i46:=by kernel_rfl
 i51:=by kernel_rfl
 i53:=by kernel_rfl
 i171:=by kernel_rfl
 i173:=by kernel_rfl
 i212:=by kernel_rfl
 i232:=by kernel_rfl
 i233:=by kernel_rfl
 m17:=by kernel_rfl
 m18:=by kernel_rfl
 m19:=by kernel_rfl}
theorem Tryz.strconv_Itoa (n:Int) (h0: -9223372036854775808<=n) (h1:n<=9223372036854775807) (w:World) (htab:Lib.TabIs Tryz.prog w "internal/strconv.uint64pow10" .u64 Lib.pow10Tab):
 Calls Tryz.prog 112 #[.int .i64 n] w fun e w'=>e= .returned (.string ⟨(Lib.itoa n).toArray⟩)/\∃k os,w'=grow (w.drewN k) os:=Any.strconv_Itoa Tryz.laysM171 n h0 h1 w htab
def Tryz.lays171_ren:Go.Shelf.Ren:=⟨fun|171=>112|243=>149|246=>182|283=>200|284=>201|285=>202|286=>203|129=>221|317=>220|318=>222|319=>223|320=>224|337=>231|338=>232|n=>n,fun|3=>3|9=>9|2=>2|4=>4|171=>253|0=>0|53=>184|37=>42|5=>5|173=>256|212=>268|51=>228|20=>20|213=>269|46=>205|232=>280|233=>281|n=>n,fun|17=>2|18=>5|19=>6|n=>n⟩
theorem Tryz.lays171:Go.Proofs.Lays.n171 Tryz.prog Tryz.lays171_ren:={
 mixed:=by kernel_rfl
 f129:=Tryz.func221.trans (congrArg some (by kernel_rfl))
 f171:=Tryz.func112.trans (congrArg some (by kernel_rfl))
 f243:=Tryz.func149.trans (congrArg some (by kernel_rfl))
 f246:=Tryz.func182.trans (congrArg some (by kernel_rfl))
 f283:=Tryz.func200.trans (congrArg some (by kernel_rfl))
 f284:=Tryz.func201.trans (congrArg some (by kernel_rfl))
 f285:=Tryz.func202.trans (congrArg some (by kernel_rfl))
 f286:=Tryz.func203.trans (congrArg some (by kernel_rfl))
 f317:=Tryz.func220.trans (congrArg some (by kernel_rfl))
 f318:=Tryz.func222.trans (congrArg some (by kernel_rfl))
 f319:=Tryz.func223.trans (congrArg some (by kernel_rfl))
 f320:=Tryz.func224.trans (congrArg some (by kernel_rfl))
 f337:=Tryz.func231.trans (congrArg some (by kernel_rfl))
 f338:=Tryz.func232.trans (congrArg some (by kernel_rfl))
 t0:=Tryz.underlying0
 a0:=Tryz.isAgg0
 z0:=Tryz.sizeOf0
 v0:=Tryz.zeroValue0
 t2:=Tryz.underlying2
 a2:=Tryz.isAgg2
 z2:=Tryz.sizeOf2
 v2:=Tryz.zeroValue2
 t3:=Tryz.underlying3
 a3:=Tryz.isAgg3
 z3:=Tryz.sizeOf3
 v3:=Tryz.zeroValue3
 t4:=Tryz.underlying4
 a4:=Tryz.isAgg4
 z4:=Tryz.sizeOf4
 v4:=Tryz.zeroValue4
 t5:=Tryz.underlying5
 a5:=Tryz.isAgg5
 z5:=Tryz.sizeOf5
 v5:=Tryz.zeroValue5
 t9:=Tryz.underlying9
 a9:=Tryz.isAgg9
 z9:=Tryz.sizeOf9
 v9:=Tryz.zeroValue9
 t20:=Tryz.underlying20
 a20:=Tryz.isAgg20
 z20:=Tryz.sizeOf20
 v20:=Tryz.zeroValue20
 t37:=Tryz.underlying42
 a37:=Tryz.isAgg42
 z37:=Tryz.sizeOf42
 v37:=Tryz.zeroValue42
 t46:=Tryz.underlying205
 a46:=Tryz.isAgg205
 z46:=Tryz.sizeOf205
 v46:=Tryz.zeroValue205
 t51:=Tryz.underlying228
 a51:=Tryz.isAgg228
 z51:=Tryz.sizeOf228
 v51:=Tryz.zeroValue228
 t53:=Tryz.underlying184
 a53:=Tryz.isAgg184
 z53:=Tryz.sizeOf184
 v53:=Tryz.zeroValue184
 t171:=Tryz.underlying253
 a171:=Tryz.isAgg253
 z171:=Tryz.sizeOf253
 v171:=Tryz.zeroValue253
 t173:=Tryz.underlying256
 a173:=Tryz.isAgg256
 z173:=Tryz.sizeOf256
 v173:=Tryz.zeroValue256
 t212:=Tryz.underlying268
 a212:=Tryz.isAgg268
 z212:=Tryz.sizeOf268
 v212:=Tryz.zeroValue268
 t213:=Tryz.underlying269
 a213:=Tryz.isAgg269
 z213:=Tryz.sizeOf269
 t232:=Tryz.underlying280
 a232:=Tryz.isAgg280
 z232:=Tryz.sizeOf280
 v232:=Tryz.zeroValue280
 t233:=Tryz.underlying281
 a233:=Tryz.isAgg281
 z233:=Tryz.sizeOf281
 v233:=Tryz.zeroValue281
 g17:=by kernel_rfl
 g18:=by kernel_rfl
 g19:=by kernel_rfl}
theorem Tryz.strconv_Itoa_small (i:Nat) (hi:i<100) (w:World):
 Calls Tryz.prog 112 #[.int .i64 i] w fun e w'=>e= .returned (.string ⟨(Lib.decDigits i).toArray⟩)/\w'=w:=Any.strconv_Itoa_small Tryz.lays171 i hi w
def Tryz.laysM173_ren:Go.Shelf.Ren:=⟨fun|173=>151|246=>182|283=>200|284=>201|285=>202|286=>203|129=>221|317=>220|318=>222|319=>223|320=>224|337=>231|338=>232|n=>n,fun|2=>2|3=>3|9=>9|4=>4|171=>253|0=>0|53=>184|37=>42|5=>5|173=>256|212=>268|51=>228|20=>20|213=>269|46=>205|232=>280|233=>281|n=>n,fun|17=>2|18=>5|19=>6|n=>n⟩
theorem Tryz.laysM173:Go.Proofs.LaysM.n173 Tryz.prog Tryz.laysM173_ren:={
 mixed:=by kernel_rfl
 f129:=Tryz.func221.trans (congrArg some (by kernel_rfl))
 f173:=Tryz.func151.trans (congrArg some (by kernel_rfl))
 f246:=Tryz.func182.trans (congrArg some (by kernel_rfl))
 f283:=Tryz.func200.trans (congrArg some (by kernel_rfl))
 f284:=Tryz.func201.trans (congrArg some (by kernel_rfl))
 f285:=Tryz.func202.trans (congrArg some (by kernel_rfl))
 f286:=Tryz.func203.trans (congrArg some (by kernel_rfl))
 f317:=Tryz.func220.trans (congrArg some (by kernel_rfl))
 f318:=Tryz.func222.trans (congrArg some (by kernel_rfl))
 f319:=Tryz.func223.trans (congrArg some (by kernel_rfl))
 f320:=Tryz.func224.trans (congrArg some (by kernel_rfl))
 f337:=Tryz.func231.trans (congrArg some (by kernel_rfl))
 f338:=Tryz.func232.trans (congrArg some (by kernel_rfl))
 t0:=Tryz.underlying0
 a0:=Tryz.isAgg0
 z0:=Tryz.sizeOf0
 v0:=Tryz.zeroValue0
 t2:=Tryz.underlying2
 a2:=Tryz.isAgg2
 z2:=Tryz.sizeOf2
 v2:=Tryz.zeroValue2
 t3:=Tryz.underlying3
 a3:=Tryz.isAgg3
 z3:=Tryz.sizeOf3
 v3:=Tryz.zeroValue3
 t4:=Tryz.underlying4
 a4:=Tryz.isAgg4
 z4:=Tryz.sizeOf4
 v4:=Tryz.zeroValue4
 t5:=Tryz.underlying5
 a5:=Tryz.isAgg5
 z5:=Tryz.sizeOf5
 v5:=Tryz.zeroValue5
 t9:=Tryz.underlying9
 a9:=Tryz.isAgg9
 z9:=Tryz.sizeOf9
 v9:=Tryz.zeroValue9
 t20:=Tryz.underlying20
 a20:=Tryz.isAgg20
 z20:=Tryz.sizeOf20
 v20:=Tryz.zeroValue20
 t37:=Tryz.underlying42
 a37:=Tryz.isAgg42
 z37:=Tryz.sizeOf42
 v37:=Tryz.zeroValue42
 t46:=Tryz.underlying205
 a46:=Tryz.isAgg205
 z46:=Tryz.sizeOf205
 v46:=Tryz.zeroValue205
 t51:=Tryz.underlying228
 a51:=Tryz.isAgg228
 z51:=Tryz.sizeOf228
 v51:=Tryz.zeroValue228
 t53:=Tryz.underlying184
 a53:=Tryz.isAgg184
 z53:=Tryz.sizeOf184
 v53:=Tryz.zeroValue184
 t171:=Tryz.underlying253
 a171:=Tryz.isAgg253
 z171:=Tryz.sizeOf253
 v171:=Tryz.zeroValue253
 t173:=Tryz.underlying256
 a173:=Tryz.isAgg256
 z173:=Tryz.sizeOf256
 v173:=Tryz.zeroValue256
 t212:=Tryz.underlying268
 a212:=Tryz.isAgg268
 z212:=Tryz.sizeOf268
 v212:=Tryz.zeroValue268
 t213:=Tryz.underlying269
 a213:=Tryz.isAgg269
 z213:=Tryz.sizeOf269
 t232:=Tryz.underlying280
 a232:=Tryz.isAgg280
 z232:=Tryz.sizeOf280
 v232:=Tryz.zeroValue280
 t233:=Tryz.underlying281
 a233:=Tryz.isAgg281
 z233:=Tryz.sizeOf281
 v233:=Tryz.zeroValue281
 g17:=by kernel_rfl
 g18:=by kernel_rfl
 g19:=by kernel_rfl
 i0:=by kernel_rfl
 i2:=by kernel_rfl
 i3:=by kernel_rfl
 i4:=by kernel_rfl
 i5:=by kernel_rfl
 i9:=by kernel_rfl
 i20:=by kernel_rfl
 i37:=by kernel_rfl
 i46:=by kernel_rfl
 i51:=by kernel_rfl
 i53:=by kernel_rfl
 i171:=by kernel_rfl
 i173:=by kernel_rfl
 i212:=by kernel_rfl
 i232:=by kernel_rfl
 i233:=by kernel_rfl
 m17:=by kernel_rfl
 m18:=by kernel_rfl
 m19:=by kernel_rfl}
theorem Tryz.strconv_FormatInt_10 (n:Int) (h0: -9223372036854775808<=n) (h1:n<=9223372036854775807) (w:World) (htab:Lib.TabIs Tryz.prog w "internal/strconv.uint64pow10" .u64 Lib.pow10Tab):
 Calls Tryz.prog 151 #[.int .i64 n,.int .i64 10] w fun e w'=>e= .returned (.string ⟨(Lib.itoa n).toArray⟩)/\∃k os,w'=grow (w.drewN k) os:=Any.strconv_FormatInt_10 Tryz.laysM173 n h0 h1 w htab
def Tryz.lays193_ren:Go.Shelf.Ren:=⟨fun|193=>73|n=>n,fun|31=>45|9=>9|4=>4|3=>3|0=>0|n=>n,fun|n=>n⟩
theorem Tryz.lays193:Go.Proofs.Lays.n193 Tryz.prog Tryz.lays193_ren:={
 mixed:=by kernel_rfl
 f193:=Tryz.func73.trans (congrArg some (by kernel_rfl))
 t0:=Tryz.underlying0
 a0:=Tryz.isAgg0
 z0:=Tryz.sizeOf0
 v0:=Tryz.zeroValue0
 t3:=Tryz.underlying3
 a3:=Tryz.isAgg3
 z3:=Tryz.sizeOf3
 v3:=Tryz.zeroValue3
 t4:=Tryz.underlying4
 a4:=Tryz.isAgg4
 z4:=Tryz.sizeOf4
 v4:=Tryz.zeroValue4
 t9:=Tryz.underlying9
 a9:=Tryz.isAgg9
 z9:=Tryz.sizeOf9
 v9:=Tryz.zeroValue9
 t31:=Tryz.underlying45
 a31:=Tryz.isAgg45
 z31:=Tryz.sizeOf45
 v31:=Tryz.zeroValue45}
theorem Tryz.slices_Equal_string (b1 o1 n c b2 o2 m d:Nat) (xs ys:List ByteArray) (w:World) (hx:n<=xs.length) (hy:m<=ys.length) (hbig:n<=9223372036854775807) (hbig2:m<=9223372036854775807) (hc1:∀j,j<xs.length->w.cell? ⟨b1,o1+j,none⟩=some (.string (xs.getD j ByteArray.empty))) (hc2:∀j,j<ys.length->w.cell? ⟨b2,o2+j,none⟩=some (.string (ys.getD j ByteArray.empty))):
 Calls Tryz.prog 73 #[.slice (some ⟨b1,o1,none⟩) n c,.slice (some ⟨b2,o2,none⟩) m d] w fun e w'=>e= .returned (.bool (decide (xs.take n=ys.take m)))/\∃q,w'=w.drewN q:=Any.slices_Equal_string Tryz.lays193 b1 o1 n c b2 o2 m d xs ys w hx hy hbig hbig2 hc1 hc2
theorem Tryz.slices_Equal_string_empty (a1 a2:Option Addr) (c m d:Nat) (w:World) (hbig2:m<=9223372036854775807):
 Calls Tryz.prog 73 #[.slice a1 0 c,.slice a2 m d] w fun e w'=>e= .returned (.bool (decide (m=0)))/\w'=w:=Any.slices_Equal_string_empty Tryz.lays193 a1 a2 c m d w hbig2
theorem Tryz.slices_Equal_string_lens (a1 a2:Option Addr) (n c m d:Nat) (w:World) (hnm:n≠m):
 Calls Tryz.prog 73 #[.slice a1 n c,.slice a2 m d] w fun e w'=>e= .returned (.bool false)/\w'=w:=Any.slices_Equal_string_lens Tryz.lays193 a1 a2 n c m d w hnm
end Go.Proofs
namespace Go.Proofs.YtfenoaeoedobmaaGreatDoor
open Go Go.RowKit Go.Sort Go.Lib
theorem aQg (w:World) (T:TypeId) (nd:Nat) (hs:nd<=24):Holds (fun (b:UInt8)=>Value.int .u8 (b.toNat:Int)) (w.alloc (.cells zeros24 T)) w.heap.size 0 (Array.replicate nd (0:UInt8)):=fun j hj=>by
 have hj':j<nd:=by simpa using hj
 refine ⟨?_,World.frozen?_alloc_new _ _ _ _⟩;rw[World.cell?_alloc_new,zeros24_at _ (by omega),getElem!_pos _ j hj];simp
theorem fin0 (w:World) (o:Obj) (dk:Array UInt8) (k:Nat):∃os,(putRow (fun (b:UInt8)=>Value.int .u8 (b.toNat:Int)) (w.alloc o) w.heap.size 0 dk).drewN k=grow (w.drewN k) os:=by
 rw[alloc_eq_grow];obtain ⟨os',_,e⟩:=putRow_grow_new (fun (b:UInt8)=>Value.int .u8 (b.toNat:Int)) w #[o] w.heap.size 0 dk (a7c _);exact ⟨os',by rw[e];rfl⟩
theorem aH5 (w:World) (k:Nat) (os:Array Obj):Below w.heap.size w (grow (w.drewN k) os):=by
 refine ⟨rfl,rfl,rfl,?_,fun i hi=> ?_⟩
 ·show w.heap.size<=(w.heap++os).size
  rw[Array.size_append];omega
 ·show (w.heap++os)[i]? =w.heap[i]?
  rw[Array.getElem?_append_left hi]
theorem aMx (u:Nat) (h1:u<18446744073709551616) (w:World) (htab:Lib.TabIs Tryz.prog w "internal/strconv.uint64pow10" .u64 Lib.pow10Tab):
 Calls Tryz.prog 208 #[.int .u64 u,.int .i64 10] w fun e w'=>e= .returned (.string ⟨(Lib.decDigits u).toArray⟩)/\Below w.heap.size w w':=by
 by_cases hs:u<100
 ·have Hs:=hid (Tryz.internal_strconv_small u hs w);have n1:(u:Int)<100:=by omega
  have n2:IntKind.i64.wrap (u:Int)=(u:Int):=by rw[IntKind.wrap_i64];omega
  clear h1;go_enter Tryz.func208,Tryz.ntmps208
  go_wp2_with fail
  refine Hs.out.mono ?_;rintro e w1 ⟨rfl,hw⟩;obtain rfl:=hw.symm;go_wp2;go_ret;exact ⟨rfl,a7d _ _⟩
 ·have hu1:1<=u:=by omega
  have hnd20:Lib.nDigits u<=20:=by have:=Lib.numDigits_eq u hu1 h1;split at this<;>omega
  have hal: Tryz.prog.arrayLen 253 =24:=by simp[Program.arrayLen,Tryz.underlying253]
  have hsl1:∀W,(Instr.sliceAt 253 (.pointer (some ⟨w.heap.size,0,none⟩)) none (some (.int .i64 (Lib.nDigits u:Int))) none).run Tryz.prog W= .ok (.slice (some ⟨w.heap.size,0,none⟩) (Lib.nDigits u) 24) W:=fun W=>by
   rw[run_sliceAt_array_h W 253 ⟨w.heap.size,0,none⟩ (by simp[Program.arrayLen,Program.elem,Tryz.underlying253]) .i64 (Lib.nDigits u:Int) (by omega) (by rw[hal];omega)];go_simp
  have hH0:=aQg w 253 (Lib.nDigits u) (by omega);have hfmt:= Tryz.internal_strconv_formatBase10 w.heap.size 0 24 u (Array.replicate (Lib.nDigits u) 0) (w.alloc (.cells Lib.zeros24 253)) hH0 (by rw[Array.size_replicate];exact Lib.lt_pow_nDigits u) h1 (by rw[Array.size_replicate];omega);rw[Array.size_replicate]at hfmt;have HH0:=hid hH0;have Hfmt:=hid hfmt;have Hnd:=hid (Tryz.internal_strconv_numDigits u hu1 h1 (w.alloc (.cells Lib.zeros24 253)) (Lib.tabIs_alloc htab _))
  have n1:¬(u:Int)<100:=by omega
  clear hH0 hal hfmt htab h1 hs;go_enter Tryz.func208,Tryz.ntmps208
  go_wp2_with fail
  refine Hnd.out.mono ?_;rintro e w1 ⟨rfl,hw⟩;obtain rfl:=hw.symm
  go_wp2_with fail
  refine Hfmt.out.mono ?_;rintro e w' ⟨rfl,k,v',dk,rfl,hF⟩;have hcv:(convert 42 9 (.slice (some ⟨w.heap.size,0,none⟩) (Lib.nDigits u) 24)).run Tryz.prog ((putRow (fun (b:UInt8)=>Value.int .u8 (b.toNat:Int)) (w.alloc (.cells Lib.zeros24 253)) w.heap.size 0 dk).drewN k)= .ok (.string ⟨(Lib.decDigits u).toArray⟩) ((putRow (fun (b:UInt8)=>Value.int .u8 (b.toNat:Int)) (w.alloc (.cells Lib.zeros24 253)) w.heap.size 0 dk).drewN k):=by
   have h:=run_convert_bytes_back (P:= Tryz.prog) ((putRow (fun (b:UInt8)=>Value.int .u8 (b.toNat:Int)) (w.alloc (.cells Lib.zeros24 253)) w.heap.size 0 dk).drewN k) 42 9 5 ⟨w.heap.size,0,none⟩ 24 (Lib.decDigits u) Tryz.underlying42 Tryz.underlying5 Tryz.underlying9 (fun j hj=>by
    rw[Lib.row_is_numeral hF j hj,Lib.add_plain,World.cell?_drewN];exact cell?_putRow (fun (b:UInt8)=>Value.int .u8 (b.toNat:Int)) _ w.heap.size 0 _ dk HH0.out (by rw[hF.size,Array.size_replicate]) j (by rw[hF.size];rw[Lib.decDigits_length]at hj;exact hj))
   rw[Lib.decDigits_length]at h;exact h
  obtain ⟨os,eo⟩:=fin0 w (.cells Lib.zeros24 253) dk k;have hB:=aH5 w k os;rw[<-eo]at hB;clear eo hF;go_wp2;go_ret;exact ⟨rfl,hB⟩
theorem aJ7 (u:Nat) (h1:u<18446744073709551616) (w:World) (htab:Lib.TabIs Tryz.prog w "internal/strconv.uint64pow10" .u64 Lib.pow10Tab):
 Calls Tryz.prog 187 #[.int .u64 u,.int .i64 10] w fun e w'=>e= .returned (.string ⟨(Lib.decDigits u).toArray⟩)/\Below w.heap.size w w':=by
 have Hs:=hid (aMx u h1 w htab);clear h1 htab;go_enter Tryz.func187,Tryz.ntmps187
 go_wp2_with fail
 refine Hs.out.mono ?_;rintro e w1 ⟨rfl,hb⟩;go_wp2;go_ret;exact ⟨rfl,hb⟩
end Go.Proofs.YtfenoaeoedobmaaGreatDoor
namespace Go.Proofs.YtfenoaeoedobmaaGreatDoor
open Go Go.RowKit
theorem a6a {r:Nat} (h:r<=INF):(FloatKind.f64.format.order r r==some .eq)=true:=by
 rcases Nat.lt_or_eq_of_le h with h|rfl
 ·rw[eq_FV h h,dT rfl]
 ·decide+kernel
theorem aF5:∀(k u:Nat),u<10 ^ (k+1)->Lib.nDigits u<=k+1:=by
 intro k
 induction k with
 |zero=>intro u h;rw[Lib.nDigits_small (by simpa using h)];exact a7c _
 |succ k ih=>
  intro u h;by_cases hs:u<10
  ·rw[Lib.nDigits_small hs];omega
  ·rw[Lib.nDigits_big hs];have:u / 10<10 ^ (k+1):=by
    rw[Nat.div_lt_iff_lt_mul (by decide)];rw[Nat.pow_succ]at h;exact h
   have:=ih _ this;omega
def realT (M:Nat) (k:Int):List UInt8:=
 if 0<=k then
  if (Lib.nDigits M:Int)+k+1<=15 then Lib.decDigits M++List.replicate k.toNat 48++[46,48]
  else (Lib.decDigits M).take 1++[46]++(if Lib.nDigits M=1 then [48] else (Lib.decDigits M).drop 1)++[101]++Lib.decDigits (k+(Lib.nDigits M:Int)-1).toNat
 else
  (List.replicate (1-k-(Lib.nDigits M:Int)).toNat 48++Lib.decDigits M).take ((max (1-k) (Lib.nDigits M:Int))+k).toNat++[46]++
   (List.replicate (1-k-(Lib.nDigits M:Int)).toNat 48++Lib.decDigits M).drop ((max (1-k) (Lib.nDigits M:Int))+k).toNat
def absW (x:Nat):Nat:=if 9223372036854775808<=x then negW x else x
def signS (x:Nat):ByteArray:=if 9223372036854775808<=x then ⟨#[45]⟩ else ⟨#[]⟩
def signL (x:Nat):List UInt8:=if 9223372036854775808<=x then [45] else []
theorem aT3 (x:Nat):(signS x).data.toList=signL x:=by
 unfold signS signL;split<;>rfl
theorem aT4 (x:Nat):(signS x).size<=1:=by
 unfold signS;split
 ·exact a7c _
 ·exact Nat.zero_le _
theorem a6b {x:Nat} (h1:9223372036854775808<=x) (h2:x<18446744073709551616):negW x=x-9223372036854775808:=by
 unfold negW Op.negFloat
 show x ^^^ 2 ^ 63=x-9223372036854775808
 have e:x=2 ^ 63+(x-9223372036854775808):=by omega
 have hy:x-9223372036854775808<2 ^ 63:=by omega
 generalize x-9223372036854775808=y at*;subst e;apply Nat.eq_of_testBit_eq;intro i;rw[Nat.testBit_xor,Nat.testBit_two_pow];by_cases hi:63=i
 ·subst hi;rw[Nat.testBit_lt_two_pow hy];rw[Nat.testBit_two_pow_add_eq,Nat.testBit_lt_two_pow hy];rfl
 ·rcases Nat.lt_or_gt_of_ne hi with h|h
  ·have h3:y<2 ^ i:=Nat.lt_of_lt_of_le hy (Nat.pow_le_pow_right (by decide) (Nat.le_of_lt h));have h4:2 ^ 63+y<2 ^ i:=by
    have:2 ^ 64<=2 ^ i:=Nat.pow_le_pow_right (by decide) h;omega
   rw[Nat.testBit_lt_two_pow h3,Nat.testBit_lt_two_pow h4];simp[hi]
  ·rw[Nat.testBit_two_pow_add_gt h];simp[hi]
theorem a6c {x:Nat} (h:x<18446744073709551616):absW x<9223372036854775808:=by
 unfold absW
 split
 ·rename_i h1
  rw[a6b h1 h];omega
 ·omega
theorem aO2 (w:World) (x:Nat) (hx:x<18446744073709551616):Calls Tryz.prog 184 #[.float .f64 x] w fun e w'=>e= .returned (.bool (decide (9223372036854775808<=x)))/\w'=w:=by
 have hb:=aQ1 x;by_cases h:9223372036854775808<=x
 ·have h1:IntKind.i64.wrap (x:Int)=(x:Int)-18446744073709551616:=by rw[IntKind.wrap_i64];omega
  have h2:(x:Int)-18446744073709551616<0:=by omega
  rw[dT h];clear h hx;go_enter Tryz.func184,Tryz.ntmps184;go_wp2;go_ret;exact ⟨rfl,rfl⟩
 ·have h1:IntKind.i64.wrap (x:Int)=(x:Int):=by rw[IntKind.wrap_i64];omega
  have h2:¬(x:Int)<0:=by omega
  rw[dF h];clear h hx;go_enter Tryz.func184,Tryz.ntmps184;go_wp2;go_ret;exact ⟨rfl,rfl⟩
def RealS (x:Nat) (l:List UInt8) (er:Int):Prop:=
 (INF<absW x/\l=[46,110,97,110]/\er=0)\/
 (absW x=INF/\l=signL x++[46,105,110,102]/\er=0)\/
 (absW x=0/\l=signL x++[48,46,48]/\er=0)\/
 (absW x<INF/\0<absW x/\∃M k e,Dec (absW x) M k e/\(e=2/\l=[]/\er=2\/e=0/\l=signL x++realT M k/\er=0))
def aMy (x:Nat) (w:World) (e:Ending) (w':World):Prop:=
 ∃(s:ByteArray) (er:Int),e= .returned (.tuple #[.string s,.int .i64 er])/\Below w.heap.size w w'/\RealS x s.data.toList er
theorem aXw {y:Nat} (h1:INF<y) (h2:y<9223372036854775808):FloatKind.f64.format.order y y=none:=by
 have hr:∃f,Ieee.double.read y= .nan false f:=by
  refine ⟨y-INF,?_⟩;unfold Ieee.Format.read;rw[aQv,c_bin,c_inf];have e1:y % 9223372036854775808=y:=Nat.mod_eq_of_lt h2;have e2:(y / 9223372036854775808 % 2==1)=false:=by
   have:y / 9223372036854775808=0:=Nat.div_eq_of_lt h2;rw[this];rfl
  unfold INF at*;simp only[e1,e2];rw[if_neg (by omega),if_neg (by omega),if_neg (by omega)]
 obtain ⟨f,hf⟩:=hr
 show Ieee.double.order y y=none
 unfold Ieee.Format.order;rw[hf];rfl
theorem a3y {y:Nat} (h:0<y):0<FV y:=by
 unfold FV
 split
 ·exact h
 ·exact Nat.mul_pos (by omega) (Nat.two_pow_pos _)
theorem max_gt {y:Nat} (h:y<INF):(FloatKind.f64.format.order y 9218868437227405311==some .gt)=false:=by
 rw[gt_FV h (by decide),dF (Nat.not_lt.2 (aNa h))]
theorem Sol.bounds {x M:Nat} {k:Int} (h:Sol x k M):1<=M/\Lib.nDigits M<=15:=
 ⟨h.1,aF5 14 M h.2.1⟩
