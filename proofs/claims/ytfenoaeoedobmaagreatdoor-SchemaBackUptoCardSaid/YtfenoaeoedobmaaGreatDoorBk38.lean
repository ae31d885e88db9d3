/-
Parts of a proof.
-/
import Derived.Maps.StringElems
import Derived.Test.YtfenoaeoedobmaaGreatDoorBk37
set_option linter.unusedVariables false
set_option linter.unusedSimpArgs false
set_option maxHeartbeats 4000000
set_option maxRecDepth 20000
namespace Go.Proofs.YtfenoaeoedobmaaGreatDoor
open Go Go.RowKit
section
variable {w1 w:World} {Q:Exit->Act->World->Prop} {a:Act} {r:Res} {ev tv rv lw:Value} {ns:List Nd} {bb wb lv n j tb k k0:Nat} {sx:ByteArray}
abbrev TgCp (t:Tgt):Obj:= .cells #[.string t.service,.string t.split,.float .f64 t.weight] 58 (0,0)
abbrev RuCp (u:Rul):Obj:= .cells #[.string u.path,.string u.method,.string u.split,.bool u.allow] 60 (0,0)
theorem aH6 {w:World} {tb:Nat} {t:Tgt} (h:w.heap[tb]? =some (TgCp t)):w.cell? ⟨tb,0,none⟩=some (.string t.service)/\w.cell? ⟨tb,1,none⟩=some (.string t.split)/\w.cell? ⟨tb,2,none⟩=some (.float .f64 t.weight):=
 ⟨aAa h 0,aAa h 1,aAa h 2⟩
theorem aEq {w:World} {tb:Nat} {u:Rul} (h:w.heap[tb]? =some (RuCp u)):w.cell? ⟨tb,0,none⟩=some (.string u.path)/\w.cell? ⟨tb,1,none⟩=some (.string u.method)/\w.cell? ⟨tb,2,none⟩=some (.string u.split)/\w.cell? ⟨tb,3,none⟩=some (.bool u.allow):=
 ⟨aAa h 0,aAa h 1,aAa h 2,aAa h 3⟩
theorem tw_d (X:Code) (hT:TrS w1 w r ev tv rv bb wb none ns) (hl:ns.length<1048576) (hp:k0<ns.length) (hs:(r.name:ByteArray).size<=1048576) (hf:TwP a bb wb k0)
 (ok:∀a' w',TwP a' bb wb k0->TrS w1 w' r ev tv rv bb wb none (addFo ns k0 (leafF kName r.name .nil))->X.wp Tryz.prog Q a' w'):(Code.seq twD X).wp Tryz.prog Q a w:=by
 obtain ⟨c0,c1,c2,c3,c4,c5,c6,c7⟩:=hT.cells;have HC:=hid (aDc hT hl k0 hp kName (by decide) (r.name) hs);have Hok:=hid ok;obtain ⟨vv,rfl,eE⟩:=hf.shape;simp only[tw_L,eE];clear eE;clear hf ok hT hl hp hs;unfold kName at HC;dsimp only[twD,ncs,ncl,ncr,ncb,nco,nct,nce,ncx,Tryz.f29]
 go_wp2_with fail
 refine HC.out.mono ?_;rintro x w2 ⟨⟨v,rfl⟩,h2⟩;have H2:=hid h2;clear h2 HC;go_wp2;exact Hok.out _ _ ⟨rfl,rfl,rfl,rfl,rfl⟩ H2.out
theorem tw_del (hT:TrS w1 w r ev tv rv bb wb none ns) (hl:ns.length<1048576) (hp:k0<ns.length) (hs:(kTrue:ByteArray).size<=1048576) (hf:TwP a bb wb k0)
 (ok:∀a' w',TwP a' bb wb k0->TrS w1 w' r ev tv rv bb wb none (addFo ns k0 (leafF aBb kTrue .nil))->Q .normal a' w'):twDel.wp Tryz.prog Q a w:=by
 obtain ⟨c0,c1,c2,c3,c4,c5,c6,c7⟩:=hT.cells;have HC:=hid (aDc hT hl k0 hp aBb (by decide) (kTrue) hs);have Hok:=hid ok;obtain ⟨vv,rfl,eE⟩:=hf.shape;simp only[tw_L,eE];clear eE;clear hf ok hT hl hp hs;unfold aBb kTrue at HC;dsimp only[twDel,ncs,ncl,ncr,ncb,nco,nct,nce,ncx,Tryz.f29]
 go_wp2_with fail
 refine HC.out.mono ?_;rintro x w2 ⟨⟨v,rfl⟩,h2⟩;have H2:=hid h2;clear h2 HC;go_wp2;exact Hok.out _ _ ⟨rfl,rfl,rfl,rfl,rfl⟩ H2.out
theorem tw_e1 (X:Code) (hT:TrS w1 w r ev tv rv bb wb none ns) (hl:ns.length<1048576) (hp:k0<ns.length) (hf:TwP a bb wb k0)
 (ok:∀a' w',TwL5 a' bb wb ns.length->TrS w1 w' r ev tv rv bb wb none (addFo ns k0 (.br 3 aAt .nil .nil))->X.wp Tryz.prog Q a' w'):(Code.seq twE1 X).wp Tryz.prog Q a w:=by
 have HC:=hid (aJ9 hT hl k0 hp 3 (by decide) aAt (by decide));obtain ⟨nl,hnl⟩:∃nl,nl=ns.length:=⟨_,rfl⟩;rw[<-hnl]at HC ok;have Hok:=hid ok;obtain ⟨vv,rfl,eE⟩:=hf.shape;simp only[tw_L,eE];clear eE;clear hf ok hT hl hp hnl;unfold aAt at HC;dsimp only[twE1,ncs,ncl,ncr,ncb,nco,nct,nce,ncx,Tryz.f29]
 go_wp2_with fail
 refine HC.out.mono ?_;rintro x w2 ⟨rfl,h2⟩;have H2:=hid h2;clear h2 HC;go_wp2;exact Hok.out _ _ ⟨rfl,rfl,rfl,rfl,rfl⟩ H2.out
theorem tw_t1 (X:Code) (hT:TrS w1 w r ev tv rv bb wb none ns) (hl:ns.length<1048576) (hp:k0<ns.length) (hf:TwP a bb wb k0)
 (ok:∀a' w',TwL8 a' bb wb ns.length->TrS w1 w' r ev tv rv bb wb none (addFo ns k0 (.br 3 aBl .nil .nil))->X.wp Tryz.prog Q a' w'):(Code.seq twT1 X).wp Tryz.prog Q a w:=by
 have HC:=hid (aJ9 hT hl k0 hp 3 (by decide) aBl (by decide));obtain ⟨nl,hnl⟩:∃nl,nl=ns.length:=⟨_,rfl⟩;rw[<-hnl]at HC ok;have Hok:=hid ok;obtain ⟨vv,rfl,eE⟩:=hf.shape;simp only[tw_L,eE];clear eE;clear hf ok hT hl hp hnl;unfold aBl at HC;dsimp only[twT1,ncs,ncl,ncr,ncb,nco,nct,nce,ncx,Tryz.f29]
 go_wp2_with fail
 refine HC.out.mono ?_;rintro x w2 ⟨rfl,h2⟩;have H2:=hid h2;clear h2 HC;go_wp2;exact Hok.out _ _ ⟨rfl,rfl,rfl,rfl,rfl⟩ H2.out
theorem tw_u1 (X:Code) (hT:TrS w1 w r ev tv rv bb wb none ns) (hl:ns.length<1048576) (hp:k0<ns.length) (hf:TwP a bb wb k0)
 (ok:∀a' w',TwL12 a' bb wb ns.length->TrS w1 w' r ev tv rv bb wb none (addFo ns k0 (.br 3 aBi .nil .nil))->X.wp Tryz.prog Q a' w'):(Code.seq twU1 X).wp Tryz.prog Q a w:=by
 have HC:=hid (aJ9 hT hl k0 hp 3 (by decide) aBi (by decide));obtain ⟨nl,hnl⟩:∃nl,nl=ns.length:=⟨_,rfl⟩;rw[<-hnl]at HC ok;have Hok:=hid ok;obtain ⟨vv,rfl,eE⟩:=hf.shape;simp only[tw_L,eE];clear eE;clear hf ok hT hl hp hnl;unfold aBi at HC;dsimp only[twU1,ncs,ncl,ncr,ncb,nco,nct,nce,ncx,Tryz.f29]
 go_wp2_with fail
 refine HC.out.mono ?_;rintro x w2 ⟨rfl,h2⟩;have H2:=hid h2;clear h2 HC;go_wp2;exact Hok.out _ _ ⟨rfl,rfl,rfl,rfl,rfl⟩ H2.out
theorem tw_e2 (X:Code) {ao:Option Addr} {cap:Nat} (hT:TrS w1 w r (.slice ao n cap) tv rv bb wb none ns) (hf:TwL5 a bb wb lv)
 (ok:∀a',TwE a' bb wb lv (.slice ao n cap) n 0->X.wp Tryz.prog Q a' w):(Code.seq twE2 X).wp Tryz.prog Q a w:=by
 obtain ⟨c0,c1,c2,c3,c4,c5,c6,c7⟩:=hT.cells;have Hok:=hid ok;obtain ⟨vv,rfl,eE⟩:=hf.shape;simp only[tw_L,eE];clear eE;clear hf ok hT;dsimp only[twE2,ncs,ncl,ncr,ncb,nco,nct,nce,ncx,Tryz.f29];go_wp2;exact Hok.out _ ⟨rfl,rfl,rfl,rfl,rfl,rfl,rfl,rfl⟩
theorem tw_t2 (X:Code) {ao:Option Addr} {cap:Nat} (hT:TrS w1 w r ev (.slice ao n cap) rv bb wb none ns) (hf:TwL8 a bb wb lv)
 (ok:∀a',TwT a' bb wb lv (.slice ao n cap) n 0->X.wp Tryz.prog Q a' w):(Code.seq twT2 X).wp Tryz.prog Q a w:=by
 obtain ⟨c0,c1,c2,c3,c4,c5,c6,c7⟩:=hT.cells;have Hok:=hid ok;obtain ⟨vv,rfl,eE⟩:=hf.shape;simp only[tw_L,eE];clear eE;clear hf ok hT;dsimp only[twT2,ncs,ncl,ncr,ncb,nco,nct,nce,ncx,Tryz.f29];go_wp2;exact Hok.out _ ⟨rfl,rfl,rfl,rfl,rfl,rfl,rfl,rfl⟩
theorem tw_u2 (X:Code) {ao:Option Addr} {cap:Nat} (hT:TrS w1 w r ev tv (.slice ao n cap) bb wb none ns) (hf:TwL12 a bb wb lv)
 (ok:∀a',TwU a' bb wb lv (.slice ao n cap) n 0->X.wp Tryz.prog Q a' w):(Code.seq twU2 X).wp Tryz.prog Q a w:=by
 obtain ⟨c0,c1,c2,c3,c4,c5,c6,c7⟩:=hT.cells;have Hok:=hid ok;obtain ⟨vv,rfl,eE⟩:=hf.shape;simp only[tw_L,eE];clear eE;clear hf ok hT;dsimp only[twU2,ncs,ncl,ncr,ncb,nco,nct,nce,ncx,Tryz.f29];go_wp2;exact Hok.out _ ⟨rfl,rfl,rfl,rfl,rfl,rfl,rfl,rfl⟩
theorem tw_ea (X:Code) {lb lo lc:Nat} (hj:j<n) (z:w.cell? ⟨lb,lo+j,none⟩=some (.string sx)) (hf:TwE a bb wb lv (.slice (some ⟨lb,lo,none⟩) n lc) n j)
 (ok:∀a',TwEs a' bb wb lv (.slice (some ⟨lb,lo,none⟩) n lc) n j sx->X.wp Tryz.prog Q a' w):(Code.seq twEa X).wp Tryz.prog Q a w:=by
 have bj:(j:Int)<(n:Int):=by omega
 have Hok:=hid ok;obtain ⟨vv,rfl,eE⟩:=hf.shape;simp only[tw_L,eE];clear eE;clear hf ok hj;dsimp only[twEa,ncs,ncl,ncr,ncb,nco,nct,nce,ncx,Tryz.f29];go_wp2;exact Hok.out _ ⟨rfl,rfl,rfl,rfl,rfl,rfl,rfl,rfl,rfl⟩
theorem tw_ec (hT:TrS w1 w r ev tv rv bb wb none ns) (hl:ns.length<1048576) (hp:lv<ns.length) (hs:(sx:ByteArray).size<=1048576) (hf:TwEs a bb wb lv lw n j sx)
 (ok:∀a' w',TwEs a' bb wb lv lw n j sx->TrS w1 w' r ev tv rv bb wb none (addFo ns lv (leafF ⟨#[]⟩ sx .nil))->Q .normal a' w'):twEc.wp Tryz.prog Q a w:=by
 obtain ⟨c0,c1,c2,c3,c4,c5,c6,c7⟩:=hT.cells;have HC:=hid (aDc hT hl lv hp ⟨#[]⟩ (by decide) (sx) hs);have Hok:=hid ok;obtain ⟨vv,rfl,eE⟩:=hf.shape;simp only[tw_L,eE];clear eE;clear hf ok hT hl hp hs;dsimp only[twEc,ncs,ncl,ncr,ncb,nco,nct,nce,ncx,Tryz.f29]
 go_wp2_with fail
 refine HC.out.mono ?_;rintro x w2 ⟨⟨v,rfl⟩,h2⟩;have H2:=hid h2;clear h2 HC;go_wp2;exact Hok.out _ _ ⟨rfl,rfl,rfl,rfl,rfl,rfl,rfl,rfl,rfl⟩ H2.out
theorem tw_ta (X:Code) {lb lo lc:Nat} {t:Tgt} (hT:TrS w1 w r ev tv rv bb wb none ns) (hj:j<n) (z0:w.cell? ⟨lb,lo+j*3,none⟩=some (.string t.service)) (z1:w.cell? ⟨lb,lo+j*3+1,none⟩=some (.string t.split)) (z2:w.cell? ⟨lb,lo+j*3+2,none⟩=some (.float .f64 t.weight)) (hf:TwT a bb wb lv (.slice (some ⟨lb,lo,none⟩) n lc) n j)
 (ok:∀a' w' tb,TwTb a' bb wb lv (.slice (some ⟨lb,lo,none⟩) n lc) n j tb->TrS w1 w' r ev tv rv bb wb (some (tb,TgCp t)) ns->X.wp Tryz.prog Q a' w'):(Code.seq twTa X).wp Tryz.prog Q a w:=by
 have bj:(j:Int)<(n:Int):=by omega
 have hsf:∀(W:World) (a:Addr) (r:Nat),(store a (.float .f64 r)).run Tryz.prog W=stored Tryz.prog W a (.float .f64 r) .plain:=fun W a r=>run_store _ W a _ _ rfl;have HC:=hid (hT.copy #[.string t.service,.string t.split,.float .f64 t.weight] 58);have Hok:=hid ok;obtain ⟨vv,rfl,eE⟩:=hf.shape;simp only[tw_L,eE];clear eE;clear hf ok hT hj;dsimp only[twTa,ncs,ncl,ncr,ncb,nco,nct,nce,ncx,Tryz.f29]
 go_wp2;refine Hok.out _ _ w.heap.size ?_ HC.out;exact ⟨rfl,rfl,rfl,rfl,rfl,rfl,rfl,rfl,rfl⟩
theorem tw_tb (X:Code) {t:Tgt} (hT:TrS w1 w r ev tv rv bb wb (some (tb,TgCp t)) ns) (hl:ns.length<1048576) (hp:lv<ns.length) (hf:TwTb a bb wb lv lw n j tb)
 (ok:∀a' w',TwTk a' bb wb lv lw n j tb ns.length->TrS w1 w' r ev tv rv bb wb (some (tb,TgCp t)) (addFo ns lv (.br 2 ⟨#[]⟩ .nil .nil))->X.wp Tryz.prog Q a' w'):(Code.seq twTb X).wp Tryz.prog Q a w:=by
 have HC:=hid (aJ9 hT hl lv hp 2 (by decide) ⟨#[]⟩ (by decide));obtain ⟨nl,hnl⟩:∃nl,nl=ns.length:=⟨_,rfl⟩;rw[<-hnl]at HC ok;have Hok:=hid ok;obtain ⟨vv,rfl,eE⟩:=hf.shape;simp only[tw_L,eE];clear eE;clear hf ok hT hl hp hnl;dsimp only[twTb,ncs,ncl,ncr,ncb,nco,nct,nce,ncx,Tryz.f29]
 go_wp2_with fail
 refine HC.out.mono ?_;rintro x w2 ⟨rfl,h2⟩;have H2:=hid h2;clear h2 HC;go_wp2;exact Hok.out _ _ ⟨rfl,rfl,rfl,rfl,rfl,rfl,rfl,rfl,rfl,rfl⟩ H2.out
theorem tw_tcy (X:Code) {t:Tgt} (hT:TrS w1 w r ev tv rv bb wb (some (tb,TgCp t)) ns) (hl:ns.length<1048576) (hp:k<ns.length) (hs1:t.service≠⟨#[]⟩) (hs:(t.service:ByteArray).size<=1048576) (hf:TwTk a bb wb lv lw n j tb k)
 (ok:∀a' w',TwTk a' bb wb lv lw n j tb k->TrS w1 w' r ev tv rv bb wb (some (tb,TgCp t)) (addFo ns k (leafF aAv t.service .nil))->X.wp Tryz.prog Q a' w'):(Code.seq twTc X).wp Tryz.prog Q a w:=by
 obtain ⟨c0,c1,c2,c3,c4,c5,c6,c7⟩:=hT.cells;obtain ⟨d0,d1,d2⟩:=aH6 hT.held;have t1:=aGc hs1;have HC:=hid (aDc hT hl k hp aAv (by decide) (t.service) hs);have Hok:=hid ok;obtain ⟨vv,rfl,eE⟩:=hf.shape;simp only[tw_L,eE];clear eE;clear hf ok hT hl hp hs hs1;unfold aAv at HC;dsimp only[twTc,ncs,ncl,ncr,ncb,nco,nct,nce,ncx,Tryz.f29]
 go_wp2_with fail
 refine HC.out.mono ?_;rintro x w2 ⟨⟨v,rfl⟩,h2⟩;have H2:=hid h2;clear h2 HC;go_wp2;exact Hok.out _ _ ⟨rfl,rfl,rfl,rfl,rfl,rfl,rfl,rfl,rfl,rfl⟩ H2.out
theorem tw_tcn (X:Code) {t:Tgt} (hT:TrS w1 w r ev tv rv bb wb (some (tb,TgCp t)) ns) (hl:ns.length<1048576) (hp:k<ns.length) (hs1:t.service=⟨#[]⟩) (hs:(t.split:ByteArray).size<=1048576) (hf:TwTk a bb wb lv lw n j tb k)
 (ok:∀a' w',TwTk a' bb wb lv lw n j tb k->TrS w1 w' r ev tv rv bb wb (some (tb,TgCp t)) (addFo ns k (leafF aAu t.split .nil))->X.wp Tryz.prog Q a' w'):(Code.seq twTc X).wp Tryz.prog Q a w:=by
 obtain ⟨c0,c1,c2,c3,c4,c5,c6,c7⟩:=hT.cells;obtain ⟨d0,d1,d2⟩:=aH6 hT.held;rw[hs1]at d0;have HC:=hid (aDc hT hl k hp aAu (by decide) (t.split) hs);have Hok:=hid ok;obtain ⟨vv,rfl,eE⟩:=hf.shape;simp only[tw_L,eE];clear eE;clear hf ok hT hl hp hs hs1;unfold aAu at HC;dsimp only[twTc,ncs,ncl,ncr,ncb,nco,nct,nce,ncx,Tryz.f29]
 go_wp2_with fail
 refine HC.out.mono ?_;rintro x w2 ⟨⟨v,rfl⟩,h2⟩;have H2:=hid h2;clear h2 HC;go_wp2;exact Hok.out _ _ ⟨rfl,rfl,rfl,rfl,rfl,rfl,rfl,rfl,rfl,rfl⟩ H2.out
theorem tw_td {t:Tgt} (hT:TrS w1 w r ev tv rv bb wb (some (tb,TgCp t)) ns) (hl:ns.length<1048576) (hp:k<ns.length) (hw:t.weight<18446744073709551616) (hf:TwTk a bb wb lv lw n j tb k)
 (ok:∀a' w',TwTk a' bb wb lv lw n j tb k->TrS w1 w' r ev tv rv bb wb (some (tb,TgCp t)) (addFo ns k (leafF aA8 (wtF t.weight) .nil))->Q .normal a' w'):twTd.wp Tryz.prog Q a w:=by
 obtain ⟨d0,d1,d2⟩:=aH6 hT.held;have HW:=hid (aXz w t.weight hw hT.glob);have HC:=hid (fun w2 (hb:Below w.heap.size w w2)=>aDc (hT.later hb) hl k hp aA8 (by decide) (wtF t.weight) (a7g (a1z hw) (by decide)));have Hok:=hid ok;obtain ⟨vv,rfl,eE⟩:=hf.shape;simp only[tw_L,eE];clear eE;clear hf ok hT hl hp hw;unfold aA8 at HC;dsimp only[twTd,ncs,ncl,ncr,ncb,nco,nct,nce,ncx,Tryz.f29]
 go_wp2_with fail
 refine HW.out.mono ?_;rintro x w2 ⟨rfl,hb⟩;have HC2:=hid (HC.out w2 hb);clear hb HC HW
 go_wp2_with fail
 refine HC2.out.mono ?_;rintro x w3 ⟨⟨v,rfl⟩,h2⟩;have H2:=hid h2;clear h2 HC2;go_wp2;exact Hok.out _ _ ⟨rfl,rfl,rfl,rfl,rfl,rfl,rfl,rfl,rfl,rfl⟩ H2.out
theorem tw_ua (X:Code) {lb lo lc:Nat} {u:Rul} (hT:TrS w1 w r ev tv rv bb wb none ns) (hj:j<n) (z0:w.cell? ⟨lb,lo+j*4,none⟩=some (.string u.path)) (z1:w.cell? ⟨lb,lo+j*4+1,none⟩=some (.string u.method)) (z2:w.cell? ⟨lb,lo+j*4+2,none⟩=some (.string u.split)) (z3:w.cell? ⟨lb,lo+j*4+3,none⟩=some (.bool u.allow)) (hf:TwU a bb wb lv (.slice (some ⟨lb,lo,none⟩) n lc) n j)
 (ok:∀a' w' tb,TwUb a' bb wb lv (.slice (some ⟨lb,lo,none⟩) n lc) n j tb->TrS w1 w' r ev tv rv bb wb (some (tb,RuCp u)) ns->X.wp Tryz.prog Q a' w'):(Code.seq twUa X).wp Tryz.prog Q a w:=by
 have bj:(j:Int)<(n:Int):=by omega
 have HC:=hid (hT.copy #[.string u.path,.string u.method,.string u.split,.bool u.allow] 60);have Hok:=hid ok;obtain ⟨vv,rfl,eE⟩:=hf.shape;simp only[tw_L,eE];clear eE;clear hf ok hT hj;dsimp only[twUa,ncs,ncl,ncr,ncb,nco,nct,nce,ncx,Tryz.f29];go_wp2;refine Hok.out _ _ w.heap.size ?_ HC.out;exact ⟨rfl,rfl,rfl,rfl,rfl,rfl,rfl,rfl,rfl⟩
theorem tw_ub (X:Code) {u:Rul} (hT:TrS w1 w r ev tv rv bb wb (some (tb,RuCp u)) ns) (hl:ns.length<1048576) (hp:lv<ns.length) (hf:TwUb a bb wb lv lw n j tb)
 (ok:∀a' w',TwUk a' bb wb lv lw n j tb ns.length->TrS w1 w' r ev tv rv bb wb (some (tb,RuCp u)) (addFo ns lv (.br 2 ⟨#[]⟩ .nil .nil))->X.wp Tryz.prog Q a' w'):(Code.seq twUb X).wp Tryz.prog Q a w:=by
 have HC:=hid (aJ9 hT hl lv hp 2 (by decide) ⟨#[]⟩ (by decide));obtain ⟨nl,hnl⟩:∃nl,nl=ns.length:=⟨_,rfl⟩;rw[<-hnl]at HC ok;have Hok:=hid ok;obtain ⟨vv,rfl,eE⟩:=hf.shape;simp only[tw_L,eE];clear eE;clear hf ok hT hl hp hnl;dsimp only[twUb,ncs,ncl,ncr,ncb,nco,nct,nce,ncx,Tryz.f29]
 go_wp2_with fail
 refine HC.out.mono ?_;rintro x w2 ⟨rfl,h2⟩;have H2:=hid h2;clear h2 HC;go_wp2;exact Hok.out _ _ ⟨rfl,rfl,rfl,rfl,rfl,rfl,rfl,rfl,rfl,rfl⟩ H2.out
theorem tw_ud (X:Code) {u:Rul} (hT:TrS w1 w r ev tv rv bb wb (some (tb,RuCp u)) ns) (hl:ns.length<1048576) (hp:k<ns.length) (hs:(u.path:ByteArray).size<=1048576) (hf:TwUk a bb wb lv lw n j tb k)
 (ok:∀a' w',TwUk a' bb wb lv lw n j tb k->TrS w1 w' r ev tv rv bb wb (some (tb,RuCp u)) (addFo ns k (leafF kPath u.path .nil))->X.wp Tryz.prog Q a' w'):(Code.seq twUd X).wp Tryz.prog Q a w:=by
 obtain ⟨c0,c1,c2,c3,c4,c5,c6,c7⟩:=hT.cells;obtain ⟨d0,d1,d2,d3⟩:=aEq hT.held;have HC:=hid (aDc hT hl k hp kPath (by decide) (u.path) hs);have Hok:=hid ok;obtain ⟨vv,rfl,eE⟩:=hf.shape;simp only[tw_L,eE];clear eE;clear hf ok hT hl hp hs;unfold kPath at HC;dsimp only[twUd,ncs,ncl,ncr,ncb,nco,nct,nce,ncx,Tryz.f29]
 go_wp2_with fail
 refine HC.out.mono ?_;rintro x w2 ⟨⟨v,rfl⟩,h2⟩;have H2:=hid h2;clear h2 HC;go_wp2;exact Hok.out _ _ ⟨rfl,rfl,rfl,rfl,rfl,rfl,rfl,rfl,rfl,rfl⟩ H2.out
theorem tw_ue (X:Code) {u:Rul} (hT:TrS w1 w r ev tv rv bb wb (some (tb,RuCp u)) ns) (hl:ns.length<1048576) (hp:k<ns.length) (hs:(u.method:ByteArray).size<=1048576) (hf:TwUk a bb wb lv lw n j tb k)
 (ok:∀a' w',TwUk a' bb wb lv lw n j tb k->TrS w1 w' r ev tv rv bb wb (some (tb,RuCp u)) (addFo ns k (leafF aA7 u.method .nil))->X.wp Tryz.prog Q a' w'):(Code.seq twUe X).wp Tryz.prog Q a w:=by
 obtain ⟨c0,c1,c2,c3,c4,c5,c6,c7⟩:=hT.cells;obtain ⟨d0,d1,d2,d3⟩:=aEq hT.held;have HC:=hid (aDc hT hl k hp aA7 (by decide) (u.method) hs);have Hok:=hid ok;obtain ⟨vv,rfl,eE⟩:=hf.shape;simp only[tw_L,eE];clear eE;clear hf ok hT hl hp hs;unfold aA7 at HC;dsimp only[twUe,ncs,ncl,ncr,ncb,nco,nct,nce,ncx,Tryz.f29]
 go_wp2_with fail
 refine HC.out.mono ?_;rintro x w2 ⟨⟨v,rfl⟩,h2⟩;have H2:=hid h2;clear h2 HC;go_wp2;exact Hok.out _ _ ⟨rfl,rfl,rfl,rfl,rfl,rfl,rfl,rfl,rfl,rfl⟩ H2.out
theorem tw_ufy {u:Rul} (hT:TrS w1 w r ev tv rv bb wb (some (tb,RuCp u)) ns) (hl:ns.length<1048576) (hp:k<ns.length) (hk:r.kind=3) (hs:(u.split:ByteArray).size<=1048576) (hf:TwUk a bb wb lv lw n j tb k)
 (ok:∀a' w',TwUk a' bb wb lv lw n j tb k->TrS w1 w' r ev tv rv bb wb (some (tb,RuCp u)) (addFo ns k (leafF aAu u.split .nil))->Q .normal a' w'):twUf.wp Tryz.prog Q a w:=by
 obtain ⟨c0,c1,c2,c3,c4,c5,c6,c7⟩:=hT.cells;obtain ⟨d0,d1,d2,d3⟩:=aEq hT.held;rw[hk]at c0;have HC:=hid (aDc hT hl k hp aAu (by decide) (u.split) hs);have Hok:=hid ok;obtain ⟨vv,rfl,eE⟩:=hf.shape;simp only[tw_L,eE];clear eE;clear hf ok hT hl hp hs;unfold aAu at HC;dsimp only[twUf,ncs,ncl,ncr,ncb,nco,nct,nce,ncx,Tryz.f29]
 go_wp2_with fail
 refine HC.out.mono ?_;rintro x w2 ⟨⟨v,rfl⟩,h2⟩;have H2:=hid h2;clear h2 HC;go_wp2;exact Hok.out _ _ ⟨rfl,rfl,rfl,rfl,rfl,rfl,rfl,rfl,rfl,rfl⟩ H2.out
theorem tw_ufn {u:Rul} (hT:TrS w1 w r ev tv rv bb wb (some (tb,RuCp u)) ns) (hk:r.kind=4) (hf:TwUk a bb wb lv lw n j tb k)
 (ok:∀a',TwUk a' bb wb lv lw n j tb k->Q .normal a' w):twUf.wp Tryz.prog Q a w:=by
 obtain ⟨c0,c1,c2,c3,c4,c5,c6,c7⟩:=hT.cells;rw[hk]at c0;have Hok:=hid ok;obtain ⟨vv,rfl,eE⟩:=hf.shape;simp only[tw_L,eE];clear eE;clear hf ok hT;dsimp only[twUf,ncs,ncl,ncr,ncb,nco,nct,nce,ncx,Tryz.f29];go_wp2;exact Hok.out _ ⟨rfl,rfl,rfl,rfl,rfl,rfl,rfl,rfl,rfl,rfl⟩
theorem tw_ucn (X:Code) {u:Rul} (hT:TrS w1 w r ev tv rv bb wb (some (tb,RuCp u)) ns) (hk:r.kind=3) (hf:TwUk a bb wb lv lw n j tb k)
 (ok:∀a',TwUk a' bb wb lv lw n j tb k->X.wp Tryz.prog Q a' w):(Code.seq twUc X).wp Tryz.prog Q a w:=by
 obtain ⟨c0,c1,c2,c3,c4,c5,c6,c7⟩:=hT.cells;rw[hk]at c0;have Hok:=hid ok;obtain ⟨vv,rfl,eE⟩:=hf.shape;simp only[tw_L,eE];clear eE;clear hf ok hT;dsimp only[twUc,ncs,ncl,ncr,ncb,nco,nct,nce,ncx,Tryz.f29];go_wp2;exact Hok.out _ ⟨rfl,rfl,rfl,rfl,rfl,rfl,rfl,rfl,rfl,rfl⟩
theorem tw_u03 (X:Code) (hT:TrS w1 w r ev tv rv bb wb none ns) (hl:ns.length<1048576) (hp:k0<ns.length) (hk:r.kind=3) (hs:(r.host:ByteArray).size<=1048576) (hf:TwP a bb wb k0)
 (ok:∀a' w',TwP a' bb wb k0->TrS w1 w' r ev tv rv bb wb none (addFo ns k0 (leafF kHost r.host .nil))->X.wp Tryz.prog Q a' w'):(Code.seq twU0 X).wp Tryz.prog Q a w:=by
 obtain ⟨c0,c1,c2,c3,c4,c5,c6,c7⟩:=hT.cells;rw[hk]at c0;have HC:=hid (aDc hT hl k0 hp kHost (by decide) (r.host) hs);have Hok:=hid ok;obtain ⟨vv,rfl,eE⟩:=hf.shape;simp only[tw_L,eE];clear eE;clear hf ok hT hl hp hs;unfold kHost at HC;dsimp only[twU0,ncs,ncl,ncr,ncb,nco,nct,nce,ncx,Tryz.f29]
 go_wp2_with fail
 refine HC.out.mono ?_;rintro x w2 ⟨⟨v,rfl⟩,h2⟩;have H2:=hid h2;clear h2 HC;go_wp2;exact Hok.out _ _ ⟨rfl,rfl,rfl,rfl,rfl⟩ H2.out
theorem tw_u04 (X:Code) (hT:TrS w1 w r ev tv rv bb wb none ns) (hl:ns.length<1048576) (hp:k0<ns.length) (hk:r.kind=4) (hs:(r.route:ByteArray).size<=1048576) (hf:TwP a bb wb k0)
 (ok:∀a' w',TwP a' bb wb k0->TrS w1 w' r ev tv rv bb wb none (addFo ns k0 (leafF aC7 r.route .nil))->X.wp Tryz.prog Q a' w'):(Code.seq twU0 X).wp Tryz.prog Q a w:=by
 obtain ⟨c0,c1,c2,c3,c4,c5,c6,c7⟩:=hT.cells;rw[hk]at c0;have HC:=hid (aDc hT hl k0 hp aC7 (by decide) (r.route) hs);have Hok:=hid ok;obtain ⟨vv,rfl,eE⟩:=hf.shape;simp only[tw_L,eE];clear eE;clear hf ok hT hl hp hs;unfold aC7 at HC;dsimp only[twU0,ncs,ncl,ncr,ncb,nco,nct,nce,ncx,Tryz.f29]
 go_wp2_with fail
 refine HC.out.mono ?_;rintro x w2 ⟨⟨v,rfl⟩,h2⟩;have H2:=hid h2;clear h2 HC;go_wp2;exact Hok.out _ _ ⟨rfl,rfl,rfl,rfl,rfl⟩ H2.out
end
theorem lawB:Maps.Keyed Tryz.prog 4 :=Maps.bool_keyed Tryz.underlying4
theorem zeroS (w:World):(zeroValue 9).run Tryz.prog w= .ok (.string ⟨#[]⟩) w:=by
 kernel_rfl
theorem aQk {w w':World} {b:Nat} (h:(w.alloc (.map #[] 0)).grownBy w' (some b)) (hb:b=w.heap.size):Below w.heap.size w w':=
 ⟨h.os,h.tape,h.output,a7g (by simp) h.size,fun i hi=>(h.block i (by simp;omega) (fun e=>by have:=a7h e;omega)).trans (aAe _ hi)⟩
theorem a6f (w:World) (b:Bool):∃wa wb,(Instr.mapUpdate 131 (.map (some w.heap.size)) (.bool true) (.string kAllow)).run Tryz.prog (w.alloc (.map #[] 0))= .ok () wa/\
 (Instr.mapUpdate 131 (.map (some w.heap.size)) (.bool false) (.string kDeny)).run Tryz.prog wa= .ok () wb/\
 (Instr.lookup 131 (.map (some w.heap.size)) (.bool b) false).run Tryz.prog wb= .ok (.string (if b=true then kAllow else kDeny)) wb/\Below w.heap.size w wb:=by
 have h0:=World.ownsMap_made (H:=Unit) w Tryz.prog 4 (plainElem Tryz.prog 9);obtain ⟨wa,ra,oa,ga⟩:=h0.update lawB Tryz.underlying131 (by decide) (key:= .bool true) (val:= .string kAllow) (Maps.keyOf_bool_mk Tryz.underlying4 true) (plainElem_string Tryz.underlying9 (s:=kAllow) (by decide));obtain ⟨wb,rb,ob,gb⟩:=oa.update lawB Tryz.underlying131 (by decide) (key:= .bool false) (val:= .string kDeny) (Maps.keyOf_bool_mk Tryz.underlying4 false) (plainElem_string Tryz.underlying9 (s:=kDeny) (by decide))
 obtain ⟨v,ps,rl,hv⟩:=ob.lookup lawB Tryz.underlying131 (zeroS wb) (plainElem_string Tryz.underlying9 (s:=⟨#[]⟩) (by decide)) (key:= .bool b) (Maps.keyOf_bool_mk Tryz.underlying4 b);obtain ⟨s,rfl,hs,_⟩:=plainElem_string_inv Tryz.underlying9 hv;have hb1:=aQk (ga.trans gb) rfl;refine ⟨wa,wb,ra,rb,?_,hb1⟩;rw[rl];have e:s=if b=true then kAllow else kDeny:=by
  simp only[Prod.mk.injEq]at hs;have h1:=hs.1;cases b with
  |true=>
   rw[Maps.atKey_put_other (by simp),Maps.atKey_put_same h0.isMap (show WideAt.IsKeyLit (.bool true) from trivial)]at h1;simp only[DataW.lit.injEq,Lit.string.injEq]at h1;exact (aGi h1).symm
  |false=>
   rw[Maps.atKey_put_same oa.isMap (show WideAt.IsKeyLit (.bool false) from trivial)]at h1;simp only[DataW.lit.injEq,Lit.string.injEq]at h1;exact (aGi h1).symm
 rw[e]
section
variable {w1 w:World} {Q:Exit->Act->World->Prop} {a:Act} {r:Res} {ev tv rv lw:Value} {ns:List Nd} {bb wb lv n j tb k k0:Nat} {sx:ByteArray}
theorem tw_ucy (X:Code) {u:Rul} (hT:TrS w1 w r ev tv rv bb wb (some (tb,RuCp u)) ns) (hl:ns.length<1048576) (hp:k<ns.length) (hk:r.kind=4) (hf:TwUk a bb wb lv lw n j tb k)
 (ok:∀a' w',TwUk a' bb wb lv lw n j tb k->TrS w1 w' r ev tv rv bb wb (some (tb,RuCp u)) (addFo ns k (leafF aBn (if u.allow=true then kAllow else kDeny) .nil))->X.wp Tryz.prog Q a' w'):(Code.seq twUc X).wp Tryz.prog Q a w:=by
 obtain ⟨c0,c1,c2,c3,c4,c5,c6,c7⟩:=hT.cells;obtain ⟨d0,d1,d2,d3⟩:=aEq hT.held;rw[hk]at c0;have hmm:= @run_makeMap Tryz.prog;obtain ⟨wa,wb2,ra,rb,rl,hb⟩:=a6f w u.allow;obtain ⟨q0,q1,q2,q3⟩:=aEq (hT.later hb).held;have HC:=hid (aDc (hT.later hb) hl k hp aBn (by decide) (if u.allow=true then kAllow else kDeny) (by split<;>decide));have Hok:=hid ok;obtain ⟨vv,rfl,eE⟩:=hf.shape
 simp only[tw_L,eE];clear eE;generalize (if u.allow=true then kAllow else kDeny)=aw at*;unfold aBn at HC;unfold kAllow at ra;unfold kDeny at rb;clear hf ok hT hl hp hb d0 d1 d2 d3;dsimp only[twUc,ncs,ncl,ncr,ncb,nco,nct,nce,ncx,Tryz.f29]
 go_wp2_with fail
 refine HC.out.mono ?_;rintro x w2 ⟨⟨v,rfl⟩,h2⟩;have H2:=hid h2;clear h2 HC;go_wp2;refine Hok.out _ _ ?_ H2.out;exact ⟨rfl,rfl,rfl,rfl,rfl,rfl,rfl,rfl,rfl,rfl⟩
theorem aT7 (w:World) (k:Int) (h1:1<=k) (h4:k<=4):(Instr.index 82 (.agg kindA) (.int .i64 k)).run Tryz.prog w= .ok (.string (nKind k)) w:=by
 rcases (show k=1\/k=2\/k=3\/k=4 by omega) with rfl|rfl|rfl|rfl<;>kernel_rfl
theorem tw_c (X:Code) (hT:TrS w1 w r ev tv rv bb wb none ns) (hl:ns.length<1048576) (hp:k0<ns.length) (h1:1<=r.kind) (h4:r.kind<=4) (hf:TwP a bb wb k0)
 (ok:∀a' w',TwP a' bb wb k0->TrS w1 w' r ev tv rv bb wb none (addFo ns k0 (leafF kKind (nKind r.kind) .nil))->X.wp Tryz.prog Q a' w'):(Code.seq twC X).wp Tryz.prog Q a w:=by
 obtain ⟨c0,c1,c2,c3,c4,c5,c6,c7⟩:=hT.cells;have HK:=hid (aWj w.drew);have HC:=hid (fun w2 (hb:Below w.heap.size w w2)=>aDc (hT.later hb) hl k0 hp kKind (by decide) (nKind r.kind) (by unfold nKind;split;decide;split;decide;split<;>decide));have hix:=fun w'=>aT7 w' r.kind h1 h4;have Hok:=hid ok;have Hc:=hid (fun w2 (hb:Below w.heap.size w w2)=>(hT.later hb).cells.1);obtain ⟨vv,rfl,eE⟩:=hf.shape
 simp only[tw_L,eE];clear eE;generalize nKind r.kind=kw at*;generalize r.kind=kd at*;unfold kKind at HC;clear hf ok hT hl hp c1 c2 c3 c4 c5 c6 c7;dsimp only[twC,ncs,ncl,ncr,ncb,nco,nct,nce,ncx,Tryz.f29];refine wp_seq ?_;refine aE3 ?_;refine aCx (fun w'=>w'.cell? ⟨bb,0,none⟩=some (.int .i64 kd)) (fun i=>decide (i<6)) (by kernel_rfl) ?_;have hS:w.drew.cell? ⟨bb,0,none⟩=some (.int .i64 kd):=c0
 refine wK (i:=0) (v:= ?_) rfl (by kernel_rfl) (fun _ _ _ h=>h) (by rfl) ?_ hS ?_;rotate_left
 ·intro w' hSw;go_simp
  try with_reducible rfl
 simp only[Act.put,sA,sZ,sS];refine wK (i:=1) (v:= ?_) rfl (by kernel_rfl) (fun _ _ _ h=>h) (by rfl) ?_ hS ?_;rotate_left
 ·intro w' hSw;go_simp
  try with_reducible rfl
 simp only[Act.put,sA,sZ,sS];refine wK (i:=3) (v:= ?_) rfl (by kernel_rfl) (fun _ _ _ h=>h) (by rfl) ?_ hS ?_;rotate_left
 ·intro w' hSw;go_simp
  try with_reducible rfl
 simp only[Act.put,sA,sZ,sS];refine wK (i:=4) (v:= ?_) rfl (by kernel_rfl) (fun _ _ _ h=>h) (by rfl) ?_ hS ?_;rotate_left
 ·intro w' hSw;go_simp
  try with_reducible rfl
 simp only[Act.put,sA,sZ,sS];refine aAi (i:=2) (by kernel_rfl) rfl (fun K hK=> ?_);go_simp
 go_at_call 38
 refine HK.out.mono ?_;rintro x w2 ⟨rfl,hb⟩;have hb2:Below w.heap.size w w2:=(bdH (a7d w.heap.size w) 1).trans hb;have hS2:=Hc.out w2 hb2;have HC2:=hid (HC.out w2 hb2);clear HC HK hb Hc hb2;refine hK.out _ _ (fun _=>hS2) ?_;clear hK K
 try simp only[Act.put,sA,sZ,sS]
 refine aAi (i:=5) (by kernel_rfl) rfl (fun K hK=> ?_);have hi2:=hix w2;go_simp;refine hK.out _ _ (fun _=>hS2) ?_;clear hK K hi2
 try simp only[Act.put,sA,sZ,sS]
 refine aAi (i:=6) (by kernel_rfl) rfl (fun K hK=> ?_);go_simp
 go_at_call 71
 refine HC2.out.mono ?_;rintro x w3 ⟨⟨v,rfl⟩,h2⟩;have H2:=hid h2;clear HC2 h2;refine hK.out _ _ (fun h=>absurd h (by decide)) ?_;clear hK K;refine aCw (by kernel_rfl) ?_ _;refine Hok.out _ _ ?_ H2.out;exact ⟨rfl,rfl,rfl,rfl,rfl⟩
end
