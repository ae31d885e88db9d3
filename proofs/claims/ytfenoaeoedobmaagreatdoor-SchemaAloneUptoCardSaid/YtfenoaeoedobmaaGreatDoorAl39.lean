/-
Parts of a proof.
-/
import Derived.Lib.Bytealg
import Derived.Test.YtfenoaeoedobmaaGreatDoorAl37
import Derived.Test.YtfenoaeoedobmaaGreatDoorAl38
set_option linter.unusedVariables false
set_option linter.unusedSimpArgs false
set_option maxHeartbeats 8000000
set_option maxRecDepth 20000
namespace Go.Proofs.YtfenoaeoedobmaaGreatDoor
open Go Go.RowKit
noncomputable def treeV (r:Res):List Nd:=
 match docP (treeW wtF r) with
 | .ok b=>if sameV b r=true then treeW wtF r else []
 | .error _=>[]
def STr (w:World) (l:List Nd) (x:Ending) (w':World):Prop:=
 ∃v ms,x= .returned v/\DocP w' w.heap.size ⟨v,ms⟩/\nds ms=l/\Below w.heap.size w w'
theorem aVe {w w':World} (hb:Below w.heap.size w w'):STr w [] (.returned (.slice none 0 0)) w':=
 ⟨_,[],rfl,⟨World.ownsRow_nil _ _ _ _,nofun,nofun,Nat.zero_le _⟩,rfl,hb⟩
theorem Tree_c (w:World) (r:Res) (ev tv rv:Value) (hz:ResZ r) (hL:ResL w r ev tv rv) (hg:GlobT w):
 Calls Tryz.prog 19 #[.agg (resA r ev tv rv)] w (STr w (treeV r)):=by
 obtain ⟨W,hW⟩:∃W,W=w.alloc (.cells (resA r ev tv rv) 49):=⟨_,rfl⟩;have hbW:Below w.heap.size w W:=by rw[hW];exact (a3l _ _).alloc (a3k _) _
 have hsW:W.heap.size=w.heap.size+1:=by rw[hW];simp
 have hblk:W.heap[w.heap.size]? =some (.cells (resA r ev tv rv) 49 (0,0)):=by rw[hW];exact aAc _
 obtain ⟨ea,en,ec,rfl⟩:=aBj hL.e;obtain ⟨ta,tn,tc,rfl⟩:=aBj hL.t;obtain ⟨ra,rn,rc,rfl⟩:=aBj hL.r;have HT:=hid (a2k W r _ _ _ hz ⟨hL.e.later hbW,hL.t.later hbW,hL.r.later hbW⟩ (hg.later hbW));have HL:=hid (fun w2 (hb:Below w.heap.size w w2)=>show ResL w2 r (.slice ea en ec) (.slice ta tn tc) (.slice ra rn rc) from ⟨hL.e.later hb,hL.t.later hb,hL.r.later hb⟩);have HG:=hid (fun w2 (hb:Below w.heap.size w w2)=>(hg.later hb).gl)
 have HB:=hid (And.intro hbW hsW);have y:=fun w2 (hb:Below W.heap.size W w2)=>show w2.heap[w.heap.size]? =some (.cells (resA r (.slice ea en ec) (.slice ta tn tc) (.slice ra rn rc)) 49 (0,0)) from (hb.block _ (by omega)).trans hblk;have HY:=hid y;have y1:=y W (a3l _ _);clear hz hL hg hbW hsW hblk y;unfold resA at HT hW HY y1 |-;obtain ⟨a0,a1,a2,a3,a4,a5,a6,a7⟩:=cB8 y1
 simp at a0 a1 a2 a3 a4 a5 a6 a7;clear y1;go_enter Tryz.func19,Tryz.ntmps19
 go_wp2_with fail
 rw[<-hW];refine HT.out.mono ?_;rintro x w2 ⟨V,ms,rfl,hD,hn,hb2⟩;clear a0 a1 a2 a3 a4 a5 a6 a7 hW HT;have hbw2:Below w.heap.size w w2:=HB.out.1.trans (hb2.mono HB.out.1.size);obtain ⟨va,vn,vc,hV⟩:∃a n c,V= .slice a n c:=aBj hD.nds.1;have HR:=hid (a0c w2 V ms hD.nds (HG.out w2 hbw2));have HD:=hid hD;have HB2:=hid (And.intro hb2 hbw2);have hn2:=hn;have Hn:=hid hn;rw[hn]at HR;subst hV;clear hD hb2 hbw2 hn
 cases hd:docP (treeW wtF r) with
 |error e=>
  have hnz:=aP2 (treeW wtF r) e hd;have hv:treeV r=[]:=by unfold treeV;rw[hd]
  rw[hd]at HR;have HE:=hid (fun w' (hb:Below w.heap.size w w')=>show STr w (treeV r) (.returned (.slice none 0 0)) w' from by rw[hv];exact aVe hb);have t1:(e.2 != 0)=true:=bne_iff_ne.2 hnz;clear hd hnz hv Hn
  go_wp2_with fail
  refine HR.out.mono ?_;unfold SRead resZ;rintro x w3 ⟨h,hb3⟩;simp only at h;subst h;have Hb:=hid (fun ob=>((HB2.out.2.trans (hb3.mono HB2.out.2.size)).alloc (a3o HB2.out.2.size hb3.size) ob));clear hb3 HR;go_wp2;refine bodyPost_ret (results_tmp (t:=2) rfl _ _ _) rfl (HE.out _ (Hb.out _))
 |ok b=>
  have hv:treeV r=if sameV b r=true then treeW wtF r else []:=by unfold treeV;rw[hd]
  rw[hd]at HR;have HV:=hid hv;clear hd hv
  go_wp2_with fail
  refine HR.out.mono ?_;unfold SRead;rintro x w3 ⟨⟨ev2,tv2,rv2,h,hN⟩,hb3⟩;subst h;obtain ⟨ea2,en2,ec2,rfl⟩:=aBj hN.toL.e;obtain ⟨ta2,tn2,tc2,rfl⟩:=aBj hN.toL.t;obtain ⟨ra2,rn2,rc2,rfl⟩:=aBj hN.toL.r;obtain ⟨w4,hw4⟩:∃w4,w4=w3.alloc (.cells (resA b (.slice ea2 en2 ec2) (.slice ta2 tn2 tc2) (.slice ra2 rn2 rc2)) 49):=⟨_,rfl⟩;have hb4:Below w3.heap.size w3 w4:=by rw[hw4];exact (a3l _ _).alloc (a3k _) _
  have hbw3:Below w.heap.size w w3:=HB2.out.2.trans (hb3.mono HB2.out.2.size);have hbw4:Below w.heap.size w w4:=hbw3.trans (hb4.mono hbw3.size);have hbW4:Below W.heap.size W w4:=(HB2.out.1.trans (hb3.mono HB2.out.1.size)).trans (hb4.mono (a3o HB2.out.1.size hb3.size));have f1:=HY.out w4 hbW4;have f2:w4.heap[w3.heap.size]? =some (.cells (resA b (.slice ea2 en2 ec2) (.slice ta2 tn2 tc2) (.slice ra2 rn2 rc2)) 49 (0,0)):=by rw[hw4];exact aAc _
  have HS:=hid (a2n w4 b r _ _ _ _ _ _ ⟨hN.toL.e.later hb4,hN.toL.t.later hb4,hN.toL.r.later hb4⟩ (HL.out w4 hbw4));have HE:=hid (fun w' (hb:Below w4.heap.size w4 w')=>show STr w (treeV r) (.returned (if sameV b r=true then .slice va vn vc else .slice none 0 0)) w' from by
   have h2:Below w2.heap.size w2 w':=(hb3.trans (hb4.mono hb3.size)).trans (hb.mono (a3o hb3.size hb4.size));rw[HV.out];by_cases hs:sameV b r=true
   ·rw[if_pos hs,if_pos hs];have hP:=DocE.down (x:=(⟨.slice va vn vc,ms⟩:DocV)) HD.out (a3o (Nat.le_succ _) (Nat.le_of_eq HB.out.2.symm));exact ⟨_,ms,rfl,DocE.mod (F:=fun _=>False) hP (aCe h2) (fun _ _ q=>q),Hn.out,hbw4.trans (hb.mono hbw4.size)⟩
   ·rw[if_neg hs,if_neg hs];exact aVe (hbw4.trans (hb.mono hbw4.size)))
  unfold resA at hw4 f1 f2 HS |-;obtain ⟨a0,a1,a2,a3,a4,a5,a6,a7⟩:=cB8 f1;obtain ⟨c0,c1,c2,c3,c4,c5,c6,c7⟩:=cB8 f2;simp at a0 a1 a2 a3 a4 a5 a6 a7 c0 c1 c2 c3 c4 c5 c6 c7;clear f1 f2 hb3 HR hN hb4 hbw3 hbw4 hbW4 HB HB2 HL HG HD HV Hn HY;subst hw4
  go_wp2_with fail
  refine HS.out.mono ?_;rintro x w5 ⟨rfl,hb5⟩;have Hb5:=hid hb5;clear hb5 HS a0 a1 a2 a3 a4 a5 a6 a7 c0 c1 c2 c3 c4 c5 c6 c7;cases hs:sameV b r with
  |true=>
   rw[hs]at HE;simp only[if_true]at HE;go_wp2;refine bodyPost_ret (results_tmp (t:=2) rfl _ _ _) rfl (HE.out _ Hb5.out)
  |false=>
   rw[hs]at HE;go_wp2;refine bodyPost_ret (results_tmp (t:=2) rfl _ _ _) rfl (HE.out _ Hb5.out)
def fullT (l:List ByteArray):List ByteArray:=l.filter (fun x=>decide (x≠⟨#[]⟩))
def sepT:ByteArray:=⟨#[45,45,45,10]⟩
def joinV (l:List ByteArray):ByteArray:=⟨(Lib.join ((fullT l).map (·.data.toList)) sepT.data.toList).toArray⟩
theorem aY2 {l:List ByteArray} {j:Nat} {x:ByteArray} (h:l[j]? =some x) (hx:x≠⟨#[]⟩):fullT (l.take (j+1))=fullT (l.take j)++[x]:=by
 unfold fullT;rw[List.take_add_one,h,List.filter_append];simp[hx]
theorem a2o {l:List ByteArray} {j:Nat} {x:ByteArray} (h:l[j]? =some x) (hx:x=⟨#[]⟩):fullT (l.take (j+1))=fullT (l.take j):=by
 unfold fullT;rw[List.take_add_one,h,List.filter_append];simp[hx]
theorem aY3 (l:List ByteArray):(fullT l).length<=l.length:=List.length_filter_le _ _
theorem aVf (M:Nat):∀l:List (List UInt8),(∀x∈l,x.length<=M)->Lib.lens l<=l.length*M
 |[],_=>by simp[Lib.lens]
 |x::l,h=>by
  have h1:=h x (List.mem_cons_self ..);have h2:=aVf M l (fun y hy=>h y (List.mem_cons_of_mem _ hy));unfold Lib.lens at h2 |-;rw[List.map_cons,List.sum_cons,a3n,Nat.succ_mul];omega
theorem aY4 (sep:List UInt8) (M:Nat) (l:List (List UInt8)) (h:∀x∈l,x.length<=M):(Lib.join l sep).length<=l.length*M+sep.length*l.length:=by
 cases l with
 |nil=>rw[Lib.join_nil];exact Nat.zero_le _
 |cons x r=>
  rw[Lib.join_length];have:=aVf M (x::r) h;have h2:sep.length*r.length<=sep.length*(x::r).length:=Nat.mul_le_mul_left _ (by rw[a3n];omega);omega
theorem aVg {l:List ByteArray} (hn:l.length<=1048576) (h:∀x∈l,x.size<=65536):(Lib.join ((fullT l).map (·.data.toList)) sepT.data.toList).length<=140737488355328:=by
 have h1:=aY4 sepT.data.toList 65536 ((fullT l).map (·.data.toList)) (fun x hx=>by
  obtain ⟨y,hy,rfl⟩:=List.mem_map.1 hx
  show y.data.toList.length<=_
  rw[aAf];exact h y (List.mem_filter.1 hy).1)
 rw[List.length_map]at h1;have h2:=aY3 l;have h3:sepT.data.toList.length=4:=rfl;rw[h3]at h1;omega
theorem aY5 {w:World} {e:TypeId} {n:Nat} {v:Value} {xs:List Value} (h:w.ownsRow 0 e 1 v n xs):∀a m c,v= .slice a m c->m<=c:=by
 intro a m c hv;rcases h.2 with ⟨h1,h2⟩|⟨g,cap,cur,h1,_,_,hc,_⟩
 ·rw[hv]at h1;cases h1;exact a3k _
 ·rw[hv]at h1;cases h1;exact hc
theorem join_c (w:World) (v:Value) (l:List ByteArray) (h:SlR w v 1 l aAp) (hs:∀x∈l,x.size<=65536):
 Calls Tryz.prog 25 #[v] w fun x w'=>x= .returned (.string (joinV l))/\Below w.heap.size w w':=by
 obtain ⟨ao,cap,rfl,hl,hat⟩:=h;obtain ⟨n,hn⟩:∃n,n=l.length:=⟨_,rfl⟩;rw[<-hn]at hl hat |-;have Hn:=hid hn;have Hl:=hid hl;have Hat:=hid hat;have Hjl0:=hid (aVg (by rw[<-hn];exact hl) hs);have H0:=hid (RO.first w 9 1);clear hn hl hat hs;go_enter Tryz.func25,Tryz.ntmps25;go_wp2
 go_loopw [3,8] (fun vv vi wr=>∃(v2:Value) (j k:Nat),v2=vv/\vi= .int .i64 (j:Int)/\Hid (j<=n/\k=(fullT (l.take j)).length/\k<=j/\RO w wr 9 1 v2 k ((fullT (l.take j)).flatMap aAp))) (fun _ vi _=>n-(intOf vi).toNat)
 case atStart=>exact ⟨_,0,0,rfl,rfl,hid ⟨Nat.zero_le _,rfl,a3k _,H0.out⟩⟩
 case round=>
  clear H0;obtain ⟨v2,j,k,rfl,rfl,H⟩:=hrel;by_cases hj:j<n
  ·have tj:decide (j<n)=true:=dT hj;have bj:(j:Int)<(n:Int):=by omega
   obtain ⟨x,hx⟩:∃x,l[j]? =some x:=aAh (by rw[<-Hn.out];exact hj);obtain ⟨b2,o2,rfl,hb2,hc⟩:=Hat.out (by omega);have x0:=(H.out.2.2.2.below.cell (p:=⟨b2,o2+j*1+0,none⟩) hb2).trans (hc j x hx 0 _ rfl);rw[Nat.mul_one,Nat.add_zero]at x0;obtain ⟨Hms,Hgo⟩:=aAt (k:=j) (n:=n) hj (by have:=Hl.out;omega);by_cases he:x=⟨#[]⟩
   ·have HE:=hid (show j+1<=n/\k=(fullT (l.take (j+1))).length/\k<=j+1/\RO w wr 9 1 v2 k ((fullT (l.take (j+1))).flatMap aAp) from by
     rw[a2o hx he];exact ⟨hj,H.out.2.1,Nat.le_succ_of_le H.out.2.2.1,H.out.2.2.2⟩)
    subst he;clear hx hc hb2 H Hat hj;go_wp2;go_roundw
    case rel=>exact ⟨_,j+1,k,rfl,Hgo.out,HE⟩
    case measure=>exact Hms.out
   ·have t1:=aFr he;have Hown:=hid (fun o=>H.out.2.2.2.row.alloc o);have Hone:=hid (show ∀u∈[Value.string x],u.oneCell'=true from fun u hu=>by rw[List.mem_singleton.1 hu];rfl);have Hkl:=hid (show k<=2000000 by have:=H.out.2.2.1;have:=Hl.out;omega);have Hd1:=hid (show 0<1 by decide);have Hd2:=hid (show 16<=1000 by decide);have Hend:=hid (fun o v' w2 a1 a2 a3=>show j+1<=n/\k+1=(fullT (l.take (j+1))).length/\k+1<=j+1/\RO w w2 9 1 v' (k+1) ((fullT (l.take (j+1))).flatMap aAp) from by
     rw[aY2 hx he,a3m,List.flatMap_append,List.flatMap_singleton];exact ⟨hj,by rw[H.out.2.1];rfl,by have:=H.out.2.2.1;omega,RO.app (w1:=wr.alloc o) (v':=v') (w2:=w2) (m:=k+1) (ys:=(fullT (l.take j)).flatMap aAp++[.string x]) H.out.2.2.2 ((a3l _ wr).alloc (a3k _) o) a1 a2 a3⟩)
    clear hx hc hb2 H Hat hj he
    go_wp2_with (at_builtin;refine aCz 9 45 (.string ⟨#[]⟩) 1 16 Tryz.underlying45 aK8 rfl Hd1.out Hd2.out rfl _ _ rfl v2 k ((fullT (l.take j)).flatMap aAp) rfl (Hown.out _) wr.heap.size #[.string x] [.string x] rfl (aAc _) rfl rfl Hone.out Hkl.out (k+1) rfl ?_;intro ao4 c4 w2 own2 gr2 new2;have HE:=hid (Hend.out _ _ _ own2 gr2 new2);clear own2 gr2 new2)
    go_roundw
    case rel=>exact ⟨_,j+1,k+1,rfl,Hgo.out,HE⟩
    case measure=>exact Hms.out
  ·have tj:decide (j<n)=false:=dF hj;obtain ⟨h1,h2,h3,h4⟩:=H.out;have ej:j=n:=by omega
   subst ej;rw[List.take_of_length_le (by rw[Hn.out];exact a3k _)]at h2 h4;have hJ:Calls Tryz.prog 65 #[v2,.string ⟨#[45,45,45,10]⟩] wr fun x w'=>x= .returned (.string (joinV l))/\Below wr.heap.size wr w':=by
    have hsl:=SlR.ofRow (xs:=fullT l) (cells:=aAp) (sz:=1) h4.row h2 (fun _=>rfl) (by have:=Hl.out;omega) (by decide);have hcap:=aY5 h4.row;obtain ⟨a0,c0,rfl,hlc,hat0⟩:=hsl;by_cases h0:(fullT l).length=0
    ·have e:fullT l=[]:=List.eq_nil_of_length_eq_zero h0;have ev:joinV l=⟨#[]⟩:=by unfold joinV;rw[e];rfl
     rw[h0,ev];refine (Tryz.strings_Join_none a0 c0 _ wr).mono ?_;rintro x w' ⟨rfl,rfl⟩;exact ⟨rfl,a3l _ _⟩
    ·obtain ⟨bk,o,rfl,hbk,hc⟩:=hat0 (by omega);exact Tryz.strings_Join bk o c0 (fullT l) ⟨#[45,45,45,10]⟩ wr (fun j x hx=>by
      have:=hc j x hx 0 _ rfl
      rwa [Nat.mul_one,Nat.add_zero]at this) hbk (by omega) (hcap _ _ _ rfl) Hjl0.out
   have HJ:=hid hJ;have HB:=hid h4.below;clear H Hat hj h1 h2 h3 h4 hJ
   go_wp2_with fail
   refine HJ.out.mono ?_;rintro x w2 ⟨rfl,hb⟩;have Hb:=hid (HB.out.trans (hb.mono HB.out.size));clear hb HJ;go_wp2;refine bodyPost_ret (results_tmp (t:=2) rfl _ _ _) rfl ⟨rfl,Hb.out⟩
theorem aQe {w:World} {V:Value} {ms:List RsM} (h:RsL w V ms):∃ao cap,V= .slice ao ms.length cap/\ms.length<=1048576/\(∀i m,ms[i]? =some m->∃b o,ao=some ⟨b,o,none⟩/\b<w.heap.size/\(∀j u,m.cells[j]? =some u->w.cell? ⟨b,o+i*8+j,none⟩=some u)/\ResL w m.r m.ev m.tv m.rv):=by
 obtain ⟨ao,cap,hv,hl,hat⟩:=h.sl;refine ⟨ao,cap,hv,hl,fun i m hm=> ?_⟩;have hi:i<ms.length:=(a3r hm).1;obtain ⟨b,o,ha,hb,hc⟩:=hat (by omega);exact ⟨b,o,ha,hb,hc i m hm,h.each m (List.mem_of_getElem? hm)⟩
theorem ResL.later {w w2:World} {r:Res} {ev tv rv:Value} (h:ResL w r ev tv rv) (hb:Below w.heap.size w w2):ResL w2 r ev tv rv:=⟨h.e.later hb,h.t.later hb,h.r.later hb⟩
noncomputable def aGn:List Res->List ByteArray->ByteArray×Int
 |[],out=>if 65536<(joinV out).size then (⟨#[]⟩,3) else (joinV out,0)
 |r::rest,out=>if treeV r=[] then (⟨#[]⟩,123) else if (emitV (treeV r)).2≠0 then (⟨#[]⟩,(emitV (treeV r)).2) else aGn rest (out++[(emitV (treeV r)).1])
noncomputable def textV (rs:List Res):ByteArray×Int:=aGn rs []
def SText (w:World) (t:ByteArray×Int) (x:Ending) (w':World):Prop:=x= .returned (.tuple #[.string t.1,.int .i64 t.2])/\Below w.heap.size w w'
theorem aRx {ns:List Nd} (h:(emitV ns).2=0):(emitV ns).1.size<=65536:=by
 unfold emitV at h |-
 split
 ·decide
 ·split
  ·decide
  ·rename_i _ h2
   rw[<-aAf]
   show (emitL ns).toArray.toList.length<=_
   simpa using h2
theorem Text_c (w:World) (V:Value) (ms:List RsM) (h:RsL w V ms) (hz:∀m∈ms,ResZ m.r) (hg:GlobT w):
 Calls Tryz.prog 15 #[V] w (SText w (textV (ms.map (·.r)))):=by
 obtain ⟨ao,cap,rfl,hl,hat⟩:=aQe h;obtain ⟨n,hn⟩:∃n,n=ms.length:=⟨_,rfl⟩;rw[<-hn]at hl |-;have Hn:=hid hn;have Hl:=hid hl;have Hat:=hid hat;have Hz:=hid hz;have Hg:=hid (fun w2 (hb:Below w.heap.size w w2)=>hg.later hb);have H0:=hid (RO.first w 9 1);obtain ⟨tx,htx⟩:∃tx,tx=textV (ms.map (·.r)):=⟨_,rfl⟩;rw[<-htx];have Htx:=hid htx;have Hs0:=hid (show aGn ((ms.map (·.r)).drop 0) []=tx from htx.symm)
 clear h hn hl hat hz hg htx;go_enter Tryz.func15,Tryz.ntmps15;go_wp2
 go_loopw [4,13] (fun vv vi wr=>∃(v2:Value) (j:Nat) (out:List ByteArray),v2=vv/\vi= .int .i64 (j:Int)/\Hid (j<=n/\out.length=j/\(∀x∈out,x.size<=65536)/\aGn ((ms.map (·.r)).drop j) out=tx/\RO w wr 9 1 v2 j (out.flatMap aAp))) (fun _ vi _=>n-(intOf vi).toNat)
 case atStart=>exact ⟨_,0,[],rfl,rfl,hid ⟨Nat.zero_le _,rfl,nofun,Hs0.out,H0.out⟩⟩
 case round=>
  clear H0 Hs0 Htx;obtain ⟨v2,j,out,rfl,rfl,H⟩:=hrel;by_cases hj:j<n
  ·have tj:decide (j<n)=true:=dT hj;have bj:(j:Int)<(n:Int):=by omega
   obtain ⟨m,hm⟩:∃m,ms[j]? =some m:=aAh (by rw[<-Hn.out];exact hj);obtain ⟨b,o,rfl,hb,hc,hr⟩:=Hat.out j m hm;have hbl:=H.out.2.2.2.2.below;have hzm:=Hz.out m (List.mem_of_getElem? hm);have hdrop:(ms.map (·.r)).drop j=m.r::(ms.map (·.r)).drop (j+1):=aDw (by rw[List.getElem?_map,hm];rfl);have hs:=H.out.2.2.2.1;rw[hdrop]at hs;have hc2:=fun i u (hu:m.cells[i]? =some u)=>(hbl.cell (p:=⟨b,o+j*8+i,none⟩) hb).trans (hc i u hu)
   obtain ⟨r,ev,tv,rv⟩:=m;obtain ⟨ea,en,ec,rfl⟩:=aBj hr.e;obtain ⟨ta,tn,tc,rfl⟩:=aBj hr.t;obtain ⟨ra,rn,rc,rfl⟩:=aBj hr.r;have c0:=hc2 0 _ rfl;have c1:=hc2 1 _ rfl;have c2:=hc2 2 _ rfl;have c3:=hc2 3 _ rfl;have c4:=hc2 4 _ rfl;have c5:=hc2 5 _ rfl;have c6:=hc2 6 _ rfl;have c7:=hc2 7 _ rfl;simp only[Nat.add_zero]at c0;obtain ⟨wa,hwa⟩:∃wa,wa=wr.alloc (.cells #[.int .i64 r.kind,.string r.name,.slice ea en ec,.slice ta tn tc,.string r.host,.slice ra rn rc,.string r.route,.bool r.del] 49):=⟨_,rfl⟩
   have hba:Below wr.heap.size wr wa:=by rw[hwa];exact (a3l _ _).alloc (a3k _) _
   have hbwa:Below w.heap.size w wa:=hbl.trans (hba.mono hbl.size);have HTr:=hid (Tree_c wa r _ _ _ hzm (hr.later hbwa) (Hg.out wa hbwa));have HR:=hid (H.out.2.2.2.2.later hba);have Hlen:=hid (And.intro H.out.2.1 H.out.2.2.1);obtain ⟨Hms,Hgo⟩:=aAt (k:=j) (n:=n) hj (by have:=Hl.out;omega);have Hj:=hid hj;have Hhs:=hid hs;unfold resA at HTr;clear hm hb hc hc2 hr hzm hdrop hs hj hba hbwa hbl H Hat Hz
   go_wp2_with fail
   rw[<-hwa];refine HTr.out.mono ?_;rintro x w3 ⟨nv,ns,rfl,hD,hnn,hb3⟩;clear c0 c1 c2 c3 c4 c5 c6 c7 hwa HTr;obtain ⟨na,nn,nc,hnv⟩:∃a n c,nv= .slice a n c:=aBj hD.nds.1;subst hnv;have hnl:nn=ns.length:=aQb hD.row;have Hb3:=hid hb3;have hbw3:Below w.heap.size w w3:=by
    have h1:=HR.out.below;exact h1.trans (hb3.mono h1.size)
   have HR3:=hid (HR.out.later hb3);have HEm:=hid (aZ7 w3 _ ns hD.nds (Hg.out w3 hbw3).gl);rw[hnn]at HEm;have hnl2:nn=(treeV r).length:=by rw[hnl,<-hnn,aA5]
   have Hbw:=hid hbw3;clear hD hb3 hnn hnl hbw3 HR Hb3;unfold aGn at Hhs;by_cases h0:treeV r=[]
   ·have e0:nn=0:=by rw[hnl2,h0];rfl
    subst e0;have HE:Hid (SText w tx (.returned (.tuple #[.string ⟨#[]⟩,.int .i64 123])) w3):=hid ⟨by rw[<-Hhs.out,if_pos h0],Hbw.out⟩;clear hnl2 h0 HEm Hhs;go_wp2;refine bodyPost_ret (results_tmp2 (t:=2) (u:=3) rfl _ _ _) rfl HE.out
   ·have t1:((nn:Int)==0)=false:=by
     rw[beq_eq_false_iff_ne];intro e;exact h0 (List.eq_nil_of_length_eq_zero (by omega))
    rw[if_neg h0]at Hhs;obtain ⟨et,ee,hee⟩:∃et ee,emitV (treeV r)=(et,ee):=⟨_,_,rfl⟩;have hsm:ee=0->et.size<=65536:=fun h=>by
     have:=aRx (ns:=treeV r) (by rw[hee];exact h);rw[hee]at this;exact this
    have Hsm:=hid hsm;rw[hee]at HEm Hhs;simp only at HEm Hhs;clear hnl2 h0 hee hsm
    go_wp2_with fail
    refine HEm.out.mono ?_;rintro x w4 ⟨rfl,hb4⟩;have HR4:=hid (HR3.out.later hb4);have Hbw4:=hid (Hbw.out.trans (hb4.mono Hbw.out.size));clear HEm hb4 HR3 Hbw;by_cases he:ee=0
    ·subst he;have hs2:=Hhs.out;rw[if_neg (by simp)]at hs2;have Hs2:=hid hs2;have Hown:=hid (fun o=>HR4.out.row.alloc o);have Hone:=hid (show ∀u∈[Value.string et],u.oneCell'=true from fun u hu=>by rw[List.mem_singleton.1 hu];rfl);have Hkl:=hid (show j<=2000000 by have:=Hj.out;have:=Hl.out;omega);have Hd1:=hid (show 0<1 by decide);have Hd2:=hid (show 16<=1000 by decide);have Hend:=hid (fun o v' w5 a1 a2 a3=>show j+1<=n/\(out++[et]).length=j+1/\(∀x∈out++[et],x.size<=65536)/\aGn ((ms.map (·.r)).drop (j+1)) (out++[et])=tx/\RO w w5 9 1 v' (j+1) ((out++[et]).flatMap aAp) from
      ⟨Hj.out,by rw[a3m,Hlen.out.1];rfl,fun x hx=>by
       rcases List.mem_append.1 hx with q|q
       ·exact Hlen.out.2 x q
       ·rw[List.mem_singleton.1 q];exact Hsm.out rfl,Hs2.out,by
       rw[List.flatMap_append,List.flatMap_singleton];exact RO.app (w1:=w4.alloc o) (v':=v') (w2:=w5) (m:=j+1) (ys:=out.flatMap aAp++[.string et]) HR4.out ((a3l _ w4).alloc (a3k _) o) a1 a2 a3⟩)
     clear hs2 Hhs Hlen HR4 Hbw4 Hs2 Hsm
     go_wp2_with (at_builtin;refine aCz 9 45 (.string ⟨#[]⟩) 1 16 Tryz.underlying45 aK8 rfl Hd1.out Hd2.out rfl _ _ rfl v2 j (out.flatMap aAp) rfl (Hown.out _) w4.heap.size #[.string et] [.string et] rfl (aAc _) rfl rfl Hone.out Hkl.out (j+1) rfl ?_;intro ao4 c4 w5 own2 gr2 new2;have HE:=hid (Hend.out _ _ _ own2 gr2 new2);clear own2 gr2 new2)
     go_roundw
     case rel=>exact ⟨_,j+1,_,rfl,Hgo.out,HE⟩
     case measure=>exact Hms.out
    ·have t2:(ee != 0)=true:=bne_iff_ne.2 he;have HE:Hid (SText w tx (.returned (.tuple #[.string ⟨#[]⟩,.int .i64 ee])) w4):=hid ⟨by rw[<-Hhs.out,if_pos he],Hbw4.out⟩;clear he Hhs HR4 Hbw4;go_wp2;refine bodyPost_ret (results_tmp2 (t:=2) (u:=3) rfl _ _ _) rfl HE.out
  ·have tj:decide (j<n)=false:=dF hj;obtain ⟨h1,h2,h3,h4,h5⟩:=H.out;have ej:j=n:=by omega
   rw[List.drop_eq_nil_of_le (by rw[List.length_map,<-Hn.out];omega)]at h4;unfold aGn at h4;have HJ:=hid (join_c wr v2 out (SlR.ofRow h5.row h2.symm (fun _=>rfl) (by have:=Hl.out;omega) (by decide)) h3);have HB:=hid h5.below;have H4:=hid h4;generalize joinV out=t at*;clear H Hat hj h1 h2 h3 h4 h5 ej Hz Hg
   go_wp2_with fail
   refine HJ.out.mono ?_;rintro x w2 ⟨rfl,hb⟩;have Hb:=hid (HB.out.trans (hb.mono HB.out.size));clear hb HJ HB;by_cases hbig:65536<t.size
   ·have t1:decide ((65536:Int)<(t.size:Int))=true:=dT (by omega);have HE:Hid (SText w tx (.returned (.tuple #[.string ⟨#[]⟩,.int .i64 3])) w2):=hid ⟨by rw[<-H4.out,if_pos hbig],Hb.out⟩;clear H4 Hb hbig;go_wp2;refine bodyPost_ret (results_tmp2 (t:=2) (u:=3) rfl _ _ _) rfl HE.out
   ·have t1:decide ((65536:Int)<(t.size:Int))=false:=dF (by omega);have HE:Hid (SText w tx (.returned (.tuple #[.string t,.int .i64 0])) w2):=hid ⟨by rw[<-H4.out,if_neg hbig],Hb.out⟩;clear H4 Hb hbig;go_wp2;refine bodyPost_ret (results_tmp2 (t:=2) (u:=3) rfl _ _ _) rfl HE.out
def scanE:Nat->List UInt8->Nat->Nat->List Tok×Option (Nat×Nat×Int)
 |0,_,_,_=>([],none)
 |f+1,l,k,n=>
  if l=[] then ([],none)
  else match lineL (cutB l).1 ((n+1:Nat):Int) with
   | .error c=>([],some (k,n+1,c))
   | .ok ts=>(ts++(scanE f (cutB l).2 (k+aBq ts) (n+1)).1,(scanE f (cutB l).2 (k+aBq ts) (n+1)).2)
def outE (acc:List Tok) (p:List Tok×Option (Nat×Nat×Int)):Except (Nat×Nat×Int) (List Tok):=
 match p.2 with
 |none=> .ok (acc++p.1)
 |some e=> .error e
theorem aQf:∀(f:Nat) (l:List UInt8) (k n:Nat) (acc:List Tok),aI7 f l k n acc=outE acc (scanE f l k n)
 |0,l,k,n,acc=>by unfold aI7 scanE outE;simp
 |f+1,l,k,n,acc=>by
  unfold aI7 scanE
  split
  ·unfold outE;simp
  ·cases h:lineL (cutB l).1 ((n+1:Nat):Int) with
   |error c=>rfl
   |ok ts=>
    simp only;rw[aQf f];unfold outE;simp only;cases (scanE f (cutB l).2 (k+aBq ts) (n+1)).2<;>simp
theorem aHg:∀(f g:Nat) (l:List UInt8) (k n:Nat),l.length<=f->l.length<=g->scanE f l k n=scanE g l k n
 |0,0,_,_,_,_,_=>rfl
 |0,g+1,l,k,n,h,_=>by
  have:l=[]:=List.eq_nil_of_length_eq_zero (by omega);unfold scanE;rw[if_pos this]
 |f+1,0,l,k,n,_,h=>by
  have:l=[]:=List.eq_nil_of_length_eq_zero (by omega);unfold scanE;rw[if_pos this]
 |f+1,g+1,l,k,n,hf,hg=>by
  unfold scanE
  split
  ·rfl
  ·rename_i hl
   have:=aFk l hl
   split
   ·rfl
   ·rename_i ts h
    rw[aHg f g (cutB l).2 (k+aBq ts) (n+1) (by omega) (by omega)]
abbrev Yl:=Tok×(Int×Int×Int)
def yTok (t:Tok):Yl:=(t,(0,0,0))
def yErr (e:Nat×Nat×Int):Yl:=(⟨0,0,0,[],false⟩,((e.1:Int),(e.2.1:Int),e.2.2))
def yE (p:List Tok×Option (Nat×Nat×Int)):List Yl:=p.1.map yTok++(match p.2 with|none=>[]|some e=>[yErr e])
def yAll (l:List UInt8):List Yl:=if 65536<l.length then [yErr (0,0,3)] else yE (scanE l.length l 0 0)
theorem aOv {l:List UInt8} {i:Nat} (h:overL (l.drop i)=false):i<l.length:=by
 rcases Nat.lt_or_ge i l.length with q|q
 ·exact q
 ·rw[List.drop_eq_nil_of_le q]at h;cases h
theorem aJb {l:List UInt8}:∀(f i:Nat),(∀c∈(aCn l f i).1,c<l.length)/\(aCn l f i).1.length<=l.length-i
 |0,i=>⟨fun c h=>(by cases h),Nat.zero_le _⟩
 |f+1,i=>by
  unfold aCn
  split
  ·rename_i h
   have hi:=aOv h.1;obtain ⟨q1,q2⟩:=aJb (l:=l) f (i+1+skipN (l.drop (i+1)));refine ⟨fun c hc=> ?_,by simp only[a3n];omega⟩;rcases List.mem_cons.1 hc with rfl|hc
   ·exact hi
   ·exact q1 c hc
  ·exact ⟨fun c h=>(by cases h),Nat.zero_le _⟩
theorem aRy {t x:List UInt8} {q:Bool} (hq:∀y m,quotL t=some (y,m)->y.length<=t.length) (h:scalL t= .ok (some (x,q))):x.length<=t.length/\overL t=false:=by
 unfold scalL at h
 split at h
 ·cases h
 ·rename_i ho
  refine ⟨?_,by simpa using ho⟩
  split at h
  ·split at h
   ·cases h
   ·rename_i y m hy
    split at h
    ·cases h
    ·injection h with h
     injection h with h
     injection h with h _
     subst h;exact hq _ _ hy
  ·split at h
   ·cases h
   ·rename_i y hy
    injection h with h
    injection h with h
    injection h with h _
    subst h;exact aYq hy
theorem aVh {t x:List UInt8} {q:Bool} {m:Nat} (hq:∀y m,quotL t=some (y,m)->y.length<=t.length) (h:keyL t= .ok (some (x,q,m))):x.length<=t.length:=by
 unfold keyL at h
 split at h
 ·split at h
  ·cases h
  ·rename_i y k hy
   injection h with h
   split at h
   ·injection h with h
    injection h with h _
    subst h;exact hq _ _ hy
   ·cases h
 ·injection h with h
  split at h
  ·injection h with h
   injection h with h _
   subst h;rw[List.length_take];omega
  ·cases h
structure TokB (n:Int) (L:Nat) (t:Tok):Prop where
 kind:2<=t.kind/\t.kind<=4
 line:t.line=n
 col:0<=t.col/\t.col<=(L:Int)
 text:t.text.length<=L
theorem aNe {l:List UInt8} {n:Int} {ts us:List Tok} {i:Nat} (hq:∀t y m,quotL t=some (y,m)->y.length<=t.length) (hts:∀t∈ts,TokB n l.length t) (h:endL l n ts i= .ok us):(∀t∈us,TokB n l.length t)/\us.length<=ts.length+1:=by
 unfold endL at h
 split at h
 ·cases h
 ·injection h with h;subst h;exact ⟨hts,by omega⟩
 ·rename_i x q hs
  injection h with h
  subst h;obtain ⟨h1,h2⟩:=aRy (hq _) hs;have hi:=aOv h2;rw[List.length_drop]at h1;refine ⟨fun t ht=> ?_,by simp⟩;rcases List.mem_append.1 ht with ht|ht
  ·exact hts t ht
  ·obtain rfl:=List.mem_singleton.1 ht;exact ⟨⟨by show (2:Int)<=4;decide,by show (4:Int)<=4;decide⟩,rfl,⟨by show (0:Int)<=(i:Int);omega,by show (i:Int)<=_;omega⟩,by show x.length<=_;omega⟩
theorem aRz {l:List UInt8} {n:Int} {ts us:List Tok} {i:Nat} (hq:∀t y m,quotL t=some (y,m)->y.length<=t.length) (hts:∀t∈ts,TokB n l.length t) (h:restL l n ts i= .ok us):(∀t∈us,TokB n l.length t)/\us.length<=ts.length+2:=by
 unfold restL at h
 split at h
 ·injection h with h;subst h;exact ⟨hts,by omega⟩
 ·rename_i ho
  have hi:=aOv (l:=l) (i:=i) (by simpa using ho)
  split at h
  ·cases h
  ·have:=aNe hq hts h;exact ⟨this.1,by omega⟩
  ·rename_i x q m hk
   have h1:=aVh (hq _) hk;rw[List.length_drop]at h1;have:=aNe hq (fun t ht=>by
    rcases List.mem_append.1 ht with ht|ht
    ·exact hts t ht
    ·obtain rfl:=List.mem_singleton.1 ht;exact ⟨⟨by show (2:Int)<=3;decide,by show (3:Int)<=4;decide⟩,rfl,⟨by show (0:Int)<=(i:Int);omega,by show (i:Int)<=_;omega⟩,by show x.length<=_;omega⟩) h
   rw[a3m]at this;exact ⟨this.1,by have:=this.2;simp at this;omega⟩
theorem aGo {l:List UInt8} {n:Int} {us:List Tok} (hq:∀t y m,quotL t=some (y,m)->y.length<=t.length) (h:lineL l n= .ok us):(us=[⟨1,n,0,[],false⟩]\/∀t∈us,TokB n l.length t)/\us.length<=l.length+2:=by
 unfold lineL at h
 split at h
 ·cases h
 ·split at h
  ·injection h with h;subst h;exact ⟨.inl rfl,by simp⟩
  ·obtain ⟨q1,q2⟩:=aJb (l:=l) (l.length+1) (skipN l);have:=aRz hq (fun t ht=>by
    obtain ⟨c,hc,rfl⟩:=List.mem_map.1 ht;have:=q1 c hc;exact ⟨⟨by show (2:Int)<=2;decide,by show (2:Int)<=4;decide⟩,rfl,⟨by show (0:Int)<=(c:Int);omega,by show (c:Int)<=_;omega⟩,Nat.zero_le _⟩) h
   rw[List.length_map]at this;exact ⟨.inr this.1,by omega⟩
theorem aVi {l:List UInt8} {n:Int} {us:List Tok} (hq:∀t y m,quotL t=some (y,m)->y.length<=t.length) (h:lineL l n= .ok us):aBq us<=1:=by
 rcases (aGo hq h).1 with rfl|h
 ·simp[aBq]
 ·have:us.filter (fun t=>t.kind==1)=[]:=by
   rw[List.filter_eq_nil_iff];intro t ht;have:=(h t ht).kind;simp only[beq_iff_eq];omega
  unfold aBq;rw[this];exact Nat.zero_le _
theorem aY6 {t:List UInt8} {c:Int} (h:scalL t= .error c):c=82\/c=83:=by
 unfold scalL at h
 split at h
 ·cases h
 ·split at h
  ·split at h
   ·injection h with h;exact .inl h.symm
   ·split at h
    ·injection h with h;exact .inl h.symm
    ·cases h
  ·split at h
   ·injection h with h;exact .inr h.symm
   ·cases h
theorem aJc {l:List UInt8} {n c:Int} (h:lineL l n= .error c):c≠0:=by
 have he:∀ts i,endL l n ts i= .error c->c≠0:=by
  intro ts i h;unfold endL at h
  split at h
  ·rename_i e hs
   injection h with h
   have:=aY6 hs;omega
  ·cases h
  ·cases h
 unfold lineL at h
 split at h
 ·rename_i hs
  injection h with h
  rw[<-h];exact hs
 ·split at h
  ·cases h
  ·unfold restL at h
   split at h
   ·cases h
   ·split at h
    ·rename_i e hk
     injection h with h
     subst h;unfold keyL at hk
     split at hk
     ·split at hk
      ·injection hk with hk;omega
      ·cases hk
     ·cases hk
    ·exact he _ _ h
    ·exact he _ _ h
theorem aLo:∀(f:Nat) (l:List UInt8) (k n:Nat) (e:Nat×Nat×Int),(scanE f l k n).2=some e->e.2.2≠0
 |0,_,_,_,e,h=>by cases h
 |f+1,l,k,n,e,h=>by
  unfold scanE at h
  split at h
  ·cases h
  ·cases hl:lineL (cutB l).1 ((n+1:Nat):Int) with
   |error c=>
    rw[hl]at h;have h2:=a3p h;rw[<-h2];exact aJc hl
   |ok ts=>
    rw[hl]at h;exact aLo f _ _ _ e h
theorem aLp {bs:List UInt8} (hl:¬65536<bs.length):yAll bs=yE (scanE bs.length bs 0 0)/\scanL bs=outE [] (scanE bs.length bs 0 0):=by
 refine ⟨by unfold yAll;rw[if_neg hl],?_⟩;unfold scanL;rw[if_neg hl,aQf,aHg (bs.length+1) bs.length bs 0 0 (by omega) (a3k _)]
theorem aY7 {bs:List UInt8} (h:∀x∈yAll bs,x.2.2.2=0):scanL bs= .ok ((yAll bs).map (·.1)):=by
 by_cases hl:65536<bs.length
 ·have:=h (yErr (0,0,3)) (by unfold yAll;rw[if_pos hl];exact List.mem_singleton.2 rfl);simp[yErr]at this
 ·obtain ⟨h1,h2⟩:=aLp hl;rw[h1]at h |-;rw[h2];unfold yE outE at*;cases he:(scanE bs.length bs 0 0).2 with
  |none=>
   simp only[List.append_nil,List.nil_append,List.map_map];congr 1
   conv=>lhs;rw[<-List.map_id (scanE bs.length bs 0 0).1]
   rfl
  |some e=>
   rw[he]at h;have h4:e.2.2=0:=h (yErr e) (List.mem_append_right _ (List.mem_singleton.2 rfl));exact absurd h4 (aLo _ _ _ _ e he)
theorem aY8 {bs:List UInt8} {x:Yl} (hx:x∈yAll bs) (h:x.2.2.2≠0):∃e,scanL bs= .error e/\x.2=((e.1:Int),(e.2.1:Int),e.2.2):=by
 by_cases hl:65536<bs.length
 ·unfold yAll at hx;rw[if_pos hl]at hx;obtain rfl:=List.mem_singleton.1 hx;exact ⟨(0,0,3),by unfold scanL;rw[if_pos hl],rfl⟩
 ·obtain ⟨h1,h2⟩:=aLp hl;rw[h1]at hx;rw[h2];unfold yE outE at*;rcases List.mem_append.1 hx with hx|hx
  ·obtain ⟨t,-,rfl⟩:=List.mem_map.1 hx;exact absurd rfl h
  ·cases he:(scanE bs.length bs 0 0).2 with
   |none=>rw[he]at hx;cases hx
   |some e=>
    rw[he]at hx;obtain rfl:=List.mem_singleton.1 hx;exact ⟨e,rfl,rfl⟩
theorem aQg:∀l:List UInt8,l≠[]->(cutB l).1.length+1+(cutB l).2.length<=l.length\/((cutB l).2=[]/\(cutB l).1.length=l.length)
 |[],h=>absurd rfl h
 |c::r,_=>by
  unfold cutB
  split
  ·left;simp;omega
  ·by_cases hr:r=[]
   ·right;subst hr;exact ⟨rfl,rfl⟩
   ·rcases aQg r hr with h|⟨h1,h2⟩
    ·left;simp only[a3n];omega
    ·right;exact ⟨h1,by simp only[a3n];omega⟩
theorem aJd (hq:∀t y m,quotL t=some (y,m)->y.length<=t.length):∀(f:Nat) (l:List UInt8) (k n:Nat),(scanE f l k n).1.length<=3*l.length
 |0,_,_,_=>Nat.zero_le _
 |f+1,l,k,n=>by
  unfold scanE
  split
  ·exact Nat.zero_le _
  ·rename_i hl
   cases h:lineL (cutB l).1 ((n+1:Nat):Int) with
   |error c=>exact Nat.zero_le _
   |ok ts=>
    simp only[a3m];have h1:=(aGo hq h).2;have h2:=aJd hq f (cutB l).2 (k+aBq ts) (n+1);have h3:=List.length_pos_iff.2 hl;rcases aQg l hl with h4|⟨h4,h5⟩
    ·omega
    ·rw[h4]at h2 |-;simp only[List.length_nil,Nat.mul_zero]at h2;omega
theorem aY9 (hq:∀t y m,quotL t=some (y,m)->y.length<=t.length) (bs:List UInt8):(yAll bs).length<=200000:=by
 unfold yAll
 split
 ·simp
 ·have:=aJd hq bs.length bs 0 0;unfold yE;rw[a3m,List.length_map]
  split<;>simp<;>omega
theorem aLq:∀l:List UInt8,(∃j:Nat,Lib.indexByte l 10=(j:Int)/\j<l.length/\cutB l=(l.take j,l.drop (j+1)))\/(Lib.indexByte l 10= -1/\cutB l=(l,[]))
 |[]=> .inr ⟨rfl,rfl⟩
 |c::r=>by
  unfold Lib.indexByte cutB;by_cases hc:c=10
  ·left
   exact ⟨0,by rw[if_pos (by simpa using hc)];rfl,by simp,by rw[if_pos hc];rfl⟩
  ·have hb:¬(c==10)=true:=by simpa using hc
   rw[if_neg hb,if_neg hc];rcases aLq r with ⟨j,h1,h2,h3⟩|⟨h1,h2⟩
   ·left
    refine ⟨j+1,by rw[h1,if_neg (by simp)];omega,by simp;omega,by rw[h3];rfl⟩
   ·right
    refine ⟨by rw[h1];rfl,by rw[h2]⟩
def baL (l:List UInt8):ByteArray:=⟨l.toArray⟩
theorem a2p {seen:List (List UInt8)} {t:List UInt8}:(⟨t.toArray⟩:ByteArray)∈seen.map baL↔t∈seen:=by
 constructor
 ·intro h;obtain ⟨x,hx,e⟩:=List.mem_map.1 h;unfold baL at e;have e2:x=t:=by
   have:=congrArg (fun b:ByteArray=>b.data.toList) e
   simpa using this
  rwa [<-e2]
 ·intro h;exact List.mem_map.2 ⟨t,h,rfl⟩
section
variable {w0 w wr w2:World} {rb fb tb mb i k:Nat} {lv nv nv':Value} {ts:List Tok} {ms ms':List NdM} {t u:Tok}
theorem LpS.other (h:LpS w0 w wr rb fb tb i lv ts nv ms t u k nv' ms') (hm:Mod (fun b=>b=mb) wr w2) (h1:¬RdF rb nv' ms' mb) (hf:mb≠fb) (ht:mb≠tb) (hw:w.heap.size<=mb) (hw0:w0.heap.size<=w.heap.size):LpS w0 w w2 rb fb tb i lv ts nv ms t u k nv' ms':=by
 refine ⟨⟨h.rd.toks,h.rd.wf,h.rd.below.trans (hm.below h.rd.below.size (fun b hb=>by omega)),h.rd.rge,hm.heap h.rd.blk (fun e=>h1 (.inl e.symm)),h.rd.nr.mod hm (fun g hg e=>h1 (.inr (by rw[<-e];exact hg))),h.rd.kle⟩,?_,h.own,hm.heap h.first (fun e=>hf e.symm),hm.heap h.tok (fun e=>ht e.symm),h.nf,h.nt,h.ffw,h.tfw,h.kid⟩;exact h.mod.trans' hm (fun b hb e=>by omega)
structure DpS (w0 w wr:World) (rb fb tb mb i:Nat) (lv:Value) (ts:List Tok) (nv:Value) (ms:List NdM) (t u:Tok) (k:Nat) (nv':Value) (ms':List NdM) (seen:List (List UInt8)):Prop where
 lp:LpS w0 w wr rb fb tb i lv ts nv ms t u k nv' ms'
 had:Had wr mb (seen.map baL)
 nm:¬RdF rb nv' ms' mb
 mf:mb≠fb
 mt:mb≠tb
 mw:w.heap.size<=mb
 ww:w0.heap.size<=w.heap.size
 cnt:seen.length<=k
variable {seen:List (List UInt8)}
theorem DpS.later (h:DpS w0 w wr rb fb tb mb i lv ts nv ms t u k nv' ms' seen) (hb:Below wr.heap.size wr w2):DpS w0 w w2 rb fb tb mb i lv ts nv ms t u k nv' ms' seen:=
 ⟨h.lp.later hb,h.had.frame (hb.block _ h.had.lt),h.nm,h.mf,h.mt,h.mw,h.ww,h.cnt⟩
theorem DpS.call {k2:Nat} {nv2:Value} {ms2:List NdM} (h:DpS w0 w wr rb fb tb mb i lv ts nv ms t u k nv' ms' seen) (hL:LpS w0 w w2 rb fb tb i lv ts nv ms t u k2 nv2 ms2) (hm:Mod (RdF rb nv' ms') wr w2) (ho:∀g,nOwn nv2 ms2 g->nOwn nv' ms' g\/wr.heap.size<=g) (hk:seen.length<=k2):
 DpS w0 w w2 rb fb tb mb i lv ts nv ms t u k2 nv2 ms2 seen:=by
 refine ⟨hL,h.had.frame (hm.block _ h.had.lt h.nm),fun q=> ?_,h.mf,h.mt,h.mw,h.ww,hk⟩;rcases q with q|q
 ·exact h.nm (.inl q)
 ·rcases ho mb q with q|q
  ·exact h.nm (.inr q)
  ·have:=h.had.lt;omega
theorem DpS.move (h:DpS w0 w wr rb fb tb mb i lv ts nv ms t u k nv' ms' seen) (hk:k+1<=ts.length) (hs:seen.length<=k+1):DpS w0 w (wr.setCell ⟨rb,1,none⟩ (.int .i64 ((k+1:Nat):Int))) rb fb tb mb i lv ts nv ms t u (k+1) nv' ms' seen:=by
 have hM:Mod (fun b=>b=rb) wr (wr.setCell ⟨rb,1,none⟩ (.int .i64 ((k+1:Nat):Int))):=(Mod.refl _ _).setCell _ _ (fun _=>rfl);exact ⟨h.lp.move hk,h.had.frame (hM.block _ h.had.lt (fun e=>h.nm (.inl e))),h.nm,h.mf,h.mt,h.mw,h.ww,hs⟩
theorem DpS.newTok (h:DpS w0 w wr rb fb tb mb i lv ts nv ms t u k nv' ms' seen) {tb2:Nat} {u2:Tok} (hb:Below wr.heap.size wr w2) (ht:w2.heap[tb2]? =some (.cells u2.a 121 (0,0))) (hge:wr.heap.size<=tb2):DpS w0 w w2 rb fb tb2 mb i lv ts nv ms t u2 k nv' ms' seen:=
 ⟨h.lp.newTok hb ht hge,h.had.frame (hb.block _ h.had.lt),h.nm,h.mf,by have:=h.had.lt;omega,h.mw,h.ww,h.cnt⟩
theorem DpS.put {s:List UInt8} (h:DpS w0 w wr rb fb tb mb i lv ts nv ms t u k nv' ms' seen) (hh:Had w2 mb (⟨s.toArray⟩::seen.map baL)) (hg:wr.grownBy w2 (some mb)):LpS w0 w w2 rb fb tb i lv ts nv ms t u k nv' ms'/\Had w2 mb ((s::seen).map baL):=by
 have hM:Mod (fun b=>b=mb) wr w2:=(Mod.refl _ _).grown hg (fun b e _=>by injection e with e;exact e.symm);exact ⟨h.lp.other hM h.nm h.mf h.mt h.mw h.ww,hh⟩
end
theorem DpS.put_move {w0 w wr w2:World} {rb fb tb mb i k:Nat} {lv nv nv':Value} {ts:List Tok} {ms ms':List NdM} {t u:Tok} {seen:List (List UInt8)} {s:List UInt8} (h:DpS w0 w wr rb fb tb mb i lv ts nv ms t u k nv' ms' seen) (hL:LpS w0 w w2 rb fb tb i lv ts nv ms t u k nv' ms') (hh:Had w2 mb ((s::seen).map baL)) (hk:k+1<=ts.length):
 DpS w0 w (w2.setCell ⟨rb,1,none⟩ (.int .i64 ((k+1:Nat):Int))) rb fb tb mb i lv ts nv ms t u (k+1) nv' ms' (s::seen):=by
 have hM:Mod (fun b=>b=rb) w2 (w2.setCell ⟨rb,1,none⟩ (.int .i64 ((k+1:Nat):Int))):=(Mod.refl _ _).setCell _ _ (fun _=>rfl);exact ⟨hL.move hk,hh.frame (hM.block _ hh.lt (fun e=>h.nm (.inl e))),h.nm,h.mf,h.mt,h.mw,h.ww,by have:=h.cnt;simp;omega⟩
theorem RdS.c1 {w0 w:World} {rb:Nat} {lv:Value} {ts:List Tok} {k:Nat} {nv:Value} {ms:List NdM} (h:RdS w0 w rb lv ts k nv ms):w.cell? ⟨rb,1,none⟩=some (.int .i64 (k:Int))/\∀j,w.frozen? ⟨rb,j,none⟩=false:=by
 have h1:=h.blk;unfold rdA at h1;exact ⟨aAa h1 1,fun j=>aAd h1 j⟩
theorem aVj {w:World} {mb:Nat} {seen:List (List UInt8)} {t:List UInt8} (h:Had w mb (seen.map baL)) (hs:t.length<=1048576):
 (Instr.lookup 155 (.map (some mb)) (.string ⟨t.toArray⟩) false).run Tryz.prog w= .ok (.bool (decide (t∈seen))) w:=by
 have:=h.look ⟨t.toArray⟩ (by unfold maxLen;show t.toArray.size<=_;simp;omega)
 rwa [show decide ((⟨t.toArray⟩:ByteArray)∈seen.map baL)=decide (t∈seen) from decide_eq_decide.2 a2p]at this
