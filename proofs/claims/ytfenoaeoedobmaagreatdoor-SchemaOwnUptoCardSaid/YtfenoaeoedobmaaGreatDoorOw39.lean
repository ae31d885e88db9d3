/-
Parts of a proof.
-/
import Derived.Test.YtfenoaeoedobmaaGreatDoorOw37
set_option linter.unusedVariables false
set_option linter.unusedSimpArgs false
set_option maxHeartbeats 8000000
set_option maxRecDepth 20000
namespace Go.Proofs.YtfenoaeoedobmaaGreatDoor
open Go Go.RowKit
section
variable {w:World} {Q:Exit->Act->World->Prop} {a:Act} {dv av bv xv yv:Value} {fb i s0 s1 q:Nat} {ks:Nat->Value} {K:Nat->List Int}
theorem xB {k m:Nat} (hk:k<=1048576) (hm:m<=1048576):wrap64 (-1000*(k:Int))= -1000*(k:Int)/\wrap64 (-1000*(k:Int)-(m:Int))= -1000*(k:Int)-(m:Int)/\wrap64 (-1000*(k:Int)-(m:Int)-1)=sp k m:=
 ⟨aW (by omega) (by omega),aW (by omega) (by omega),by unfold sp;exact aW (by omega) (by omega)⟩
theorem KH (X:Code) (hf:OwX a dv av fb bv i xv yv) (hX:XS s0 s1 w xv q 0 ks K)
 (ok:∀a' w',OwX a' dv av fb bv i xv yv->XS s0 s1 w' xv q 0 ks (Kst K q 0)->Mod (InS s0 s1) w w'->X.wp Tryz.prog Q a' w'):(Code.seq E0 X).wp Tryz.prog Q a w:=by
 obtain ⟨ax,cap,rfl⟩:=hX.form;have Hok:=hid ok;have HX:=hid hX;have Hq:=hid hX.len;obtain ⟨vv,rfl,eE⟩:=hf.shape;simp only[ik,eE];clear eE;clear hf ok hX;dsimp only[E0,dU,ncb,ncl,nco,ncr,ncx,Tryz.f7];go_wp2
 go_loopw [10,11] (fun vi v11 wr=>∃k:Nat,vi= .int .i64 (k:Int)/\Hid (k<=q/\XS s0 s1 wr (.slice ax q cap) q 0 ks (Kst K k 0)/\Mod (InS s0 s1) w wr)) (fun vi _ _=>q-(intOf vi).toNat)
 case atStart=>exact ⟨0,rfl,hid ⟨Nat.zero_le _,by rw[CJ];exact HX.o,Mod.refl _ _⟩⟩
 case round=>
  obtain ⟨k,rfl,H⟩:=hrel;by_cases hk:k<q
  ·have tk:decide (k<q)=true:=dT hk;have bk:(k:Int)<(q:Int):=by omega
   obtain ⟨Hms,Hgo⟩:=aM (k:=k) (n:=q) hk (by have:=Hq.o.1;omega);have Hk:=hid hk;obtain ⟨n,hn⟩:=ex ((K k).length);have Hn:=hid hn;have HK:=hid (show n<=1048576 from by rw[hn];exact Hq.o.2 k (Nat.zero_le _) hk);have H0:=hid (show 0<=n/\XS s0 s1 wr (.slice ax q cap) q 0 ks (Kst K k 0)/\Mod (InS s0 s1) w wr from ⟨Nat.zero_le _,H.o.2⟩);clear hk hn H HX;go_wp2
   go_loopw [11] (fun vm wi=>∃m:Nat,vm= .int .i64 (m:Int)/\Hid (m<=n/\XS s0 s1 wi (.slice ax q cap) q 0 ks (Kst K k m)/\Mod (InS s0 s1) w wi)) (fun vm _=>n-(intOf vm).toNat)
   case atStart=>exact ⟨0,rfl,H0⟩
   case round=>
    clear H0;obtain ⟨m,rfl,H⟩:=hrel;obtain ⟨gx,cap',cx,ak,cp,e1,e2,hx,x5,_,e3,hat⟩:=H.o.2.1.at (Nat.zero_le _) Hk.o;have hKl:(Kst K k m k).length=n:=by rw[wO,xA (by rw[<-Hn.o];exact H.o.1),Hn.o]
    rw[hKl]at e3 hat;injection e1 with e1 _ e4
    subst e1;subst e4;have c5:=af hx (k*6+5);rw[x5,e3]at c5;have hX2:=H.o.2.1;by_cases hm:m<n
    ·have tm:decide (m<n)=true:=dT hm;have bm:(m:Int)<(n:Int):=by omega
     obtain ⟨g2,c2,rfl,hg2,h2,hc2⟩:=hat (by omega);obtain ⟨z,hz⟩:∃z,(Kst K k m k)[m]? =some z:=au (by rw[hKl];exact hm);have d1:=af h2 m;rw[hc2 m z hz]at d1;have d2:=ai h2 m;obtain ⟨y1,y2,y3⟩:=xB (k:=k) (m:=m) (by have:=Hk.o;have:=Hq.o.1;omega) (by have:=HK.o;omega);obtain ⟨w1,w2⟩:=hX2.write (Nat.zero_le _) Hk.o hg2 (m:=m) (by rw[hKl];exact hm) (sp k m);rw[Fw (by rw[<-Hn.o];exact hm)]at w1
     have HE:=hid (show m+1<=n/\XS s0 s1 (wr.setCell ⟨g2,m,none⟩ (.int .i64 (sp k m))) _ q 0 ks (Kst K k (m+1))/\Mod (InS s0 s1) w (wr.setCell ⟨g2,m,none⟩ (.int .i64 (sp k m))) from ⟨hm,w1,H.o.2.2.trans w2⟩);obtain ⟨Hmm,Hgm⟩:=aM (k:=m) (n:=n) hm (by have:=HK.o;omega);clear H hX2 e2 hx x5 e3 hat hKl hm hg2 h2 hc2 hz w1 w2;go_wp2;exact ⟨⟨m+1,Hgm.o,HE⟩,Hmm.o⟩
    ·have tm:decide (m<n)=false:=dF hm;have em:m=(K k).length:=by have:=H.o.1;have:=Hn.o;omega
     rw[em,CK]at hX2;have HE:=hid (show k+1<=q/\XS s0 s1 wr _ q 0 ks (Kst K (k+1) 0)/\Mod (InS s0 s1) w wr from ⟨Hk.o,hX2,H.o.2.2⟩);clear H hX2 e2 hx x5 e3 hat hKl hm em;go_wp2;go_roundw
     case rel=>exact ⟨k+1,Hgo.o,HE⟩
     case measure=>exact Hms.o
  ·have tk:decide (k<q)=false:=dF hk;obtain rfl:k=q:=by have:=H.o.1;omega
   have HE:=hid H.o.2;clear H hk HX;go_wp2;exact Hok.o _ _ ⟨rfl,rfl,rfl,rfl,rfl,rfl,rfl,rfl,rfl⟩ HE.o.1 HE.o.2
theorem CV {w:World} {ops:Array Oper} {rest:List Oper} {o:Oper} {a:Act} {Q:Exit->Act->World->Prop} (hgd:o.guard=none) (s x:Operand)
 (ho:o.op= .call {callee:= .builtin .append,args:=#[s,x],argTypes:=#[53,53]})
 (v:Value) (n:Nat) (xs:List Value) (hs:a.eval s=v) (hown:w.ownsRow 0 3 1 v n xs) (b:Nat) (y z:Int) (hx:a.eval x= .slice (some ⟨b,0,none⟩) 2 2) (hh:w.heap[b]? =some (.cells #[.int .i64 y,.int .i64 z] 3 (0,0))) (hn:n<=2000000)
 (h:∀ao' c' w',w.grownBy w' v.ownBlock->wpList Tryz.prog ops Q rest (a.put o.dst (.slice ao' (n+2) c')) w'):wpList Tryz.prog ops Q (o::rest) a w:=by
 refine dH hgd s x 53 ho 3 (.int .i64 0) 1 8 Tryz.underlying53 gR rfl (by decide) v n xs hs hown _ 2 2 [.int .i64 y,.int .i64 z] hx rfl nofun (fun ad had j u hj=> ?_) (fun u hu=> ?_) (by unfold maxLen;omega) (by omega) (n+2) rfl (fun ao' c' w' _ gr _=>h ao' c' w' gr)
 ·obtain rfl:=aAf had;have e:Addr.add ⟨b,0,none⟩ j=⟨b,j,none⟩:=by
   simp[Addr.add];exact fun h=>h.symm
  rw[e,af hh]
  match j,hj with
  |0,hj=>exact hj
  |1,hj=>exact hj
  |j+2,hj=>simp at hj
 ·simp only[List.mem_cons,List.not_mem_nil,or_false]at hu;rcases hu with rfl|rfl<;>rfl
theorem KG (X:Code) (hf:OwX a dv av fb bv i xv yv) (hX:XS s0 s1 w xv q 0 ks K) (hS:∀k m,k<q->m<(K k).length->(K k)[m]? =some (sp k m))
 (ok:∀a' w',OwX a' dv av fb bv i xv yv->Mod (InS s0 s1) w w'->X.wp Tryz.prog Q a' w'):(Code.seq EZ X).wp Tryz.prog Q a w:=by
 obtain ⟨ax,cap,rfl⟩:=hX.form;have Hok:=hid ok;have HX:=hid hX;have Hq:=hid hX.len;have HS:=hid hS;obtain ⟨vv,rfl,eE⟩:=hf.shape;simp only[ik,eE];clear eE;clear hf ok hX hS;dsimp only[EZ,dU,ncb,ncl,nco,ncr,ncx,Tryz.f7];go_wp2
 go_loopw [12,13] (fun vi v11 wr=>∃k:Nat,vi= .int .i64 (k:Int)/\Hid (k<=q/\XS s0 s1 wr (.slice ax q cap) q k ks K/\Mod (InS s0 s1) w wr)) (fun vi _ _=>q-(intOf vi).toNat)
 case atStart=>exact ⟨0,rfl,hid ⟨Nat.zero_le _,HX.o,Mod.refl _ _⟩⟩
 case round=>
  obtain ⟨k,rfl,H⟩:=hrel;by_cases hk:k<q
  ·have tk:decide (k<q)=true:=dT hk;have bk:(k:Int)<(q:Int):=by omega
   obtain ⟨Hms,Hgo⟩:=aM (k:=k) (n:=q) hk (by have:=Hq.o.1;omega);have Hk:=hid hk;obtain ⟨n,hn⟩:=ex ((K k).length);have Hn:=hid hn;have HK:=hid (show n<=1048576 from by rw[hn];exact Hq.o.2 k (Nat.zero_le _) hk);have H0:=hid (show 0<=n/\XS s0 s1 wr (.slice ax q cap) q k ks K/\Mod (InS s0 s1) w wr from ⟨Nat.zero_le _,H.o.2⟩);clear hk hn H HX;go_wp2
   go_loopw [13] (fun vm wi=>∃m:Nat,vm= .int .i64 (m:Int)/\Hid (m<=n/\XS s0 s1 wi (.slice ax q cap) q k ks K/\Mod (InS s0 s1) w wi)) (fun vm _=>n-(intOf vm).toNat)
   case atStart=>exact ⟨0,rfl,H0⟩
   case round=>
    clear H0;obtain ⟨m,rfl,H⟩:=hrel;obtain ⟨gx,cap',cx,ak,cp,e1,e2,hx,x5,⟨u2,x2⟩,e3,hat⟩:=H.o.2.1.at (aAa _) Hk.o;rw[<-Hn.o]at e3 hat;injection e1 with e1 _ e4
    subst e1;subst e4;have c5:=af hx (k*6+5);rw[x5,e3]at c5;by_cases hm:m<n
    ·have tm:decide (m<n)=true:=dT hm;have bm:(m:Int)<(n:Int):=by omega
     obtain ⟨g2,c2,rfl,hg2,h2,hc2⟩:=hat (by omega);have d1:=af h2 m;rw[hc2 m (sp k m) (HS.o k m Hk.o (by rw[<-Hn.o];exact hm))]at d1;obtain ⟨y1,y2,y3⟩:=xB (k:=k) (m:=m) (by have:=Hk.o;have:=Hq.o.1;omega) (by have:=HK.o;omega);have y4:(sp k m != sp k m)=false:=by simp
     have HE:=hid (show m+1<=n/\_ from ⟨hm,H.o.2⟩);obtain ⟨Hmm,Hgm⟩:=aM (k:=m) (n:=n) hm (by have:=HK.o;omega);clear H e2 hx x5 x2 e3 hat hm hg2 h2 hc2;go_wp2;exact ⟨⟨m+1,Hgm.o,HE⟩,Hmm.o⟩
    ·have tm:decide (m<n)=false:=dF hm;have hb1:Below wr.heap.size wr (wr.alloc (.cells #[.int .i64 5,.int .i64 6] 3)):=(aAb _ _).alloc (aAa _) _;have Hown:=hid (aG (H.o.2.1.kid k (aAa _) Hk.o) (bh hb1) (fun _ _ q=>q));rw[<-Hn.o,e3]at Hown;have Hnew:=hid (ah (w:=wr) (.cells #[.int .i64 5,.int .i64 6] 3));have Hnx:=hid (fun w2 (gr:(wr.alloc (.cells #[.int .i64 5,.int .i64 6] 3)).grownBy w2 (Value.slice ak n cp).ownBlock) u=>H.o.2.1.spoil Hk.o hb1 (by rw[e3];exact gr) e2 hx x5 x2 u (.string ⟨#[115,112,111,105,108,116]⟩))
     have HM:=hid H.o.2.2;have Hn2:=hid (show n<=2000000 by have:=HK.o;omega);rw[e3]at Hnx;clear H e2 hx x5 x2 e3 hat hm hb1
     go_wp2_with (at_builtin;refine CV rfl (.tmp 123) (.tmp 124) rfl _ n _ rfl Hown.o _ 5 6 rfl Hnew.o Hn2.o ?_;intro ao4 c4 w2 gr2;obtain ⟨z1,z2,z3,z4,z5,z6⟩:=Hnx.o w2 gr2 (.slice ao4 (n+2) c4);have HE:=hid (And.intro z5 (HM.o.trans z6));clear gr2 z5 z6)
     exact ⟨⟨k+1,Hgo.o,hid ⟨Hk.o,HE.o⟩⟩,Hms.o⟩
  ·have tk:decide (k<q)=false:=dF hk;have HE:=hid H.o.2.2;clear H hk HX;go_wp2;exact Hok.o _ _ ⟨rfl,rfl,rfl,rfl,rfl,rfl,rfl,rfl,rfl⟩ HE.o
end
def baL (l:List UInt8):ByteArray:=⟨l.toArray⟩
theorem F7 {seen:List (List UInt8)} {t:List UInt8}:(⟨t.toArray⟩:ByteArray)∈seen.map baL↔t∈seen:=by
 constructor
 ·intro h;obtain ⟨x,hx,e⟩:=List.mem_map.1 h;unfold baL at e;have e2:x=t:=by
   have:=congrArg (fun b:ByteArray=>b.data.toList) e
   simpa using this
  rwa [<-e2]
 ·intro h;exact List.mem_map.2 ⟨t,h,rfl⟩
section
variable {w0 w wr w2:World} {rb fb tb mb i k:Nat} {lv nv nv':Value} {ts:List Tok} {ms ms':List NdM} {t u:Tok}
theorem LpS.other (h:LpS w0 w wr rb fb tb i lv ts nv ms t u k nv' ms') (hm:Mod (fun b=>b=mb) wr w2) (h1:¬RdF rb nv' ms' mb) (hf:mb≠fb) (ht:mb≠tb) (hw:w.heap.size<=mb) (hw0:w0.heap.size<=w.heap.size):LpS w0 w w2 rb fb tb i lv ts nv ms t u k nv' ms':=by
 refine ⟨⟨h.rd.toks,h.rd.wf,h.rd.below.trans (hm.below h.rd.below.size (fun b hb=>by omega)),h.rd.rge,hm.heap h.rd.blk (fun e=>h1 (.inl e.symm)),h.rd.nr.mod hm (fun g hg e=>h1 (.inr (by rw[<-e];exact hg))),h.rd.kle⟩,?_,h.own,hm.heap h.first (fun e=>hf e.symm),hm.heap h.tok (fun e=>ht e.symm),h.nf,h.nt,h.ffw,h.tfw,h.kid⟩;exact h.mod.trans' hm (fun b hb e=>by omega)
structure DpS (w0 w wr:World) (rb fb tb mb i:Nat) (lv:Value) (ts:List Tok) (nv:Value) (ms:List NdM) (t u:Tok) (k:Nat) (nv':Value) (ms':List NdM) (seen:List (List UInt8)):Prop where
 lp:LpS w0 w wr rb fb tb i lv ts nv ms t u k nv' ms'
 had:Had wr mb (seen.map baL)
 nm:¬RdF rb nv' ms' mb
 mf:mb≠fb
 mt:mb≠tb
 mw:w.heap.size<=mb
 ww:w0.heap.size<=w.heap.size
 cnt:seen.length<=k
variable {seen:List (List UInt8)}
theorem DpS.later (h:DpS w0 w wr rb fb tb mb i lv ts nv ms t u k nv' ms' seen) (hb:Below wr.heap.size wr w2):DpS w0 w w2 rb fb tb mb i lv ts nv ms t u k nv' ms' seen:=
 ⟨h.lp.later hb,h.had.frame (hb.block _ h.had.lt),h.nm,h.mf,h.mt,h.mw,h.ww,h.cnt⟩
theorem DpS.call {k2:Nat} {nv2:Value} {ms2:List NdM} (h:DpS w0 w wr rb fb tb mb i lv ts nv ms t u k nv' ms' seen) (hL:LpS w0 w w2 rb fb tb i lv ts nv ms t u k2 nv2 ms2) (hm:Mod (RdF rb nv' ms') wr w2) (ho:∀g,nOwn nv2 ms2 g->nOwn nv' ms' g\/wr.heap.size<=g) (hk:seen.length<=k2):
 DpS w0 w w2 rb fb tb mb i lv ts nv ms t u k2 nv2 ms2 seen:=by
 refine ⟨hL,h.had.frame (hm.block _ h.had.lt h.nm),fun q=> ?_,h.mf,h.mt,h.mw,h.ww,hk⟩;rcases q with q|q
 ·exact h.nm (.inl q)
 ·rcases ho mb q with q|q
  ·exact h.nm (.inr q)
  ·have:=h.had.lt;omega
theorem DpS.move (h:DpS w0 w wr rb fb tb mb i lv ts nv ms t u k nv' ms' seen) (hk:k+1<=ts.length) (hs:seen.length<=k+1):DpS w0 w (wr.setCell ⟨rb,1,none⟩ (.int .i64 ((k+1:Nat):Int))) rb fb tb mb i lv ts nv ms t u (k+1) nv' ms' seen:=by
 have hM:Mod (fun b=>b=rb) wr (wr.setCell ⟨rb,1,none⟩ (.int .i64 ((k+1:Nat):Int))):=(Mod.refl _ _).setCell _ _ (fun _=>rfl);exact ⟨h.lp.move hk,h.had.frame (hM.block _ h.had.lt (fun e=>h.nm (.inl e))),h.nm,h.mf,h.mt,h.mw,h.ww,hs⟩
theorem DpS.newTok (h:DpS w0 w wr rb fb tb mb i lv ts nv ms t u k nv' ms' seen) {tb2:Nat} {u2:Tok} (hb:Below wr.heap.size wr w2) (ht:w2.heap[tb2]? =some (.cells u2.a 121 (0,0))) (hge:wr.heap.size<=tb2):DpS w0 w w2 rb fb tb2 mb i lv ts nv ms t u2 k nv' ms' seen:=
 ⟨h.lp.newTok hb ht hge,h.had.frame (hb.block _ h.had.lt),h.nm,h.mf,by have:=h.had.lt;omega,h.mw,h.ww,h.cnt⟩
theorem DpS.put {s:List UInt8} (h:DpS w0 w wr rb fb tb mb i lv ts nv ms t u k nv' ms' seen) (hh:Had w2 mb (⟨s.toArray⟩::seen.map baL)) (hg:wr.grownBy w2 (some mb)):LpS w0 w w2 rb fb tb i lv ts nv ms t u k nv' ms'/\Had w2 mb ((s::seen).map baL):=by
 have hM:Mod (fun b=>b=mb) wr w2:=(Mod.refl _ _).grown hg (fun b e _=>by injection e with e;exact e.symm);exact ⟨h.lp.other hM h.nm h.mf h.mt h.mw h.ww,hh⟩
end
theorem DpS.put_move {w0 w wr w2:World} {rb fb tb mb i k:Nat} {lv nv nv':Value} {ts:List Tok} {ms ms':List NdM} {t u:Tok} {seen:List (List UInt8)} {s:List UInt8} (h:DpS w0 w wr rb fb tb mb i lv ts nv ms t u k nv' ms' seen) (hL:LpS w0 w w2 rb fb tb i lv ts nv ms t u k nv' ms') (hh:Had w2 mb ((s::seen).map baL)) (hk:k+1<=ts.length):
 DpS w0 w (w2.setCell ⟨rb,1,none⟩ (.int .i64 ((k+1:Nat):Int))) rb fb tb mb i lv ts nv ms t u (k+1) nv' ms' (s::seen):=by
 have hM:Mod (fun b=>b=rb) w2 (w2.setCell ⟨rb,1,none⟩ (.int .i64 ((k+1:Nat):Int))):=(Mod.refl _ _).setCell _ _ (fun _=>rfl);exact ⟨hL.move hk,hh.frame (hM.block _ hh.lt (fun e=>h.nm (.inl e))),h.nm,h.mf,h.mt,h.mw,h.ww,by have:=h.cnt;simp;omega⟩
theorem RdS.c1 {w0 w:World} {rb:Nat} {lv:Value} {ts:List Tok} {k:Nat} {nv:Value} {ms:List NdM} (h:RdS w0 w rb lv ts k nv ms):w.cell? ⟨rb,1,none⟩=some (.int .i64 (k:Int))/\∀j,w.frozen? ⟨rb,j,none⟩=false:=by
 have h1:=h.blk;unfold rdA at h1;exact ⟨af h1 1,fun j=>ai h1 j⟩
theorem zc {w:World} {mb:Nat} {seen:List (List UInt8)} {t:List UInt8} (h:Had w mb (seen.map baL)) (hs:t.length<=1048576):
 (Instr.lookup 155 (.map (some mb)) (.string ⟨t.toArray⟩) false).run Tryz.prog w= .ok (.bool (decide (t∈seen))) w:=by
 have:=h.look ⟨t.toArray⟩ (by unfold maxLen;show t.toArray.size<=_;simp;omega)
 rwa [show decide ((⟨t.toArray⟩:ByteArray)∈seen.map baL)=decide (t∈seen) from decide_eq_decide.2 F7]at this
theorem Eo {w0 w:World} {rb:Nat} {lv:Value} {ts:List Tok} {k:Nat} {nv:Value} {ms:List NdM} (h:RdS w0 w rb lv ts k nv ms) (D:Nat) (hD:D<=17) (t:Tok) (ht:t=aq ts k) (hk2:t.kind=3) (key:ByteArray) (hkey:key.size<=1048576) (IH:1<=D->mK w0 rb lv ts (D-1)):
 Calls Tryz.prog 146 #[.pointer (some ⟨rb,0,none⟩),.agg t.a,.int .i64 ((17-D:Nat):Int),.string key] w (cK w0 w rb lv ts nv ms (lE ts D k (nds ms) key t)):=by
 have hb1:∀ob,Below w.heap.size w (w.alloc ob):=fun ob=>(aAb _ _).alloc (aAa _) ob;have hok:TokOk t:=by rw[ht];exact h.ok k
 have Hbeg:=hid (fun ob=>lL (h.later (hb1 ob)) D hD 2 (by decide) key hkey t hok);have H:=hid h;have Hb:=hid hb1;have Hx:=hid (And.intro ht (And.intro hk2 (And.intro hD hok)));have IH:=hid IH;obtain ⟨X,hX⟩:=ex (lE ts D k (nds ms) key t);rw[<-hX];have HX:=hid hX;obtain ⟨B,hB⟩:=ex (jj k (nds ms) D 2 key t);rw[<-hB]at Hbeg;have HB:=hid hB;have Ha:=hid (show t.a=#[.int .i64 t.kind,.int .i64 t.line,.int .i64 t.col,.string ⟨t.text.toArray⟩,.bool t.quoted] from rfl)
 rw[Ha.o]at Hbeg |-;clear h hb1 hok hX hB ht hk2 hD hkey;go_enter Tryz.func146,Tryz.ntmps146
 go_wp2_with fail
 refine (Hbeg.o _).mono ?_;intro r w1 hh;cases B with
 |error e=>
  obtain ⟨rfl,h1,h2⟩:=hh;have hx:X= .error e:=by
   rw[HX.o];have:=HB.o;unfold jj at this;unfold lE
   split at this
   ·rename_i e2 h2
    (try rw[h2]);injection this with this
    rw[this]
   ·cases this
  rw[hx];exact ⟨rfl,rfl,h1,aAe (Hb.o _).size h2⟩
 |ok y=>
  obtain ⟨k1,ns1,i⟩:=y;obtain ⟨hr,nv1,ms1,hR1,hn1,hm1,ho1⟩:=hh;subst hr;obtain ⟨rfl,hns,rfl,hxx,hDp⟩:k1=k/\ns1=nds ms++[⟨2,key,⟨#[]⟩,false,t.line,[]⟩]/\i=ms.length/\X=nG (cU (bM ts (D-1)) ts (D-1) t.col ms.length (ts.length-k) [] k ns1) ms.length/\0<D:=by
   have h1:=HB.o;have h2:=HX.o;unfold jj at h1;unfold lE at h2;cases hN:iX (nds ms) D 2 key t with
   |error e=>rw[hN]at h1;cases h1
   |ok n1=>
    rw[hN]at h1 h2;injection h1 with h1
    injection h1 with h1 h3
    injection h3 with h3 h4
    rw[bt]at h4 h2;obtain ⟨e,hDp⟩:=jV hN;exact ⟨h1,by rw[h3,e],h4,by rw[h2,h3],hDp⟩
  have hL1:=tU H.o hR1 hm1 ho1 (hn1.trans hns) rfl;have Hxx:=hid hxx;have HDp:=hid (And.intro hDp Hx.o.2.2.1);clear hDp;have HL:=hid (And.intro hL1 hn1);clear hR1 hm1 ho1 hn1 hns hxx hL1 HB HX Hbeg;obtain ⟨n0,hn0⟩:=ex (ms.length);rw[<-hn0];have Hn0:=hid hn0;clear hn0;have hmm:= @run_makeMap Tryz.prog
  go_wp2_with fail
  obtain ⟨mb,hmb⟩:=ex (w1.heap.size);have hbm:Below w1.heap.size w1 (w1.alloc (.map #[] 0)):=(aAb _ _).alloc (aAa _) _;have hD1:DpS w0 w (w1.alloc (.map #[] 0)) rb w.heap.size w.heap.size mb n0 lv ts nv ms t t k1 nv1 ms1 []:=by
   have hfl:=ag HL.o.1.first;rw[hmb,Hn0.o];exact ⟨HL.o.1.later hbm,Had.made w1,fun q=>by have:=HL.o.1.rd.rd_lt q;omega,by omega,by omega,HL.o.1.mod.size,H.o.below.size,Nat.zero_le _⟩
  refine (fW hD1.lp.rd).mono ?_;rintro r w2 ⟨rfl,h2⟩;have HL2:=hid (show DpS w0 w (w2.alloc (.cells (aq ts k1).a 121)) rb w.heap.size w2.heap.size mb n0 lv ts nv ms t (aq ts k1) k1 nv1 ms1 [] from
   hD1.newTok (h2.trans ((aAb _ _).alloc (aAa _) _ |>.mono h2.size)) (ah (w:=w2) _) h2.size)
  rw[<-hmb];clear h2 hD1 hbm hmb;unfold Tok.a at HL2 |-;go_wp2
  go_loopw [11,12,13,14] (fun v11 v12 v13 v14 wr=>∃tb:Nat,v11= .pointer (some ⟨tb,0,none⟩)/\Hid (∃k nv' ms' seen,DpS w0 w wr rb w.heap.size tb mb n0 lv ts nv ms t (aq ts k) k nv' ms' seen/\X=nG (cU (bM ts (D-1)) ts (D-1) t.col n0 (ts.length-k) seen k (nds ms')) n0)) (fun _ _ _ _ wr=>ts.length-curs rb wr)
  case atStart=>
   exact ⟨_,rfl,hid ⟨k1,nv1,ms1,[],HL2.o,by rw[Hxx.o,HL.o.2,Hn0.o]⟩⟩
  case round=>
   clear HL2 HL Hxx;obtain ⟨tb,rfl,HH⟩:=hrel;obtain ⟨k,nv',ms',seen,hL,hx⟩:=HH.o;obtain ⟨⟨c0,c1,c2,c3,c4⟩,f2,fz⟩:=hL.lp.cells;have Hl:=hid hL;have Hxk:=hid hx;clear hL hx HH;obtain ⟨u,hu⟩:=ex (aq ts k);rw[<-hu]at c0 c1 c2 c3 c4 Hl;have Hu:=hid hu;clear hu;have done:¬(u.kind=3/\u.col=t.col)->cK w0 w rb lv ts nv ms X (.returned (.int .i64 (n0:Int))) wr:=fun hn=>by
    rw[Hxk.o,AA _ (by rw[<-Hu.o];exact hn)];exact ⟨rfl,nv',ms',Hl.o.lp.rd,rfl,Hl.o.lp.mod,Hl.o.lp.own⟩
   by_cases k2:u.kind=3
   ·have e2:(u.kind==3)=true:=beq_iff_eq.2 k2;by_cases k3:u.col=t.col
    ·have e3:(u.col==t.col)=true:=beq_iff_eq.2 k3;clear done;have hkl:=eO (ts:=ts) (k:=k) (by rw[<-Hu.o,k2];decide);have Hc:=hid (show (aq ts k).kind=3/\(aq ts k).col=t.col from by rw[<-Hu.o];exact ⟨k2,k3⟩);have huok:TokOk u:=by rw[Hu.o];exact Hl.o.lp.rd.ok k
     have hlook:=zc Hl.o.had huok.text;by_cases hs:u.text∈seen
     ·have hd:decide (u.text∈seen)=true:=dT hs;rw[hd]at hlook;have hx:X= .error (u.line,91):=by rw[Hxk.o,Az Hc.o (by rw[<-Hu.o];exact hs),<-Hu.o];rfl
      subst hx;have HE:=hid (And.intro Hl.o.lp.rd.below Hl.o.lp.mod.size);clear hs hd k2 k3;go_wp2;exact ⟨rfl,rfl,HE.o⟩
     ·have hd:decide (u.text∈seen)=false:=dF hs;rw[hd]at hlook;have Hs:=hid (show ¬(aq ts k).text∈seen by rw[<-Hu.o];exact hs);have Hcur:=hid Hl.o.lp.rd.curs;have Hkid:=hid Hl.o.lp.kid;have hlen:ts.length<=1048576:=by obtain ⟨_,_,_,q,_⟩:=Hl.o.lp.rd.tok_at;exact q
      have Hcnt:=hid (show (seen.map baL).length<=1048576 by rw[List.length_map];have:=Hl.o.cnt;omega);have Hts:=hid (show (⟨u.text.toArray⟩:ByteArray).size<=maxLen by have:=huok.text;unfold maxLen;show u.text.toArray.size<=_;simp;omega);have Hkl:=hid (And.intro hkl hlen);have Huok:=hid huok;clear hs hd k2 k3 hkl hlen huok;have hwk:wrap64 ((k:Int)+1)=((k+1:Nat):Int):=(aW (by have:=Hkl.o;omega) (by have:=Hkl.o;omega)).trans (by omega)
      go_wp2_with (at_mapUpdate;refine wV rfl _ _ _ rfl mb (seen.map baL) rfl Hl.o.had Hcnt.o ⟨u.text.toArray⟩ Hts.o rfl rfl ?_;intro w2 hh hg;have HE:=hid (Hl.o.put hh hg);have y1:=HE.o.1.rd.c1.1;have yf:=HE.o.1.rd.c1.2;clear hh hg c0 c1 c2 c3 c4 f2 fz hlook)
      have Hmv:=hid (show DpS w0 w (w2.setCell ⟨rb,1,none⟩ (.int .i64 ((k:Int)+1))) rb w.heap.size tb mb n0 lv ts nv ms t u (k+1) nv' ms' (u.text::seen) from Hl.o.put_move HE.o.1 HE.o.2 (by have:=Hkl.o;omega));clear y1 yf Hl HE e2 e3 hwk;refine (fW Hmv.o.lp.rd).mono ?_;rintro r w3 ⟨rfl,h3⟩;obtain ⟨n,hn⟩:=ex (aq ts (k+1));rw[<-hn];have Hn:=hid hn;have hL3:=(Hmv.o.later h3).later ((aAb _ _).alloc (aAa _) (.cells n.a 121))
      have HL3:=hid hL3;obtain ⟨⟨c0,c1,c2,c3,c4⟩,_,_⟩:=hL3.lp.cells;have hbv:((17-D:Nat):Int)+1=((17-(D-1):Nat):Int):=by
       have h1:=HDp.o;omega
      obtain ⟨V,hV⟩:=ex (iy (bM ts (D-1)) ts (D-1) (dC n u) u (k+1) (nds ms') ⟨u.text.toArray⟩);have HV:=hid (show Calls Tryz.prog 181 #[.pointer (some ⟨rb,0,none⟩),.bool (dC n u),.agg u.a,.int .i64 (((17-D:Nat):Int)+1),.string ⟨u.text.toArray⟩] (w3.alloc (.cells n.a 121)) (cK w0 (w3.alloc (.cells n.a 121)) rb lv ts nv' ms' V) from by
       rw[hV,hbv];exact xr hL3.lp.rd (D-1) (by have:=HDp.o;omega) (dC n u) u Huok.o ⟨u.text.toArray⟩ (by show u.text.toArray.size<=_;have:=Huok.o.text;simp;omega) (IH.o HDp.o.1))
      have HVe:=hid hV;obtain ⟨wb,hwb⟩:=ex (w3.alloc (.cells n.a 121));have Hwb:=hid hwb;rw[<-hwb]at HV HL3 c0 c1 c2 c3 c4;have d9:=af (show wb.heap[w3.heap.size]? =some (.cells #[.int .i64 n.kind,.int .i64 n.line,.int .i64 n.col,.string ⟨n.text.toArray⟩,.bool n.quoted] 121 (0,0)) by rw[hwb];exact ah (w:=w3) _);have d0:=d9 0;have d1:=d9 1;have d2:=d9 2
      simp at d0 d1 d2;clear hn hL3 h3 hbv hV d9 Hmv;unfold Tok.a at HV hwb |-;go_upto_region 11 with (fail)
      rw[<-hwb];clear hwb;go_cut [13] from 23 to 117 (fun s13 w4=>s13= .bool (dC n u)/\w4=wb)
      case first=>
       clear HV;cases b1:(n.line==u.line)
       ·have b3:(n.line != u.line)=true:=by rw[bne,b1];rfl
        cases b4:decide (u.col<n.col)
        ·cases b5:(n.kind==2)
         ·go_wp2
          go_meet
          case rel=>exact ⟨congrArg Value.bool (show _=dC n u by unfold dC;rw[b1,b3,b4,b5];rfl),rfl⟩
         ·cases b6:(n.col==u.col)
          ·go_wp2
           go_meet
           case rel=>exact ⟨congrArg Value.bool (show _=dC n u by unfold dC;rw[b1,b3,b4,b5,b6];rfl),rfl⟩
          ·go_wp2
           go_meet
           case rel=>exact ⟨congrArg Value.bool (show _=dC n u by unfold dC;rw[b1,b3,b4,b5,b6];rfl),rfl⟩
        ·go_wp2
         go_meet
         case rel=>exact ⟨congrArg Value.bool (show _=dC n u by unfold dC;rw[b1,b3,b4];rfl),rfl⟩
       ·have b3:(n.line != u.line)=false:=by rw[bne,b1];rfl
        cases b2:(n.kind==4)
        ·go_wp2
         go_meet
         case rel=>exact ⟨congrArg Value.bool (show _=dC n u by unfold dC;rw[b1,b2,b3];rfl),rfl⟩
        ·go_wp2
         go_meet
         case rel=>exact ⟨congrArg Value.bool (show _=dC n u by unfold dC;rw[b1,b2,b3];rfl),rfl⟩
      case rest=>
       obtain ⟨rfl,hwc⟩:=hcut;rw[hwc];clear hwc d0 d1 d2
       go_wp2_with fail
       refine HV.o.mono ?_;intro r w4 hh;clear HV c0 c1 c2 c3 c4;cases V with
       |error e=>
        obtain ⟨rfl,h1,h2⟩:=hh;have hv:=HVe.o;rw[Hn.o,Hu.o]at hv;have hx:X= .error e:=by rw[Hxk.o,AB Hc.o Hs.o hv.symm];rfl
        subst hx;exact ⟨rfl,rfl,h1,aAe HL3.o.lp.mod.size h2⟩
       |ok y=>
        obtain ⟨k2,ns2,kid⟩:=y;obtain ⟨hr,nv2,ms2,hR2,hn2,hm2,ho2⟩:=hh;subst hr;have hv:=HVe.o;rw[Hn.o,Hu.o]at hv;obtain ⟨hst,hk2,hk2l⟩:=xh (i:=n0) (jI ts (D-1)) Hc.o Hs.o hv.symm;have hkeep:=(jM (jH ts (D-1)) hv.symm).1;have Hst:=hid (And.intro hst (And.intro hk2 hk2l));obtain ⟨HS4',g,c,ka,kc,q,m,hnv2,hg,hm,hmk,hq,hql,hxk2,hc5,hgf⟩:=qQ (w4:=w4) HL3.o.lp hR2 hn2 hm2 ho2 hkeep Hkid.o hk2
        have HS4:=hid (HL3.o.call HS4'.o hm2 ho2 (by have:=HL3.o.cnt;omega));subst hnv2;clear hv hst hk2 hk2l hkeep HVe HL3 hR2 hm2 ho2 HS4';have hblk:=HS4.o.lp.rd.blk;unfold rdA at hblk;have z2:=af hblk 2;simp at z2;have bi:(n0:Int)<(ms2.length:Int):=by have:=(aAh hm).1;omega
        have Hown:=hid (fun ob=>show ((w4.alloc ob).drew).ownsRow 0 3 1 (.slice ka q kc) q (m.nd.kids.flatMap aP) from by
         have:=(HS4.o.lp.rd.nr.each m (List.mem_of_getElem? hm)).row;rw[hmk,<-hq]at this;exact World.ownsRow.alloc (w:=w4) this ob)
        have Hend:=hid (fun ob ao5 c5 (w5:World) (a1:w5.ownsRow 0 3 1 (.slice ao5 (q+1) c5) (q+1) (m.nd.kids.flatMap aP++[.int .i64 (kid:Int)])) (a2:((w4.alloc ob).drew).grownBy w5 (Value.slice ka q kc).ownBlock)
         (a3:∀g,(Value.slice ao5 (q+1) c5).ownBlock=some g->(Value.slice ka q kc).ownBlock=some g\/((w4.alloc ob).drew).heap.size<=g)=>yd HS4.o.lp.rd hm hg hq hql (((aAb w4.heap.size w4).alloc (aAa _) ob).drew) a1 (by rw[hmk];exact a2) (by rw[hmk];exact a3))
        have Hql:=hid (show q<=2000000 by omega);have Hq:=hid (And.intro hq (And.intro hxk2 (And.intro hm hn2)));have Hg:=hid (And.intro z2 hc5);have Hgf:=hid hgf;clear hblk hm hmk hq hql hxk2 hgf hg hn2 z2 hc5;go_wp2;refine dW (fun w'=>w'.cell? ⟨rb,2,none⟩=some (.slice (some ⟨g,0,none⟩) ms2.length c)/\w'.cell? ⟨g,n0*6+5,none⟩=some (.slice ka q kc)) (fun i=>decide (i<16)) (by kernel_rfl) ?_
        have hS:w4.drew.cell? ⟨rb,2,none⟩=some (.slice (some ⟨g,0,none⟩) ms2.length c)/\w4.drew.cell? ⟨g,n0*6+5,none⟩=some (.slice ka q kc):=Hg.o;refine wL (i:=0) (v:= ?_) rfl ?_ hS ?_;rotate_left
        ·intro w' hSw;obtain ⟨s1,s2⟩:=hSw;go_simp
         try with_reducible rfl
        simp only[Act.put,sA,sZ,sS];refine wL (i:=1) (v:= ?_) rfl ?_ hS ?_;rotate_left
        ·intro w' hSw;obtain ⟨s1,s2⟩:=hSw;go_simp
         try with_reducible rfl
        simp only[Act.put,sA,sZ,sS];refine wL (i:=2) (v:= ?_) rfl ?_ hS ?_;rotate_left
        ·intro w' hSw;obtain ⟨s1,s2⟩:=hSw;go_simp
         try with_reducible rfl
        simp only[Act.put,sA,sZ,sS];refine wL (i:=3) (v:= ?_) rfl ?_ hS ?_;rotate_left
        ·intro w' hSw;obtain ⟨s1,s2⟩:=hSw;go_simp
         try with_reducible rfl
        simp only[Act.put,sA,sZ,sS];refine wL (i:=4) (v:= ?_) rfl ?_ hS ?_;rotate_left
        ·intro w' hSw;obtain ⟨s1,s2⟩:=hSw;go_simp
         try with_reducible rfl
        simp only[Act.put,sA,sZ,sS];refine wL (i:=5) (v:= ?_) rfl ?_ hS ?_;rotate_left
        ·intro w' hSw;obtain ⟨s1,s2⟩:=hSw;go_simp
         try with_reducible rfl
        simp only[Act.put,sA,sZ,sS];refine wL (i:=6) (v:= ?_) rfl ?_ hS ?_;rotate_left
        ·intro w' hSw;obtain ⟨s1,s2⟩:=hSw;go_simp
         try with_reducible rfl
        simp only[Act.put,sA,sZ,sS];refine wL (i:=7) (v:= ?_) rfl ?_ hS ?_;rotate_left
        ·intro w' hSw;obtain ⟨s1,s2⟩:=hSw;go_simp
         try with_reducible rfl
        simp only[Act.put,sA,sZ,sS];refine wL (i:=8) (v:= ?_) rfl ?_ hS ?_;rotate_left
        ·intro w' hSw;obtain ⟨s1,s2⟩:=hSw;go_simp
         try with_reducible rfl
        simp only[Act.put,sA,sZ,sS];refine wL (i:=9) (v:= ?_) rfl ?_ hS ?_;rotate_left
        ·intro w' hSw;obtain ⟨s1,s2⟩:=hSw;go_simp
         try with_reducible rfl
        simp only[Act.put,sA,sZ,sS];refine wL (i:=10) (v:= ?_) rfl ?_ hS ?_;rotate_left
        ·intro w' hSw;obtain ⟨s1,s2⟩:=hSw;go_simp
         try with_reducible rfl
        simp only[Act.put,sA,sZ,sS];refine wL (i:=11) (v:= ?_) rfl ?_ hS ?_;rotate_left
        ·intro w' hSw;obtain ⟨s1,s2⟩:=hSw;go_simp
         try with_reducible rfl
        simp only[Act.put,sA,sZ,sS];refine wL (i:=12) (v:= ?_) rfl ?_ hS ?_;rotate_left
        ·intro w' hSw;obtain ⟨s1,s2⟩:=hSw;go_simp
         try with_reducible rfl
        simp only[Act.put,sA,sZ,sS];refine wL (i:=13) (v:= ?_) rfl ?_ hS ?_;rotate_left
        ·intro w' hSw;obtain ⟨s1,s2⟩:=hSw;go_simp
         try with_reducible rfl
        simp only[Act.put,sA,sZ,sS];refine aK (i:=14) (by kernel_rfl) rfl (fun K hK=> ?_);go_simp;refine hK.out _ _ (fun _=>⟨bR ((aAb w4.drew.heap.size w4.drew).alloc (aAa _) _) hS.1,bR ((aAb w4.drew.heap.size w4.drew).alloc (aAa _) _) hS.2⟩) ?_;clear hK K
        try simp only[Act.put,sA,sZ,sS]
        refine aK (i:=15) (by kernel_rfl) rfl (fun K hK=> ?_);refine jo 3 53 (.int .i64 0) 1 8 Tryz.underlying53 gR rfl (by decide) (by decide) rfl _ _ rfl (.slice ka q kc) q (m.nd.kids.flatMap aP) rfl (Hown.o _) w4.heap.size #[.int .i64 (kid:Int)] [.int .i64 (kid:Int)] rfl (ah (w:=w4) _) rfl rfl rG Hql.o (q+1) rfl ?_;intro ao5 c5 w5 own2 gr2 new2
        have HE:=hid (Hend.o _ _ _ _ own2 gr2 new2);have q1:=gD HE.o.2.2.1 Hg.o.2;have q2:=jB HE.o.2.2.1 (Hgf.o (n0*6+5));have q3:=gD HE.o.2.1 Hg.o.1;refine hK.out _ _ (fun _=>⟨q3,q1⟩) ?_;clear hK K own2 gr2 new2 Hown Hend hS
        try simp only[Act.put,sA,sZ,sS]
        refine aK (i:=16) (by kernel_rfl) rfl (fun K hK=> ?_);go_simp;refine hK.out _ _ (fun h=>absurd h (by decide)) ?_;clear hK K;refine aK (i:=17) (by kernel_rfl) rfl (fun K hK=> ?_);go_simp;refine hK.out _ _ (fun h=>absurd h (by decide)) ?_;clear hK K;refine aK (i:=18) (by kernel_rfl) rfl (fun K hK=> ?_);go_simp;refine hK.out _ _ (fun h=>absurd h (by decide)) ?_;clear hK K
        refine dX (by kernel_rfl) ?_ _;clear q1 q2 q3;have hL5':=HS4.o.lp.call HE.o.2.2.2.1 HE.o.2.2.2.2.1 HE.o.2.2.2.2.2 (qR Hq.o.2.2.1 Hq.o.1 Hq.o.2.1);have hL5:=HS4.o.call hL5' HE.o.2.2.2.2.1 HE.o.2.2.2.2.2 HS4.o.cnt;have Hns:=hid (mr (kid:=kid) Hq.o.2.2.1 (.slice ao5 (q+1) c5));obtain ⟨⟨c0,c1,c2,c3,c4⟩,_,_⟩:=hL5'.cells;have HL5:=hid hL5;obtain ⟨w6,hw6⟩:=ex (w5.setCell ⟨g,n0*6+5,none⟩ (.slice ao5 (q+1) c5))
        rw[<-hw6]at HL5 c0 c1 c2 c3 c4 |-;clear hL5 hL5' hw6 HE Hql Hg Hgf HS4
        go_wp2_with fail
        have hb6:Below w6.heap.size w6 (w6.alloc (.cells u.a 121)):=(aAb _ _).alloc (aAa _) _;refine (fW (HL5.o.later hb6).lp.rd).mono ?_;rintro r w7 ⟨rfl,h7⟩;have f7:=ql h7;unfold Tok.a at f7;have HE:=hid (EA f7 (.int .i64 (aq ts k2).kind) (.int .i64 (aq ts k2).line) (.int .i64 (aq ts k2).col) (.string ⟨(aq ts k2).text.toArray⟩) (.bool (aq ts k2).quoted))
        have Hb7:=hid (hb6.trans (h7.mono hb6.size));obtain ⟨e0,e1,e2,e3,e4⟩:=cB5 f7;have ef:=fun j=>ai f7 j;simp at e0 e1 e2 e3 e4;have HF:=hid (HL5.o.newTok (u2:=aq ts k2) (Hb7.o.trans (HE.o.1.below Hb7.o.size (fun b hb=>by omega))) HE.o.2 (aAa _));have HX2:=hid (show X=nG (cU (bM ts (D-1)) ts (D-1) t.col n0 (ts.length-k2) (u.text::seen) k2 (nds (ms2.set n0 ⟨{m.nd with kids:=m.nd.kids++[(kid:Int)]},.slice ao5 (q+1) c5⟩))) n0 by rw[Hxk.o,Hst.o.1,Hns.o,Hq.o.2.2.2,Hu.o])
        clear h7 hb6 f7 HL5 HE Hb7 c0 c1 c2 c3 c4;unfold Tok.a;go_wp2;exact ⟨⟨_,rfl,hid ⟨k2,_,_,_,HF.o,HX2.o⟩⟩,by rw[HF.o.lp.rd.curs,Hcur.o];have:=Hst.o.2;omega⟩
    ·have e3:(u.col==t.col)=false:=beq_eq_false_iff_ne.2 k3;have HD:=hid (done (fun h=>k3 h.2));clear done k3 k2;go_wp2;exact bodyPost_ret (results_tmp (t:=8) rfl _ _ _) rfl HD.o
   ·have e2:(u.kind==3)=false:=beq_eq_false_iff_ne.2 k2;have HD:=hid (done (fun h=>k2 h.1));clear done k2;go_wp2;exact bodyPost_ret (results_tmp (t:=8) rfl _ _ _) rfl HD.o
