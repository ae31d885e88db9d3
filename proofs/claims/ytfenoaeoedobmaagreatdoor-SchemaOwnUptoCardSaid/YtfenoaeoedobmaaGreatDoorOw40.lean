/-
Parts of a proof.
-/
import Derived.Test.YtfenoaeoedobmaaGreatDoorOw39
set_option linter.unusedVariables false
set_option linter.unusedSimpArgs false
set_option maxHeartbeats 4000000
set_option maxRecDepth 20000
namespace Go.Proofs.YtfenoaeoedobmaaGreatDoor
open Go Go.RowKit
theorem CG {w0 w:World} {rb:Nat} {lv:Value} {ts:List Tok} {k i g:Nat} {nv:Value} {ms:List NdM} {m:NdM} (h:RdS w0 w rb lv ts k nv ms) (hi:ms[i]? =some m) (hg:nv.ownBlock=some g) (tx:ByteArray) (htx:tx.size<=1048576) (q:Bool):
 Mod (RdF rb nv ms) w ((w.setCell ⟨g,i*6+2,none⟩ (.string tx)).setCell ⟨g,i*6+3,none⟩ (.bool q))/\
 RdS w0 ((w.setCell ⟨g,i*6+2,none⟩ (.string tx)).setCell ⟨g,i*6+3,none⟩ (.bool q)) rb lv ts k nv (ms.set i ⟨{m.nd with text:=tx,quoted:=q},m.kv⟩)/\
 (∀b,nOwn nv (ms.set i ⟨{m.nd with text:=tx,quoted:=q},m.kv⟩) b->nOwn nv ms b):=by
 have hlt:=(aAh hi).1;have hmm:=List.mem_of_getElem? hi;have hgr:g≠rb:=(h.nr.new g hg).2;have hS1:Mod (fun b=>b=g) w (w.setCell ⟨g,i*6+2,none⟩ (.string tx)):=(Mod.refl _ _).setCell _ _ (fun _=>rfl);have hS2:Mod (fun b=>b=g) w ((w.setCell ⟨g,i*6+2,none⟩ (.string tx)).setCell ⟨g,i*6+3,none⟩ (.bool q)):=hS1.setCell _ _ (fun _=>rfl);have hW:Mod (RdF rb nv ms) w ((w.setCell ⟨g,i*6+2,none⟩ (.string tx)).setCell ⟨g,i*6+3,none⟩ (.bool q)):=by
  have hp:∀b,(fun b=>b=g) b->RdF rb nv ms b:=fun b e=> .inr (.inl (by rw[e];exact hg));exact ⟨hS2.os,hS2.tape,hS2.output,hS2.size,fun b hb hn=>hS2.block b hb (fun e=>hn (hp b e))⟩
 have hP:=h.nr.each m hmm;have hkm:∀b,m.kv.ownBlock=some b->¬b=g:=fun b hb e=>(h.nr.kid m hmm b hb).1 (by rw[hg,e]);have h1:=h.nr.put (m':=⟨{m.nd with text:=tx},m.kv⟩) (u:= .string tx) (k:=2) hi hg (by decide) rfl ⟨hP.row,hP.fresh,hP.kind,hP.line,htx,hP.key,hP.len⟩ rfl;have hi2:(ms.set i ⟨{m.nd with text:=tx},m.kv⟩)[i]? =some ⟨{m.nd with text:=tx},m.kv⟩:=List.getElem?_set_self hlt;have h2:=h1.put (m':=⟨{m.nd with text:=tx,quoted:=q},m.kv⟩) (u:= .bool q) (k:=3) hi2 hg (by decide) rfl (NdE.mod (x:=⟨{m.nd with text:=tx,quoted:=q},m.kv⟩) ⟨hP.row,hP.fresh,hP.kind,hP.line,htx,hP.key,hP.len⟩ hS1 (fun b hb e=>hkm b hb e)) rfl
 rw[List.set_set]at h2;refine ⟨hW,⟨h.toks,h.wf,h.below.trans (hW.below h.below.size (fun b hb=>(h.rd_lt hb).1)),h.rge,(hS2.block rb (ag h.blk) (fun e=>hgr e.symm)).trans h.blk,h2,h.kle⟩,fun b hb=> ?_⟩;rcases hb with hb|⟨x,hx,hb⟩
 ·exact .inl hb
 ·rcases List.mem_or_eq_of_mem_set hx with hx|rfl
  ·exact .inr ⟨x,hx,hb⟩
  ·exact .inr ⟨m,hmm,hb⟩
theorem CH {ms ms1:List NdM} {m:NdM} {x:Nd} {tx:ByteArray} {q:Bool} (hn:nds ms1=nds ms++[x]) (hm:ms1[ms.length]? =some m):m.nd=x/\nds (ms1.set ms.length ⟨{m.nd with text:=tx,quoted:=q},m.kv⟩)=nds ms++[{x with text:=tx,quoted:=q}]:=by
 have h1:(nds ms1)[ms.length]? =some m.nd:=by unfold nds;rw[List.getElem?_map,hm];rfl
 have e:m.nd=x:=by
  rw[hn,List.getElem?_append_right (by rw[bt];exact aAa _),bt,Nat.sub_self]at h1;exact (aAf h1).symm
 refine ⟨e,?_⟩;rw[rL,hn,e,List.set_append_right _ _ (by rw[bt];exact aAa _),bt,Nat.sub_self];rfl
theorem Ej {w0 w:World} {rb:Nat} {lv:Value} {ts:List Tok} {k:Nat} {nv:Value} {ms:List NdM} (h:RdS w0 w rb lv ts k nv ms) (D:Nat) (hD:D<=17) (t:Tok) (ht:t=aq ts k) (hkl:k<ts.length) (hk3:(t.kind==3)=false) (hk2:(t.kind==2)=false) (key:ByteArray) (hkey:key.size<=1048576):
 Calls Tryz.prog 109 #[.pointer (some ⟨rb,0,none⟩),.int .i64 ((17-D:Nat):Int),.string key] w (cK w0 w rb lv ts nv ms (ng ts D k (nds ms) key t)):=by
 have hok:TokOk t:=by rw[ht];exact h.ok k
 have Hbeg:=hid (fun w2 (hb:Below w.heap.size w w2)=>lL (h.later hb) D hD 1 (by decide) key hkey t hok);have Hnx:=hid (fW h);rw[<-ht]at Hnx;have H:=hid h;have Hx:=hid (And.intro hkl (And.intro hD hok));obtain ⟨X,hX⟩:=ex (ng ts D k (nds ms) key t);rw[<-hX];have HX:=hid hX;obtain ⟨B,hB⟩:=ex (jj k (nds ms) D 1 key t);rw[<-hB]at Hbeg;have HB:=hid hB;clear h hok hX hB ht hD hkey hkl;unfold Tok.a at Hbeg Hnx
 go_enter Tryz.func109,Tryz.ntmps109
 go_wp2_with fail
 refine Hnx.o.mono ?_;rintro r w1 ⟨rfl,h1⟩;obtain ⟨w2,hw2⟩:=ex (w1.alloc (.cells #[.int .i64 t.kind,.int .i64 t.line,.int .i64 t.col,.string ⟨t.text.toArray⟩,.bool t.quoted] 121));have hb2:Below w.heap.size w w2:=by rw[hw2];exact h1.trans ((aAb _ _).alloc (aAa _) _ |>.mono h1.size)
 have f2:w2.heap[w1.heap.size]? =some (.cells #[.int .i64 t.kind,.int .i64 t.line,.int .i64 t.col,.string ⟨t.text.toArray⟩,.bool t.quoted] 121 (0,0)):=by rw[hw2];exact ah (w:=w1) _
 have Hb2:=hid hb2;have Hf2:=hid f2;have Hge:=hid h1.size;obtain ⟨tb,htb⟩:=ex (w1.heap.size);rw[<-htb]at Hf2 Hge;clear h1 hb2 f2 Hnx
 go_wp2_with fail
 rw[<-hw2,<-htb];clear hw2 htb;refine (Hbeg.o w2 Hb2.o).mono ?_;intro r w3 hh;cases B with
 |error e=>
  obtain ⟨rfl,h1,h2⟩:=hh;have hx:X= .error e:=by
   rw[HX.o];have:=HB.o;unfold jj at this;unfold ng
   split at this
   ·rename_i e2 h2
    (try rw[h2]);injection this with this
    rw[this]
   ·cases this
  subst hx;exact ⟨rfl,rfl,h1,aAe Hb2.o.size h2⟩
 |ok y=>
  obtain ⟨k1,ns1,i⟩:=y;obtain ⟨hr,nv1,ms1,hR1,hn1,hm1,ho1⟩:=hh;subst hr;obtain ⟨rfl,hns,rfl,hxx⟩:k1=k/\ns1=nds ms++[⟨1,key,⟨#[]⟩,false,t.line,[]⟩]/\i=ms.length/\X= .ok (k+1,nds ms++[⟨1,key,⟨t.text.toArray⟩,t.quoted,t.line,[]⟩],ms.length):=by
   have h1:=HB.o;have h2:=HX.o;unfold jj at h1;unfold ng at h2;cases hN:iX (nds ms) D 1 key t with
   |error e=>rw[hN]at h1;cases h1
   |ok n1=>
    rw[hN]at h1 h2;injection h1 with h1
    injection h1 with h1 h3
    injection h3 with h3 h4
    rw[bt]at h4 h2;obtain ⟨e,_⟩:=jV hN;exact ⟨h1,by rw[h3,e],h4,h2⟩
  rw[hns]at hn1;obtain ⟨m,hm⟩:∃m,ms1[ms.length]? =some m:=au (by have:=congrArg List.length hn1;rw[bt,aAc,bt]at this;simp at this;omega);obtain ⟨g,c,rfl,hg,hat,hgf⟩:=hR1.nr.at hm;have hntb:¬RdF rb nv ms tb:=fun q=>by have:=H.o.rd_lt q;have:=Hge.o;omega
  have f3:=hm1.heap Hf2.o hntb;have hblk:=hR1.blk;unfold rdA at hblk;have hgtb:g≠tb:=fun e=>by
   rcases ho1 g (.inl hg) with q|q
   ·exact hntb (.inr (by rw[<-e];exact q))
   ·have:=ag Hf2.o;omega
  have hgr:g≠rb:=(hR1.nr.new g hg).2;have z2:=af hblk 2;have t3:=af f3 3;have t4:=af f3 4;simp at z2 t3 t4;have n2:=hat.c2;have n3:=hat.c3;have bi:(ms.length:Int)<(ms1.length:Int):=by have:=(aAh hm).1;omega
  obtain ⟨n0,hn0⟩:=ex (ms.length);have HE:=hid (CG hR1 hm hg ⟨t.text.toArray⟩ (by show t.text.toArray.size<=_;have:=Hx.o.2.2.text;simp;omega) t.quoted);have Hnn:=hid (CH (tx:=⟨t.text.toArray⟩) (q:=t.quoted) hn1 hm).2;rw[<-hn0]at hm n2 n3 bi hxx HE Hnn |-;have hS:w3.drew.cell? ⟨rb,2,none⟩=some (.slice (some ⟨g,0,none⟩) ms1.length c)/\w3.drew.cell? ⟨tb,3,none⟩=some (.string ⟨t.text.toArray⟩)/\w3.drew.cell? ⟨tb,4,none⟩=some (.bool t.quoted):=⟨z2,t3,t4⟩
  have Hxx:=hid hxx;have Hm1:=hid (And.intro hm1 ho1);have hM1:Mod (fun b=>b=g) w3.drew (w3.drew.setCell ⟨g,n0*6+2,none⟩ (.string ⟨t.text.toArray⟩)):=(Mod.refl _ _).setCell _ _ (fun _=>rfl);have HS2:=hid (show (w3.drew.setCell ⟨g,n0*6+2,none⟩ (.string ⟨t.text.toArray⟩)).cell? ⟨rb,2,none⟩=some (.slice (some ⟨g,0,none⟩) ms1.length c)/\(w3.drew.setCell ⟨g,n0*6+2,none⟩ (.string ⟨t.text.toArray⟩)).cell? ⟨tb,3,none⟩=some (.string ⟨t.text.toArray⟩)/\(w3.drew.setCell ⟨g,n0*6+2,none⟩ (.string ⟨t.text.toArray⟩)).cell? ⟨tb,4,none⟩=some (.bool t.quoted) from
   ⟨hM1.cell hS.1 (fun e=>hgr e.symm),hM1.cell hS.2.1 (fun e=>hgtb e.symm),hM1.cell hS.2.2 (fun e=>hgtb e.symm)⟩)
  have Hcur:=hid (HE.o.2.1.c1);clear hblk hn1 hm hg hat hntb f3 hgtb hgr hn0 hxx hR1 hm1 ho1 z2 t3 t4 hM1 hns HB HX Hbeg Hf2;go_wp2;refine dW (fun w'=>w'.cell? ⟨rb,2,none⟩=some (.slice (some ⟨g,0,none⟩) ms1.length c)/\w'.cell? ⟨tb,3,none⟩=some (.string ⟨t.text.toArray⟩)/\w'.cell? ⟨tb,4,none⟩=some (.bool t.quoted)) (fun i=>decide (i<17)) (by kernel_rfl) ?_;refine wL (i:=0) (v:= ?_) rfl ?_ hS ?_
  rotate_left
  ·intro w' hSw;obtain ⟨s1,s2,s3⟩:=hSw;go_simp
   try with_reducible rfl
  simp only[Act.put,sA,sZ,sS];refine wL (i:=1) (v:= ?_) rfl ?_ hS ?_;rotate_left
  ·intro w' hSw;obtain ⟨s1,s2,s3⟩:=hSw;go_simp
   try with_reducible rfl
  simp only[Act.put,sA,sZ,sS];refine wL (i:=2) (v:= ?_) rfl ?_ hS ?_;rotate_left
  ·intro w' hSw;obtain ⟨s1,s2,s3⟩:=hSw;go_simp
   try with_reducible rfl
  simp only[Act.put,sA,sZ,sS];refine wL (i:=3) (v:= ?_) rfl ?_ hS ?_;rotate_left
  ·intro w' hSw;obtain ⟨s1,s2,s3⟩:=hSw;go_simp
   try with_reducible rfl
  simp only[Act.put,sA,sZ,sS];refine wL (i:=4) (v:= ?_) rfl ?_ hS ?_;rotate_left
  ·intro w' hSw;obtain ⟨s1,s2,s3⟩:=hSw;go_simp
   try with_reducible rfl
  simp only[Act.put,sA,sZ,sS];refine wL (i:=5) (v:= ?_) rfl ?_ hS ?_;rotate_left
  ·intro w' hSw;obtain ⟨s1,s2,s3⟩:=hSw;go_simp
   try with_reducible rfl
  simp only[Act.put,sA,sZ,sS];refine wL (i:=6) (v:= ?_) rfl ?_ hS ?_;rotate_left
  ·intro w' hSw;obtain ⟨s1,s2,s3⟩:=hSw;go_simp
   try with_reducible rfl
  simp only[Act.put,sA,sZ,sS];refine wL (i:=7) (v:= ?_) rfl ?_ hS ?_;rotate_left
  ·intro w' hSw;obtain ⟨s1,s2,s3⟩:=hSw;go_simp
   try with_reducible rfl
  simp only[Act.put,sA,sZ,sS];refine wL (i:=8) (v:= ?_) rfl ?_ hS ?_;rotate_left
  ·intro w' hSw;obtain ⟨s1,s2,s3⟩:=hSw;go_simp
   try with_reducible rfl
  simp only[Act.put,sA,sZ,sS];refine wL (i:=9) (v:= ?_) rfl ?_ hS ?_;rotate_left
  ·intro w' hSw;obtain ⟨s1,s2,s3⟩:=hSw;go_simp
   try with_reducible rfl
  simp only[Act.put,sA,sZ,sS];refine wL (i:=10) (v:= ?_) rfl ?_ hS ?_;rotate_left
  ·intro w' hSw;obtain ⟨s1,s2,s3⟩:=hSw;go_simp
   try with_reducible rfl
  simp only[Act.put,sA,sZ,sS];refine wL (i:=11) (v:= ?_) rfl ?_ hS ?_;rotate_left
  ·intro w' hSw;obtain ⟨s1,s2,s3⟩:=hSw;go_simp
   try with_reducible rfl
  simp only[Act.put,sA,sZ,sS];refine wL (i:=12) (v:= ?_) rfl ?_ hS ?_;rotate_left
  ·intro w' hSw;obtain ⟨s1,s2,s3⟩:=hSw;go_simp
   try with_reducible rfl
  simp only[Act.put,sA,sZ,sS];refine wL (i:=13) (v:= ?_) rfl ?_ hS ?_;rotate_left
  ·intro w' hSw;obtain ⟨s1,s2,s3⟩:=hSw;go_simp
   try with_reducible rfl
  simp only[Act.put,sA,sZ,sS];refine wL (i:=14) (v:= ?_) rfl ?_ hS ?_;rotate_left
  ·intro w' hSw;obtain ⟨s1,s2,s3⟩:=hSw;go_simp
   try with_reducible rfl
  simp only[Act.put,sA,sZ,sS];refine wL (i:=15) (v:= ?_) rfl ?_ hS ?_;rotate_left
  ·intro w' hSw;obtain ⟨s1,s2,s3⟩:=hSw;go_simp
   try with_reducible rfl
  simp only[Act.put,sA,sZ,sS];refine aK (i:=16) (by kernel_rfl) rfl (fun K hK=> ?_);go_simp;refine hK.out _ _ (fun _=>HS2.o) ?_;clear hK K HS2 hS
  try simp only[Act.put,sA,sZ,sS]
  refine aK (i:=17) (by kernel_rfl) rfl (fun K hK=> ?_);go_simp;refine hK.out _ _ (fun h=>absurd h (by decide)) ?_;clear hK K
  try simp only[Act.put,sA,sZ,sS]
  refine aK (i:=18) (by kernel_rfl) rfl (fun K hK=> ?_);go_simp;refine hK.out _ _ (fun h=>absurd h (by decide)) ?_;clear hK K
  try simp only[Act.put,sA,sZ,sS]
  refine aK (i:=19) (by kernel_rfl) rfl (fun K hK=> ?_);go_simp;refine hK.out _ _ (fun h=>absurd h (by decide)) ?_;clear hK K n2 n3 hgf bi
  try simp only[Act.put,sA,sZ,sS]
  refine dX (by kernel_rfl) ?_ _;obtain ⟨w5,hw5⟩:=ex (((w3.setCell ⟨g,n0*6+2,none⟩ (.string ⟨t.text.toArray⟩)).setCell ⟨g,n0*6+3,none⟩ (.bool t.quoted)).drew);have hR5:RdS w0 w5 rb lv ts k1 (.slice (some ⟨g,0,none⟩) ms1.length c) (ms1.set n0 ⟨{m.nd with text:=⟨t.text.toArray⟩,quoted:=t.quoted},m.kv⟩):=by
   rw[hw5];exact HE.o.2.1.later (aAb _ _).drew
  have hM5:Mod (RdF rb nv ms) w w5:=by
   have h1:Mod (RdF rb nv ms) w w3:=(Mod.ofBelow (F:=RdF rb nv ms) Hb2.o (fun k hk hge=>by omega)).trans Hm1.o.1;have h2:=l9 (w0:=w0) (w:=w) h1 (fun g hg=>(Hm1.o.2 g hg).imp id (fun q=>aAe Hb2.o.size q)) HE.o.1;rw[hw5];exact ⟨h2.os,h2.tape,h2.output,h2.size,h2.block⟩
  have hO5:∀b,nOwn (.slice (some ⟨g,0,none⟩) ms1.length c) (ms1.set n0 ⟨{m.nd with text:=⟨t.text.toArray⟩,quoted:=t.quoted},m.kv⟩) b->nOwn nv ms b\/w.heap.size<=b:=fun b hb=>(Hm1.o.2 b (HE.o.2.2 b hb)).imp id (fun q=>aAe Hb2.o.size q);rw[<-hw5];have hR6:=hR5.move (k2:=k1+1) (by have:=Hx.o.1;omega);have hS6:Mod (fun b=>b=rb) w5 (w5.setCell ⟨rb,1,none⟩ (.int .i64 ((k1+1:Nat):Int))):=(Mod.refl _ _).setCell _ _ (fun _=>rfl)
  have hM6:=hM5.trans' hS6 (fun _ _ q=> .inl q);have y1:=hR5.c1.1;have yf:=hR5.c1.2;have hlen:ts.length<=1048576:=by obtain ⟨_,_,_,q,_⟩:=hR5.tok_at;exact q
  have hwk:wrap64 ((k1:Int)+1)=((k1+1:Nat):Int):=(aW (by omega) (by have:=Hx.o.1;omega)).trans (by omega);have HF:=hid (show cK w0 w rb lv ts nv ms X (.returned (.int .i64 (n0:Int))) (w5.setCell ⟨rb,1,none⟩ (.int .i64 ((k1:Int)+1))) from by
   rw[Hxx.o];exact ⟨rfl,_,_,hR6,Hnn.o,hM6,hO5⟩)
  clear hR5 hM5 hO5 hR6 hS6 hM6 hw5 HE Hnn Hxx Hm1 Hcur hlen;go_wp2;exact bodyPost_ret (results_tmp (t:=6) rfl _ _ _) rfl HF.o
theorem uV {w0:World} {rb:Nat} {lv:Value} {ts:List Tok} (D:Nat) (hD:D<=17) (IH:1<=D->mK w0 rb lv ts (D-1)):mK w0 rb lv ts D:=by
 intro w k nv ms key h hhas hkey;rw[uU];have hkl:=C4 hhas;obtain ⟨t,ht⟩:=ex (aq ts k);rw[<-ht];have Hnx:=hid (fW h);rw[<-ht]at Hnx;by_cases k3:t.kind=3
 ·rw[if_pos k3];have e3:(t.kind==3)=true:=beq_iff_eq.2 k3;have Hd:=hid (fun w2 (hb:Below w.heap.size w w2)=>(Eo (h.later hb) D hD t ht k3 key hkey IH).mono (fun r w' hh=>cK.base hb hh));clear h hhas hkey IH hkl ht k3;generalize lE ts D k (nds ms) key t=X at*;unfold Tok.a at Hd Hnx;go_enter Tryz.func109,Tryz.ntmps109
  go_wp2_with fail
  refine Hnx.o.mono ?_;rintro r w1 ⟨rfl,h1⟩;have Hb2:=hid (fun ob=>h1.trans ((aAb _ _).alloc (aAa w1.heap.size) ob |>.mono h1.size));clear h1 Hnx
  go_wp2_with fail
  refine (Hd.o _ (Hb2.o _)).mono ?_;intro r w' hh;cases X with
  |error e=>
   obtain ⟨rfl,h1,h2⟩:=hh;exact ⟨rfl,rfl,h1,h2⟩
  |ok y=>
   obtain ⟨k2,ns2,i⟩:=y;obtain rfl:=hh.1;have HH:=hid hh;clear hh Hd;go_wp2;exact bodyPost_ret (results_tmp (t:=6) rfl _ _ _) rfl HH.o
 ·have e3:(t.kind==3)=false:=beq_eq_false_iff_ne.2 k3;rw[if_neg k3];by_cases k2:t.kind=2
  ·rw[if_pos k2];have e2:(t.kind==2)=true:=beq_iff_eq.2 k2;have Hd:=hid (fun w2 (hb:Below w.heap.size w w2)=>(Ei (h.later hb) D hD t ht k2 key hkey IH).mono (fun r w' hh=>cK.base hb hh));clear h hhas hkey IH hkl ht k3 k2;generalize lr ts D k (nds ms) key t=X at*;unfold Tok.a at Hd Hnx;go_enter Tryz.func109,Tryz.ntmps109
   go_wp2_with fail
   refine Hnx.o.mono ?_;rintro r w1 ⟨rfl,h1⟩;have Hb2:=hid (fun ob=>h1.trans ((aAb _ _).alloc (aAa w1.heap.size) ob |>.mono h1.size));clear h1 Hnx
   go_wp2_with fail
   refine (Hd.o _ (Hb2.o _)).mono ?_;intro r w' hh;cases X with
   |error e=>
    obtain ⟨rfl,h1,h2⟩:=hh;exact ⟨rfl,rfl,h1,h2⟩
   |ok y=>
    obtain ⟨k2,ns2,i⟩:=y;obtain rfl:=hh.1;have HH:=hid hh;clear hh Hd;go_wp2;exact bodyPost_ret (results_tmp (t:=6) rfl _ _ _) rfl HH.o
  ·rw[if_neg k2];exact Ej h D hD t ht hkl e3 (beq_eq_false_iff_ne.2 k2) key hkey
theorem yx (w0:World) (rb:Nat) (lv:Value) (ts:List Tok):∀D,D<=17->mK w0 rb lv ts D
 |0,h=>uV 0 h (fun h=>absurd h (by decide))
 |D+1,h=>uV (D+1) h (fun _=>yx w0 rb lv ts D (by omega))
theorem tg (v:Value) (w:World):(Instr.typeAssert (.iface 174 v) 20 174 true).run Tryz.prog w= .ok (.tuple #[v,.bool true]) w:=by
 simp[Instr.typeAssert,go_sem,Tryz.underlying174]
theorem FX (rb lb eb:Nat) (w:World):
 CallsD Tryz.prog 106 #[.pointer (some ⟨rb,0,none⟩),.pointer (some ⟨lb,0,none⟩),.pointer (some ⟨eb,0,none⟩)] .returning w fun e u' w'=>e= .returned (.tuple #[])/\u'= .returning/\w'=w:=by
 refine callsD_of_wpS Tryz.func106 rfl fun c₀ cs hu=> ?_;apply wpS_seq;apply wpS_region;simp[wpOpsS,go_sem,recoverD,hu,Tryz.ntmps106,Exit.thenS];refine wpS_of_wp ?_;go_wp2;cases c₀
 simp_all[bodyPostS,results,Tryz.results106]
theorem DC {w:World} {x0 lv ev:Value} {T1 T2 T3:TypeId} (n:Nat) (e:Flt) (ob:Obj) (hr:w.heap[n]? =some (.cells #[x0] T1 (0,0))) (hl:w.heap[n+1]? =some (.cells #[lv] T2 (0,0))) (he:w.heap[n+1+1]? =some (.cells #[ev] T3 (0,0))):
 ∀W,W=((((w.alloc ob).setCell ⟨n,0,none⟩ (.slice none 0 0)).setCell ⟨n+1,0,none⟩ (.int .i64 e.1)).setCell ⟨n+1+1,0,none⟩ (.int .i64 e.2)).drew->
  Mod (fun k=>k=n\/k=n+1\/k=n+1+1) w W/\W.heap[n]? =some (.cells #[.slice none 0 0] T1 (0,0))/\W.heap[n+1]? =some (.cells #[.int .i64 e.1] T2 (0,0))/\W.heap[n+1+1]? =some (.cells #[.int .i64 e.2] T3 (0,0)):=by
 rintro W rfl;have ha:=(aj ob (ag hr)).trans hr;have hb:=(aj ob (ag hl)).trans hl;have hc:=(aj ob (ag he)).trans he;have hm:Mod (fun k=>k=n\/k=n+1\/k=n+1+1) w (w.alloc ob):=(Mod.refl _ _).trans' (Mod.ofBelow (F:=fun _=>False) ((aAb w.heap.size w).alloc (aAa _) ob) (fun k hk hge=>by omega)) (fun _ _ q=>q.elim);generalize w.alloc ob=V at*;have m0:Mod (fun k=>k=n\/k=n+1\/k=n+1+1) w (V.setCell ⟨n,0,none⟩ (.slice none 0 0)):=hm.setCell _ _ (fun _=> .inl rfl)
 have m1:Mod (fun k=>k=n\/k=n+1\/k=n+1+1) w ((V.setCell ⟨n,0,none⟩ (.slice none 0 0)).setCell ⟨n+1,0,none⟩ (.int .i64 e.1)):=m0.setCell _ _ (fun _=> .inr (.inl rfl));have m2:Mod (fun k=>k=n\/k=n+1\/k=n+1+1) w (((V.setCell ⟨n,0,none⟩ (.slice none 0 0)).setCell ⟨n+1,0,none⟩ (.int .i64 e.1)).setCell ⟨n+1+1,0,none⟩ (.int .i64 e.2)):=m1.setCell _ _ (fun _=> .inr (.inr rfl));refine ⟨m2.drew,?_,?_,?_⟩
 ·rw[fw];refine (aO _ _ (by show ¬n=n+1+1;omega)).trans ?_;refine (aO _ _ (by show ¬n=n+1;omega)).trans ?_;exact aE ha 0 _
 ·rw[fw];refine (aO _ _ (by show ¬n+1=n+1+1;omega)).trans (aE (c:=#[lv]) ?_ 0 _);exact (aO _ _ (by show ¬n+1=n;omega)).trans hb
 ·rw[fw];refine aE (c:=#[ev]) ?_ 0 _;refine (aO _ _ (by show ¬n+1+1=n+1;omega)).trans ?_;exact (aO _ _ (by show ¬n+1+1=n;omega)).trans hc
theorem FW (n:Nat) (e:Flt) (older:List PanicEntry) (w:World) (x0 lv ev:Value) (T1 T2 T3:TypeId) (hr:w.heap[n]? =some (.cells #[x0] T1 (0,0))) (hl:w.heap[n+1]? =some (.cells #[lv] T2 (0,0))) (he:w.heap[n+1+1]? =some (.cells #[ev] T3 (0,0))):
 CallsD Tryz.prog 106 #[.pointer (some ⟨n,0,none⟩),.pointer (some ⟨n+1,0,none⟩),.pointer (some ⟨n+1+1,0,none⟩)] (.panicking ({v:= .iface 174 (.agg #[.int .i64 e.1,.int .i64 e.2]),recovered:=false}::older)) w fun r u' w'=>r= .returned (.tuple #[])/\u'= .panicking ({v:= .iface 174 (.agg #[.int .i64 e.1,.int .i64 e.2]),recovered:=true}::older)/\
  Mod (fun k=>k=n\/k=n+1\/k=n+1+1) w w'/\w'.heap[n]? =some (.cells #[.slice none 0 0] T1 (0,0))/\w'.heap[n+1]? =some (.cells #[.int .i64 e.1] T2 (0,0))/\w'.heap[n+1+1]? =some (.cells #[.int .i64 e.2] T3 (0,0)):=by
 have HE:=hid (fun ob=>DC (w:=w) n e ob hr hl he);refine callsD_of_wpS Tryz.func106 rfl fun c₀ cs hu=> ?_;apply wpS_seq;apply wpS_region;simp[wpOpsS,go_sem,recoverD,hu,Tryz.ntmps106,Exit.thenS];refine wpS_of_wp ?_
 show Code.wp _ _ _ {tmps:=#[.pointer (some ⟨n,0,none⟩),.pointer (some ⟨n+1,0,none⟩),.pointer (some ⟨n+1+1,0,none⟩),.iface 174 (.agg #[.int .i64 e.1,.int .i64 e.2]),undef,undef,.iface 174 (.agg #[.int .i64 e.1,.int .i64 e.2]),undef,undef,undef,undef,undef,undef,undef,undef,undef,undef,undef,undef,undef,undef],defers:=[]} _
 have hta:∀(v:Value) (w:World),(Instr.typeAssert (.iface 174 v) 20 174 true).run Tryz.prog w= .ok (.tuple #[v,.bool true]) w:=tg;have f1:=fun ob=>ai ((aj ob (ag hr)).trans hr) 0;have f2:=fun ob=>ai ((aj ob (ag hl)).trans hl) 0;have f3:=fun ob=>ai ((aj ob (ag he)).trans he) 0
 have c1:=fun ob=>af ((aj ob (ag hr)).trans hr) 0;have c2:=fun ob=>af ((aj ob (ag hl)).trans hl) 0;have c3:=fun ob=>af ((aj ob (ag he)).trans he) 0;simp at c1 c2 c3;have hq:=ag he;have n1:¬n=w.heap.size:=by omega
 have n2:¬w.heap.size=n:=by omega
 have n3:¬n+1=w.heap.size:=by omega
 have n4:¬w.heap.size=n+1:=by omega
 have n5:¬n+1+1=w.heap.size:=by omega
 have n6:¬w.heap.size=n+1+1:=by omega
 clear hq hr hl he;go_wp2
 go_region
 all_goals go_wp2
 all_goals
  cases c₀;simp only at hu;subst hu;exact ⟨rfl,_,rfl,.tuple #[],results_none rfl _ _ _,rfl,rfl,HE.o _ _ rfl⟩
def dcD (n:Nat):Deferred:={target:= .fn (.func 106) #[.pointer (some ⟨n,0,none⟩),.pointer (some ⟨n+1,0,none⟩),.pointer (some ⟨n+1+1,0,none⟩)],args:=#[]}
def JL (w0:World) (x:Except Flt (List Nd)) (r:Ending) (w':World):Prop:=
 (match x with
  | .ok ns=>∃v ms,r= .returned (.tuple #[v,.int .i64 0,.int .i64 0])/\DocP w' w0.heap.size ⟨v,ms⟩/\nds ms=ns
  | .error e=>r= .returned (.tuple #[.slice none 0 0,.int .i64 e.1,.int .i64 e.2]))/\Below w0.heap.size w0 w'
theorem mW {w:World} {n:Nat} {v l e:Value} {tmps:Array Value} (h2:tmps[2]? =some (.pointer (some ⟨n,0,none⟩))) (h3:tmps[3]? =some (.pointer (some ⟨n+1,0,none⟩))) (h4:tmps[4]? =some (.pointer (some ⟨n+1+1,0,none⟩))) (ha:w.heap[n]? =some (.cells #[v] 33 (0,0))) (hb:w.heap[n+1]? =some (.cells #[l] 3 (0,0))) (hc:w.heap[n+1+1]? =some (.cells #[e] 25 (0,0))):
 (results Tryz.f69 tmps).run Tryz.prog w= .ok (.tuple #[v,l,e]) w:=by
 have c0:=af ha 0;have c1:=af hb 0;have c2:=af hc 0;simp at c0 c1 c2;have b0:(loadVar 33 ⟨n,0,none⟩).run Tryz.prog w= .ok v w:=by simp[go_sem,c0]
 have b1:(loadVar 3 ⟨n+1,0,none⟩).run Tryz.prog w= .ok l w:=by simp[go_sem,c1]
 have b2:(loadVar 25 ⟨n+1+1,0,none⟩).run Tryz.prog w= .ok e w:=by simp[go_sem,c2]
 rw[Array.getElem?_eq_some_iff]at h2 h3 h4;obtain ⟨l2,e2⟩:=h2;obtain ⟨l3,e3⟩:=h3;obtain ⟨l4,e4⟩:=h4;simp[results,Tryz.results69,asAddr,Array.getD,l2,e2,l3,e3,l4,e4,b0,b1,b2]
structure DocW (w0 w:World) (n:Nat):Prop where
 below:Below w0.heap.size w0 w
 nod:∃v,w.heap[n]? =some (.cells #[v] 33 (0,0))
 lin:∃v,w.heap[n+1]? =some (.cells #[v] 3 (0,0))
 err:∃v,w.heap[n+1+1]? =some (.cells #[v] 25 (0,0))
 nn:n=w0.heap.size
theorem xg {w0 w:World} {a:Act} {n:Nat} {x:Except Flt (List Nd)} {e:Flt} (hx:x= .error e) (hd:a.defers=[dcD n]) (s2:a.tmps[2]? =some (.pointer (some ⟨n,0,none⟩))) (s3:a.tmps[3]? =some (.pointer (some ⟨n+1,0,none⟩))) (s4:a.tmps[4]? =some (.pointer (some ⟨n+1+1,0,none⟩))) (h:DocW w0 w n):
 bodyPostD Tryz.prog Tryz.f69 (JL w0 x) (.panic [{v:= .iface 174 (.agg #[.int .i64 e.1,.int .i64 e.2]),recovered:=false}]) a w:=by
 subst hx
 show Leaves Tryz.prog Tryz.f69 a.tmps _ a.defers (.panicking _) w
 rw[hd];obtain ⟨v,hv⟩:=h.nod;obtain ⟨l,hl⟩:=h.lin;obtain ⟨er,he⟩:=h.err;refine leaves_cons (f:= 106) (args:=#[.pointer (some ⟨n,0,none⟩),.pointer (some ⟨n+1,0,none⟩),.pointer (some ⟨n+1+1,0,none⟩)]) (by simp) (by simp[go_sem]) ?_;refine (FW n e [] w _ _ _ _ _ _ hv hl he).mono ?_;rintro r2 u' w2 ⟨rfl,rfl,hm,h1,h2,h3⟩;refine ⟨_,mW s2 s3 s4 h1 h2 h3,rfl,?_⟩;have hn:=h.nn
 exact h.below.trans (hm.below h.below.size fun k hk=>by omega)
theorem Dy {w0 w:World} {a:Act} {n:Nat} {x:Except Flt (List Nd)} {ns:List Nd} (hx:x= .ok ns) (hd:a.defers=[dcD n]) (s2:a.tmps[2]? =some (.pointer (some ⟨n,0,none⟩))) (s3:a.tmps[3]? =some (.pointer (some ⟨n+1,0,none⟩))) (s4:a.tmps[4]? =some (.pointer (some ⟨n+1+1,0,none⟩))) (hb:Below w0.heap.size w0 w)
 {v:Value} {ms:List NdM} (h1:w.heap[n]? =some (.cells #[v] 33 (0,0))) (h2:w.heap[n+1]? =some (.cells #[.int .i64 0] 3 (0,0))) (h3:w.heap[n+1+1]? =some (.cells #[.int .i64 0] 25 (0,0))) (hP:DocP w w0.heap.size ⟨v,ms⟩) (hn:nds ms=ns):
 bodyPostD Tryz.prog Tryz.f69 (JL w0 x) .ret a w:=by
 subst hx
 show Leaves Tryz.prog Tryz.f69 a.tmps _ a.defers .returning w
 rw[hd];refine leaves_cons (f:= 106) (args:=#[.pointer (some ⟨n,0,none⟩),.pointer (some ⟨n+1,0,none⟩),.pointer (some ⟨n+1+1,0,none⟩)]) (by simp) (by simp[go_sem]) ?_;refine (FX n (n+1) (n+1+1) w).mono ?_;rintro r2 u' w2 ⟨rfl,rfl,rfl⟩;exact ⟨_,mW s2 s3 s4 h1 h2 h3,⟨v,ms,rfl,hP,hn⟩,hb⟩
def w3T (w:World):World:=((w.alloc (.cells #[.slice none 0 0] 33)).alloc (.cells #[.int .i64 0] 3)).alloc (.cells #[.int .i64 0] 25)
theorem AV (w:World):(w3T w).heap.size=w.heap.size+1+1+1:=by simp[w3T]
theorem yK (w:World):Below w.heap.size w (w3T w):=
 (((aAb w.heap.size w).alloc (aAa _) _).alloc (by simp) _).alloc (by simp;omega) _
theorem D0 (w:World):(w3T w).heap[w.heap.size]? =some (.cells #[.slice none 0 0] 33 (0,0))/\(w3T w).heap[w.heap.size+1]? =some (.cells #[.int .i64 0] 3 (0,0))/\(w3T w).heap[w.heap.size+1+1]? =some (.cells #[.int .i64 0] 25 (0,0)):=by
 unfold w3T;refine ⟨?_,?_,?_⟩
 ·refine (aj _ (by simp;omega)).trans ((aj _ (by simp)).trans (ah _))
 ·refine (aj _ (by simp)).trans ?_;have h:=ah (w:=w.alloc (.cells #[.slice none 0 0] 33)) (.cells #[.int .i64 0] 3)
  simpa using h
 ·have h:=ah (w:=(w.alloc (.cells #[.slice none 0 0] 33)).alloc (.cells #[.int .i64 0] 3)) (.cells #[.int .i64 0] 25)
  simpa using h
theorem lC {w w3 w2:World} {n:Nat} (hn:n=w.heap.size) (hs:w3.heap.size=n+1+1+1) (hb:Below w.heap.size w w3) (b1:w3.heap[n]? =some (.cells #[.slice none 0 0] 33 (0,0))) (b2:w3.heap[n+1]? =some (.cells #[.int .i64 0] 3 (0,0))) (b3:w3.heap[n+1+1]? =some (.cells #[.int .i64 0] 25 (0,0))) (h:Below w3.heap.size w3 w2):DocW w w2 n:=
 ⟨hb.trans (h.mono (by omega)),⟨_,(h.block _ (by omega)).trans b1⟩,⟨_,(h.block _ (by omega)).trans b2⟩,⟨_,(h.block _ (by omega)).trans b3⟩,hn⟩
def Ax (ts:List Tok):Except Flt (Nat×List Nd):=
 if hasB (aq ts 0)=true then (match bM ts 16 0 [] ⟨#[]⟩ with| .error e=> .error e| .ok (k,ns,_)=> .ok (k,ns)) else .ok (0,[])
theorem lD (ts:List Tok):jF ts=match Ax ts with| .error e=> .error e| .ok (k,ns)=>if k<ts.length then .error ((aq ts k).line,90) else .ok ns:=rfl
theorem sO (t:Tok):∀w',(Instr.field 121 (.agg #[.int .i64 t.kind,.int .i64 t.line,.int .i64 t.col,.string ⟨t.text.toArray⟩,.bool t.quoted]) 1).run Tryz.prog w'= .ok (.int .i64 t.line) w':=fun _=>by kernel_rfl
theorem uF {w w2:World} {n:Nat} {nv:Value} {ms:List NdM} (z0:w2.heap[n]? =some (.cells #[.slice none 0 0] 33 (0,0))) (z1:w2.heap[n+1]? =some (.cells #[.int .i64 0] 3 (0,0))) (z2:w2.heap[n+1+1]? =some (.cells #[.int .i64 0] 25 (0,0))) (hb:Below w.heap.size w w2) (hP:DocP w2 (n+1+1+1) ⟨nv,ms⟩) (hn:n=w.heap.size):
 Below w.heap.size w (((w2.setCell ⟨n,0,none⟩ nv).setCell ⟨n+1,0,none⟩ (.int .i64 0)).setCell ⟨n+1+1,0,none⟩ (.int .i64 0))/\
 (((w2.setCell ⟨n,0,none⟩ nv).setCell ⟨n+1,0,none⟩ (.int .i64 0)).setCell ⟨n+1+1,0,none⟩ (.int .i64 0)).heap[n]? =some (.cells #[nv] 33 (0,0))/\
 (((w2.setCell ⟨n,0,none⟩ nv).setCell ⟨n+1,0,none⟩ (.int .i64 0)).setCell ⟨n+1+1,0,none⟩ (.int .i64 0)).heap[n+1]? =some (.cells #[.int .i64 0] 3 (0,0))/\
 (((w2.setCell ⟨n,0,none⟩ nv).setCell ⟨n+1,0,none⟩ (.int .i64 0)).setCell ⟨n+1+1,0,none⟩ (.int .i64 0)).heap[n+1+1]? =some (.cells #[.int .i64 0] 25 (0,0))/\
 DocP (((w2.setCell ⟨n,0,none⟩ nv).setCell ⟨n+1,0,none⟩ (.int .i64 0)).setCell ⟨n+1+1,0,none⟩ (.int .i64 0)) w.heap.size ⟨nv,ms⟩:=by
 have m0:Mod (fun k=>k=n\/k=n+1\/k=n+1+1) w2 (w2.setCell ⟨n,0,none⟩ nv):=(Mod.refl _ _).setCell _ _ (fun _=> .inl rfl);have m1:Mod (fun k=>k=n\/k=n+1\/k=n+1+1) w2 ((w2.setCell ⟨n,0,none⟩ nv).setCell ⟨n+1,0,none⟩ (.int .i64 0)):=m0.setCell _ _ (fun _=> .inr (.inl rfl));have m2:Mod (fun k=>k=n\/k=n+1\/k=n+1+1) w2 (((w2.setCell ⟨n,0,none⟩ nv).setCell ⟨n+1,0,none⟩ (.int .i64 0)).setCell ⟨n+1+1,0,none⟩ (.int .i64 0)):=m1.setCell _ _ (fun _=> .inr (.inr rfl))
 refine ⟨hb.trans (m2.below hb.size fun k hk=>by omega),?_,?_,?_,?_⟩
 ·refine (aO _ _ (by show ¬n=n+1+1;omega)).trans ?_;refine (aO _ _ (by show ¬n=n+1;omega)).trans ?_;exact aE z0 0 _
 ·refine (aO _ _ (by show ¬n+1=n+1+1;omega)).trans (aE (c:=#[.int .i64 0]) ?_ 0 _);exact (aO _ _ (by show ¬n+1=n;omega)).trans z1
 ·refine aE (c:=#[.int .i64 0]) ?_ 0 _;refine (aO _ _ (by show ¬n+1+1=n+1;omega)).trans ?_;exact (aO _ _ (by show ¬n+1+1=n;omega)).trans z2
 ·exact fx.down (fx.mod (x:=⟨nv,ms⟩) hP m2 (fun g hg=>by have:=(fx.lt (x:=⟨nv,ms⟩) hP g hg).1;omega)) (by omega)
theorem uG {w w3 w2:World} {n rb k:Nat} {lv nv:Value} {ts:List Tok} {ms:List NdM} (hn:n=w.heap.size) (hs:w3.heap.size=n+1+1+1) (hb:Below w.heap.size w w3) (b1:w3.heap[n]? =some (.cells #[.slice none 0 0] 33 (0,0))) (b2:w3.heap[n+1]? =some (.cells #[.int .i64 0] 3 (0,0))) (b3:w3.heap[n+1+1]? =some (.cells #[.int .i64 0] 25 (0,0))) (h:RdS w3 w2 rb lv ts k nv ms):
 (w2.heap[n]? =some (.cells #[.slice none 0 0] 33 (0,0))/\w2.heap[n+1]? =some (.cells #[.int .i64 0] 3 (0,0))/\w2.heap[n+1+1]? =some (.cells #[.int .i64 0] 25 (0,0)))/\Below w.heap.size w w2/\DocP w2 (n+1+1+1) ⟨nv,ms⟩:=by
 refine ⟨⟨(h.below.block _ (by omega)).trans b1,(h.below.block _ (by omega)).trans b2,(h.below.block _ (by omega)).trans b3⟩,hb.trans (h.below.mono (by omega)),h.nr.row,fun g hg=>by have:=(h.nr.new g hg).1;omega,fun m hm=>NdE.down (h.nr.each m hm) (by omega),by have:=h.nr.len;show ms.length<=1048576;omega⟩
theorem xb (w:World) (lv:Value) (ts:List Tok) (htoks:SlR w lv 5 ts Tok.cells) (hwf:∀t∈ts,TokOk t):
 Calls Tryz.prog 69 #[lv] w (JL w (jF ts)):=by
 obtain ⟨b1,b2,b3⟩:=D0 w;have hb3:=yK w;have hs3:=AV w;have ht3:=htoks.later hb3;obtain ⟨ao,cap,rfl,hl,_⟩:=htoks;obtain ⟨n,hn⟩:=ex (ts.length);rw[<-hn]at ht3 |-;have Hn:=hid hn;obtain ⟨X,hX⟩:=ex (jF ts);rw[<-hX];have HX:=hid hX;have Hwf:=hid hwf;have Ht3:=hid ht3;clear hwf hX hn hl ht3;refine calls_of_wp_defers Tryz.func69 rfl ?_;simp only[Tryz.ntmps69,List.size_toArray,aAd,List.length_nil,Nat.reduceAdd,Nat.reduceSub,Array.replicate_succ,Array.replicate_zero,List.push_toArray,List.append_toArray,List.nil_append,List.cons_append]
 go_wp2_with fail
 change Calls _ _ _ ((w3T w).alloc _) _;generalize w3T w=w3 at*;obtain ⟨n0,hn0⟩:=ex (w.heap.size);rw[<-hn0]at b1 b2 b3 hb3 hs3 |-;have hr0:RdS w3 (w3.alloc (.cells #[.slice ao n cap,.int .i64 0,.slice none 0 0] 178)) (n0+1+1+1) (.slice ao n cap) ts 0 (.slice none 0 0) []:=
  ⟨Ht3.o,Hwf.o,(aAb _ _).alloc (aAa _) _,by omega,by rw[<-hs3];exact ah (w:=w3) _,NRow.first _ _ _,Nat.zero_le _⟩
 have Hm:=hid (And.intro hn0 (And.intro hs3 (And.intro (show Below w.heap.size w w3 by rw[<-hn0];exact hb3) (And.intro b1 (And.intro b2 b3)))));refine (fW hr0).mono ?_;rintro r w5 ⟨rfl,h5⟩;have hR5:=hr0.later h5;have Hhas:=hid (fun w5=>C5 w5 (aq ts 0));unfold Tok.a at Hhas |-;clear b1 b2 b3 hb3 hs3 hr0 h5 hn0 Ht3 Hwf;have HR5:=hid hR5;clear hR5
 go_wp2_with fail
 refine (Hhas.o _).mono ?_;rintro r w6 ⟨rfl,h6⟩;have hR:=HR5.o.later h6;clear h6 HR5 Hhas;cases hhas:hasB (aq ts 0) with
 |false=>
  obtain ⟨k,nv,ms,hdx,hR⟩:∃k nv ms,Ax ts= .ok (k,nds ms)/\RdS w3 w6 (n0+1+1+1) (.slice ao n cap) ts k nv ms:=⟨0,_,[],by unfold Ax;rw[hhas];rfl,hR⟩;clear hhas;have hblk:=hR.blk;unfold rdA at hblk;have y1:=af hblk 1;have y2:=af hblk 2;simp at y1 y2;have HR:=hid hR;by_cases hkl:k<n
  ·have tk:decide (k<n)=true:=dT hkl;have bk:(k:Int)<(n:Int):=by omega
   have hXe:X= .error ((aq ts k).line,90):=by rw[HX.o,lD,hdx];simp only;rw[if_pos (by rw[<-Hn.o];exact hkl)]
   have HXe:=hid hXe;clear hR hblk hdx hXe hkl
   go_wp2_with fail
   refine (fW HR.o).mono ?_;rintro r w9 ⟨rfl,h9⟩;have HW:=hid (lC Hm.o.1 Hm.o.2.1 Hm.o.2.2.1 Hm.o.2.2.2.1 Hm.o.2.2.2.2.1 Hm.o.2.2.2.2.2 (HR.o.below.trans (h9.mono HR.o.below.size)));clear h9 y1 y2;unfold Tok.a;have hfld:=sO (aq ts k);go_wp2;refine xg HXe.o ?_ ?_ ?_ ?_ HW.o<;>rfl
  ·have tk:decide (k<n)=false:=dF hkl;have hXe:X= .ok (nds ms):=by rw[HX.o,lD,hdx];simp only;rw[if_neg (by rw[<-Hn.o];exact hkl)]
   have HXe:=hid hXe;have HW:=hid (lC Hm.o.1 Hm.o.2.1 Hm.o.2.2.1 Hm.o.2.2.2.1 Hm.o.2.2.2.2.1 Hm.o.2.2.2.2.2 hR.below);have HE:=hid (uG Hm.o.1 Hm.o.2.1 Hm.o.2.2.1 Hm.o.2.2.2.1 Hm.o.2.2.2.2.1 Hm.o.2.2.2.2.2 hR);obtain ⟨ao2,c2,rfl⟩:=hR.nr.form;have z:=HE.o.1;have z0:=af z.1 0;have z1:=af z.2.1 0;have z2:=af z.2.2 0;have zf0:=ai z.1 0;have zf1:=ai z.2.1 0
   have zf2:=ai z.2.2 0;simp at z0 z1 z2;clear hR hblk hdx hXe hkl z;go_wp2;have HF:=uF HE.o.1.1 HE.o.1.2.1 HE.o.1.2.2 HE.o.2.1 HE.o.2.2 Hm.o.1;exact Dy HXe.o rfl rfl rfl rfl HF.1 HF.2.1 HF.2.2.1 HF.2.2.2.1 HF.2.2.2.2 rfl
 |true=>
  have hB:=yx w3 (n0+1+1+1) (.slice ao n cap) ts 16 (by decide) w6 0 _ [] ⟨#[]⟩ hR hhas (by decide);have HB:=hid hB;have hdx0:Ax ts=match bM ts 16 0 [] ⟨#[]⟩ with| .error e=> .error e| .ok (k,ns,_)=> .ok (k,ns):=by unfold Ax;rw[if_pos hhas]
  have Hdx0:=hid hdx0;clear hR hB hhas hdx0;have hds:nds []=[]:=rfl;rw[hds]at HB;clear hds;generalize bM ts 16 0 [] ⟨#[]⟩=V at*
  go_wp2_with fail
  refine HB.o.mono ?_;intro r w7 hh;cases V with
  |error e=>
   obtain ⟨rfl,h1,h2⟩:=hh;have hXe:X= .error e:=by rw[HX.o,lD,Hdx0.o]
   exact xg hXe rfl rfl rfl rfl (lC Hm.o.1 Hm.o.2.1 Hm.o.2.2.1 Hm.o.2.2.2.1 Hm.o.2.2.2.2.1 Hm.o.2.2.2.2.2 h1)
  |ok y=>
   obtain ⟨k,ns2,i⟩:=y;obtain ⟨hr,nv,ms,hR,hn2,_,_⟩:=hh;subst hr;have hdx:Ax ts= .ok (k,nds ms):=by rw[Hdx0.o,hn2]
   clear HB Hdx0 hn2;have hblk:=hR.blk;unfold rdA at hblk;have y1:=af hblk 1;have y2:=af hblk 2;simp at y1 y2;have HR:=hid hR;by_cases hkl:k<n
   ·have tk:decide (k<n)=true:=dT hkl;have bk:(k:Int)<(n:Int):=by omega
    have hXe:X= .error ((aq ts k).line,90):=by rw[HX.o,lD,hdx];simp only;rw[if_pos (by rw[<-Hn.o];exact hkl)]
    have HXe:=hid hXe;clear hR hblk hdx hXe hkl
    go_wp2_with fail
    refine (fW HR.o).mono ?_;rintro r w9 ⟨rfl,h9⟩;have HW:=hid (lC Hm.o.1 Hm.o.2.1 Hm.o.2.2.1 Hm.o.2.2.2.1 Hm.o.2.2.2.2.1 Hm.o.2.2.2.2.2 (HR.o.below.trans (h9.mono HR.o.below.size)));clear h9 y1 y2;unfold Tok.a;have hfld:=sO (aq ts k);go_wp2;refine xg HXe.o ?_ ?_ ?_ ?_ HW.o<;>rfl
   ·have tk:decide (k<n)=false:=dF hkl;have hXe:X= .ok (nds ms):=by rw[HX.o,lD,hdx];simp only;rw[if_neg (by rw[<-Hn.o];exact hkl)]
    have HXe:=hid hXe;have HW:=hid (lC Hm.o.1 Hm.o.2.1 Hm.o.2.2.1 Hm.o.2.2.2.1 Hm.o.2.2.2.2.1 Hm.o.2.2.2.2.2 hR.below);have HE:=hid (uG Hm.o.1 Hm.o.2.1 Hm.o.2.2.1 Hm.o.2.2.2.1 Hm.o.2.2.2.2.1 Hm.o.2.2.2.2.2 hR);obtain ⟨ao2,c2,rfl⟩:=hR.nr.form;have z:=HE.o.1;have z0:=af z.1 0;have z1:=af z.2.1 0;have z2:=af z.2.2 0;have zf0:=ai z.1 0;have zf1:=ai z.2.1 0
    have zf2:=ai z.2.2 0;simp at z0 z1 z2;clear hR hblk hdx hXe hkl z;go_wp2;have HF:=uF HE.o.1.1 HE.o.1.2.1 HE.o.1.2.2 HE.o.2.1 HE.o.2.2 Hm.o.1;exact Dy HXe.o rfl rfl rfl rfl HF.1 HF.2.1 HF.2.2.1 HF.2.2.2.1 HF.2.2.2.2 rfl
