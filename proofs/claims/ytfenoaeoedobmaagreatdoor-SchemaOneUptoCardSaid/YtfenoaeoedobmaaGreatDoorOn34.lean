/-
Parts of a proof.
-/
import Derived.Test.YtfenoaeoedobmaaGreatDoorOn33
set_option linter.unusedVariables false
set_option linter.unusedSimpArgs false
set_option maxHeartbeats 4000000
set_option maxRecDepth 20000
namespace Go.Proofs.YtfenoaeoedobmaaGreatDoor
open Go Go.RowKit
theorem O7 (w:World) (t:Tok):Calls Tryz.prog 107 #[.agg t.a] w fun r w'=>r= .returned (.bool (pL t))/\Below w.heap.size w w':=by
 unfold Tok.a pL;have h2:(t.kind==2||t.kind==3||t.kind==4)=true\/(t.kind==2||t.kind==3||t.kind==4)=false:=by cases (t.kind==2||t.kind==3||t.kind==4)<;>simp
 by_cases k2:(t.kind==2)=true
 ·rw[k2];go_enter Tryz.func107,Tryz.ntmps107;go_wp2;go_ret;exact ⟨rfl,(aBi _ _).alloc (aBh _) _⟩
 ·replace k2:(t.kind==2)=false:=by cases h:(t.kind==2)<;>simp_all
  by_cases k3:(t.kind==3)=true
  ·rw[k2,k3];clear h2;go_enter Tryz.func107,Tryz.ntmps107;go_wp2;go_ret;exact ⟨rfl,(aBi _ _).alloc (aBh _) _⟩
  ·replace k3:(t.kind==3)=false:=by cases h:(t.kind==3)<;>simp_all
   cases k4:(t.kind==4)<;>rw[k2,k3]
   all_goals
    clear h2;go_enter Tryz.func107,Tryz.ntmps107;go_wp2;go_ret;exact ⟨rfl,(aBi _ _).alloc (aBh _) _⟩
def mS (k:Nat) (ns:List Nd) (d:Nat) (kind:Int) (key:ByteArray) (t:Tok):Except Flt (Nat×List Nd×Nat):=
 match j4 ns d kind key t with| .error e=> .error e| .ok ns2=> .ok (k,ns2,ns.length)
theorem wG (ms:List NdM) (m:NdM):nds (ms++[m])=nds ms++[m.nd]:=by unfold nds;rw[List.map_append];rfl
theorem Lk {w0 w w1 w5:World} {rb:Nat} {lv:Value} {ts:List Tok} {k n:Nat} {ao gd:Option Addr} {c c5:Nat} {ms:List NdM} (h:RdS w0 w rb lv ts k (.slice ao ms.length c) ms) {kind:Int} {key:ByteArray} {t:Tok} (hn:n=ms.length) (hk:I64 kind) (cl:key.size<=1048576) (ht:TokOk t) (hlen:n<4096)
 (bG:Below w.heap.size w w1) (aB:w5.ownsRow 0 55 6 (.slice gd (n+1) c5) (n+1) (ms.flatMap NdM.cells++NdM.cells ⟨⟨kind,key,⟨#[]⟩,false,t.line,[]⟩,.slice none 0 0⟩)) (bC:w1.grownBy w5 (Value.slice ao n c).ownBlock)
 (aA:∀g,(Value.slice gd (n+1) c5).ownBlock=some g->(Value.slice ao n c).ownBlock=some g\/w1.heap.size<=g):
 w5.heap[rb]? =some (.cells #[lv,.int .i64 (k:Int),.slice ao n c] 178 (0,0))/\
 RdS w0 (w5.setCell ⟨rb,2,none⟩ (.slice gd (n+1) c5)) rb lv ts k (.slice gd (n+1) c5) (ms++[⟨⟨kind,key,⟨#[]⟩,false,t.line,[]⟩,.slice none 0 0⟩])/\
 Mod (RdF rb (.slice ao n c) ms) w (w5.setCell ⟨rb,2,none⟩ (.slice gd (n+1) c5))/\
 ∀g,nOwn (.slice gd (n+1) c5) (ms++[⟨⟨kind,key,⟨#[]⟩,false,t.line,[]⟩,.slice none 0 0⟩]) g->nOwn (.slice ao n c) ms g\/w.heap.size<=g:=by
 subst hn;have h1:=h.later bG;obtain ⟨FF,lG⟩:=h.nr.app (x:=⟨kind,key,⟨#[]⟩,false,t.line,[]⟩) h.below.size bG (af h.blk) rfl hk ht.line (show (0:Nat)<=1048576 by decide) cl hlen aB bC aA;have hM:Mod (fun b=>(Value.slice ao ms.length c).ownBlock=some b) w1 w5:=(Mod.refl _ _).grown bC (fun b e _=>e);have bg:w5.heap[rb]? =some (.cells (rdA lv k (.slice ao ms.length c)) 178 (0,0)):=hM.heap h1.blk (fun e=>(h.nr.new rb e).2 rfl)
 have hS:Mod (fun b=>b=rb) w5 (w5.setCell ⟨rb,2,none⟩ (.slice gd (ms.length+1) c5)):=(Mod.refl _ _).setCell _ _ (fun _=>rfl);have hW:Mod (RdF rb (.slice ao ms.length c) ms) w (w5.setCell ⟨rb,2,none⟩ (.slice gd (ms.length+1) c5)):=
  ((Mod.ofBelow (F:=RdF rb (.slice ao ms.length c) ms) bG (fun b hb mQ=>by omega)).trans' hM (fun i hi q=> .inr (.inl q))).trans' hS (fun i hi q=> .inl q)
 refine ⟨bg,⟨h.lX,h.wf,h.below.trans (hW.below h.below.size (fun b hb=>(h.rd_lt hb).1)),h.rge,aI bg 2 _,FF.mod hS (fun g hg e=>(FF.own_lt hg).2.2 e),h.kle⟩,hW,fun g hg=> ?_⟩;rcases lG g hg with q|q
 ·exact .inl q
 ·exact .inr (aBl bG.size q)
theorem rz {w0 w:World} {rb:Nat} {lv:Value} {ts:List Tok} {k:Nat} {nv:Value} {ms:List NdM} (h:RdS w0 w rb lv ts k nv ms) (d:Nat) (hd:d<=17) (kind:Int) (hk:I64 kind) (key:ByteArray) (cl:key.size<=1048576) (t:Tok) (ht:TokOk t):
 Calls Tryz.prog 148 #[.pointer (some ⟨rb,0,none⟩),.int .i64 kind,.int .i64 ((17-d:Nat):Int),.string key,.agg t.a] w (dB w0 w rb lv ts nv ms (mS k (nds ms) d kind key t)):=by
 unfold Tok.a;obtain ⟨ao,c,rfl⟩:=h.nr.form;have bg:=h.blk;unfold rdA at bg;have f0:=fun ob=>(ai (w:=w) ob (af bg)).trans bg;have y2:=fun ob=>aa (f0 ob) 2;simp at y2;obtain ⟨n,hn⟩:=ex (ms.length);rw[<-hn]at y2;have uF:(nds ms).length=n:=by rw[bP,hn]
 by_cases hb:d=0\/n=4096
 ·have hx:mS k (nds ms) d kind key t= .error (t.line,92):=by unfold mS j4;rw[uF,if_pos hb]
  rw[hx];have HE:=hid (fun ob=>show Below w0.heap.size w0 (w.alloc ob)/\w.heap.size<=(w.alloc ob).heap.size from ⟨h.below.alloc h.below.size _,by simp⟩);rw[<-hn];clear h bg f0 hx uF hn ht hk cl;by_cases Ua:d=0
  ·subst Ua;go_enter Tryz.func148,Tryz.ntmps148;go_wp2;exact ⟨rfl,rfl,HE.o _⟩
  ·obtain rfl:n=4096:=by rcases hb with q|q;exact absurd q Ua;exact q
   have b1:((17-d:Nat):Int)<=16:=by omega
   clear hb;go_enter Tryz.func148,Tryz.ntmps148;go_wp2;exact ⟨rfl,rfl,HE.o _⟩
 ·have b1:decide ((16:Int)<((17-d:Nat):Int))=false:=dF (by omega);have b2:((n:Int)==4096)=false:=beq_eq_false_iff_ne.2 (by omega);have Hw:=hid (show wrap64 (n:Int)=(n:Int) from bK (by omega) (by have:=h.nr.len;omega));have hx:mS k (nds ms) d kind key t= .ok (k,nds ms++[⟨kind,key,⟨#[]⟩,false,t.line,[]⟩],n):=by unfold mS j4;rw[uF,if_neg hb]
  have hlen:n<4096:=by have:=h.nr.len;omega
  rw[hx,<-hn];have g2:w.cell? ⟨rb,2,none⟩=some (.slice ao n c):=by rw[hn];have:=aa bg 2;simpa using this
  have gf:=ah bg;have w2f:=fun E6 GS=>(ai (w:=w.alloc E6) GS (af (f0 E6))).trans (f0 E6);have x2:=fun E6 GS=>aa (w2f E6 GS) 2;have xf:=fun E6 GS j=>ah (w2f E6 GS) j;simp at x2;rw[<-hn]at x2;have z1:=fun (GS:Obj)=>aa ((ai (w:=w.alloc (.cells #[.int .i64 t.kind,.int .i64 t.line,.int .i64 t.col,.string ⟨t.text.toArray⟩,.bool t.quoted] 121)) GS (by simp:w.heap.size<_)).trans (ag (w:=w) _)) 1
  simp at z1;have b9:=hid (fun nd E6 GS=>show (((w.alloc E6).drewN nd).alloc GS).ownsRow 0 55 6 (.slice ao n c) n (ms.flatMap NdM.cells) from by
   have:=h.nr.row;rw[hn];exact World.ownsRow.alloc (w:=(w.alloc E6).drewN nd) (this.alloc E6) GS)
  have H:=hid h;have Hn:=hid hn;have Hb:=hid (And.intro hk (And.intro cl (And.intro ht hlen)));have Tp:=hid (show n<=1000000 by omega);have aX:=hid (fun E6 GS gd c5 (w5:World) (a1:w5.ownsRow 0 55 6 (.slice gd (n+1) c5) (n+1) (ms.flatMap NdM.cells++NdM.cells ⟨⟨kind,key,⟨#[]⟩,false,t.line,[]⟩,.slice none 0 0⟩))
   (a2:(((w.alloc E6).alloc GS).drew).grownBy w5 (Value.slice ao n c).ownBlock) (a3:∀g,(Value.slice gd (n+1) c5).ownBlock=some g->(Value.slice ao n c).ownBlock=some g\/((w.alloc E6).alloc GS).drew.heap.size<=g)=>Lk h hn hk cl ht hlen (((((aBi _ _).alloc (aBh _) E6).alloc (by simp) GS)).drew) a1 a2 a3)
  have Ec:=hid (show 0<6 by decide);have Lu:=hid (show 80<=1000 by decide);clear h hn hx uF hlen hb bg f0 w2f hk cl ht hd;go_enter Tryz.func148,Tryz.ntmps148;go_wp2
  go_region_law (refine zZ 55 33 (.agg #[.int .i64 0,.string ⟨#[]⟩,.string ⟨#[]⟩,.bool false,.int .i64 0,.slice none 0 0]) 6 80 Tryz.underlying33 ou rfl Ec.o Lu.o rfl _ _ rfl (.slice ao n c) n (ms.flatMap NdM.cells) rfl (b9.o _ _ _) (w.heap.size+1) #[.int .i64 kind,.string key,.string ⟨#[]⟩,.bool false,.int .i64 t.line,.slice none 0 0] (NdM.cells ⟨⟨kind,key,⟨#[]⟩,false,t.line,[]⟩,.slice none 0 0⟩) rfl (pQ _ _ _) rfl rfl (Aw _ rfl) Tp.o (n+1) rfl ?_;intro gd c5 w5 aB bC aA;have HE:=hid (aX.o _ _ _ _ _ aB bC aA);have q1:=aa (HE.o.1) 2;have q2:=ah HE.o.1 2;simp at q1;clear aB bC aA)
  all_goals go_wp2
  all_goals refine bodyPost_ret (results_tmp (t:=10) rfl _ _ _) rfl ⟨congrArg (fun z=>Ending.returned (.int .i64 z)) Hw.o,_,_,HE.o.2.1,?_,HE.o.2.2.1,HE.o.2.2.2⟩
  all_goals exact wG _ _
theorem dB.base {w0 w w3 w':World} {rb:Nat} {lv:Value} {ts:List Tok} {nv:Value} {ms:List NdM} {x:Except Flt (Nat×List Nd×Nat)} {r:Ending} (hb:Below w.heap.size w w3) (h:dB w0 w3 rb lv ts nv ms x r w'):dB w0 w rb lv ts nv ms x r w':=by
 cases x with
 |error e=>exact ⟨h.1,h.2.1,aBl hb.size h.2.2⟩
 |ok y=>
  obtain ⟨hr,l9,ij,hR,hn,hm,ho⟩:=h;refine ⟨hr,l9,ij,hR,hn,(Mod.ofBelow (F:=RdF rb nv ms) hb (fun k hk mQ=>by omega)).trans hm,fun g hg=> ?_⟩;rcases ho g hg with q|q
  ·exact .inl q
  ·exact .inr (aBl hb.size q)
def tw (w0:World) (rb:Nat) (lv:Value) (ts:List Tok) (d:Nat):Prop:=
 ∀(w:World) (k:Nat) (nv:Value) (ms:List NdM) (key:ByteArray),RdS w0 w rb lv ts k nv ms->pL (au ts k)=true->key.size<=1048576->
  Calls Tryz.prog 109 #[.pointer (some ⟨rb,0,none⟩),.int .i64 ((17-d:Nat):Int),.string key] w (dB w0 w rb lv ts nv ms (bo ts d k (nds ms) key))
theorem Gw {w0 w:World} {rb:Nat} {lv:Value} {ts:List Tok} {k:Nat} {nv:Value} {ms:List NdM} (h:RdS w0 w rb lv ts k nv ms) (d:Nat) (hd:d<=16) (is:Bool) (t:Tok) (ht:TokOk t) (key:ByteArray) (cl:key.size<=1048576) (IH:tw w0 rb lv ts d):
 Calls Tryz.prog 181 #[.pointer (some ⟨rb,0,none⟩),.bool is,.agg t.a,.int .i64 ((17-d:Nat):Int),.string key] w (dB w0 w rb lv ts nv ms (iL (bo ts d) ts d is t k (nds ms) key)):=by
 have bG:∀ob,Below w.heap.size w (w.alloc ob):=fun ob=>(aBi _ _).alloc (aBh _) ob;cases is with
 |false=>
  have Hx:=hid (show iL (bo ts d) ts d false t k (nds ms) key=mS k (nds ms) d 1 key t from rfl);have jm:=hid (fun ob=>(rz (h.later (bG ob)) d (by omega) 1 (by decide) key cl t ht).mono (fun r w' hh=>dB.base (bG ob) hh));rw[Hx.o];clear Hx h IH cl ht hd bG;generalize mS k (nds ms) d 1 key t=X at*;unfold Tok.a at jm |-;go_enter Tryz.func181,Tryz.ntmps181
  go_wp2_with fail
  refine (jm.o _).mono ?_;intro r w' hh;cases X with
  |error e=>
   obtain ⟨rfl,h1,h2⟩:=hh;exact ⟨rfl,rfl,h1,h2⟩
  |ok y=>
   obtain ⟨k2,ns2,i⟩:=y;obtain rfl:=hh.1;have HH:=hid hh;clear hh jm;go_wp2;exact bodyPost_ret (results_tmp (t:=10) rfl _ _ _) rfl HH.o
 |true=>
  have tg:=hid (fun ob=>jc (h.later (bG ob)));have H:=hid h;have Hb:=hid bG;have Ht:=hid (And.intro cl (And.intro ht hd));have IH:=hid IH;cases nK:pL (au ts k) with
  |false=>
   have hx:iL (bo ts d) ts d true t k (nds ms) key=mS k (nds ms) d 1 key t:=by unfold iL;rw[nK];rfl
   rw[hx];have jm:=hid (fun w3 (hb:Below w.heap.size w w3)=>(rz (h.later hb) d (by omega) 1 (by decide) key cl t ht).mono (fun r w' hh=>dB.base hb hh));have tr:=hid (fun w3=>O7 w3 (au ts k));rw[nK]at tr;clear hx h cl ht hd bG nK H IH Ht;generalize mS k (nds ms) d 1 key t=X at*;generalize au ts k=n at*;unfold Tok.a at jm tg tr |-;go_enter Tryz.func181,Tryz.ntmps181
   go_wp2_with fail
   refine (tg.o _).mono ?_;rintro r w2 ⟨rfl,h2⟩;have ie:=hid ((Hb.o _).trans (h2.mono (Hb.o _).size));have c0:=fun j v hc=>cA (p:=⟨w.heap.size,j,none⟩) (v:=v) h2 hc;have y0:=c0 0 _ (aa (ag (w:=w) _) 0);have y1:=c0 1 _ (aa (ag (w:=w) _) 1);have y2:=c0 2 _ (aa (ag (w:=w) _) 2);have y3:=c0 3 _ (aa (ag (w:=w) _) 3);have y4:=c0 4 _ (aa (ag (w:=w) _) 4)
   simp at y0 y1 y2 y3 y4;clear h2 c0 tg
   go_wp2_with fail
   refine (tr.o _).mono ?_;rintro r w3 ⟨rfl,h3⟩;have iF:=hid (ie.o.trans (h3.mono ie.o.size))
   replace y0:=cA h3 y0
   replace y1:=cA h3 y1
   replace y2:=cA h3 y2
   replace y3:=cA h3 y3
   replace y4:=cA h3 y4
   clear h3 tr ie
   go_wp2_with fail
   refine (jm.o _ iF.o).mono ?_;intro r w' hh;cases X with
   |error e=>
    obtain ⟨rfl,h1,h2⟩:=hh;exact ⟨rfl,rfl,h1,h2⟩
   |ok y=>
    obtain ⟨k2,ns2,i⟩:=y;obtain rfl:=hh.1;have HH:=hid hh;clear hh jm y0 y1 y2 y3 y4;go_wp2;exact bodyPost_ret (results_tmp (t:=10) rfl _ _ _) rfl HH.o
  |true=>
   have hx:iL (bo ts d) ts d true t k (nds ms) key=bo ts d k (nds ms) key:=by unfold iL;rw[nK];rfl
   rw[hx];have jm:=hid (fun w3 (hb:Below w.heap.size w w3)=>(IH.o w3 k nv ms key (h.later hb) nK cl).mono (fun r w' hh=>dB.base hb hh));have tr:=hid (fun w3=>O7 w3 (au ts k));rw[nK]at tr;clear hx h cl ht hd bG nK H IH Ht;generalize bo ts d k (nds ms) key=X at*;generalize au ts k=n at*;unfold Tok.a at tg tr |-;go_enter Tryz.func181,Tryz.ntmps181
   go_wp2_with fail
   refine (tg.o _).mono ?_;rintro r w2 ⟨rfl,h2⟩;have ie:=hid ((Hb.o _).trans (h2.mono (Hb.o _).size));clear h2 tg
   go_wp2_with fail
   refine (tr.o _).mono ?_;rintro r w3 ⟨rfl,h3⟩;have iF:=hid (ie.o.trans (h3.mono ie.o.size));clear h3 tr ie
   go_wp2_with fail
   refine (jm.o _ iF.o).mono ?_;intro r w' hh;cases X with
   |error e=>
    obtain ⟨rfl,h1,h2⟩:=hh;exact ⟨rfl,rfl,h1,h2⟩
   |ok y=>
    obtain ⟨k2,ns2,i⟩:=y;obtain rfl:=hh.1;have HH:=hid hh;clear hh jm;go_wp2;exact bodyPost_ret (results_tmp (t:=10) rfl _ _ _) rfl HH.o
theorem m9 {w:World} {ops:Array Oper} {o:Oper} {a:Act} {K:Act->World->Prop} {Q:Exit->Act->World->Prop} {E:Prop} (e sl:TypeId) (z:Value) (size nb:Nat) (jg: Tryz.prog.underlying sl=some (.slice e))
 (oN:(Tryz.prog.info? e).map (fun i=>(i.zero,i.size,i.bytes))=some (some z,size,nb)) (xR:z.cells.size=size) (gQ:0<size) (Sr:nb<=1000) (ln:o.guard=none) (s x:Operand)
 (ho:o.op= .call {callee:= .builtin .append,args:=#[s,x],argTypes:=#[sl,sl]})
 (v:Value) (n:Nat) (xs:List Value) (hs:a.eval s=v) (dh:w.ownsRow 0 e size v n xs) (g:Nat) (arr:Array Value) (news:List Value) (hx:a.eval x= .slice (some ⟨g,0,none⟩) 1 1)
 (ku:w.heap[g]? =some (.cells arr e (0,0))) (eC:arr.toList=news) (hl:news.length=size) (h1:∀u∈news,u.oneCell'=true) (hlen:n<=2000000) (q:Nat) (hq:q=n+1)
 (h:∀fj c' w',w'.ownsRow 0 e size (.slice fj q c') q (xs++news)->w.grownBy w' v.ownBlock->(∀g,(Value.slice fj q c').ownBlock=some g->v.ownBlock=some g\/w.heap.size<=g)->
  K (a.put o.dst (.slice fj q c')) w'):if Region.wanted o (yielded ops a.tmps)=true then Oper.wp Tryz.prog o a w K Q else E:=by
 obtain ⟨i,hi,hz,js,FP⟩:=info_parts oN;subst hq;refine jU w ln s x sl ho e i z size nb jg hi hz js FP xR gQ v n xs hs dh (some ⟨g,0,none⟩) 1 1 news hx (by omega) (fun hn=>by cases hn) (fun ad had=> ?_) h1 (by unfold maxLen;omega) ?_ ?_
 ·obtain rfl:=aBm had;intro j u hj;have e2:Addr.add ⟨g,0,none⟩ j=⟨g,j,none⟩:=by
   simp[Addr.add];exact fun h=>h.symm
  rw[e2,aa ku,<-Array.getElem?_toList,eC];exact hj
 ·have h3:(n+1)*nb<=2000001*1000:=Nat.mul_le_mul (by omega) Sr;omega
 ·intro v' w' h1 h2 h3;have hf:∃fj c',v'= .slice fj (n+1) c':=by
   rcases h1.2 with ⟨hv,hn⟩|⟨g,cap,cur,hv,_⟩
   ·rw[hv,hn];exact ⟨none,0,rfl⟩
   ·exact ⟨_,_,hv⟩
  obtain ⟨fj,c',rfl⟩:=hf;exact h fj c' w' h1 h2 h3
theorem Av {ms:List NdM} {i:Nat} {m':NdM}:nds (ms.set i m')=(nds ms).set i m'.nd:=by unfold nds;rw[List.map_set]
theorem sE {ms:List NdM} {i kid:Nat} {m:NdM} (h:ms[i]? =some m) (kv:Value):nds (ms.set i ⟨{m.nd with kids:=m.nd.kids++[(kid:Int)]},kv⟩)=cF (nds ms) i kid:=by
 rw[Av];unfold cF;have:(nds ms)[i]? =some m.nd:=by unfold nds;rw[List.getElem?_map,h];rfl
 rw[this]
theorem H5 {w0 w w1 w5:World} {rb:Nat} {lv:Value} {ts:List Tok} {k i kid q g:Nat} {nv:Value} {gd:Option Addr} {c5:Nat} {ms:List NdM} {m:NdM} (h:RdS w0 w rb lv ts k nv ms) (hi:ms[i]? =some m) (hg:nv.ownBlock=some g) (hq:q=m.nd.kids.length) (LA:q<1048576)
 (bG:Below w.heap.size w w1) (aB:w5.ownsRow 0 3 1 (.slice gd (q+1) c5) (q+1) (m.nd.kids.flatMap dM++[.int .i64 (kid:Int)])) (bC:w1.grownBy w5 m.kv.ownBlock)
 (aA:∀g,(Value.slice gd (q+1) c5).ownBlock=some g->m.kv.ownBlock=some g\/w1.heap.size<=g):
 Mod (RdF rb nv ms) w w5/\w5.heap[rb]? =w.heap[rb]? /\w5.heap[g]? =w.heap[g]? /\
 RdS w0 (w5.setCell ⟨g,i*6+5,none⟩ (.slice gd (q+1) c5)) rb lv ts k nv (ms.set i ⟨{m.nd with kids:=m.nd.kids++[(kid:Int)]},.slice gd (q+1) c5⟩)/\
 Mod (RdF rb nv ms) w (w5.setCell ⟨g,i*6+5,none⟩ (.slice gd (q+1) c5))/\
 ∀b,nOwn nv (ms.set i ⟨{m.nd with kids:=m.nd.kids++[(kid:Int)]},.slice gd (q+1) c5⟩) b->nOwn nv ms b\/w.heap.size<=b:=by
 subst hq;have h1:=h.later bG;have pG:=List.mem_of_getElem? hi;have hP:=h1.nr.each m pG;have hM:Mod (fun b=>m.kv.ownBlock=some b) w1 w5:=(Mod.refl _ _).grown bC (fun b e _=>e);have hrb:w5.heap[rb]? =w1.heap[rb]? :=hM.block rb (af h1.blk) (fun e=>(h.nr.kid m pG rb e).2 rfl);have KM:w5.heap[g]? =w1.heap[g]? :=hM.block g (h1.nr.row.lt g hg).2 (fun e=>(h.nr.kid m pG g e).1 hg);have hW:Mod (RdF rb nv ms) w w5:=(Mod.ofBelow (F:=RdF rb nv ms) bG (fun b hb mQ=>by omega)).trans' hM (fun b hb q=> .inr (.inr ⟨m,pG,q⟩))
 have hS:Mod (fun b=>b=g) w5 (w5.setCell ⟨g,i*6+5,none⟩ (.slice gd (m.nd.kids.length+1) c5)):=(Mod.refl _ _).setCell _ _ (fun _=>rfl);have O9:Mod (RdF rb nv ms) w (w5.setCell ⟨g,i*6+5,none⟩ (.slice gd (m.nd.kids.length+1) c5)):=hW.trans' hS (fun b hb q=> .inr (.inl (by rw[q];exact hg)));have xU:g≠rb:=(h.nr.new g hg).2;have hP5:NdP w5 w0.heap.size ⟨{m.nd with kids:=m.nd.kids++[(kid:Int)]},.slice gd (m.nd.kids.length+1) c5⟩:=by
  refine ⟨?_,fun b hb=> ?_,hP.kind,hP.line,hP.text,hP.key,?_⟩
  ·show w5.ownsRow 0 3 1 (.slice gd (m.nd.kids.length+1) c5) (m.nd.kids++[(kid:Int)]).length ((m.nd.kids++[(kid:Int)]).flatMap dM)
   rw[aBj,List.flatMap_append,List.flatMap_singleton];exact aB
  ·rcases aA b hb with q|q
   ·exact hP.fresh b q
   ·exact aBl h1.below.size q
  ·show (m.nd.kids++[(kid:Int)]).length<=1048576
   rw[aBj];simp;omega
 have hN:=NRowM.kids (m':=⟨{m.nd with kids:=m.nd.kids++[(kid:Int)]},.slice gd (m.nd.kids.length+1) c5⟩) h1.nr h1.below.size (af h1.blk) hi hg hM rfl hP5 aA;refine ⟨hW,hrb.trans (bG.block _ (af h.blk)),KM.trans (bG.block _ (h.nr.row.lt g hg).2),⟨h.lX,h.wf,h.below.trans (O9.below h.below.size (fun b hb=>(h.rd_lt hb).1)),h.rge,?_,hN,h.kle⟩,O9,fun b hb=> ?_⟩
 ·rw[hS.block rb (Nat.lt_of_lt_of_le (af h1.blk) hM.size) (fun e=>xU e.symm),hrb];exact h1.blk
 ·rcases hb with hb|⟨x,hx,hb⟩
  ·exact .inl (.inl hb)
  ·rcases List.mem_or_eq_of_mem_set hx with hx|rfl
   ·exact .inl (.inr ⟨x,hx,hb⟩)
   ·rcases aA b hb with q|q
    ·exact .inl (.inr ⟨m,pG,q⟩)
    ·exact .inr (aBl bG.size q)
def lP (n:Nat) (ns ns2:List Nd):Prop:=ns.length<=ns2.length/\∀j,j<n->ns2[j]? =ns[j]?
theorem lP.refl (n:Nat) (ns:List Nd):lP n ns ns:=⟨aBh _,fun _ _=>rfl⟩
theorem lP.trans {n:Nat} {a b c:List Nd} (h:lP n a b) (k:lP n b c):lP n a c:=⟨aBl h.1 k.1,fun j hj=>(k.2 j hj).trans (h.2 j hj)⟩
theorem lP.mono {n m:Nat} {a b:List Nd} (h:lP n a b) (hm:m<=n):lP m a b:=⟨h.1,fun j hj=>h.2 j (by omega)⟩
theorem pD (ns:List Nd) (i kid:Nat):(cF ns i kid).length=ns.length:=by
 unfold cF
 split
 ·rw[List.length_set]
 ·rfl
theorem wZ (ns:List Nd) (i kid:Nat):lP i ns (cF ns i kid):=by
 refine ⟨by rw[pD];exact aBh _,fun j hj=> ?_⟩;unfold cF
 split
 ·rw[List.getElem?_set_ne (by omega)]
 ·rfl
theorem vz (ns r:List Nd):lP ns.length ns (ns++r):=⟨by rw[aBj];omega,fun j hj=>List.getElem?_append_left hj⟩
def Tl (blk:Blk):Prop:=∀k ns key k2 ns2 i,blk k ns key= .ok (k2,ns2,i)->lP ns.length ns ns2/\ns.length<ns2.length/\i=ns.length
theorem ov {ns:List Nd} {d:Nat} {kind:Int} {key:ByteArray} {t:Tok} {xQ:List Nd} (h:j4 ns d kind key t= .ok xQ):xQ=ns++[⟨kind,key,⟨#[]⟩,false,t.line,[]⟩]/\0<d:=by
 unfold j4 at h
 split at h
 ·cases h
 ·injection h with h
  exact ⟨h.symm,by omega⟩
theorem n9 {blk:Blk} (hb:Tl blk) {ts:List Tok} {d:Nat} {is:Bool} {t:Tok} {k:Nat} {ns:List Nd} {key:ByteArray} {k2:Nat} {ns2:List Nd} {i:Nat} (h:iL blk ts d is t k ns key= .ok (k2,ns2,i)):lP ns.length ns ns2/\ns.length<ns2.length/\i=ns.length:=by
 unfold iL at h
 split at h
 ·exact hb _ _ _ _ _ _ h
 ·split at h
  ·cases h
  ·rename_i BB hn
   injection h with h
   injection h with h1 h2
   injection h2 with h2 h3
   obtain ⟨e,_⟩:=ov hn;rw[<-h2,<-h3,e];exact ⟨vz _ _,by rw[aBj];simp,rfl⟩
theorem wP {blk:Blk} (hb:Tl blk) {ts:List Tok} {d:Nat} {col:Int} {i:Nat}:∀(f k:Nat) (ns:List Nd) (k2:Nat) (ns2:List Nd),dv blk ts d col i f k ns= .ok (k2,ns2)->i<ns.length->lP i ns ns2
 |0,k,ns,k2,ns2,h,_=>by
  unfold dv at h;injection h with h
  injection h with h1 h2
  rw[h2];exact lP.refl _ _
 |f+1,k,ns,k2,ns2,h,hi=>by
  unfold dv at h;simp only at h
  split at h
  ·split at h
   ·cases h
   ·rename_i k3 BB kid hv
    have h1:=n9 hb hv;have h2:=wP hb f _ _ _ _ h (by rw[pD];omega);exact ((h1.1.mono (by omega)).trans (wZ BB i kid)).trans h2
  ·injection h with h
   injection h with h1 h2
   rw[h2];exact lP.refl _ _
theorem xr {blk:Blk} (hb:Tl blk) {ts:List Tok} {d:Nat} {col:Int} {i:Nat}:∀(f:Nat) (seen:List (List UInt8)) (k:Nat) (ns:List Nd) (k2:Nat) (ns2:List Nd),c9 blk ts d col i f seen k ns= .ok (k2,ns2)->i<ns.length->lP i ns ns2
 |0,seen,k,ns,k2,ns2,h,_=>by
  unfold c9 at h;injection h with h
  injection h with h1 h2
  rw[h2];exact lP.refl _ _
 |f+1,seen,k,ns,k2,ns2,h,hi=>by
  unfold c9 at h;simp only at h
  split at h
  ·split at h
   ·cases h
   ·split at h
    ·cases h
    ·rename_i k3 BB kid hv
     have h1:=n9 hb hv;have h2:=xr hb f _ _ _ _ _ h (by rw[pD];omega);exact ((h1.1.mono (by omega)).trans (wZ BB i kid)).trans h2
  ·injection h with h
   injection h with h1 h2
   rw[h2];exact lP.refl _ _
def uK (L:Except Flt (Nat×List Nd)) (i:Nat):Except Flt (Nat×List Nd×Nat):=match L with| .error e=> .error e| .ok (k2,ns2)=> .ok (k2,ns2,i)
def q8 (ts:List Tok) (D k:Nat) (ns:List Nd) (key:ByteArray) (t:Tok):Except Flt (Nat×List Nd×Nat):=
 match j4 ns D 2 key t with
 | .error e=> .error e
 | .ok xQ=>uK (c9 (bo ts (D-1)) ts (D-1) t.col ns.length (ts.length-k) [] k xQ) ns.length
def qE (ts:List Tok) (D k:Nat) (ns:List Nd) (key:ByteArray) (t:Tok):Except Flt (Nat×List Nd×Nat):=
 match j4 ns D 3 key t with
 | .error e=> .error e
 | .ok xQ=>uK (dv (bo ts (D-1)) ts (D-1) t.col ns.length (ts.length-k) k xQ) ns.length
def tT (ts:List Tok) (D k:Nat) (ns:List Nd) (key:ByteArray) (t:Tok):Except Flt (Nat×List Nd×Nat):=
 match j4 ns D 1 key t with
 | .error e=> .error e
 | .ok _=> .ok (k+1,ns++[⟨1,key,⟨t.text.toArray⟩,t.quoted,t.line,[]⟩],ns.length)
theorem DK (ts:List Tok) (D k:Nat) (ns:List Nd) (key:ByteArray):bo ts D k ns key=if (au ts k).kind=3 then q8 ts D k ns key (au ts k) else if (au ts k).kind=2 then qE ts D k ns key (au ts k) else tT ts D k ns key (au ts k):=by
 cases D with
 |zero=>
  have h0:∀kind,j4 ns 0 kind key (au ts k)= .error ((au ts k).line,92):=fun kind=>by unfold j4;rw[if_pos (Or.inl rfl)]
  unfold bo q8 qE tT;rw[h0,h0,h0]
  split
  ·rfl
  ·split<;>rfl
 |succ d=>
  rw[bo];unfold q8 qE tT;rw[Nat.add_sub_cancel]
  split
  ·split
   ·rename_i e h;rw[h]
   ·rename_i n h;rw[h];unfold uK;rfl
  ·split
   ·split
    ·rename_i e h;rw[h]
    ·rename_i n h;rw[h];unfold uK;rfl
   ·split
    ·rename_i e h;rw[h]
    ·rename_i n h;rw[h]
theorem nT (ts:List Tok):∀d,Tl (bo ts d)
 |0=>fun k ns key k2 ns2 i h=>by unfold bo at h;cases h
 |d+1=>fun k ns key k2 ns2 i h=>by
  have ih:=nT ts d;rw[DK]at h;unfold q8 qE tT at h;rw[Nat.add_sub_cancel]at h
  split at h
  ·split at h
   ·cases h
   ·rename_i xQ hn
    obtain ⟨e,_⟩:=ov hn;unfold uK at h
    split at h
    ·cases h
    ·rename_i k3 BB hd
     injection h with h
     injection h with h1 h2
     injection h2 with h2 h3
     subst h2 h3;have hk:=xr ih _ _ _ _ _ _ hd (by rw[e,aBj];simp);rw[e]at hk;have h4:=(vz ns _).trans hk;exact ⟨h4,by have:=hk.1;rw[aBj]at this;simp at this;omega,rfl⟩
  ·split at h
   ·split at h
    ·cases h
    ·rename_i xQ hn
     obtain ⟨e,_⟩:=ov hn;unfold uK at h
     split at h
     ·cases h
     ·rename_i k3 BB hd
      injection h with h
      injection h with h1 h2
      injection h2 with h2 h3
      subst h2 h3;have hk:=wP ih _ _ _ _ _ hd (by rw[e,aBj];simp);rw[e]at hk;have h4:=(vz ns _).trans hk;exact ⟨h4,by have:=hk.1;rw[aBj]at this;simp at this;omega,rfl⟩
   ·split at h
    ·cases h
    ·injection h with h
     injection h with h1 h2
     injection h2 with h2 h3
     rw[<-h2,<-h3];exact ⟨vz _ _,by rw[aBj];simp,rfl⟩
theorem Kg {blk:Blk} {ts:List Tok} {d:Nat} {col:Int} {i k:Nat} {ns:List Nd} (f:Nat) (h:¬((au ts k).kind=2/\(au ts k).col=col)):dv blk ts d col i f k ns= .ok (k,ns):=by
 cases f with
 |zero=>rfl
 |succ f=>
  unfold dv;simp only;rw[if_neg h]
theorem Kh {blk:Blk} {ts:List Tok} {d:Nat} {col:Int} {i k:Nat} {ns:List Nd} {e:Flt} (h:(au ts k).kind=2/\(au ts k).col=col) (hv:iL blk ts d (jf (au ts (k+1)) (au ts k)) (au ts k) (k+1) ns ⟨#[]⟩= .error e):
 dv blk ts d col i (ts.length-k) k ns= .error e:=by
 have hk:=gE (ts:=ts) (k:=k) (by rw[h.1];decide);rw[show ts.length-k=(ts.length-k-1)+1 by omega];unfold dv;simp only;rw[if_pos h,hv]
theorem Fp {blk:Blk} {ts:List Tok} (hb:D3 ts blk) {d:Nat} {col:Int} {i k k2 kid:Nat} {ns ns2:List Nd} (h:(au ts k).kind=2/\(au ts k).col=col) (hv:iL blk ts d (jf (au ts (k+1)) (au ts k)) (au ts k) (k+1) ns ⟨#[]⟩= .ok (k2,ns2,kid)):
 dv blk ts d col i (ts.length-k) k ns=dv blk ts d col i (ts.length-k2) k2 (cF ns2 i kid)/\k<k2/\k2<=ts.length:=by
 have hk:=gE (ts:=ts) (k:=k) (by rw[h.1];decide);have hg:=jH hb hv (by omega);refine ⟨?_,by omega,hg.2⟩;rw[show ts.length-k=(ts.length-k-1)+1 by omega]
 conv=>lhs;unfold dv
 simp only;rw[if_pos h,hv];exact wR hb _ _ _ _ (by omega) (by omega) hg.2
theorem Ld {blk:Blk} {ts:List Tok} {d:Nat} {col:Int} {i k:Nat} {seen:List (List UInt8)} {ns:List Nd} (f:Nat) (h:¬((au ts k).kind=3/\(au ts k).col=col)):c9 blk ts d col i f seen k ns= .ok (k,ns):=by
 cases f with
 |zero=>rfl
 |succ f=>
  unfold c9;simp only;rw[if_neg h]
theorem Lc {blk:Blk} {ts:List Tok} {d:Nat} {col:Int} {i k:Nat} {seen:List (List UInt8)} {ns:List Nd} (h:(au ts k).kind=3/\(au ts k).col=col) (hs:(au ts k).text∈seen):
 c9 blk ts d col i (ts.length-k) seen k ns= .error ((au ts k).line,91):=by
 have hk:=gE (ts:=ts) (k:=k) (by rw[h.1];decide);rw[show ts.length-k=(ts.length-k-1)+1 by omega];unfold c9;simp only;rw[if_pos h,if_pos hs]
theorem Le {blk:Blk} {ts:List Tok} {d:Nat} {col:Int} {i k:Nat} {seen:List (List UInt8)} {ns:List Nd} {e:Flt} (h:(au ts k).kind=3/\(au ts k).col=col) (hs:¬(au ts k).text∈seen) (hv:iL blk ts d (dr (au ts (k+1)) (au ts k)) (au ts k) (k+1) ns ⟨(au ts k).text.toArray⟩= .error e):
 c9 blk ts d col i (ts.length-k) seen k ns= .error e:=by
 have hk:=gE (ts:=ts) (k:=k) (by rw[h.1];decide);rw[show ts.length-k=(ts.length-k-1)+1 by omega];unfold c9;simp only;rw[if_pos h,if_neg hs,hv]
theorem F9 {blk:Blk} {ts:List Tok} (hb:D3 ts blk) {d:Nat} {col:Int} {i k k2 kid:Nat} {seen:List (List UInt8)} {ns ns2:List Nd} (h:(au ts k).kind=3/\(au ts k).col=col) (hs:¬(au ts k).text∈seen) (hv:iL blk ts d (dr (au ts (k+1)) (au ts k)) (au ts k) (k+1) ns ⟨(au ts k).text.toArray⟩= .ok (k2,ns2,kid)):
 c9 blk ts d col i (ts.length-k) seen k ns=c9 blk ts d col i (ts.length-k2) ((au ts k).text::seen) k2 (cF ns2 i kid)/\k<k2/\k2<=ts.length:=by
 have hk:=gE (ts:=ts) (k:=k) (by rw[h.1];decide);have hg:=jH hb hv (by omega);refine ⟨?_,by omega,hg.2⟩;rw[show ts.length-k=(ts.length-k-1)+1 by omega]
 conv=>lhs;unfold c9
 simp only;rw[if_pos h,if_neg hs,hv];exact xu hb _ _ _ _ _ (by omega) (by omega) hg.2
