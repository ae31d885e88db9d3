/-
Parts of a proof.
-/
import Derived.Test.YtfenoaeoedobmaaGreatDoorOn34
set_option linter.unusedVariables false
set_option linter.unusedSimpArgs false
set_option maxHeartbeats 4000000
set_option maxRecDepth 20000
namespace Go.Proofs.YtfenoaeoedobmaaGreatDoor
open Go Go.RowKit
structure LpS (w0 w wr:World) (rb fb tb i:Nat) (lv:Value) (ts:List Tok) (nv:Value) (ms:List NdM) (t u:Tok) (k:Nat) (nv':Value) (ms':List NdM):Prop where
 rd:RdS w0 wr rb lv ts k nv' ms'
 mod:Mod (RdF rb nv ms) w wr
 own:∀g,nOwn nv' ms' g->nOwn nv ms g\/w.heap.size<=g
 first:wr.heap[fb]? =some (.cells t.a 121 (0,0))
 tok:wr.heap[tb]? =some (.cells u.a 121 (0,0))
 nf:¬RdF rb nv' ms' fb
 nt:¬RdF rb nv' ms' tb
 ffw:w.heap.size<=fb
 tfw:w.heap.size<=tb
 kid:∃x,(nds ms')[i]? =some x/\x.kids.length<=k
section
variable {w0 w wr w2:World} {rb fb tb i k:Nat} {lv nv nv':Value} {ts:List Tok} {ms ms':List NdM} {t u:Tok}
theorem LpS.later (h:LpS w0 w wr rb fb tb i lv ts nv ms t u k nv' ms') (hb:Below wr.heap.size wr w2):LpS w0 w w2 rb fb tb i lv ts nv ms t u k nv' ms':=
 ⟨h.rd.later hb,h.mod.trans' (fS hb) (fun _ _ q=>q.elim),h.own,(hb.block _ (af h.first)).trans h.first,(hb.block _ (af h.tok)).trans h.tok,h.nf,h.nt,h.ffw,h.tfw,h.kid⟩
theorem LpS.call {k2:Nat} {l9:Value} {ij:List NdM} (h:LpS w0 w wr rb fb tb i lv ts nv ms t u k nv' ms') (hR:RdS w0 w2 rb lv ts k2 l9 ij) (hm:Mod (RdF rb nv' ms') wr w2) (ho:∀g,nOwn l9 ij g->nOwn nv' ms' g\/wr.heap.size<=g) (hk:∃x,(nds ij)[i]? =some x/\x.kids.length<=k2):
 LpS w0 w w2 rb fb tb i lv ts nv ms t u k2 l9 ij:=by
 have lG:∀b,b<wr.heap.size->¬RdF rb nv' ms' b->¬RdF rb l9 ij b:=fun b hb hn q=>by
  rcases q with q|q
  ·exact hn (.inl q)
  ·rcases ho b q with q|q
   ·exact hn (.inr q)
   ·omega
 refine ⟨hR,sh (w0:=w0) h.mod h.own hm,yU h.mod.size h.own ho,hm.heap h.first h.nf,hm.heap h.tok h.nt,lG _ (af h.first) h.nf,lG _ (af h.tok) h.nt,h.ffw,h.tfw,hk⟩
theorem LpS.move (h:LpS w0 w wr rb fb tb i lv ts nv ms t u k nv' ms') (hk:k+1<=ts.length):LpS w0 w (wr.setCell ⟨rb,1,none⟩ (.int .i64 ((k+1:Nat):Int))) rb fb tb i lv ts nv ms t u (k+1) nv' ms':=by
 have hM:Mod (fun b=>b=rb) wr (wr.setCell ⟨rb,1,none⟩ (.int .i64 ((k+1:Nat):Int))):=(Mod.refl _ _).setCell _ _ (fun _=>rfl);obtain ⟨x,hx,hl⟩:=h.kid;exact ⟨h.rd.move hk,h.mod.trans' hM (fun _ _ q=> .inl q),h.own,hM.heap h.first (fun e=>h.nf (.inl e)),hM.heap h.tok (fun e=>h.nt (.inl e)),h.nf,h.nt,h.ffw,h.tfw,x,hx,by omega⟩
theorem LpS.newTok (h:LpS w0 w wr rb fb tb i lv ts nv ms t u k nv' ms') {Vd:Nat} {u2:Tok} (hb:Below wr.heap.size wr w2) (ht:w2.heap[Vd]? =some (.cells u2.a 121 (0,0))) (mQ:wr.heap.size<=Vd):LpS w0 w w2 rb fb Vd i lv ts nv ms t u2 k nv' ms':=by
 have h2:=h.later hb;refine ⟨h2.rd,h2.mod,h2.own,h2.first,ht,h2.nf,fun q=> ?_,h.ffw,aBl h.mod.size mQ,h.kid⟩;have:=h.rd.rd_lt q;omega
theorem LpS.cells (h:LpS w0 w wr rb fb tb i lv ts nv ms t u k nv' ms'):
 (wr.cell? ⟨tb,0,none⟩=some (.int .i64 u.kind)/\wr.cell? ⟨tb,1,none⟩=some (.int .i64 u.line)/\wr.cell? ⟨tb,2,none⟩=some (.int .i64 u.col)/\wr.cell? ⟨tb,3,none⟩=some (.string ⟨u.text.toArray⟩)/\wr.cell? ⟨tb,4,none⟩=some (.bool u.quoted))/\wr.cell? ⟨fb,2,none⟩=some (.int .i64 t.col)/\(∀j,wr.frozen? ⟨tb,j,none⟩=false):=by
 have h1:=h.tok;have h2:=h.first;unfold Tok.a at h1 h2;exact ⟨⟨aa h1 0,aa h1 1,aa h1 2,aa h1 3,aa h1 4⟩,aa h2 2,fun j=>ah h1 j⟩
end
theorem yw {w w':World} {T:TypeId} {t:Tok} (h:Below (w.alloc (.cells t.a T)).heap.size (w.alloc (.cells t.a T)) w'):w'.heap[w.heap.size]? =some (.cells t.a T (0,0)):=
 (h.block _ (by simp)).trans (ag (w:=w) _)
def Xd (rb:Nat) (w:World):Nat:=(intOf ((w.cell? ⟨rb,1,none⟩).getD undef)).toNat
theorem RdS.curs {w0 w:World} {rb:Nat} {lv:Value} {ts:List Tok} {k:Nat} {nv:Value} {ms:List NdM} (h:RdS w0 w rb lv ts k nv ms):Xd rb w=k:=by
 unfold Proofs.YtfenoaeoedobmaaGreatDoor.Xd;have h1:=h.blk;unfold rdA at h1;have h2:=aa h1 1;rw[h2];simp[intOf]
theorem CD {w0 w w1:World} {rb k:Nat} {lv nv ya:Value} {ts:List Tok} {ms mM:List NdM} {t:Tok} {x:Nd} (h:RdS w0 w rb lv ts k nv ms) (KR:RdS w0 w1 rb lv ts k ya mM) (kZ:Mod (RdF rb nv ms) (w.alloc (.cells t.a 121)) w1)
 (LB:∀g,nOwn ya mM g->nOwn nv ms g\/(w.alloc (.cells t.a 121)).heap.size<=g) (oB:nds mM=nds ms++[x]) (hx:x.kids=[]):LpS w0 w w1 rb w.heap.size w.heap.size ms.length lv ts nv ms t t k ya mM:=by
 have hs:(w.alloc (.cells t.a 121)).heap.size=w.heap.size+1:=by simp
 have hb:Below w.heap.size w (w.alloc (.cells t.a 121)):=(aBi _ _).alloc (aBh _) _;have hf:¬RdF rb nv ms w.heap.size:=fun q=>by have:=h.rd_lt q;omega
 have gJ:¬RdF rb ya mM w.heap.size:=fun q=>by
  rcases q with q|q
  ·exact hf (.inl q)
  ·rcases LB _ q with q|q
   ·exact hf (.inr q)
   ·omega
 have bg:w1.heap[w.heap.size]? =some (.cells t.a 121 (0,0)):=kZ.heap (ag (w:=w) _) hf;refine ⟨KR,(Mod.ofBelow (F:=RdF rb nv ms) hb (fun k hk mQ=>by omega)).trans kZ,fun g hg=> ?_,bg,bg,gJ,gJ,aBh _,aBh _,x,?_,by rw[hx];exact Nat.zero_le _⟩
 ·rcases LB g hg with q|q
  ·exact .inl q
  ·exact .inr (by omega)
 ·rw[oB,List.getElem?_append_right (by rw[bP];exact aBh _),bP,Nat.sub_self];rfl
theorem jP {w w':World} {g j:Nat} {v:Value} (h:w'.heap[g]? =w.heap[g]?) (hc:w.cell? ⟨g,j,none⟩=some v):w'.cell? ⟨g,j,none⟩=some v:=(World.cell?_of_block (w:=w) h).trans hc
theorem nN {w w':World} {g j:Nat} (h:w'.heap[g]? =w.heap[g]?) (hc:w.frozen? ⟨g,j,none⟩=false):w'.frozen? ⟨g,j,none⟩=false:=(World.frozen?_of_block (w:=w) h).trans hc
theorem zh {ms:List NdM} {i q k kid:Nat} {m:NdM} {kv:Value} (hm:ms[i]? =some m) (hq:q=m.nd.kids.length) (hk:q+1<=k):∃x,(nds (ms.set i ⟨{m.nd with kids:=m.nd.kids++[(kid:Int)]},kv⟩))[i]? =some x/\x.kids.length<=k:=by
 refine ⟨{m.nd with kids:=m.nd.kids++[(kid:Int)]},?_,by simp only[aBj,List.length_singleton];omega⟩;rw[Av,List.getElem?_set_self (by rw[bP];exact (aBo hm).1)]
theorem An {k:Int}:∀u∈[Value.int .i64 k],u.oneCell'=true:=fun u hu=>by
 rw[List.mem_singleton]at hu;rw[hu];rfl
theorem zg {w0 w wb w4:World} {rb fb tb i k k2:Nat} {lv nv nv' l9:Value} {ts:List Tok} {ms ms' ij:List NdM} {ns2:List Nd} {t u:Tok} (h:LpS w0 w wb rb fb tb i lv ts nv ms t u (k+1) nv' ms') (hR:RdS w0 w4 rb lv ts k2 l9 ij) (hn:nds ij=ns2) (hm:Mod (RdF rb nv' ms') wb w4) (ho:∀g,nOwn l9 ij g->nOwn nv' ms' g\/wb.heap.size<=g)
 (xi:lP (nds ms').length (nds ms') ns2) (xh:∃x,(nds ms')[i]? =some x/\x.kids.length<=k) (hk:k<k2):
 Hid (LpS w0 w w4 rb fb tb i lv ts nv ms t u k2 l9 ij)/\∃(g c:Nat) (ka:Option Addr) (kc q:Nat) (m:NdM),l9= .slice (some ⟨g,0,none⟩) ij.length c/\l9.ownBlock=some g/\ij[i]? =some m/\m.kv= .slice ka q kc/\q=m.nd.kids.length/\q<1048576/\q+1<=k2/\w4.cell? ⟨g,i*6+5,none⟩=some (.slice ka q kc)/\(∀j,w4.frozen? ⟨g,j,none⟩=false):=by
 obtain ⟨x,hx,hxl⟩:=xh;have hi:i<(nds ms').length:=(aBo hx).1;have Ib:(nds ij)[i]? =some x:=by rw[hn,xi.2 i hi,hx]
 obtain ⟨m,TZ,St⟩:∃m,ij[i]? =some m/\m.nd=x:=by
  unfold nds at Ib;rw[List.getElem?_map]at Ib;cases TZ:ij[i]? with
  |none=>rw[TZ]at Ib;cases Ib
  |some m=>rw[TZ]at Ib;exact ⟨m,rfl,aBm Ib⟩
 obtain ⟨g,c,Wh,hg,bN,LC⟩:=hR.nr.at TZ;obtain ⟨ka,kc,cI⟩:=eI (hR.nr.each m (List.mem_of_getElem? TZ)).row;have hlen:ts.length<=1048576:=by obtain ⟨_,_,_,q,_⟩:=hR.tok_at;exact q
 have lT:=hR.kle;refine ⟨hid (h.call hR hm ho ⟨x,Ib,by omega⟩),g,c,ka,kc,_,m,Wh,hg,TZ,cI,rfl,by rw[St];omega,by rw[St];omega,?_,LC⟩;have h5:=bN.c5;rw[cI]at h5;exact h5
theorem Q4 {w0 w:World} {rb:Nat} {lv:Value} {ts:List Tok} {k:Nat} {nv:Value} {ms:List NdM} (h:RdS w0 w rb lv ts k nv ms) (D:Nat) (hD:D<=17) (t:Tok) (ht:t=au ts k) (eZ:t.kind=2) (key:ByteArray) (cl:key.size<=1048576) (IH:1<=D->tw w0 rb lv ts (D-1)):
 Calls Tryz.prog 147 #[.pointer (some ⟨rb,0,none⟩),.agg t.a,.int .i64 ((17-D:Nat):Int),.string key] w (dB w0 w rb lv ts nv ms (qE ts D k (nds ms) key t)):=by
 have bG:∀ob,Below w.heap.size w (w.alloc ob):=fun ob=>(aBi _ _).alloc (aBh _) ob;have hok:TokOk t:=by rw[ht];exact h.ok k
 have jm:=hid (fun ob=>rz (h.later (bG ob)) D hD 3 (by decide) key cl t hok);have H:=hid h;have Hb:=hid bG;have Hx:=hid (And.intro ht (And.intro eZ (And.intro hD hok)));have IH:=hid IH;obtain ⟨X,hX⟩:=ex (qE ts D k (nds ms) key t);rw[<-hX];have HX:=hid hX;obtain ⟨B,hB⟩:=ex (mS k (nds ms) D 3 key t);rw[<-hB]at jm;have HB:=hid hB;have Ha:=hid (show t.a=#[.int .i64 t.kind,.int .i64 t.line,.int .i64 t.col,.string ⟨t.text.toArray⟩,.bool t.quoted] from rfl)
 rw[Ha.o]at jm |-;clear h bG hok hX hB ht eZ hD cl;go_enter Tryz.func147,Tryz.ntmps147
 go_wp2_with fail
 refine (jm.o _).mono ?_;intro r w1 hh;cases B with
 |error e=>
  obtain ⟨rfl,h1,h2⟩:=hh;have hx:X= .error e:=by
   rw[HX.o];have:=HB.o;unfold mS at this;unfold qE
   split at this
   ·rename_i e2 h2
    try rw[h2]
    injection this with this
    rw[this]
   ·cases this
  rw[hx];exact ⟨rfl,rfl,h1,aBl (Hb.o _).size h2⟩
 |ok y=>
  obtain ⟨k1,xQ,i⟩:=y;obtain ⟨hr,ya,mM,KR,oB,kZ,LB⟩:=hh;subst hr;have oC:¬RdF rb nv ms w.heap.size:=fun q=>by have:=H.o.rd_lt q;omega
  obtain ⟨rfl,uE,rfl,Sj,SI⟩:k1=k/\xQ=nds ms++[⟨3,key,⟨#[]⟩,false,t.line,[]⟩]/\i=ms.length/\X=uK (dv (bo ts (D-1)) ts (D-1) t.col ms.length (ts.length-k) k xQ) ms.length/\0<D:=by
   have h1:=HB.o;have h2:=HX.o;unfold mS at h1;unfold qE at h2;cases hN:j4 (nds ms) D 3 key t with
   |error e=>rw[hN]at h1;cases h1
   |ok n1=>
    rw[hN]at h1 h2;injection h1 with h1
    injection h1 with h1 h3
    injection h3 with h3 h4
    rw[bP]at h4 h2;obtain ⟨e,SI⟩:=ov hN;exact ⟨h1,by rw[h3,e],h4,by rw[h2,h3],SI⟩
  have hL1:=CD H.o KR kZ LB (oB.trans uE) rfl;have Ui:=hid Sj;have XS:=hid (And.intro SI Hx.o.2.2.1);clear SI;have HL:=hid (And.intro hL1 oB);have Hi:=hid (show ms.length<mM.length by have:=congrArg List.length (oB.trans uE);rw[bP,aBj,bP]at this;simp at this;omega);clear KR kZ LB oB uE Sj hL1 HB HX jm oC;obtain ⟨n0,j8⟩:=ex (ms.length);rw[<-j8]
  have Hn0:=hid j8;clear j8
  go_wp2_with fail
  refine (jc HL.o.1.rd).mono ?_;rintro r w2 ⟨rfl,h2⟩;have ie:=hid h2;clear h2;have XP:=hid (show LpS w0 w (w2.alloc (.cells (au ts k1).a 121)) rb w.heap.size w2.heap.size n0 lv ts nv ms t (au ts k1) k1 ya mM from by
   rw[Hn0.o];exact HL.o.1.newTok (ie.o.trans ((aBi _ _).alloc (aBh _) _ |>.mono ie.o.size)) (ag (w:=w2) _) ie.o.size)
  unfold Tok.a at XP |-;go_wp2
  go_loopw [10,11,12] (fun v10 v11 v12 wr=>∃tb:Nat,v10= .pointer (some ⟨tb,0,none⟩)/\Hid (∃k nv' ms',LpS w0 w wr rb w.heap.size tb n0 lv ts nv ms t (au ts k) k nv' ms'/\X=uK (dv (bo ts (D-1)) ts (D-1) t.col n0 (ts.length-k) k (nds ms')) n0)) (fun _ _ _ wr=>ts.length-Xd rb wr)
  case atStart=>
   exact ⟨_,rfl,hid ⟨k1,ya,mM,XP.o,by rw[Ui.o,HL.o.2,Hn0.o]⟩⟩
  case round=>
   clear XP ie HL Ui Hi;obtain ⟨tb,rfl,HH⟩:=hrel;obtain ⟨k,nv',ms',hL,hx⟩:=HH.o;obtain ⟨⟨c0,c1,c2,c3,c4⟩,f2,fz⟩:=hL.cells;have Hl:=hid hL;have Uj:=hid hx;clear hL hx HH;obtain ⟨u,hu⟩:=ex (au ts k);rw[<-hu]at c0 c1 c2 c3 c4 Hl;have Hu:=hid hu;clear hu;have done:¬(u.kind=2/\u.col=t.col)->dB w0 w rb lv ts nv ms X (.returned (.int .i64 (n0:Int))) wr:=fun hn=>by
    rw[Uj.o,Kg _ (by rw[<-Hu.o];exact hn)];exact ⟨rfl,nv',ms',Hl.o.rd,rfl,Hl.o.mod,Hl.o.own⟩
   by_cases k2:u.kind=2
   ·have e2:(u.kind==2)=true:=beq_iff_eq.2 k2;by_cases k3:u.col=t.col
    ·have e3:(u.col==t.col)=true:=beq_iff_eq.2 k3;clear done;have lT:=gE (ts:=ts) (k:=k) (by rw[<-Hu.o,k2];decide);have Hc:=hid (show (au ts k).kind=2/\(au ts k).col=t.col from by rw[<-Hu.o];exact ⟨k2,k3⟩);have bg:=Hl.o.rd.blk;unfold rdA at bg;have y1:=aa bg 1;have yf:=ah bg 1;simp at y1;have hlen:ts.length<=1048576:=by obtain ⟨_,_,_,q,_⟩:=Hl.o.rd.tok_at;exact q
     have pW:=hid hlen;have hwk:wrap64 ((k:Int)+1)=((k+1:Nat):Int):=(bK (by omega) (by omega)).trans (by omega);have mJ:=hid (show LpS w0 w (wr.setCell ⟨rb,1,none⟩ (.int .i64 ((k:Int)+1))) rb w.heap.size tb n0 lv ts nv ms t u (k+1) nv' ms' from Hl.o.move (by omega));have Ut:=hid lT;have iW:=hid Hl.o.kid;have Qk:=hid Hl.o.rd.curs;clear bg k2 k3 Hl lT hlen
     go_wp2_with fail
     refine (jc mJ.o.rd).mono ?_;rintro r w3 ⟨rfl,h3⟩;obtain ⟨n,hn⟩:=ex (au ts (k+1));rw[<-hn];have Hn:=hid hn;have QG:=(mJ.o.later h3).later ((aBi _ _).alloc (aBh _) (.cells n.a 121));have Qn:=hid QG;obtain ⟨⟨c0,c1,c2,c3,c4⟩,_,_⟩:=QG.cells;have SE:((17-D:Nat):Int)+1=((17-(D-1):Nat):Int):=by
      have h1:=XS.o;omega
     obtain ⟨V,hV⟩:=ex (iL (bo ts (D-1)) ts (D-1) (jf n u) u (k+1) (nds ms') ⟨#[]⟩);have HV:=hid (fun is (hi:jf n u=is)=>show Calls Tryz.prog 181 #[.pointer (some ⟨rb,0,none⟩),.bool is,.agg u.a,.int .i64 (((17-D:Nat):Int)+1),.string ⟨#[]⟩] (w3.alloc (.cells n.a 121)) (dB w0 (w3.alloc (.cells n.a 121)) rb lv ts nv' ms' V) from by
      rw[hV,hi,SE];exact Gw QG.rd (D-1) (by have:=XS.o;omega) is u (by rw[Hu.o];exact QG.rd.ok k) ⟨#[]⟩ (by decide) (IH.o XS.o.1))
     have XM:=hid hV;obtain ⟨wb,KB⟩:=ex (w3.alloc (.cells n.a 121));have Hwb:=hid KB;rw[<-KB]at HV Qn c0 c1 c2 c3 c4;have d0:=aa (show wb.heap[w3.heap.size]? =some (.cells #[.int .i64 n.kind,.int .i64 n.line,.int .i64 n.col,.string ⟨n.text.toArray⟩,.bool n.quoted] 121 (0,0)) by rw[KB];exact ag (w:=w3) _);have d1:=d0 1;have d2:=d0 2;simp at d1 d2
     clear hn QG h3 y1 yf e2 e3 hwk mJ f2 fz SE hV d0;unfold Tok.a at HV KB |-;go_upto_region 7 with (fail)
     rw[<-KB];clear KB;go_cut [12] from 20 to 76 (fun s12 w4=>∃kid:Nat,s12= .int .i64 (kid:Int)/\Hid (∃k2 ns2 l9 ij,V= .ok (k2,ns2,kid)/\RdS w0 w4 rb lv ts k2 l9 ij/\nds ij=ns2/\Mod (RdF rb nv' ms') wb w4/\(∀g,nOwn l9 ij g->nOwn nv' ms' g\/wb.heap.size<=g)))
     case first=>
      cases b1:(n.line==u.line)<;>cases b2:decide (u.col<n.col)
      all_goals
       go_wp2_with fail
       refine (HV.o _ (by unfold jf;rw[b1,b2];rfl)).mono ?_;intro r w4 hh;clear HV c0 c1 c2 c3 c4 d1 d2;cases V with
       |error e=>
        obtain ⟨rfl,h1,h2⟩:=hh;have hv:=XM.o;rw[Hn.o,Hu.o]at hv;have hx:X= .error e:=by rw[Uj.o,Kh Hc.o hv.symm];rfl
        subst hx;exact ⟨rfl,rfl,h1,aBl Qn.o.mod.size h2⟩
       |ok y=>
        obtain ⟨k2,ns2,kid⟩:=y;obtain ⟨hr,l9,ij,LH,uG,vh,Sp⟩:=hh;subst hr;have HR:=hid (show ∃k2' Y9 l9 ij,(Except.ok (k2,ns2,kid):Except Flt (Nat×List Nd×Nat))= .ok (k2',Y9,kid)/\RdS w0 w4 rb lv ts k2' l9 ij/\nds ij=Y9/\Mod (RdF rb nv' ms') wb w4/\(∀g,nOwn l9 ij g->nOwn nv' ms' g\/wb.heap.size<=g) from ⟨k2,ns2,l9,ij,rfl,LH,uG,vh,Sp⟩);clear LH uG vh Sp;go_wp2
        go_meet
        case rel=>exact ⟨kid,rfl,HR⟩
     case rest=>
      clear c0 c1 c2 c3 c4 d1 d2 HV;obtain ⟨kid,rfl,HR⟩:=hcut;obtain ⟨k2,ns2,l9,ij,hVk,LH,uG,vh,Sp⟩:=HR.o;obtain ⟨w4,xS⟩:=ex (wc);subst xS;have hv:=XM.o;rw[Hn.o,Hu.o,hVk]at hv;obtain ⟨cw,eZ,ON⟩:=Fp (i:=n0) (nU ts (D-1)) Hc.o hv.symm;have xi:=(n9 (nT ts (D-1)) hv.symm).1;have jQ:=hid (And.intro cw (And.intro eZ ON));obtain ⟨Lw,g,c,ka,kc,q,m,OA,hg,hm,cN,hq,LA,Oi,SD,LC⟩:=zg (w4:=w4) Qn.o LH uG vh Sp xi iW.o eZ
      subst OA;clear hv cw eZ ON xi XM Qn LH vh Sp HR hVk;have bg:=Lw.o.rd.blk;unfold rdA at bg;have z2:=aa bg 2;simp at z2;have bi:(n0:Int)<(ij.length:Int):=by have:=(aBo hm).1;omega
      have b9:=hid (fun ob=>show ((w4.alloc ob).drew).ownsRow 0 3 1 (.slice ka q kc) q (m.nd.kids.flatMap dM) from by
       have:=(Lw.o.rd.nr.each m (List.mem_of_getElem? hm)).row;rw[cN,<-hq]at this;exact World.ownsRow.alloc (w:=w4) this ob)
      have aX:=hid (fun ob gd c5 (w5:World) (a1:w5.ownsRow 0 3 1 (.slice gd (q+1) c5) (q+1) (m.nd.kids.flatMap dM++[.int .i64 (kid:Int)])) (a2:((w4.alloc ob).drew).grownBy w5 (Value.slice ka q kc).ownBlock)
       (a3:∀g,(Value.slice gd (q+1) c5).ownBlock=some g->(Value.slice ka q kc).ownBlock=some g\/((w4.alloc ob).drew).heap.size<=g)=>H5 Lw.o.rd hm hg hq LA (((aBi w4.heap.size w4).alloc (aBh _) ob).drew) a1 (by rw[cN];exact a2) (by rw[cN];exact a3))
      have Xr:=hid (show q<=2000000 by omega);have Hq:=hid (And.intro hq (And.intro Oi (And.intro hm uG)));have Hg:=hid (And.intro z2 SD);have Xx:=hid LC;clear bg hm cN hq LA Oi LC hg uG z2 SD;go_wp2;refine fF (fun w'=>w'.cell? ⟨rb,2,none⟩=some (.slice (some ⟨g,0,none⟩) ij.length c)/\w'.cell? ⟨g,n0*6+5,none⟩=some (.slice ka q kc)) (fun i=>decide (i<16)) (by kernel_rfl) ?_;have hS:w4.drew.cell? ⟨rb,2,none⟩=some (.slice (some ⟨g,0,none⟩) ij.length c)/\w4.drew.cell? ⟨g,n0*6+5,none⟩=some (.slice ka q kc):=Hg.o
      refine wL (i:=0) (v:= ?_) rfl ?_ hS ?_;rotate_left
      ·intro w' cf;obtain ⟨s1,s2⟩:=cf;go_simp
       try with_reducible rfl
      simp only[Act.put,sA,sZ,sS];refine wL (i:=1) (v:= ?_) rfl ?_ hS ?_;rotate_left
      ·intro w' cf;obtain ⟨s1,s2⟩:=cf;go_simp
       try with_reducible rfl
      simp only[Act.put,sA,sZ,sS];refine wL (i:=2) (v:= ?_) rfl ?_ hS ?_;rotate_left
      ·intro w' cf;obtain ⟨s1,s2⟩:=cf;go_simp
       try with_reducible rfl
      simp only[Act.put,sA,sZ,sS];refine wL (i:=3) (v:= ?_) rfl ?_ hS ?_;rotate_left
      ·intro w' cf;obtain ⟨s1,s2⟩:=cf;go_simp
       try with_reducible rfl
      simp only[Act.put,sA,sZ,sS];refine wL (i:=4) (v:= ?_) rfl ?_ hS ?_;rotate_left
      ·intro w' cf;obtain ⟨s1,s2⟩:=cf;go_simp
       try with_reducible rfl
      simp only[Act.put,sA,sZ,sS];refine wL (i:=5) (v:= ?_) rfl ?_ hS ?_;rotate_left
      ·intro w' cf;obtain ⟨s1,s2⟩:=cf;go_simp
       try with_reducible rfl
      simp only[Act.put,sA,sZ,sS];refine wL (i:=6) (v:= ?_) rfl ?_ hS ?_;rotate_left
      ·intro w' cf;obtain ⟨s1,s2⟩:=cf;go_simp
       try with_reducible rfl
      simp only[Act.put,sA,sZ,sS];refine wL (i:=7) (v:= ?_) rfl ?_ hS ?_;rotate_left
      ·intro w' cf;obtain ⟨s1,s2⟩:=cf;go_simp
       try with_reducible rfl
      simp only[Act.put,sA,sZ,sS];refine wL (i:=8) (v:= ?_) rfl ?_ hS ?_;rotate_left
      ·intro w' cf;obtain ⟨s1,s2⟩:=cf;go_simp
       try with_reducible rfl
      simp only[Act.put,sA,sZ,sS];refine wL (i:=9) (v:= ?_) rfl ?_ hS ?_;rotate_left
      ·intro w' cf;obtain ⟨s1,s2⟩:=cf;go_simp
       try with_reducible rfl
      simp only[Act.put,sA,sZ,sS];refine wL (i:=10) (v:= ?_) rfl ?_ hS ?_;rotate_left
      ·intro w' cf;obtain ⟨s1,s2⟩:=cf;go_simp
       try with_reducible rfl
      simp only[Act.put,sA,sZ,sS];refine wL (i:=11) (v:= ?_) rfl ?_ hS ?_;rotate_left
      ·intro w' cf;obtain ⟨s1,s2⟩:=cf;go_simp
       try with_reducible rfl
      simp only[Act.put,sA,sZ,sS];refine wL (i:=12) (v:= ?_) rfl ?_ hS ?_;rotate_left
      ·intro w' cf;obtain ⟨s1,s2⟩:=cf;go_simp
       try with_reducible rfl
      simp only[Act.put,sA,sZ,sS];refine wL (i:=13) (v:= ?_) rfl ?_ hS ?_;rotate_left
      ·intro w' cf;obtain ⟨s1,s2⟩:=cf;go_simp
       try with_reducible rfl
      simp only[Act.put,sA,sZ,sS];refine aM (i:=14) (by kernel_rfl) rfl (fun K hK=> ?_);go_simp;refine hK.out _ _ (fun _=>⟨cA ((aBi w4.drew.heap.size w4.drew).alloc (aBh _) _) hS.1,cA ((aBi w4.drew.heap.size w4.drew).alloc (aBh _) _) hS.2⟩) ?_;clear hK K
      try simp only[Act.put,sA,sZ,sS]
      refine aM (i:=15) (by kernel_rfl) rfl (fun K hK=> ?_);refine m9 3 53 (.int .i64 0) 1 8 Tryz.underlying53 qJ rfl (by decide) (by decide) rfl _ _ rfl (.slice ka q kc) q (m.nd.kids.flatMap dM) rfl (b9.o _) w4.heap.size #[.int .i64 (kid:Int)] [.int .i64 (kid:Int)] rfl (ag (w:=w4) _) rfl rfl An Xr.o (q+1) rfl ?_;intro gd c5 w5 aB bC aA
      have HE:=hid (aX.o _ _ _ _ aB bC aA);have q1:=jP HE.o.2.2.1 Hg.o.2;have q2:=nN HE.o.2.2.1 (Xx.o (n0*6+5));have q3:=jP HE.o.2.1 Hg.o.1;refine hK.out _ _ (fun _=>⟨q3,q1⟩) ?_;clear hK K aB bC aA b9 aX hS
      try simp only[Act.put,sA,sZ,sS]
      refine aM (i:=16) (by kernel_rfl) rfl (fun K hK=> ?_);go_simp;refine hK.out _ _ (fun h=>absurd h (by decide)) ?_;clear hK K;refine aM (i:=17) (by kernel_rfl) rfl (fun K hK=> ?_);go_simp;refine hK.out _ _ (fun h=>absurd h (by decide)) ?_;clear hK K;refine aM (i:=18) (by kernel_rfl) rfl (fun K hK=> ?_);go_simp;refine hK.out _ _ (fun h=>absurd h (by decide)) ?_;clear hK K
      refine fG (by kernel_rfl) ?_ _;clear q1 q2 q3;have QF:=Lw.o.call HE.o.2.2.2.1 HE.o.2.2.2.2.1 HE.o.2.2.2.2.2 (zh Hq.o.2.2.1 Hq.o.1 Hq.o.2.1);have IU:=hid (sE (kid:=kid) Hq.o.2.2.1 (.slice gd (q+1) c5));obtain ⟨⟨c0,c1,c2,c3,c4⟩,_,_⟩:=QF.cells;have Lx:=hid QF;obtain ⟨w6,Qr⟩:=ex (w5.setCell ⟨g,n0*6+5,none⟩ (.slice gd (q+1) c5));rw[<-Qr]at Lx c0 c1 c2 c3 c4 |-
      clear QF Qr HE Xr Hg Xx Lw
      go_wp2_with fail
      have oO:Below w6.heap.size w6 (w6.alloc (.cells u.a 121)):=(aBi _ _).alloc (aBh _) _;refine (jc (Lx.o.later oO).rd).mono ?_;rintro r w7 ⟨rfl,h7⟩;have f7:=yw h7;unfold Tok.a at f7;have HE:=hid (Rk f7 (.int .i64 (au ts k2).kind) (.int .i64 (au ts k2).line) (.int .i64 (au ts k2).col) (.string ⟨(au ts k2).text.toArray⟩) (.bool (au ts k2).quoted))
      have XI:=hid (oO.trans (h7.mono oO.size));obtain ⟨e0,e1,e2,e3,e4⟩:=cB5 f7;have ef:=fun j=>ah f7 j;simp at e0 e1 e2 e3 e4;have HF:=hid (Lx.o.newTok (u2:=au ts k2) (XI.o.trans (HE.o.1.below XI.o.size (fun b hb=>by omega))) HE.o.2 (aBh _));have HX2:=hid (show X=uK (dv (bo ts (D-1)) ts (D-1) t.col n0 (ts.length-k2) k2 (nds (ij.set n0 ⟨{m.nd with kids:=m.nd.kids++[(kid:Int)]},.slice gd (q+1) c5⟩))) n0 by rw[Uj.o,jQ.o.1,IU.o,Hq.o.2.2.2])
      clear h7 oO f7 Lx HE XI c0 c1 c2 c3 c4;unfold Tok.a;go_wp2;exact ⟨⟨_,rfl,hid ⟨k2,_,_,HF.o,HX2.o⟩⟩,by rw[HF.o.rd.curs,Qk.o];have:=jQ.o.2;omega⟩
    ·have e3:(u.col==t.col)=false:=beq_eq_false_iff_ne.2 k3;have HD:=hid (done (fun h=>k3 h.2));clear done k3 k2;go_wp2;exact bodyPost_ret (results_tmp (t:=8) rfl _ _ _) rfl HD.o
   ·have e2:(u.kind==2)=false:=beq_eq_false_iff_ne.2 k2;have HD:=hid (done (fun h=>k2 h.1));clear done k2;go_wp2;exact bodyPost_ret (results_tmp (t:=8) rfl _ _ _) rfl HD.o
def baL (l:List UInt8):ByteArray:=⟨l.toArray⟩
theorem Tc {seen:List (List UInt8)} {t:List UInt8}:(⟨t.toArray⟩:ByteArray)∈seen.map baL↔t∈seen:=by
 constructor
 ·intro h;obtain ⟨x,hx,e⟩:=List.mem_map.1 h;unfold baL at e;have e2:x=t:=by
   have:=congrArg (fun b:ByteArray=>b.data.toList) e
   simpa using this
  rwa [<-e2]
 ·intro h;exact List.mem_map.2 ⟨t,h,rfl⟩
section
variable {w0 w wr w2:World} {rb fb tb mb i k:Nat} {lv nv nv':Value} {ts:List Tok} {ms ms':List NdM} {t u:Tok}
theorem LpS.other (h:LpS w0 w wr rb fb tb i lv ts nv ms t u k nv' ms') (hm:Mod (fun b=>b=mb) wr w2) (h1:¬RdF rb nv' ms' mb) (hf:mb≠fb) (ht:mb≠tb) (hw:w.heap.size<=mb) (hw0:w0.heap.size<=w.heap.size):LpS w0 w w2 rb fb tb i lv ts nv ms t u k nv' ms':=by
 refine ⟨⟨h.rd.lX,h.rd.wf,h.rd.below.trans (hm.below h.rd.below.size (fun b hb=>by omega)),h.rd.rge,hm.heap h.rd.blk (fun e=>h1 (.inl e.symm)),h.rd.nr.mod hm (fun g hg e=>h1 (.inr (by rw[<-e];exact hg))),h.rd.kle⟩,?_,h.own,hm.heap h.first (fun e=>hf e.symm),hm.heap h.tok (fun e=>ht e.symm),h.nf,h.nt,h.ffw,h.tfw,h.kid⟩;exact h.mod.trans' hm (fun b hb e=>by omega)
structure DpS (w0 w wr:World) (rb fb tb mb i:Nat) (lv:Value) (ts:List Tok) (nv:Value) (ms:List NdM) (t u:Tok) (k:Nat) (nv':Value) (ms':List NdM) (seen:List (List UInt8)):Prop where
 lp:LpS w0 w wr rb fb tb i lv ts nv ms t u k nv' ms'
 had:Had wr mb (seen.map baL)
 nm:¬RdF rb nv' ms' mb
 mf:mb≠fb
 mt:mb≠tb
 mw:w.heap.size<=mb
 ww:w0.heap.size<=w.heap.size
 cnt:seen.length<=k
variable {seen:List (List UInt8)}
theorem DpS.later (h:DpS w0 w wr rb fb tb mb i lv ts nv ms t u k nv' ms' seen) (hb:Below wr.heap.size wr w2):DpS w0 w w2 rb fb tb mb i lv ts nv ms t u k nv' ms' seen:=
 ⟨h.lp.later hb,h.had.frame (hb.block _ h.had.lt),h.nm,h.mf,h.mt,h.mw,h.ww,h.cnt⟩
theorem DpS.call {k2:Nat} {l9:Value} {ij:List NdM} (h:DpS w0 w wr rb fb tb mb i lv ts nv ms t u k nv' ms' seen) (hL:LpS w0 w w2 rb fb tb i lv ts nv ms t u k2 l9 ij) (hm:Mod (RdF rb nv' ms') wr w2) (ho:∀g,nOwn l9 ij g->nOwn nv' ms' g\/wr.heap.size<=g) (hk:seen.length<=k2):
 DpS w0 w w2 rb fb tb mb i lv ts nv ms t u k2 l9 ij seen:=by
 refine ⟨hL,h.had.frame (hm.block _ h.had.lt h.nm),fun q=> ?_,h.mf,h.mt,h.mw,h.ww,hk⟩;rcases q with q|q
 ·exact h.nm (.inl q)
 ·rcases ho mb q with q|q
  ·exact h.nm (.inr q)
  ·have:=h.had.lt;omega
theorem DpS.move (h:DpS w0 w wr rb fb tb mb i lv ts nv ms t u k nv' ms' seen) (hk:k+1<=ts.length) (hs:seen.length<=k+1):DpS w0 w (wr.setCell ⟨rb,1,none⟩ (.int .i64 ((k+1:Nat):Int))) rb fb tb mb i lv ts nv ms t u (k+1) nv' ms' seen:=by
 have hM:Mod (fun b=>b=rb) wr (wr.setCell ⟨rb,1,none⟩ (.int .i64 ((k+1:Nat):Int))):=(Mod.refl _ _).setCell _ _ (fun _=>rfl);exact ⟨h.lp.move hk,h.had.frame (hM.block _ h.had.lt (fun e=>h.nm (.inl e))),h.nm,h.mf,h.mt,h.mw,h.ww,hs⟩
theorem DpS.newTok (h:DpS w0 w wr rb fb tb mb i lv ts nv ms t u k nv' ms' seen) {Vd:Nat} {u2:Tok} (hb:Below wr.heap.size wr w2) (ht:w2.heap[Vd]? =some (.cells u2.a 121 (0,0))) (mQ:wr.heap.size<=Vd):DpS w0 w w2 rb fb Vd mb i lv ts nv ms t u2 k nv' ms' seen:=
 ⟨h.lp.newTok hb ht mQ,h.had.frame (hb.block _ h.had.lt),h.nm,h.mf,by have:=h.had.lt;omega,h.mw,h.ww,h.cnt⟩
theorem DpS.put {s:List UInt8} (h:DpS w0 w wr rb fb tb mb i lv ts nv ms t u k nv' ms' seen) (hh:Had w2 mb (⟨s.toArray⟩::seen.map baL)) (hg:wr.grownBy w2 (some mb)):LpS w0 w w2 rb fb tb i lv ts nv ms t u k nv' ms'/\Had w2 mb ((s::seen).map baL):=by
 have hM:Mod (fun b=>b=mb) wr w2:=(Mod.refl _ _).grown hg (fun b e _=>by injection e with e;exact e.symm);exact ⟨h.lp.other hM h.nm h.mf h.mt h.mw h.ww,hh⟩
end
theorem DpS.put_move {w0 w wr w2:World} {rb fb tb mb i k:Nat} {lv nv nv':Value} {ts:List Tok} {ms ms':List NdM} {t u:Tok} {seen:List (List UInt8)} {s:List UInt8} (h:DpS w0 w wr rb fb tb mb i lv ts nv ms t u k nv' ms' seen) (hL:LpS w0 w w2 rb fb tb i lv ts nv ms t u k nv' ms') (hh:Had w2 mb ((s::seen).map baL)) (hk:k+1<=ts.length):
 DpS w0 w (w2.setCell ⟨rb,1,none⟩ (.int .i64 ((k+1:Nat):Int))) rb fb tb mb i lv ts nv ms t u (k+1) nv' ms' (s::seen):=by
 have hM:Mod (fun b=>b=rb) w2 (w2.setCell ⟨rb,1,none⟩ (.int .i64 ((k+1:Nat):Int))):=(Mod.refl _ _).setCell _ _ (fun _=>rfl);exact ⟨hL.move hk,hh.frame (hM.block _ hh.lt (fun e=>h.nm (.inl e))),h.nm,h.mf,h.mt,h.mw,h.ww,by have:=h.cnt;simp;omega⟩
theorem RdS.c1 {w0 w:World} {rb:Nat} {lv:Value} {ts:List Tok} {k:Nat} {nv:Value} {ms:List NdM} (h:RdS w0 w rb lv ts k nv ms):w.cell? ⟨rb,1,none⟩=some (.int .i64 (k:Int))/\∀j,w.frozen? ⟨rb,j,none⟩=false:=by
 have h1:=h.blk;unfold rdA at h1;exact ⟨aa h1 1,fun j=>ah h1 j⟩
theorem Jr {w:World} {mb:Nat} {seen:List (List UInt8)} {t:List UInt8} (h:Had w mb (seen.map baL)) (hs:t.length<=1048576):
 (Instr.lookup 155 (.map (some mb)) (.string ⟨t.toArray⟩) false).run Tryz.prog w= .ok (.bool (decide (t∈seen))) w:=by
 have:=h.look ⟨t.toArray⟩ (by unfold maxLen;show t.toArray.size<=_;simp;omega)
 rwa [show decide ((⟨t.toArray⟩:ByteArray)∈seen.map baL)=decide (t∈seen) from decide_eq_decide.2 Tc]at this
