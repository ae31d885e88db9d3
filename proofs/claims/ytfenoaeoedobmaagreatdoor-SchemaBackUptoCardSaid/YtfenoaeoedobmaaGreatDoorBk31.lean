/-
Parts of a proof.
-/
import Derived.Test.YtfenoaeoedobmaaGreatDoorBk30
set_option linter.unusedVariables false
set_option linter.unusedSimpArgs false
set_option maxHeartbeats 4000000
set_option maxRecDepth 20000
namespace Go.Proofs.YtfenoaeoedobmaaGreatDoor
open Go Go.RowKit
structure LpS (w0 w wr:World) (rb fb tb i:Nat) (lv:Value) (ts:List Tok) (nv:Value) (ms:List NdM) (t u:Tok) (k:Nat) (nv':Value) (ms':List NdM):Prop where
 rd:RdS w0 wr rb lv ts k nv' ms'
 mod:Mod (RdF rb nv ms) w wr
 own:∀g,nOwn nv' ms' g->nOwn nv ms g\/w.heap.size<=g
 first:wr.heap[fb]? =some (.cells t.a 121 (0,0))
 tok:wr.heap[tb]? =some (.cells u.a 121 (0,0))
 nf:¬RdF rb nv' ms' fb
 nt:¬RdF rb nv' ms' tb
 ffw:w.heap.size<=fb
 tfw:w.heap.size<=tb
 kid:∃x,(nds ms')[i]? =some x/\x.kids.length<=k
section
variable {w0 w wr w2:World} {rb fb tb i k:Nat} {lv nv nv':Value} {ts:List Tok} {ms ms':List NdM} {t u:Tok}
theorem LpS.later (h:LpS w0 w wr rb fb tb i lv ts nv ms t u k nv' ms') (hb:Below wr.heap.size wr w2):LpS w0 w w2 rb fb tb i lv ts nv ms t u k nv' ms':=
 ⟨h.rd.later hb,h.mod.trans' (aC4 hb) (fun _ _ q=>q.elim),h.own,(hb.block _ (aAb h.first)).trans h.first,(hb.block _ (aAb h.tok)).trans h.tok,h.nf,h.nt,h.ffw,h.tfw,h.kid⟩
theorem LpS.call {k2:Nat} {nv2:Value} {ms2:List NdM} (h:LpS w0 w wr rb fb tb i lv ts nv ms t u k nv' ms') (hR:RdS w0 w2 rb lv ts k2 nv2 ms2) (hm:Mod (RdF rb nv' ms') wr w2) (ho:∀g,nOwn nv2 ms2 g->nOwn nv' ms' g\/wr.heap.size<=g) (hk:∃x,(nds ms2)[i]? =some x/\x.kids.length<=k2):
 LpS w0 w w2 rb fb tb i lv ts nv ms t u k2 nv2 ms2:=by
 have hno:∀b,b<wr.heap.size->¬RdF rb nv' ms' b->¬RdF rb nv2 ms2 b:=fun b hb hn q=>by
  rcases q with q|q
  ·exact hn (.inl q)
  ·rcases ho b q with q|q
   ·exact hn (.inr q)
   ·omega
 refine ⟨hR,aJr (w0:=w0) h.mod h.own hm,aOj h.mod.size h.own ho,hm.heap h.first h.nf,hm.heap h.tok h.nt,hno _ (aAb h.first) h.nf,hno _ (aAb h.tok) h.nt,h.ffw,h.tfw,hk⟩
theorem LpS.move (h:LpS w0 w wr rb fb tb i lv ts nv ms t u k nv' ms') (hk:k+1<=ts.length):LpS w0 w (wr.setCell ⟨rb,1,none⟩ (.int .i64 ((k+1:Nat):Int))) rb fb tb i lv ts nv ms t u (k+1) nv' ms':=by
 have hM:Mod (fun b=>b=rb) wr (wr.setCell ⟨rb,1,none⟩ (.int .i64 ((k+1:Nat):Int))):=(Mod.refl _ _).setCell _ _ (fun _=>rfl);obtain ⟨x,hx,hl⟩:=h.kid;exact ⟨h.rd.move hk,h.mod.trans' hM (fun _ _ q=> .inl q),h.own,hM.heap h.first (fun e=>h.nf (.inl e)),hM.heap h.tok (fun e=>h.nt (.inl e)),h.nf,h.nt,h.ffw,h.tfw,x,hx,by omega⟩
theorem LpS.newTok (h:LpS w0 w wr rb fb tb i lv ts nv ms t u k nv' ms') {tb2:Nat} {u2:Tok} (hb:Below wr.heap.size wr w2) (ht:w2.heap[tb2]? =some (.cells u2.a 121 (0,0))) (hge:wr.heap.size<=tb2):LpS w0 w w2 rb fb tb2 i lv ts nv ms t u2 k nv' ms':=by
 have h2:=h.later hb;refine ⟨h2.rd,h2.mod,h2.own,h2.first,ht,h2.nf,fun q=> ?_,h.ffw,a7g h.mod.size hge,h.kid⟩;have:=h.rd.rd_lt q;omega
theorem LpS.cells (h:LpS w0 w wr rb fb tb i lv ts nv ms t u k nv' ms'):
 (wr.cell? ⟨tb,0,none⟩=some (.int .i64 u.kind)/\wr.cell? ⟨tb,1,none⟩=some (.int .i64 u.line)/\wr.cell? ⟨tb,2,none⟩=some (.int .i64 u.col)/\wr.cell? ⟨tb,3,none⟩=some (.string ⟨u.text.toArray⟩)/\wr.cell? ⟨tb,4,none⟩=some (.bool u.quoted))/\wr.cell? ⟨fb,2,none⟩=some (.int .i64 t.col)/\(∀j,wr.frozen? ⟨tb,j,none⟩=false):=by
 have h1:=h.tok;have h2:=h.first;unfold Tok.a at h1 h2;exact ⟨⟨aAa h1 0,aAa h1 1,aAa h1 2,aAa h1 3,aAa h1 4⟩,aAa h2 2,fun j=>aAd h1 j⟩
end
theorem aOk {w w':World} {T:TypeId} {t:Tok} (h:Below (w.alloc (.cells t.a T)).heap.size (w.alloc (.cells t.a T)) w'):w'.heap[w.heap.size]? =some (.cells t.a T (0,0)):=
 (h.block _ (by simp)).trans (aAc (w:=w) _)
def curs (rb:Nat) (w:World):Nat:=(intOf ((w.cell? ⟨rb,1,none⟩).getD undef)).toNat
theorem RdS.curs {w0 w:World} {rb:Nat} {lv:Value} {ts:List Tok} {k:Nat} {nv:Value} {ms:List NdM} (h:RdS w0 w rb lv ts k nv ms):curs rb w=k:=by
 unfold Proofs.YtfenoaeoedobmaaGreatDoor.curs;have h1:=h.blk;unfold rdA at h1;have h2:=aAa h1 1;rw[h2];simp[intOf]
theorem aR3 {w0 w w1:World} {rb k:Nat} {lv nv nv1:Value} {ts:List Tok} {ms ms1:List NdM} {t:Tok} {x:Nd} (h:RdS w0 w rb lv ts k nv ms) (hR1:RdS w0 w1 rb lv ts k nv1 ms1) (hm1:Mod (RdF rb nv ms) (w.alloc (.cells t.a 121)) w1)
 (ho1:∀g,nOwn nv1 ms1 g->nOwn nv ms g\/(w.alloc (.cells t.a 121)).heap.size<=g) (hn1:nds ms1=nds ms++[x]) (hx:x.kids=[]):LpS w0 w w1 rb w.heap.size w.heap.size ms.length lv ts nv ms t t k nv1 ms1:=by
 have hs:(w.alloc (.cells t.a 121)).heap.size=w.heap.size+1:=by simp
 have hb:Below w.heap.size w (w.alloc (.cells t.a 121)):=(a7d _ _).alloc (a7c _) _;have hf:¬RdF rb nv ms w.heap.size:=fun q=>by have:=h.rd_lt q;omega
 have hf1:¬RdF rb nv1 ms1 w.heap.size:=fun q=>by
  rcases q with q|q
  ·exact hf (.inl q)
  ·rcases ho1 _ q with q|q
   ·exact hf (.inr q)
   ·omega
 have hblk:w1.heap[w.heap.size]? =some (.cells t.a 121 (0,0)):=hm1.heap (aAc (w:=w) _) hf;refine ⟨hR1,(Mod.ofBelow (F:=RdF rb nv ms) hb (fun k hk hge=>by omega)).trans hm1,fun g hg=> ?_,hblk,hblk,hf1,hf1,a7c _,a7c _,x,?_,by rw[hx];exact Nat.zero_le _⟩
 ·rcases ho1 g hg with q|q
  ·exact .inl q
  ·exact .inr (by omega)
 ·rw[hn1,List.getElem?_append_right (by rw[aBa];exact a7c _),aBa,Nat.sub_self];rfl
theorem aEn {w w':World} {g j:Nat} {v:Value} (h:w'.heap[g]? =w.heap[g]?) (hc:w.cell? ⟨g,j,none⟩=some v):w'.cell? ⟨g,j,none⟩=some v:=(World.cell?_of_block (w:=w) h).trans hc
theorem aGm {w w':World} {g j:Nat} (h:w'.heap[g]? =w.heap[g]?) (hc:w.frozen? ⟨g,j,none⟩=false):w'.frozen? ⟨g,j,none⟩=false:=(World.frozen?_of_block (w:=w) h).trans hc
theorem aOl {ms:List NdM} {i q k kid:Nat} {m:NdM} {kv:Value} (hm:ms[i]? =some m) (hq:q=m.nd.kids.length) (hk:q+1<=k):∃x,(nds (ms.set i ⟨{m.nd with kids:=m.nd.kids++[(kid:Int)]},kv⟩))[i]? =some x/\x.kids.length<=k:=by
 refine ⟨{m.nd with kids:=m.nd.kids++[(kid:Int)]},?_,by simp only[a7e,List.length_singleton];omega⟩;rw[aP9,List.getElem?_set_self (by rw[aBa];exact (a7j hm).1)]
theorem aQa {k:Int}:∀u∈[Value.int .i64 k],u.oneCell'=true:=fun u hu=>by
 rw[List.mem_singleton]at hu;rw[hu];rfl
theorem aOm {w0 w wb w4:World} {rb fb tb i k k2:Nat} {lv nv nv' nv2:Value} {ts:List Tok} {ms ms' ms2:List NdM} {ns2:List Nd} {t u:Tok} (h:LpS w0 w wb rb fb tb i lv ts nv ms t u (k+1) nv' ms') (hR:RdS w0 w4 rb lv ts k2 nv2 ms2) (hn:nds ms2=ns2) (hm:Mod (RdF rb nv' ms') wb w4) (ho:∀g,nOwn nv2 ms2 g->nOwn nv' ms' g\/wb.heap.size<=g)
 (hkeep:PreN (nds ms').length (nds ms') ns2) (hkid:∃x,(nds ms')[i]? =some x/\x.kids.length<=k) (hk:k<k2):
 Hid (LpS w0 w w4 rb fb tb i lv ts nv ms t u k2 nv2 ms2)/\∃(g c:Nat) (ka:Option Addr) (kc q:Nat) (m:NdM),nv2= .slice (some ⟨g,0,none⟩) ms2.length c/\nv2.ownBlock=some g/\ms2[i]? =some m/\m.kv= .slice ka q kc/\q=m.nd.kids.length/\q<1048576/\q+1<=k2/\w4.cell? ⟨g,i*6+5,none⟩=some (.slice ka q kc)/\(∀j,w4.frozen? ⟨g,j,none⟩=false):=by
 obtain ⟨x,hx,hxl⟩:=hkid;have hi:i<(nds ms').length:=(a7j hx).1;have hx2:(nds ms2)[i]? =some x:=by rw[hn,hkeep.2 i hi,hx]
 obtain ⟨m,hmi,hmx⟩:∃m,ms2[i]? =some m/\m.nd=x:=by
  unfold nds at hx2;rw[List.getElem?_map]at hx2;cases hmi:ms2[i]? with
  |none=>rw[hmi]at hx2;cases hx2
  |some m=>rw[hmi]at hx2;exact ⟨m,rfl,a7h hx2⟩
 obtain ⟨g,c,hnv,hg,hat,hgf⟩:=hR.nr.at hmi;obtain ⟨ka,kc,hkv⟩:=aCk (hR.nr.each m (List.mem_of_getElem? hmi)).row;have hlen:ts.length<=1048576:=by obtain ⟨_,_,_,q,_⟩:=hR.tok_at;exact q
 have hkl:=hR.kle;refine ⟨hid (h.call hR hm ho ⟨x,hx2,by omega⟩),g,c,ka,kc,_,m,hnv,hg,hmi,hkv,rfl,by rw[hmx];omega,by rw[hmx];omega,?_,hgf⟩;have h5:=hat.c5;rw[hkv]at h5;exact h5
theorem a5z {w0 w:World} {rb:Nat} {lv:Value} {ts:List Tok} {k:Nat} {nv:Value} {ms:List NdM} (h:RdS w0 w rb lv ts k nv ms) (D:Nat) (hD:D<=17) (t:Tok) (ht:t=nextT ts k) (hk2:t.kind=2) (key:ByteArray) (hkey:key.size<=1048576) (IH:1<=D->aLj w0 rb lv ts (D-1)):
 Calls Tryz.prog 147 #[.pointer (some ⟨rb,0,none⟩),.agg t.a,.int .i64 ((17-D:Nat):Int),.string key] w (aB1 w0 w rb lv ts nv ms (listX ts D k (nds ms) key t)):=by
 have hb1:∀ob,Below w.heap.size w (w.alloc ob):=fun ob=>(a7d _ _).alloc (a7c _) ob;have hok:TokOk t:=by rw[ht];exact h.ok k
 have Hbeg:=hid (fun ob=>aJs (h.later (hb1 ob)) D hD 3 (by decide) key hkey t hok);have H:=hid h;have Hb:=hid hb1;have Hx:=hid (And.intro ht (And.intro hk2 (And.intro hD hok)));have IH:=hid IH;obtain ⟨X,hX⟩:∃X,X=listX ts D k (nds ms) key t:=⟨_,rfl⟩;rw[<-hX];have HX:=hid hX;obtain ⟨B,hB⟩:∃B,B=begX k (nds ms) D 3 key t:=⟨_,rfl⟩;rw[<-hB]at Hbeg;have HB:=hid hB;have Ha:=hid (show t.a=#[.int .i64 t.kind,.int .i64 t.line,.int .i64 t.col,.string ⟨t.text.toArray⟩,.bool t.quoted] from rfl)
 rw[Ha.out]at Hbeg |-;clear h hb1 hok hX hB ht hk2 hD hkey;go_enter Tryz.func147,Tryz.ntmps147
 go_wp2_with fail
 refine (Hbeg.out _).mono ?_;intro r w1 hh;cases B with
 |error e=>
  obtain ⟨rfl,h1,h2⟩:=hh;have hx:X= .error e:=by
   rw[HX.out];have:=HB.out;unfold begX at this;unfold listX
   split at this
   ·rename_i e2 h2
    try rw[h2]
    injection this with this
    rw[this]
   ·cases this
  rw[hx];exact ⟨rfl,rfl,h1,a7g (Hb.out _).size h2⟩
 |ok y=>
  obtain ⟨k1,ns1,i⟩:=y;obtain ⟨hr,nv1,ms1,hR1,hn1,hm1,ho1⟩:=hh;subst hr;have hfb:¬RdF rb nv ms w.heap.size:=fun q=>by have:=H.out.rd_lt q;omega
  obtain ⟨rfl,hns,rfl,hxx,hDp⟩:k1=k/\ns1=nds ms++[⟨3,key,⟨#[]⟩,false,t.line,[]⟩]/\i=ms.length/\X=finX (listL (aA0 ts (D-1)) ts (D-1) t.col ms.length (ts.length-k) k ns1) ms.length/\0<D:=by
   have h1:=HB.out;have h2:=HX.out;unfold begX at h1;unfold listX at h2;cases hN:newP (nds ms) D 3 key t with
   |error e=>rw[hN]at h1;cases h1
   |ok n1=>
    rw[hN]at h1 h2;injection h1 with h1
    injection h1 with h1 h3
    injection h3 with h3 h4
    rw[aBa]at h4 h2;obtain ⟨e,hDp⟩:=aH1 hN;exact ⟨h1,by rw[h3,e],h4,by rw[h2,h3],hDp⟩
  have hL1:=aR3 H.out hR1 hm1 ho1 (hn1.trans hns) rfl;have Hxx:=hid hxx;have HDp:=hid (And.intro hDp Hx.out.2.2.1);clear hDp;have HL:=hid (And.intro hL1 hn1);have Hi:=hid (show ms.length<ms1.length by have:=congrArg List.length (hn1.trans hns);rw[aBa,a7e,aBa]at this;simp at this;omega);clear hR1 hm1 ho1 hn1 hns hxx hL1 HB HX Hbeg hfb;obtain ⟨n0,hn0⟩:∃n0,n0=ms.length:=⟨_,rfl⟩
  rw[<-hn0];have Hn0:=hid hn0;clear hn0
  go_wp2_with fail
  refine (aFg HL.out.1.rd).mono ?_;rintro r w2 ⟨rfl,h2⟩;have Hb2:=hid h2;clear h2;have HL2:=hid (show LpS w0 w (w2.alloc (.cells (nextT ts k1).a 121)) rb w.heap.size w2.heap.size n0 lv ts nv ms t (nextT ts k1) k1 nv1 ms1 from by
   rw[Hn0.out];exact HL.out.1.newTok (Hb2.out.trans ((a7d _ _).alloc (a7c _) _ |>.mono Hb2.out.size)) (aAc (w:=w2) _) Hb2.out.size)
  unfold Tok.a at HL2 |-;go_wp2
  go_loopw [10,11,12] (fun v10 v11 v12 wr=>∃tb:Nat,v10= .pointer (some ⟨tb,0,none⟩)/\Hid (∃k nv' ms',LpS w0 w wr rb w.heap.size tb n0 lv ts nv ms t (nextT ts k) k nv' ms'/\X=finX (listL (aA0 ts (D-1)) ts (D-1) t.col n0 (ts.length-k) k (nds ms')) n0)) (fun _ _ _ wr=>ts.length-curs rb wr)
  case atStart=>
   exact ⟨_,rfl,hid ⟨k1,nv1,ms1,HL2.out,by rw[Hxx.out,HL.out.2,Hn0.out]⟩⟩
  case round=>
   clear HL2 Hb2 HL Hxx Hi;obtain ⟨tb,rfl,HH⟩:=hrel;obtain ⟨k,nv',ms',hL,hx⟩:=HH.out;obtain ⟨⟨c0,c1,c2,c3,c4⟩,f2,fz⟩:=hL.cells;have Hl:=hid hL;have Hxk:=hid hx;clear hL hx HH;obtain ⟨u,hu⟩:∃u,u=nextT ts k:=⟨_,rfl⟩;rw[<-hu]at c0 c1 c2 c3 c4 Hl;have Hu:=hid hu;clear hu;have done:¬(u.kind=2/\u.col=t.col)->aB1 w0 w rb lv ts nv ms X (.returned (.int .i64 (n0:Int))) wr:=fun hn=>by
    rw[Hxk.out,aW1 _ (by rw[<-Hu.out];exact hn)];exact ⟨rfl,nv',ms',Hl.out.rd,rfl,Hl.out.mod,Hl.out.own⟩
   by_cases k2:u.kind=2
   ·have e2:(u.kind==2)=true:=beq_iff_eq.2 k2;by_cases k3:u.col=t.col
    ·have e3:(u.col==t.col)=true:=beq_iff_eq.2 k3;clear done;have hkl:=aDk (ts:=ts) (k:=k) (by rw[<-Hu.out,k2];decide);have Hc:=hid (show (nextT ts k).kind=2/\(nextT ts k).col=t.col from by rw[<-Hu.out];exact ⟨k2,k3⟩);have hblk:=Hl.out.rd.blk;unfold rdA at hblk;have y1:=aAa hblk 1;have yf:=aAd hblk 1;simp at y1;have hlen:ts.length<=1048576:=by obtain ⟨_,_,_,q,_⟩:=Hl.out.rd.tok_at;exact q
     have Hlen:=hid hlen;have hwk:wrap64 ((k:Int)+1)=((k+1:Nat):Int):=(aA1 (by omega) (by omega)).trans (by omega);have Hmv:=hid (show LpS w0 w (wr.setCell ⟨rb,1,none⟩ (.int .i64 ((k:Int)+1))) rb w.heap.size tb n0 lv ts nv ms t u (k+1) nv' ms' from Hl.out.move (by omega));have Hkl:=hid hkl;have Hkid:=hid Hl.out.kid;have Hcur:=hid Hl.out.rd.curs;clear hblk k2 k3 Hl hkl hlen
     go_wp2_with fail
     refine (aFg Hmv.out.rd).mono ?_;rintro r w3 ⟨rfl,h3⟩;obtain ⟨n,hn⟩:∃n,n=nextT ts (k+1):=⟨_,rfl⟩;rw[<-hn];have Hn:=hid hn;have hL3:=(Hmv.out.later h3).later ((a7d _ _).alloc (a7c _) (.cells n.a 121));have HL3:=hid hL3;obtain ⟨⟨c0,c1,c2,c3,c4⟩,_,_⟩:=hL3.cells;have hbv:((17-D:Nat):Int)+1=((17-(D-1):Nat):Int):=by
      have h1:=HDp.out;omega
     obtain ⟨V,hV⟩:∃V,V=valP (aA0 ts (D-1)) ts (D-1) (aFf n u) u (k+1) (nds ms') ⟨#[]⟩:=⟨_,rfl⟩;have HV:=hid (fun is (hi:aFf n u=is)=>show Calls Tryz.prog 181 #[.pointer (some ⟨rb,0,none⟩),.bool is,.agg u.a,.int .i64 (((17-D:Nat):Int)+1),.string ⟨#[]⟩] (w3.alloc (.cells n.a 121)) (aB1 w0 (w3.alloc (.cells n.a 121)) rb lv ts nv' ms' V) from by
      rw[hV,hi,hbv];exact aWz hL3.rd (D-1) (by have:=HDp.out;omega) is u (by rw[Hu.out];exact hL3.rd.ok k) ⟨#[]⟩ (by decide) (IH.out HDp.out.1))
     have HVe:=hid hV;obtain ⟨wb,hwb⟩:∃wb,wb=w3.alloc (.cells n.a 121):=⟨_,rfl⟩;have Hwb:=hid hwb;rw[<-hwb]at HV HL3 c0 c1 c2 c3 c4;have d0:=aAa (show wb.heap[w3.heap.size]? =some (.cells #[.int .i64 n.kind,.int .i64 n.line,.int .i64 n.col,.string ⟨n.text.toArray⟩,.bool n.quoted] 121 (0,0)) by rw[hwb];exact aAc (w:=w3) _);have d1:=d0 1;have d2:=d0 2
     simp at d1 d2;clear hn hL3 h3 y1 yf e2 e3 hwk Hmv f2 fz hbv hV d0;unfold Tok.a at HV hwb |-;go_upto_region 7 with (fail)
     rw[<-hwb];clear hwb;go_cut [12] from 20 to 76 (fun s12 w4=>∃kid:Nat,s12= .int .i64 (kid:Int)/\Hid (∃k2 ns2 nv2 ms2,V= .ok (k2,ns2,kid)/\RdS w0 w4 rb lv ts k2 nv2 ms2/\nds ms2=ns2/\Mod (RdF rb nv' ms') wb w4/\(∀g,nOwn nv2 ms2 g->nOwn nv' ms' g\/wb.heap.size<=g)))
     case first=>
      cases b1:(n.line==u.line)<;>cases b2:decide (u.col<n.col)
      all_goals
       go_wp2_with fail
       refine (HV.out _ (by unfold aFf;rw[b1,b2];rfl)).mono ?_;intro r w4 hh;clear HV c0 c1 c2 c3 c4 d1 d2;cases V with
       |error e=>
        obtain ⟨rfl,h1,h2⟩:=hh;have hv:=HVe.out;rw[Hn.out,Hu.out]at hv;have hx:X= .error e:=by rw[Hxk.out,aW2 Hc.out hv.symm];rfl
        subst hx;exact ⟨rfl,rfl,h1,a7g HL3.out.mod.size h2⟩
       |ok y=>
        obtain ⟨k2,ns2,kid⟩:=y;obtain ⟨hr,nv2,ms2,hR2,hn2,hm2,ho2⟩:=hh;subst hr;have HR:=hid (show ∃k2' ns2' nv2 ms2,(Except.ok (k2,ns2,kid):Except Flt (Nat×List Nd×Nat))= .ok (k2',ns2',kid)/\RdS w0 w4 rb lv ts k2' nv2 ms2/\nds ms2=ns2'/\Mod (RdF rb nv' ms') wb w4/\(∀g,nOwn nv2 ms2 g->nOwn nv' ms' g\/wb.heap.size<=g) from ⟨k2,ns2,nv2,ms2,rfl,hR2,hn2,hm2,ho2⟩);clear hR2 hn2 hm2 ho2;go_wp2
        go_meet
        case rel=>exact ⟨kid,rfl,HR⟩
     case rest=>
      clear c0 c1 c2 c3 c4 d1 d2 HV;obtain ⟨kid,rfl,HR⟩:=hcut;obtain ⟨k2,ns2,nv2,ms2,hVk,hR2,hn2,hm2,ho2⟩:=HR.out;obtain ⟨w4,hw4⟩:∃w4,w4=wc:=⟨_,rfl⟩;subst hw4;have hv:=HVe.out;rw[Hn.out,Hu.out,hVk]at hv;obtain ⟨hst,hk2,hk2l⟩:=aTw (i:=n0) (aGk ts (D-1)) Hc.out hv.symm;have hkeep:=(aG5 (aGl ts (D-1)) hv.symm).1;have Hst:=hid (And.intro hst (And.intro hk2 hk2l));obtain ⟨HS4,g,c,ka,kc,q,m,hnv2,hg,hm,hmk,hq,hql,hxk2,hc5,hgf⟩:=aOm (w4:=w4) HL3.out hR2 hn2 hm2 ho2 hkeep Hkid.out hk2
      subst hnv2;clear hv hst hk2 hk2l hkeep HVe HL3 hR2 hm2 ho2 HR hVk;have hblk:=HS4.out.rd.blk;unfold rdA at hblk;have z2:=aAa hblk 2;simp at z2;have bi:(n0:Int)<(ms2.length:Int):=by have:=(a7j hm).1;omega
      have Hown:=hid (fun ob=>show ((w4.alloc ob).drew).ownsRow 0 3 1 (.slice ka q kc) q (m.nd.kids.flatMap aB9) from by
       have:=(HS4.out.rd.nr.each m (List.mem_of_getElem? hm)).row;rw[hmk,<-hq]at this;exact World.ownsRow.alloc (w:=w4) this ob)
      have Hend:=hid (fun ob ao5 c5 (w5:World) (a1:w5.ownsRow 0 3 1 (.slice ao5 (q+1) c5) (q+1) (m.nd.kids.flatMap aB9++[.int .i64 (kid:Int)])) (a2:((w4.alloc ob).drew).grownBy w5 (Value.slice ka q kc).ownBlock)
       (a3:∀g,(Value.slice ao5 (q+1) c5).ownBlock=some g->(Value.slice ka q kc).ownBlock=some g\/((w4.alloc ob).drew).heap.size<=g)=>aW0 HS4.out.rd hm hg hq hql (((a7d w4.heap.size w4).alloc (a7c _) ob).drew) a1 (by rw[hmk];exact a2) (by rw[hmk];exact a3))
      have Hql:=hid (show q<=2000000 by omega);have Hq:=hid (And.intro hq (And.intro hxk2 (And.intro hm hn2)));have Hg:=hid (And.intro z2 hc5);have Hgf:=hid hgf;clear hblk hm hmk hq hql hxk2 hgf hg hn2 z2 hc5;go_wp2;refine aCx (fun w'=>w'.cell? ⟨rb,2,none⟩=some (.slice (some ⟨g,0,none⟩) ms2.length c)/\w'.cell? ⟨g,n0*6+5,none⟩=some (.slice ka q kc)) (fun i=>decide (i<16)) (by kernel_rfl) ?_;have hS:w4.drew.cell? ⟨rb,2,none⟩=some (.slice (some ⟨g,0,none⟩) ms2.length c)/\w4.drew.cell? ⟨g,n0*6+5,none⟩=some (.slice ka q kc):=Hg.out
      refine wK (i:=0) (v:= ?_) rfl (by kernel_rfl) (fun _ _ _ h=>h) (by rfl) ?_ hS ?_;rotate_left
      ·intro w' hSw;obtain ⟨s1,s2⟩:=hSw;go_simp
       try with_reducible rfl
      simp only[Act.put,sA,sZ,sS];refine wK (i:=1) (v:= ?_) rfl (by kernel_rfl) (fun _ _ _ h=>h) (by rfl) ?_ hS ?_;rotate_left
      ·intro w' hSw;obtain ⟨s1,s2⟩:=hSw;go_simp
       try with_reducible rfl
      simp only[Act.put,sA,sZ,sS];refine wK (i:=2) (v:= ?_) rfl (by kernel_rfl) (fun _ _ _ h=>h) (by rfl) ?_ hS ?_;rotate_left
      ·intro w' hSw;obtain ⟨s1,s2⟩:=hSw;go_simp
       try with_reducible rfl
      simp only[Act.put,sA,sZ,sS];refine wK (i:=3) (v:= ?_) rfl (by kernel_rfl) (fun _ _ _ h=>h) (by rfl) ?_ hS ?_;rotate_left
      ·intro w' hSw;obtain ⟨s1,s2⟩:=hSw;go_simp
       try with_reducible rfl
      simp only[Act.put,sA,sZ,sS];refine wK (i:=4) (v:= ?_) rfl (by kernel_rfl) (fun _ _ _ h=>h) (by rfl) ?_ hS ?_;rotate_left
      ·intro w' hSw;obtain ⟨s1,s2⟩:=hSw;go_simp
       try with_reducible rfl
      simp only[Act.put,sA,sZ,sS];refine wK (i:=5) (v:= ?_) rfl (by kernel_rfl) (fun _ _ _ h=>h) (by rfl) ?_ hS ?_;rotate_left
      ·intro w' hSw;obtain ⟨s1,s2⟩:=hSw;go_simp
       try with_reducible rfl
      simp only[Act.put,sA,sZ,sS];refine wK (i:=6) (v:= ?_) rfl (by kernel_rfl) (fun _ _ _ h=>h) (by rfl) ?_ hS ?_;rotate_left
      ·intro w' hSw;obtain ⟨s1,s2⟩:=hSw;go_simp
       try with_reducible rfl
      simp only[Act.put,sA,sZ,sS];refine wK (i:=7) (v:= ?_) rfl (by kernel_rfl) (fun _ _ _ h=>h) (by rfl) ?_ hS ?_;rotate_left
      ·intro w' hSw;obtain ⟨s1,s2⟩:=hSw;go_simp
       try with_reducible rfl
      simp only[Act.put,sA,sZ,sS];refine wK (i:=8) (v:= ?_) rfl (by kernel_rfl) (fun _ _ _ h=>h) (by rfl) ?_ hS ?_;rotate_left
      ·intro w' hSw;obtain ⟨s1,s2⟩:=hSw;go_simp
       try with_reducible rfl
      simp only[Act.put,sA,sZ,sS];refine wK (i:=9) (v:= ?_) rfl (by kernel_rfl) (fun _ _ _ h=>h) (by rfl) ?_ hS ?_;rotate_left
      ·intro w' hSw;obtain ⟨s1,s2⟩:=hSw;go_simp
       try with_reducible rfl
      simp only[Act.put,sA,sZ,sS];refine wK (i:=10) (v:= ?_) rfl (by kernel_rfl) (fun _ _ _ h=>h) (by rfl) ?_ hS ?_;rotate_left
      ·intro w' hSw;obtain ⟨s1,s2⟩:=hSw;go_simp
       try with_reducible rfl
      simp only[Act.put,sA,sZ,sS];refine wK (i:=11) (v:= ?_) rfl (by kernel_rfl) (fun _ _ _ h=>h) (by rfl) ?_ hS ?_;rotate_left
      ·intro w' hSw;obtain ⟨s1,s2⟩:=hSw;go_simp
       try with_reducible rfl
      simp only[Act.put,sA,sZ,sS];refine wK (i:=12) (v:= ?_) rfl (by kernel_rfl) (fun _ _ _ h=>h) (by rfl) ?_ hS ?_;rotate_left
      ·intro w' hSw;obtain ⟨s1,s2⟩:=hSw;go_simp
       try with_reducible rfl
      simp only[Act.put,sA,sZ,sS];refine wK (i:=13) (v:= ?_) rfl (by kernel_rfl) (fun _ _ _ h=>h) (by rfl) ?_ hS ?_;rotate_left
      ·intro w' hSw;obtain ⟨s1,s2⟩:=hSw;go_simp
       try with_reducible rfl
      simp only[Act.put,sA,sZ,sS];refine aAi (i:=14) (by kernel_rfl) rfl (fun K hK=> ?_);go_simp;refine hK.out _ _ (fun _=>⟨aBd ((a7d w4.drew.heap.size w4.drew).alloc (a7c _) _) hS.1,aBd ((a7d w4.drew.heap.size w4.drew).alloc (a7c _) _) hS.2⟩) ?_;clear hK K
      try simp only[Act.put,sA,sZ,sS]
      refine aAi (i:=15) (by kernel_rfl) rfl (fun K hK=> ?_);refine aG4 3 53 (.int .i64 0) 1 8 Tryz.underlying53 aIn rfl (by decide) (by decide) rfl _ _ rfl (.slice ka q kc) q (m.nd.kids.flatMap aB9) rfl (Hown.out _) w4.heap.size #[.int .i64 (kid:Int)] [.int .i64 (kid:Int)] rfl (aAc (w:=w4) _) rfl rfl aQa Hql.out (q+1) rfl ?_;intro ao5 c5 w5 own2 gr2 new2
      have HE:=hid (Hend.out _ _ _ _ own2 gr2 new2);have q1:=aEn HE.out.2.2.1 Hg.out.2;have q2:=aGm HE.out.2.2.1 (Hgf.out (n0*6+5));have q3:=aEn HE.out.2.1 Hg.out.1;refine hK.out _ _ (fun _=>⟨q3,q1⟩) ?_;clear hK K own2 gr2 new2 Hown Hend hS
      try simp only[Act.put,sA,sZ,sS]
      refine aAi (i:=16) (by kernel_rfl) rfl (fun K hK=> ?_);go_simp;refine hK.out _ _ (fun h=>absurd h (by decide)) ?_;clear hK K;refine aAi (i:=17) (by kernel_rfl) rfl (fun K hK=> ?_);go_simp;refine hK.out _ _ (fun h=>absurd h (by decide)) ?_;clear hK K;refine aAi (i:=18) (by kernel_rfl) rfl (fun K hK=> ?_);go_simp;refine hK.out _ _ (fun h=>absurd h (by decide)) ?_;clear hK K
      refine aCw (by kernel_rfl) ?_ _;clear q1 q2 q3;have hL5:=HS4.out.call HE.out.2.2.2.1 HE.out.2.2.2.2.1 HE.out.2.2.2.2.2 (aOl Hq.out.2.2.1 Hq.out.1 Hq.out.2.1);have Hns:=hid (aJt (kid:=kid) Hq.out.2.2.1 (.slice ao5 (q+1) c5));obtain ⟨⟨c0,c1,c2,c3,c4⟩,_,_⟩:=hL5.cells;have HL5:=hid hL5;obtain ⟨w6,hw6⟩:∃w6,w6=w5.setCell ⟨g,n0*6+5,none⟩ (.slice ao5 (q+1) c5):=⟨_,rfl⟩;rw[<-hw6]at HL5 c0 c1 c2 c3 c4 |-
      clear hL5 hw6 HE Hql Hg Hgf HS4
      go_wp2_with fail
      have hb6:Below w6.heap.size w6 (w6.alloc (.cells u.a 121)):=(a7d _ _).alloc (a7c _) _;refine (aFg (HL5.out.later hb6).rd).mono ?_;rintro r w7 ⟨rfl,h7⟩;have f7:=aOk h7;unfold Tok.a at f7;have HE:=hid (set5 f7 (.int .i64 (nextT ts k2).kind) (.int .i64 (nextT ts k2).line) (.int .i64 (nextT ts k2).col) (.string ⟨(nextT ts k2).text.toArray⟩) (.bool (nextT ts k2).quoted))
      have Hb7:=hid (hb6.trans (h7.mono hb6.size));obtain ⟨e0,e1,e2,e3,e4⟩:=cB5 f7;have ef:=fun j=>aAd f7 j;simp at e0 e1 e2 e3 e4;have HF:=hid (HL5.out.newTok (u2:=nextT ts k2) (Hb7.out.trans (HE.out.1.below Hb7.out.size (fun b hb=>by omega))) HE.out.2 (a7c _));have HX2:=hid (show X=finX (listL (aA0 ts (D-1)) ts (D-1) t.col n0 (ts.length-k2) k2 (nds (ms2.set n0 ⟨{m.nd with kids:=m.nd.kids++[(kid:Int)]},.slice ao5 (q+1) c5⟩))) n0 by rw[Hxk.out,Hst.out.1,Hns.out,Hq.out.2.2.2])
      clear h7 hb6 f7 HL5 HE Hb7 c0 c1 c2 c3 c4;unfold Tok.a;go_wp2;exact ⟨⟨_,rfl,hid ⟨k2,_,_,HF.out,HX2.out⟩⟩,by rw[HF.out.rd.curs,Hcur.out];have:=Hst.out.2;omega⟩
    ·have e3:(u.col==t.col)=false:=beq_eq_false_iff_ne.2 k3;have HD:=hid (done (fun h=>k3 h.2));clear done k3 k2;go_wp2;exact bodyPost_ret (results_tmp (t:=8) rfl _ _ _) rfl HD.out
   ·have e2:(u.kind==2)=false:=beq_eq_false_iff_ne.2 k2;have HD:=hid (done (fun h=>k2 h.1));clear done k2;go_wp2;exact bodyPost_ret (results_tmp (t:=8) rfl _ _ _) rfl HD.out
inductive Fo where
 |nil:Fo
 |sc (key text:ByteArray) (q:Bool) (next:Fo):Fo
 |br (kind:Int) (key:ByteArray) (kids next:Fo):Fo
namespace Fo
def size:Fo->Nat
 |nil=>0
 |sc _ _ _ nx=>1+nx.size
 |br _ _ kids nx=>1+kids.size+nx.size
def depth:Fo->Nat
 |nil=>0
 |sc _ _ _ nx=>max 1 nx.depth
 |br _ _ kids nx=>max (1+kids.depth) nx.depth
def heads:Fo->Nat->List Int
 |nil,_=>[]
 |sc _ _ _ nx,i=>(i:Int)::nx.heads (i+1)
 |br _ _ kids nx,i=>(i:Int)::nx.heads (i+1+kids.size)
def flat:Fo->Nat->List Nd
 |nil,_=>[]
 |sc key text q nx,i=>⟨1,key,text,q,0,[]⟩::nx.flat (i+1)
 |br kind key kids nx,i=>⟨kind,key,⟨#[]⟩,false,0,kids.heads (i+1)⟩::(kids.flat (i+1)++nx.flat (i+1+kids.size))
def keys:Fo->List ByteArray
 |nil=>[]
 |sc key _ _ nx=>key::nx.keys
 |br _ key _ nx=>key::nx.keys
theorem a1d:Fo.nil.size=0:=rfl
theorem aH2 (key text:ByteArray) (q:Bool) (nx:Fo):(sc key text q nx).size=1+nx.size:=rfl
theorem aH3 (kind:Int) (key:ByteArray) (kids nx:Fo):(br kind key kids nx).size=1+kids.size+nx.size:=rfl
theorem a1e (key text:ByteArray) (q:Bool) (nx:Fo):(sc key text q nx).depth=max 1 nx.depth:=rfl
theorem a1f (kind:Int) (key:ByteArray) (kids nx:Fo):(br kind key kids nx).depth=max (1+kids.depth) nx.depth:=rfl
theorem aR4 (key text:ByteArray) (q:Bool) (nx:Fo) (i:Nat):(sc key text q nx).heads i=(i:Int)::nx.heads (i+1):=rfl
theorem aR5 (kind:Int) (key:ByteArray) (kids nx:Fo) (i:Nat):(br kind key kids nx).heads i=(i:Int)::nx.heads (i+1+kids.size):=rfl
theorem aW6 (key text:ByteArray) (q:Bool) (nx:Fo) (i:Nat):(sc key text q nx).flat i=⟨1,key,text,q,0,[]⟩::nx.flat (i+1):=rfl
theorem aW7 (kind:Int) (key:ByteArray) (kids nx:Fo) (i:Nat):(br kind key kids nx).flat i=⟨kind,key,⟨#[]⟩,false,0,kids.heads (i+1)⟩::(kids.flat (i+1)++nx.flat (i+1+kids.size)):=rfl
theorem flat_len:∀(F:Fo) (i:Nat),(F.flat i).length=F.size
 |nil,_=>rfl
 |sc _ _ _ nx,i=>by unfold flat;rw[a7f,flat_len nx,aH2];omega
 |br _ _ kids nx,i=>by unfold flat;rw[a7f,a7e,flat_len kids,flat_len nx,aH3];omega
theorem aMs:∀F:Fo,F.depth<=F.size
 |nil=>a7c _
 |sc _ _ _ nx=>by have:=aMs nx;rw[a1e,aH2];omega
 |br _ _ kids nx=>by have:=aMs nx;have:=aMs kids;rw[a1f,aH3];omega
def At (ns:List Nd) (F:Fo) (i:Nat):Prop:=∃a b,ns=a++(F.flat i++b)/\a.length=i
theorem At.head_sc {ns:List Nd} {key text:ByteArray} {q:Bool} {nx:Fo} {i:Nat} (h:At ns (sc key text q nx) i):ns[i]? =some ⟨1,key,text,q,0,[]⟩/\At ns nx (i+1):=by
 obtain ⟨a,b,rfl,rfl⟩:=h;unfold flat;refine ⟨by simp,a++[⟨1,key,text,q,0,[]⟩],b,by simp,by simp⟩
theorem At.head_br {ns:List Nd} {kind:Int} {key:ByteArray} {kids nx:Fo} {i:Nat} (h:At ns (br kind key kids nx) i):ns[i]? =some ⟨kind,key,⟨#[]⟩,false,0,kids.heads (i+1)⟩/\At ns kids (i+1)/\At ns nx (i+1+kids.size):=by
 obtain ⟨a,b,rfl,rfl⟩:=h;unfold flat;refine ⟨by simp,⟨a++[⟨kind,key,⟨#[]⟩,false,0,kids.heads (a.length+1)⟩],nx.flat (a.length+1+kids.size)++b,by simp,by simp⟩,⟨a++(⟨kind,key,⟨#[]⟩,false,0,kids.heads (a.length+1)⟩::kids.flat (a.length+1)),b,by simp,by simp[flat_len];omega⟩⟩
def mark (kind:Int) (key:ByteArray):List UInt8:=if kind=2 then keyQ key.data.toList++[58] else [45]
def scalQ (text:ByteArray) (q:Bool):List UInt8:=if q=true then 32::aBr text.data.toList else if text.data.toList≠[] then 32::text.data.toList else []
def txt (kind:Int) (col:Nat):Fo->List UInt8
 |nil=>[]
 |sc key text q nx=>mark kind key++(scalQ text q++(10::match nx with|nil=>[]|_=>List.replicate col 32++nx.txt kind col))
 |br kd key kids nx=>mark kind key++((if kind=2 then 10::(match kids with|nil=>[]|_=>List.replicate (col+2) 32++kids.txt kd (col+2)) else 32::kids.txt kd (col+2))++(match nx with|nil=>[]|_=>List.replicate col 32++nx.txt kind col))
def full (kind:Int) (col:Nat) (F:Fo):List UInt8:=match F with|nil=>[]|_=>List.replicate col 32++F.txt kind col
theorem full_some {kind:Int} {col:Nat} {F:Fo} (h:F≠nil):full kind col F=List.replicate col 32++F.txt kind col:=by
 cases F with
 |nil=>exact absurd rfl h
 |sc=>rfl
 |br=>rfl
theorem txt_sc (kind:Int) (col:Nat) (key text:ByteArray) (q:Bool) (nx:Fo):(sc key text q nx).txt kind col=mark kind key++(scalQ text q++(10::full kind col nx)):=by
 conv=>lhs;unfold txt
 cases nx<;>rfl
theorem txt_br (kind:Int) (col:Nat) (kd:Int) (key:ByteArray) (kids nx:Fo):(br kd key kids nx).txt kind col=mark kind key++((if kind=2 then 10::full kd (col+2) kids else 32::kids.txt kd (col+2))++full kind col nx):=by
 conv=>lhs;unfold txt
 cases kids<;>cases nx<;>rfl
end Fo
def Put (out s R:List UInt8):Prop:=(R.length<=65536->R=out++s)/\out.length<=R.length
theorem Put.trans {a s b t c:List UInt8} (h:Put a s b) (k:Put b t c):Put a (s++t) c:=
 ⟨fun hc=>by rw[k.1 hc,h.1 (a7g k.2 hc),List.append_assoc],a7g h.2 k.2⟩
theorem Put.nil (a:List UInt8):Put a [] a:=⟨fun _=>(List.append_nil a).symm,a7c _⟩
theorem aE5 (out s:List UInt8):Put out s (putL out s):=by
 unfold putL
 split
 ·exact ⟨fun _=>rfl,by simp⟩
 ·rename_i h
  exact ⟨fun q=>absurd q h,a7c _⟩
theorem a3v {there:Bool} {out:List UInt8} {n:Nat}:Put out (if there=true then [] else List.replicate n 32) (if there=true then out else putL out (List.replicate n 32)):=by
 cases there with
 |true=>exact Put.nil out
 |false=>exact aE5 _ _
theorem aIq {ns:List Nd} {i:Nat} {x:Nd} (h:ns[i]? =some x):ns[i]! =x:=by
 rw[List.getElem!_eq_getElem?_getD,h];rfl
theorem a1g (key text:ByteArray) (q:Bool):textN ⟨1,key,text,q,0,[]⟩=Fo.scalQ text q:=rfl
theorem Fo.lead {kind:Int} {col:Nat} {F:Fo} (h:F≠Fo.nil) (there:Bool):(if there=true then F.txt kind col else F.full kind col)=(if there=true then [] else List.replicate col 32)++F.txt kind col:=by
 cases there with
 |true=>rfl
 |false=>exact Fo.full_some h
def KeyG (kind:Int) (key:ByteArray):Prop:=(kind=2->key.data.toList≠[]/\key.data.toList.length<=64/\key.data.toList.all aBu=true)/\(kind=3->key=⟨#[]⟩)
def ScalG (text:ByteArray) (q:Bool):Prop:=q=true\/aDl text.data.toList=true
def Fo.Ok (kind:Int):Fo->Prop
 | .nil=>True
 | .sc key text q nx=>KeyG kind key/\ScalG text q/\nx.Ok kind
 | .br kd key kids nx=>KeyG kind key/\(kd=2\/kd=3)/\kids≠ .nil/\kids.Ok kd/\(kd=2->kids.keys.Nodup)/\nx.Ok kind
theorem Fo.depth_pos {F:Fo} (h:F≠Fo.nil):1<=F.depth:=by
 cases F with
 |nil=>exact absurd rfl h
 |sc=>rw[Fo.a1e];omega
 |br=>rw[Fo.a1f];omega
theorem aJu (ns:List Nd):∀(F:Fo) (f i:Nat) (kind:Int) (col:Nat) (there:Bool) (out:List UInt8),Fo.At ns F i->F.depth<=f+1->F.Ok kind->(kind=2\/kind=3)->
 Put out (if there=true then F.txt kind col else F.full kind col) (layK ns (layP ns f) kind col (F.heads i) there out)
 |Fo.nil,f,i,kind,col,there,out,hA,hd,_,_=>by
  have e:(if there=true then Fo.nil.txt kind col else Fo.nil.full kind col)=[]:=by cases there<;>rfl
  rw[e];exact Put.nil out
 |Fo.sc key text q nx,f,i,kind,col,there,out,hA,hd,hok,hk=>by
  obtain ⟨h1,h2⟩:=hA.head_sc;have hb:=aIq h1;have ih:∀out',Put out' (nx.full kind col) (layK ns (layP ns f) kind col (nx.heads (i+1)) false out'):=fun out'=>aJu ns nx f (i+1) kind col false out' h2 (by rw[Fo.a1e]at hd;omega) hok.2.2 hk;rw[Fo.lead (by simp) there,Fo.txt_sc];unfold Fo.heads layK;rw[Int.toNat_natCast,hb,if_pos rfl,a1g];have a1:=a3v (there:=there) (out:=out) (n:=col)
  have a2:=a1.trans (aE5 _ (Fo.mark kind key));have a3:=a2.trans (aE5 _ (Fo.scalQ text q));have a4:=a3.trans (aE5 _ [10]);have a5:=a4.trans (ih _);simp only[List.append_assoc,List.singleton_append]at a5;exact a5
 |Fo.br kd key kids nx,f,i,kind,col,there,out,hA,hd,hok,hk=>by
  obtain ⟨h1,h2,h3⟩:=hA.head_br;have hb:=aIq h1;obtain ⟨hkey,hkd,hkn,hko,-,hnx⟩:=hok;have hdp:=Fo.depth_pos hkn;have hd2:1+kids.depth<=f+1/\nx.depth<=f+1:=by rw[Fo.a1f]at hd;omega
  obtain ⟨f',rfl⟩:∃f',f=f'+1:=⟨f-1,by omega⟩;have ih:∀out',Put out' (nx.full kind col) (layK ns (layP ns (f'+1)) kind col (nx.heads (i+1+kids.size)) false out'):=fun out'=>aJu ns nx (f'+1) (i+1+kids.size) kind col false out' h3 hd2.2 hnx hk;have ihf:∀out',Put out' (kids.full kd (col+2)) (layK ns (layP ns f') kd (col+2) (kids.heads (i+1)) false out'):=fun out'=>aJu ns kids f' (i+1) kd (col+2) false out' h2 (by omega) hko hkd
  have iht:∀out',Put out' (kids.txt kd (col+2)) (layK ns (layP ns f') kd (col+2) (kids.heads (i+1)) true out'):=fun out'=>aJu ns kids f' (i+1) kd (col+2) true out' h2 (by omega) hko hkd;have hlay:∀th out',layP ns (f'+1) i (col+2) th out'=layK ns (layP ns f') kd (col+2) (kids.heads (i+1)) th out':=by
   intro th out'
   conv=>lhs;unfold layP
   rw[hb,if_neg (show ¬kd=1 by rcases hkd with e|e<;>rw[e]<;>decide)]
  rw[Fo.lead (by simp) there,Fo.txt_br];unfold Fo.heads layK;rw[Int.toNat_natCast,hb,if_neg (show ¬kd=1 by rcases hkd with e|e<;>rw[e]<;>decide)];have a1:=a3v (there:=there) (out:=out) (n:=col);have a2:=a1.trans (aE5 _ (Fo.mark kind key));rcases hk with rfl|rfl
  ·have a3:=a2.trans (aE5 _ [10]);have a4:=a3.trans (ihf _);have a5:=a4.trans (ih _);rw[<-hlay]at a5;simp only[List.append_assoc,List.singleton_append]at a5;rw[if_pos (rfl:(2:Int)=2)];simp only[List.append_assoc,List.cons_append];exact a5
  ·have a3:=a2.trans (aE5 _ [32]);have a4:=a3.trans (iht _);have a5:=a4.trans (ih _);rw[<-hlay]at a5;simp only[List.append_assoc,List.singleton_append]at a5;rw[if_neg (show ¬(3:Int)=2 by decide)];simp only[List.append_assoc,List.cons_append];exact a5
def Fo.doc (F:Fo):List Nd:=(Fo.br 2 ⟨#[]⟩ F .nil).flat 0
theorem Fo.doc_len (F:Fo):F.doc.length=F.size+1:=by unfold Fo.doc;rw[Fo.flat_len,Fo.aH3,Fo.a1d];omega
theorem Fo.doc_at (F:Fo):Fo.At F.doc (Fo.br 2 ⟨#[]⟩ F .nil) 0:=⟨[],[],by simp[Fo.doc],rfl⟩
theorem Fo.full_zero (F:Fo) (kind:Int):F.full kind 0=F.txt kind 0:=by
 cases F<;>rfl
theorem a1h {F:Fo} (hn:F≠ .nil) (hok:F.Ok 2) (h:(emitL F.doc).length<=65536):emitL F.doc=F.txt 2 0:=by
 obtain ⟨h1,h2,h3⟩:=F.doc_at.head_br;have hb:=aIq h1;have hl:=F.doc_len;have hd:=F.aMs;have hdp:=Fo.depth_pos hn;unfold emitL at h |-;rw[hl]at h |-;unfold layP at h |-;rw[hb,if_neg (show ¬(2:Int)=1 by decide)]at h |-;have:=(aJu F.doc F F.size 1 2 0 false [] h2 (by omega) hok (.inl rfl)).1 h;rw[this,if_neg (by decide),Fo.full_zero];rfl
def cutB:List UInt8->List UInt8×List UInt8
 |[]=>([],[])
 |c::r=>if c=10 then ([],r) else (c::(cutB r).1,(cutB r).2)
def aBy (ts:List Tok):Nat:=(ts.filter fun t=>t.kind==1).length
def aG6:Nat->List UInt8->Nat->Nat->List Tok->Except (Nat×Nat×Int) (List Tok)
 |0,_,_,_,acc=> .ok acc
 |f+1,l,k,n,acc=>
  if l=[] then .ok acc
  else match lineL (cutB l).1 ((n+1:Nat):Int) with
   | .error c=> .error (k,n+1,c)
   | .ok ts=>aG6 f (cutB l).2 (k+aBy ts) (n+1) (acc++ts)
def scanL (l:List UInt8):Except (Nat×Nat×Int) (List Tok):=if 65536<l.length then .error (0,0,3) else aG6 (l.length+1) l 0 0 []
theorem aF1:∀l:List UInt8,l≠[]->(cutB l).2.length<l.length
 |[],h=>absurd rfl h
 |c::r,_=>by
  unfold cutB
  split
  ·simp
  ·by_cases hr:r=[]
   ·subst hr;simp[cutB]
   ·have:=aF1 r hr;simp only[a7f];omega
theorem aIr:∀l:List UInt8,(cutB l).1.length<=l.length
 |[]=>by simp[cutB]
 |c::r=>by
  have:=aIr r;unfold cutB
  split
  ·simp
  ·simp only[a7f];omega
