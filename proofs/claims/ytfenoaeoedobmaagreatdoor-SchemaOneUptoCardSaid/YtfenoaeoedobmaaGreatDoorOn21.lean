/-
Parts of a proof.
-/
import Derived.OwnWalk
import Derived.Test.YtfenoaeoedobmaaGreatDoorOn20
set_option linter.unusedVariables false
set_option linter.unusedSimpArgs false
set_option maxHeartbeats 4000000
set_option maxRecDepth 20000
namespace Go.Proofs.YtfenoaeoedobmaaGreatDoor
open Go Go.RowKit
section
variable {w0 w:World} {Q:Exit->Act->World->Prop} {a:Act} {ms:List NdM} {b o n cap g i nb mb b2 o2 q cap2 j:Nat} {last:Int} {d:List Nat} {m:NdM} {had:List ByteArray} {deep:Nat} {x:Int}
theorem pC {ns:List Nd} {kind:Int} {deep:Nat} {k:Int} {r:List Int} {last:Int} {had:List ByteArray} {d:List Nat} (h:k<=last\/(ns.length:Int)<=k\/d[k.toNat]! ≠0):c8 ns kind deep (k::r) last had d=none:=by
 rw[c8,if_pos h]
theorem Fv {ns:List Nd} {kind:Int} {deep:Nat} {k:Int} {r:List Int} {last:Int} {had:List ByteArray} {d:List Nat} (h:kH kind (ns[k.toNat]!).key had=false):c8 ns kind deep (k::r) last had d=none:=by
 rw[c8]
 split
 ·rfl
 ·rfl
theorem N4 {ns:List Nd} {kind:Int} {deep:Nat} {k:Int} {r:List Int} {last:Int} {had:List ByteArray} {d:List Nat} (h1:¬(k<=last\/(ns.length:Int)<=k\/d[k.toNat]! ≠0)) (h2:kH kind (ns[k.toNat]!).key had=true):c8 ns kind deep (k::r) last had d=c8 ns kind deep r k ((ns[k.toNat]!).key::had) (d.set k.toNat (deep+1)):=by
 rw[c8,if_neg h1,if_neg (by rw[h2];decide)]
theorem WN (hN:Nds w0 (.slice (some ⟨b,o,none⟩) n cap) ms) (hb:b<w0.heap.size) (bN:∀i m,ms[i]? =some m->NdAt w0 b (o+i*6) m/\m.Ok w0) (hn:ms.length=n)
 (hf:EtK a b o n cap g i nb mb b2 o2 q cap2 j last) (h:EK w0 w g n d nb mb m had) (hd:d[i]? =some deep) (zt:deep<=16) (hi:i<n)
 (hx:w0.cell? ⟨b2,o2+j,none⟩=some (.int .i64 x)) (bI:b2<w0.heap.size) (hj:j<q) (j9:(i:Int)<=last) (OQ:had.length<=1048576) (cd:m.nd.kind=2\/m.nd.kind=3) (r:List Int)
 (ok:∀a' w' (k:Nat),x=(k:Int)->i<k->k<n->c8 (nds ms) m.nd.kind deep (x::r) last had d=c8 (nds ms) m.nd.kind deep r x (((nds ms)[k]!).key::had) (d.set k (deep+1))->
  EtK a' b o n cap g i nb mb b2 o2 q cap2 j x->EK w0 w' g n (d.set k (deep+1)) nb mb m (((nds ms)[k]!).key::had)->Q .normal a' w')
 (bad:c8 (nds ms) m.nd.kind deep (x::r) last had d=none->∀a' w',Below w0.heap.size w0 w'->a'.defers=[]->a'.tmps[2]? =some (.bool false)->Q .ret a' w'):Px.wp Tryz.prog Q a w:=by
 have gv:=h.em.below;have Hb:=hid gv;have c1:=(gv.cell bI).trans hx;have ll:(nds ms).length=n:=by rw[bP,hn]
 have bj:(j:Int)<(q:Int):=by omega
 obtain ⟨v,rfl,eE⟩:=hf.shape;simp only[uL,eE];clear eE;clear hf;have bh:=hid ok;have aG:=hid bad;clear ok bad;dsimp only[Px,ko,eM,e7,ncb,ncl,nco,ncr,ncx,Tryz.f63];by_cases g1:x<=last
 ·have t1:decide (x<=last)=true:=dT g1;have HB:=hid (aG.o (pC (.inl g1)));clear hx gv h hN bN hd zt hi hj j9 OQ cd g1 bh aG ll hn;go_wp2;exact HB.o _ _ Hb.o rfl rfl
 ·have t1:decide (x<=last)=false:=dF g1;by_cases g2:(n:Int)<=x
  ·have t2:decide ((n:Int)<=x)=true:=dT g2;have HB:=hid (aG.o (pC (.inr (.inl (by rw[ll];exact g2)))));clear hx gv h hN bN hd zt hi hj j9 OQ cd g1 g2 bh aG ll hn;go_wp2;exact HB.o _ _ Hb.o rfl rfl
  ·obtain ⟨k,rfl⟩:∃k:Nat,x=(k:Int):=⟨x.toNat,by omega⟩;have t2:decide (n<=k)=false:=dF (by omega);have bk:(k:Int)<(n:Int):=by omega
   obtain ⟨dk,lU⟩:∃dk,d[k]? =some dk:=aF (by rw[h.em.len];omega);have xk:d[((k:Int)).toNat]! =dk:=by rw[Int.toNat_natCast,List.getElem!_eq_getElem?_getD,lU];rfl
   have e1:=h.em.at lU;by_cases g3:dk=0
   ·subst g3;obtain ⟨mk,cN⟩:∃mk,ms[k]? =some mk:=aF (by omega);have cl:=gI cN;obtain ⟨c,j7⟩:=bN k mk cN;obtain ⟨key,PE⟩:=ex (mk.nd.key);have hks:key.size<=maxLen:=by rw[PE];have:=j7.key;unfold maxLen;omega
    have k1:=c.c1;rw[<-PE]at k1;have e2:=h.em.at hd;have HS:=hid (h.stored k (deep+1) (by omega));have lG:¬((k:Int)<=last\/((nds ms).length:Int)<=(k:Int)\/d[((k:Int)).toNat]! ≠0):=by rw[ll,xk];omega
    have wd:=bK (z:=(deep:Int)+1) (by omega) (by omega);have fz:=h.em.frozen k;have bi:(i:Int)<(n:Int):=by omega
    have ecast:((deep+1:Nat):Int)=(deep:Int)+1:=by omega
    have n0:=aa HS.o.nd 0;have n1:=(HS.o.em.below.cell (p:=⟨b,o+k*6+1,none⟩) hb).trans k1;rw[ecast]at n0 n1 HS;simp only[List.getElem?_toArray,List.getElem?_cons_zero]at n0;have ekn:((nds ms)[((k:Int)).toNat]!).key=key:=by rw[Int.toNat_natCast,cl,PE]
    have W3:((nds ms)[k]!).key=key:=by rw[cl,PE]
    have zM:=hid (fun (hq:kH m.nd.kind key had=false)=>aG.o (Fv (by rw[ekn];exact hq)));have Lr:=hid (fun (hq:kH m.nd.kind key had=true) a' w' (p1:EtK a' b o n cap g i nb mb b2 o2 q cap2 j (k:Int)) (p2:EK w0 w' g n (d.set k (deep+1)) nb mb m (key::had))=>bh.o a' w' k rfl (by omega) (by omega) (by rw[N4 lG (by rw[ekn];exact hq),ekn,W3,Int.toNat_natCast]) p1 (by rw[W3];exact p2))
    have HL:=hid (HS.o.map.look key hks);have Hhad:=hid OQ;have uN:=hid hks;clear hx gv h hN bN hd zt hi hj j9 OQ g1 g2 bh aG ll hn lU xk cN cl c j7 PE hks k1 lG ekn W3;rcases cd with eZ|OM
    ·rw[eZ]at n0;by_cases hm:key∈had
     ·have HB:=hid (zM.o (by unfold kH;rw[eZ,dT (show (2:Int)=2/\key∈had from ⟨rfl,hm⟩)];simp));rw[dT hm]at HL;have hL:=HL.o;clear Lr zM hm eZ HL;go_wp2;exact HB.o _ _ HS.o.em.below rfl rfl
     ·have HO:=hid (Lr.o (by unfold kH;rw[eZ,dF (fun q:(2:Int)=2/\key∈had=>hm q.2),dF (fun q:(2:Int)=3/\key≠⟨#[]⟩=>by omega)];rfl));rw[dF hm]at HL;have hL:=HL.o;clear Lr zM hm eZ HL
      go_wp2_with (at_mapUpdate;refine FU rfl _ _ _ rfl mb had rfl HS.o.map Hhad.o key uN.o rfl rfl ?_;intro w2 hh hg;have HE:=hid (HS.o.put hh hg);clear hh hg)
      exact HO.o _ _ ⟨rfl,rfl,rfl,rfl,rfl,rfl,rfl,rfl,rfl,rfl,rfl,rfl,rfl,rfl⟩ HE.o
    ·rw[OM]at n0;by_cases hm:key=⟨#[]⟩
     ·obtain ⟨k4,k5,k6⟩:=jJ hm;have HO:=hid (Lr.o (by unfold kH;rw[OM,dF (fun q:(3:Int)=2/\key∈had=>by omega),dF (fun q:(3:Int)=3/\key≠⟨#[]⟩=>q.2 hm)];rfl));clear Lr zM hm OM HL
      go_wp2_with (at_mapUpdate;refine FU rfl _ _ _ rfl mb had rfl HS.o.map Hhad.o key uN.o rfl rfl ?_;intro w2 hh hg;have HE:=hid (HS.o.put hh hg);clear hh hg)
      exact HO.o _ _ ⟨rfl,rfl,rfl,rfl,rfl,rfl,rfl,rfl,rfl,rfl,rfl,rfl,rfl,rfl⟩ HE.o
     ·obtain ⟨k4,k5,k6⟩:=jT hm;have HB:=hid (zM.o (by unfold kH;rw[OM,dT (show (3:Int)=3/\key≠⟨#[]⟩ from ⟨rfl,hm⟩)];rfl));clear Lr zM hm OM HL;go_wp2;exact HB.o _ _ HS.o.em.below rfl rfl
   ·have t3:((dk:Int)==0)=false:=bF (by omega);have HB:=hid (aG.o (pC (.inr (.inr (by rw[xk];exact g3)))));clear hx gv h hN bN hd zt hi hj j9 OQ cd g1 g2 g3 bh aG ll hn lU xk;go_wp2;exact HB.o _ _ Hb.o rfl rfl
theorem Pu (hN:Nds w0 (.slice (some ⟨b,o,none⟩) n cap) ms) (hb:b<w0.heap.size) (bN:∀i m,ms[i]? =some m->NdAt w0 b (o+i*6) m/\m.Ok w0) (hn:ms.length=n)
 (hf:EtK a b o n cap g i nb mb b2 o2 q cap2 0 (i:Int)) (h:EK w0 w g n d nb mb m []) (hd:d[i]? =some deep) (zt:deep<=16) (hi:i<n) (hq:q=m.nd.kids.length) (X6:q<=1048576)
 (hx:∀j x,m.nd.kids[j]? =some x->w0.cell? ⟨b2,o2+j,none⟩=some (.int .i64 x)) (bI:b2<w0.heap.size) (cd:m.nd.kind=2\/m.nd.kind=3)
 (ok:∀a' w' d',c8 (nds ms) m.nd.kind deep m.nd.kids (i:Int) [] d=some d'->EtO a' b o n cap g i->EM w0 w' g n d'->Q .normal a' w')
 (bad:c8 (nds ms) m.nd.kind deep m.nd.kids (i:Int) [] d=none->∀a' w',Below w0.heap.size w0 w'->a'.defers=[]->a'.tmps[2]? =some (.bool false)->Q .ret a' w'):etIn.wp Tryz.prog Q a w:=by
 show (Code.block 2 (Code.loop (Code.seq WU (Code.seq WS (Code.seq (Code.block 3 Px) etK4))))).wp Tryz.prog Q a w
 refine wp_block (wp_loop (fun a' w'=>∃(j:Nat) (last:Int) (d':List Nat) (had:List ByteArray),j<=q/\EtK a' b o n cap g i nb mb b2 o2 q cap2 j last/\EK w0 w' g n d' nb mb m had/\
  c8 (nds ms) m.nd.kind deep m.nd.kids (i:Int) [] d=c8 (nds ms) m.nd.kind deep (m.nd.kids.drop j) last had d'/\(i:Int)<=last/\had.length=j/\d'[i]? =some deep) (fun a' _=>q-(intOf (a'.tmps.getD 83 undef)).toNat) ⟨0,_,d,[],Nat.zero_le _,hf,h,rfl,Int.le_refl _,rfl,hd⟩ ?_)
 clear hf h hd;rintro a1 w1 ⟨j,last,d1,had,hj,gJ,h1,hs,Yc,T5,KP⟩;by_cases g7:j<q
 ·obtain ⟨x,TP⟩:∃x,m.nd.kids[j]? =some x:=aF (by omega);have rT:m.nd.kids.drop j=x::m.nd.kids.drop (j+1):=by
   obtain ⟨aN,he⟩:=aBo TP;rw[List.drop_eq_getElem_cons aN,he]
  rw[rT]at hs;have HK:=hid (fun (Q':Exit->Act->World->Prop) (a':Act) (im:EtK a' b o n cap g i nb mb b2 o2 q cap2 j last)=>WN (Q:=Q') (w:=w1) (r:=m.nd.kids.drop (j+1)) hN hb bN hn im h1 KP zt hi (hx j x TP) bI g7 Yc (by omega) cd);obtain ⟨cY,df⟩:=bL (k:=j) (n:=q) g7 (by omega);have Hs:=hid hs;have aG:=hid bad;have Ec:=hid KP;have Hhl:=hid T5;have Hil:=hid Yc;have Hjq:=hid g7
  clear hq cd;have tj:decide (j<q)=true:=dT g7;have wj:wrap64 ((j:Int)+1)=(j:Int)+1:=bK (by omega) (by omega);obtain ⟨v,rfl,eE⟩:=gJ.shape;simp only[uL,eE];clear eE;clear gJ hs TP rT hx KP T5 Yc hj g7 ok bad h1 hN bN hn;dsimp only[WU,WS,ko,eM,e7,ncb,ncl,nco,ncr,ncx,Tryz.f63];go_wp2
  rename_i Q1 K1 AV
  refine HK.o _ _ ⟨rfl,rfl,rfl,rfl,rfl,rfl,rfl,rfl,rfl,rfl,rfl,rfl,rfl,rfl⟩ (fun a2 w2 k hk hik cg TS mG h2=>AV _ _ ?_) (fun fq a2 w2 bI uh ht2=>aG.o (Hs.o.trans fq) a2 w2 bI uh ht2);subst hk;have hHE:=hid (show j+1<=q/\EK w0 w2 g n (d1.set k (deep+1)) nb mb m (((nds ms)[k]!).key::had)/\c8 (nds ms) m.nd.kind deep m.nd.kids (i:Int) [] d=c8 (nds ms) m.nd.kind deep (m.nd.kids.drop (j+1)) (k:Int) (((nds ms)[k]!).key::had) (d1.set k (deep+1))/\(i:Int)<=(k:Int)/\(((nds ms)[k]!).key::had).length=j+1/\(d1.set k (deep+1))[i]? =some deep from
   ⟨Hjq.o,h2,Hs.o.trans TS,by omega,by rw[aBk,Hhl.o],by rw[List.getElem?_set_ne (by omega)];exact Ec.o⟩)
  obtain ⟨v2,rfl,eE⟩:=mG.shape;simp only[uL,eE];clear eE;clear mG TS h2 hik cg HK Hs aG Ec Hhl Hil Hjq;dsimp only[etK4,ko,eM,e7,ncb,ncl,nco,ncr,ncx,Tryz.f63];go_wp2;obtain ⟨z1,z2,z3,z4,z5,z6⟩:=hHE.o;exact ⟨⟨j+1,_,_,_,z1,⟨rfl,rfl,rfl,rfl,rfl,rfl,rfl,rfl,rfl,rfl,rfl,rfl,rfl,congrArg some df.o⟩,z2,z3,z4,z5,z6⟩,cY.o⟩
 ·have ej:j=q:=by omega
  subst ej;have jA:c8 (nds ms) m.nd.kind deep m.nd.kids (i:Int) [] d=some d1:=by
   rw[hs,List.drop_eq_nil_of_le (by omega)];rfl
  have HO:=hid (fun a' im=>ok a' w1 d1 jA im h1.em);have tj:decide (j<j)=false:=dF (Nat.lt_irrefl j);obtain ⟨v,rfl,eE⟩:=gJ.shape;simp only[uL,eE];clear eE;clear gJ hs hx KP T5 Yc hj g7 ok bad h1 hN bN hn hq cd jA;dsimp only[WU,WS,ko,eM,e7,ncb,ncl,nco,ncr,ncx,Tryz.f63];go_wp2;exact HO.o _ ⟨rfl,rfl,rfl,rfl,rfl,rfl,rfl⟩
theorem EK.first (h:EM w0 w g n d):EK w0 ((w.alloc (.cells #[.int .i64 m.nd.kind,.string m.nd.key,.string m.nd.text,.bool m.nd.quoted,.int .i64 m.nd.line,m.kv] 55)).alloc (.map #[] 0)) g n d w.heap.size (w.heap.size+1) m []:=by
 have hg:=(h.row.lt g rfl).2;have hs:=h.below.size;refine ⟨(h.later ((aBi _ w).alloc (aBh _) _)).later ((aBi _ _).alloc (aBh _) _),?_,hs,by omega,?_,by omega,by omega,by omega⟩
 ·rw[ai _ (by simp),ag]
 ·have:=Had.made (w.alloc (.cells #[.int .i64 m.nd.kind,.string m.nd.key,.string m.nd.text,.bool m.nd.quoted,.int .i64 m.nd.line,m.kv] 55))
  simpa using this
theorem EM.new1 (h:EM w0 w g n d) (o:Obj):Below w0.heap.size w0 (w.alloc o):=h.below.alloc h.below.size o
section
variable {ns:List Nd} {nd:Nd}
theorem Fe (h:d[i]! =0\/16<d[i]!):cW ns i nd d=none:=by unfold cW;rw[if_pos h]
theorem Fb (h:¬(d[i]! =0\/16<d[i]!)) (hk:nd.kind=1):cW ns i nd d=if dY nd=true then some d else none:=by unfold cW;rw[if_neg h,if_pos hk]
theorem J2 (hk:¬nd.kind=1) (hb:(nd.kind≠2/\nd.kind≠3)\/nd.kids=[]\/nd.text≠⟨#[]⟩\/nd.quoted=true):cW ns i nd d=none:=by
 unfold cW
 split
 ·rfl
 ·first|rfl|rw[if_neg hk,if_pos hb]
theorem Fc (h:¬(d[i]! =0\/16<d[i]!)) (hk:¬nd.kind=1) (hb:¬((nd.kind≠2/\nd.kind≠3)\/nd.kids=[]\/nd.text≠⟨#[]⟩\/nd.quoted=true)):cW ns i nd d=c8 ns nd.kind d[i]! nd.kids (i:Int) [] d:=by unfold cW;rw[if_neg h,if_neg hk,if_neg hb]
end
theorem SN (hN:Nds w0 (.slice (some ⟨b,o,none⟩) n cap) ms) (hb:b<w0.heap.size) (bN:∀i m,ms[i]? =some m->NdAt w0 b (o+i*6) m/\m.Ok w0) (hg:Glob w0) (hn:ms.length=n) (hf:EtO a b o n cap g i) (h:EM w0 w g n d) (hi:i<n)
 (ok:∀a' w' d',cW (nds ms) i ((nds ms)[i]!) d=some d'->EtO a' b o n cap g i->EM w0 w' g n d'->Q .normal a' w'/\Q (.exit 1) a' w')
 (bad:cW (nds ms) i ((nds ms)[i]!) d=none->∀a' w',Below w0.heap.size w0 w'->a'.defers=[]->a'.tmps[2]? =some (.bool false)->Q .ret a' w'):Pw.wp Tryz.prog Q a w:=by
 show (Code.seq A7 (Code.seq A6 (Code.seq FZ (Code.seq KZ (Code.seq etN4 (Code.seq etN5 (Code.seq etN6 etIn))))))).wp Tryz.prog Q a w
 obtain ⟨m,hm⟩:∃m,ms[i]? =some m:=aF (by omega);obtain ⟨c,hok⟩:=bN i m hm;have fh:(nds ms)[i]! =m.nd:=gI hm;rw[fh]at ok bad;have gv:=h.below;have c0:=(gv.cell (p:=⟨b,o+i*6,none⟩) hb).trans c.c0;have c1:=(gv.cell (p:=⟨b,o+i*6+1,none⟩) hb).trans c.c1;have c2:=(gv.cell (p:=⟨b,o+i*6+2,none⟩) hb).trans c.c2;have c3:=(gv.cell (p:=⟨b,o+i*6+3,none⟩) hb).trans c.c3;have c4:=(gv.cell (p:=⟨b,o+i*6+4,none⟩) hb).trans c.c4
 have c5:=(gv.cell (p:=⟨b,o+i*6+5,none⟩) hb).trans c.c5;obtain ⟨kp,cap2,cI,mF,hks⟩:=aL hok.kids;obtain ⟨q,hq⟩:=ex (m.nd.kids.length);rw[<-hq]at cI mF hks;rw[cI]at c5;obtain ⟨di,Ip⟩:∃di,d[i]? =some di:=aF (by rw[h.len];omega);have Z6:d[i]! =di:=by rw[List.getElem!_eq_getElem?_getD,Ip];rfl
 have e1:=h.at Ip;have bi:(i:Int)<(n:Int):=by omega
 have e2:∀ob,(w.alloc ob).cell? ⟨g,i,none⟩=some (.int .i64 (di:Int)):=fun ob=>(World.cell?_of_block (ai ob (h.row.lt g rfl).2)).trans e1;have Hb:=hid h.below;have fD:=hid (fun o=>h.new1 o);have HE:=hid h;have aG:=hid bad;have bh:=hid ok;have XC:=hid Z6;have HN:=hid hN;have Lo:=hid (fun w1 (bG:Below w0.heap.size w0 w1)=>K0 w1 m (hok.later bG) (hg.later bG));have qQ:m.v= .agg #[.int .i64 m.nd.kind,.string m.nd.key,.string m.nd.text,.bool m.nd.quoted,.int .i64 m.nd.line,.slice kp q cap2]:=by unfold NdM.v;rw[cI]
 rw[qQ]at Lo;have ek:m.nd.kids=[]↔q=0:=by rw[hq,List.length_eq_zero_iff]
 obtain ⟨kind,cd⟩:=ex (m.nd.kind);obtain ⟨tx,mN⟩:=ex (m.nd.text);obtain ⟨qt,Lz⟩:=ex (m.nd.quoted);rw[<-cd]at c0 Lo;rw[<-mN]at c2 Lo;rw[<-Lz]at c3 Lo;obtain ⟨v,rfl,eE⟩:=hf.shape;simp only[uL,eE];clear eE;clear hf hN h gv c hm fh ok bad hg qQ Z6;by_cases g1:di=0\/16<di
 ·have HB:=hid (aG.o (Fe (by rw[XC.o];exact g1)));by_cases g0:di=0
  ·have t1:((di:Int)==0)=true:=by rw[beq_iff_eq];omega
   clear bN hn hi hok hq mF hks Ip cd mN Lz ek g0 g1 aG bh HN Lo HE cI hb;dsimp only[A7,A6,eM,e7,ncb,ncl,nco,ncr,ncx,Tryz.f63];go_wp2;exact HB.o _ _ (fD.o _) rfl rfl
  ·have t1:((di:Int)==0)=false:=bF (by omega);have t2:decide (16<(di:Int))=true:=dT (by omega);clear bN hn hi hok hq mF hks Ip cd mN Lz ek g0 g1 aG bh HN Lo HE cI hb;dsimp only[A7,A6,eM,e7,ncb,ncl,nco,ncr,ncx,Tryz.f63];go_wp2;exact HB.o _ _ (fD.o _) rfl rfl
 ·have t1:((di:Int)==0)=false:=bF (by omega);have t2:decide (16<(di:Int))=false:=dF (by omega);have lG:¬(d[i]! =0\/16<d[i]!):=by rw[XC.o];exact g1
  by_cases k1:kind=1
  ·have t3:(kind==1)=true:=by rw[beq_iff_eq];exact k1
   have Qt:=Fb (ns:=nds ms) (i:=i) (nd:=m.nd) lG (by rw[<-cd];exact k1);have HB:=hid (fun (e:dY m.nd=false)=>aG.o (Qt.trans (by rw[e];rfl)));have HO:=hid (fun (e:dY m.nd=true) a' w' im he'=>(bh.o a' w' d (Qt.trans (by rw[e];rfl)) im he').2);have Tt:=hid (fun w1 (bG:Below w.heap.size w w1)=>HE.o.later bG);have my:=hid (fun o=>(aBi w.heap.size w).alloc (aBh _) o)
   generalize dY m.nd=sb at*;clear bN hn hi hok hq mF hks Ip cd mN Lz ek g1 aG bh HN HE cI hb lG k1 Qt;dsimp only[A7,A6,FZ,eM,e7,ncb,ncl,nco,ncr,ncx,Tryz.f63]
   go_wp2_with fail
   refine (Lo.o _ (fD.o _)).mono ?_;rintro r w1 ⟨rfl,bG⟩;have kQ:=hid ((my.o (.cells #[.int .i64 kind,.string m.nd.key,.string tx,.bool qt,.int .i64 m.nd.line,.slice kp q cap2] 55)).trans (bG.mono (Below.size (my.o _))));clear bG Lo;cases sb with
   |true=>
    have HX:=hid (Tt.o w1 kQ.o);go_wp2;exact HO.o trivial _ _ ⟨rfl,rfl,rfl,rfl,rfl,rfl,rfl⟩ HX.o
   |false=>
    have HX:=hid (Tt.o w1 kQ.o).below;go_wp2;exact HB.o trivial _ _ HX.o rfl rfl
  ·have t3:(kind==1)=false:=by rw[beq_eq_false_iff_ne];exact k1
   have HB:=hid (fun hh=>aG.o (J2 (ns:=nds ms) (i:=i) (nd:=m.nd) (d:=d) (by rw[<-cd];exact k1) hh));by_cases Fw:kind=2\/kind=3
   ·have mG:∃f2 f3:Bool,(kind==2)=f2/\(kind==3)=f3/\(f2=true\/(f2=false/\f3=true)):=by
     rcases Fw with e|e
     ·exact ⟨_,_,rfl,rfl,.inl (by rw[e];rfl)⟩
     ·exact ⟨_,_,rfl,rfl,.inr ⟨by rw[e];rfl,by rw[e];rfl⟩⟩
    have hr:(!(kind==2)&& !(kind==3))=false:=by rcases Fw with e|e<;>rw[e]<;>rfl
    by_cases q0:q=0
    ·have s5:((q:Int)==0)=true:=by rw[beq_iff_eq];omega
     have lq:=hid (HB.o (.inr (.inl (ek.2 q0))));clear HB q0 bN hn hi hok hq mF hks Ip cd mN Lz ek g1 aG bh HN HE cI hb lG k1 Lo;dsimp only[A7,A6,FZ,KZ,eM,e7,ncb,ncl,nco,ncr,ncx,Tryz.f63];rcases Fw with k2|k2<;>subst k2
     ·clear mG;go_wp2;exact lq.o _ _ (fD.o _) rfl rfl
     ·clear mG;go_wp2;exact lq.o _ _ (fD.o _) rfl rfl
    ·have s5:((q:Int)==0)=false:=bF (by omega);have p5:¬q=0:=q0;by_cases ht:tx=⟨#[]⟩
     ·obtain ⟨y4,y5,y6⟩:=jJ ht;cases qt with
      |true=>
       have lq:=hid (HB.o (.inr (.inr (.inr Lz.symm))));clear ht HB q0 bN hn hi hok hq mF hks Ip cd mN Lz ek g1 aG bh HN HE cI hb lG k1 Lo;dsimp only[A7,A6,FZ,KZ,eM,e7,ncb,ncl,nco,ncr,ncx,Tryz.f63];rcases Fw with k2|k2<;>subst k2
       ·clear mG;go_wp2;exact lq.o _ _ (fD.o _) rfl rfl
       ·clear mG;go_wp2;exact lq.o _ _ (fD.o _) rfl rfl
      |false=>
       obtain ⟨b2,o2,rfl,bI,fY⟩:=hks (by omega);have HM:=Fc (ns:=nds ms) (i:=i) (nd:=m.nd) (d:=d) lG (by rw[<-cd];exact k1) (by
        rintro (e|e|e|e)
        ·rw[<-cd]at e;rcases Fw with k|k
         ·exact e.1 k
         ·exact e.2 k
        ·exact q0 (ek.1 e)
        ·exact e (mN.symm.trans ht)
        ·rw[<-Lz]at e;cases e)
       rw[XC.o]at HM;have HK:=EK.first (m:=m) HE.o;rw[<-cd,<-mN,<-Lz,cI]at HK;have LR:=hid HK;have pG:= @run_makeMap Tryz.prog;have HI:=hid (fun a' (im:EtK a' b o n cap g i w.heap.size (w.heap.size+1) b2 o2 q cap2 0 (i:Int)) w' (Sy:EK w0 w' g n d w.heap.size (w.heap.size+1) m [])=>
        Pu (Q:=Q) HN.o hb bN hn im Sy Ip (by omega) hi hq mF fY bI (by rw[<-cd];exact Fw) (fun a3 w3 d3 e3 f3 m3=>(bh.o a3 w3 d3 (HM.trans e3) f3 m3).1) (fun e3=>aG.o (HM.trans e3)))
       clear HB hn bN hok hi hq mF Ip mN Lz ek g1 aG bh HN HE cI lG k1 Lo HM HK hb fY bI hks cd ht;clear q0;dsimp only[A7,A6,FZ,KZ,etN4,etN5,etN6,eM,e7,ko,ncb,ncl,nco,ncr,ncx,Tryz.f63];rcases Fw with k2|k2<;>subst k2
       ·clear mG;go_wp2;exact HI.o _ ⟨rfl,rfl,rfl,rfl,rfl,rfl,rfl,rfl,rfl,rfl,rfl,rfl,rfl,rfl⟩ _ LR.o
       ·clear mG;go_wp2;exact HI.o _ ⟨rfl,rfl,rfl,rfl,rfl,rfl,rfl,rfl,rfl,rfl,rfl,rfl,rfl,rfl⟩ _ LR.o
     ·obtain ⟨y4,y5,y6⟩:=jT ht;have lq:=hid (HB.o (.inr (.inr (.inl (by rw[<-mN];exact ht)))));clear ht HB q0 bN hn hi hok hq mF hks Ip cd mN Lz ek g1 aG bh HN HE cI hb lG k1 Lo;dsimp only[A7,A6,FZ,KZ,eM,e7,ncb,ncl,nco,ncr,ncx,Tryz.f63];rcases Fw with k2|k2<;>subst k2
      ·clear mG;go_wp2;exact lq.o _ _ (fD.o _) rfl rfl
      ·clear mG;go_wp2;exact lq.o _ _ (fD.o _) rfl rfl
   ·have t4:(kind==2)=false:=by rw[beq_eq_false_iff_ne];exact fun e=>Fw (.inl e)
    have t5:(kind==3)=false:=by rw[beq_eq_false_iff_ne];exact fun e=>Fw (.inr e)
    have lq:=hid (HB.o (.inl ⟨by rw[<-cd];exact fun e=>Fw (.inl e),by rw[<-cd];exact fun e=>Fw (.inr e)⟩));have p4:¬kind=2:=fun e=>Fw (.inl e);have p5:¬kind=3:=fun e=>Fw (.inr e);clear HB Fw;clear bN hn hi hok hq mF hks Ip cd mN Lz ek g1 aG bh HN HE cI hb lG k1 Lo;dsimp only[A7,A6,FZ,KZ,eM,e7,ncb,ncl,nco,ncr,ncx,Tryz.f63];go_wp2;exact lq.o _ _ (fD.o _) rfl rfl
end
section
variable {w0 w:World} {Q:Exit->Act->World->Prop} {a:Act} {ms:List NdM} {b o n cap g:Nat} {d:List Nat}
theorem SO (hN:Nds w0 (.slice (some ⟨b,o,none⟩) n cap) ms) (hb:b<w0.heap.size) (bN:∀i m,ms[i]? =some m->NdAt w0 b (o+i*6) m/\m.Ok w0) (hg:Glob w0) (hn:ms.length=n) (hn4:n<=4096) (hf:EtO a b o n cap g 0) (h:EM w0 w g n d)
 (ok:fA (nds ms) (nds ms) 0 d=true->∀a' w',EtO a' b o n cap g n->Below w0.heap.size w0 w'->Q (.exit 0) a' w')
 (bad:fA (nds ms) (nds ms) 0 d=false->∀a' w',Below w0.heap.size w0 w'->a'.defers=[]->a'.tmps[2]? =some (.bool false)->Q .ret a' w'):(ncb WR).wp Tryz.prog Q a w:=by
 show (Code.loop (Code.seq WQ (Code.seq WO (Code.seq (Code.block 1 Pw) etO4)))).wp Tryz.prog Q a w
 have ll:(nds ms).length=n:=by rw[bP,hn]
 refine wp_loop (fun a' w'=>∃(i:Nat) (d':List Nat),i<=n/\EtO a' b o n cap g i/\EM w0 w' g n d'/\fA (nds ms) (nds ms) 0 d=fA (nds ms) ((nds ms).drop i) i d') (fun a' _=>n-(intOf (a'.tmps.getD 32 undef)).toNat) ⟨0,d,Nat.zero_le _,hf,h,rfl⟩ ?_;clear hf h;rintro a1 w1 ⟨i,d1,hi,gJ,h1,hs⟩;by_cases Im:i<n
 ·have D8:=hs.trans (MO (ns:=nds ms) (i:=i) (d:=d1) (by omega));have HK:=hid (fun (Q':Exit->Act->World->Prop) (a':Act) (im:EtO a' b o n cap g i)=>SN (Q:=Q') (w:=w1) hN hb bN hg hn im h1 Im);obtain ⟨cY,df⟩:=bL (k:=i) (n:=n) Im (by omega);have bh:=hid (fun (d2:List Nat) (e:cW (nds ms) i ((nds ms)[i]!) d1=some d2)=>show fA (nds ms) (nds ms) 0 d=fA (nds ms) ((nds ms).drop (i+1)) (i+1) d2 from D8.trans (by rw[e]))
  have aG:=hid (fun (e:cW (nds ms) i ((nds ms)[i]!) d1=none)=>bad (D8.trans (by rw[e])));have Hin:=hid Im;have ti:decide (i<n)=true:=dT Im;have wi:wrap64 ((i:Int)+1)=(i:Int)+1:=bK (by omega) (by omega);obtain ⟨v,rfl,eE⟩:=gJ.shape;simp only[uL,eE];clear eE;clear gJ hs D8 ok bad h1 hN bN hn ll hi Im hg hb;dsimp only[WQ,WO,e7,ncb,ncl,nco,ncr,ncx,Tryz.f63]
  go_wp2
  rename_i Q1 K1 AV
  have iV:∀(a2:Act) (w2:World) (d2:List Nat),cW (nds ms) i ((nds ms)[i]!) d1=some d2->EtO a2 b o n cap g i->EM w0 w2 g n d2->K1 a2 w2:=by
   intro a2 w2 d2 e2 f2 m2;refine AV _ _ ?_;have HE:=hid (show i+1<=n/\EM w0 w2 g n d2/\fA (nds ms) (nds ms) 0 d=fA (nds ms) ((nds ms).drop (i+1)) (i+1) d2 from ⟨Hin.o,m2,bh.o d2 e2⟩);obtain ⟨v2,rfl,eE⟩:=f2.shape;simp only[uL,eE];clear eE;clear f2 m2 e2 HK bh aG;dsimp only[etO4,e7,ncb,ncl,nco,ncr,ncx,Tryz.f63];go_wp2;obtain ⟨z1,z2,z3⟩:=HE.o;exact ⟨⟨i+1,_,z1,⟨rfl,rfl,rfl,rfl,rfl,rfl,congrArg some df.o⟩,z2,z3⟩,cY.o⟩
  refine HK.o _ _ ⟨rfl,rfl,rfl,rfl,rfl,rfl,rfl⟩ (fun a2 w2 d2 e2 f2 m2=>⟨iV a2 w2 d2 e2 f2 m2,?_⟩) (fun e2=>aG.o e2);exact iV a2 w2 d2 e2 f2 m2
 ·have ei:i=n:=by omega
  subst ei;have jA:fA (nds ms) (nds ms) 0 d=true:=hs.trans (Jy (by omega));have HO:=hid (fun a' im=>ok jA a' w1 im h1.below);have ti:decide (i<i)=false:=dF (Nat.lt_irrefl i);obtain ⟨v,rfl,eE⟩:=gJ.shape;simp only[uL,eE];clear eE;clear gJ hs ok bad h1 hN bN hn jA ll hi hg hb;dsimp only[WQ,WO,e7,ncb,ncl,nco,ncr,ncx,Tryz.f63];go_wp2;exact HO.o _ ⟨rfl,rfl,rfl,rfl,rfl,rfl,rfl⟩
end
theorem vI {ns:List Nd} (h:¬(ns≠[]/\ns.length<=4096/\(ns[0]!).key=⟨#[]⟩)):dj ns=false:=by unfold dj;rw[dF h];rfl
theorem Jd {ns:List Nd} (h:ns≠[]/\ns.length<=4096/\(ns[0]!).key=⟨#[]⟩):dj ns=fA ns ns 0 (1::List.replicate (ns.length-1) 0):=by unfold dj;rw[dT h];rfl
theorem Kb (n:Nat):(madeCells (Value.int .i64 0).cells (n*1)).toList=uo (List.replicate n 0):=by
 unfold uo;rw[List.map_replicate,Nat.mul_one];apply List.ext_getElem
 ·simp[size_madeCells]
 ·intro i h1 h2;simp only[List.getElem_replicate];unfold madeCells;simp[Value.cells];rw[Nat.mod_one];rfl
theorem EM.make {w w1:World} {n:Nat} (h0:0<n) (own:w1.ownsRow w.heap.size 3 1 (.slice (some ⟨w.heap.size,0,none⟩) n n) n (madeCells (Value.int .i64 0).cells (n*1)).toList) (gr:w.grownBy w1 none):
 EM w w1 w.heap.size n (List.replicate n 0):=
 ⟨((Mod.refl (fun _=>False) w).grown gr nofun).below (aBh _) (fun _ f=>f.elim),by rw[<-Kb];exact jv own 0 (Nat.zero_le _),aBh _,by simp,fun x hx=>by
  rw[List.mem_replicate]at hx;omega⟩
theorem EM.store {w0 w:World} {g n:Nat} {d:List Nat} (h:EM w0 w g n d) (k x:Nat) (hx:x<=17):EM w0 (w.setCell ⟨g,k,none⟩ (.int .i64 (x:Int))) g n (d.set k x):=by
 obtain ⟨s1,s2⟩:=h.row.stored k (.int .i64 (x:Int));have hm:Mod (fun q=>q=g) w (w.setCell ⟨g,k,none⟩ (.int .i64 (x:Int))):=(Mod.refl _ w).setCell _ _ (fun _=>rfl);refine ⟨h.below.trans (hm.below h.below.size fun q hq=>by rw[hq];exact h.new),by rw[<-zC];exact s1,h.new,by rw[List.length_set];exact h.len,fun y hy=> ?_⟩;rcases List.mem_or_eq_of_mem_set hy with q|q
 ·exact h.low y q
 ·rw[q];exact hx
theorem Dd {n:Nat} (h0:0<n):(List.replicate n 0).set 0 1=1::List.replicate (n-1) 0:=by
 obtain ⟨m,rfl⟩:∃m,n=m+1:=⟨n-1,by omega⟩;rfl
theorem SM (w:World) (V:Value) (ms:List NdM) (h:Nds w V ms) (hg:Glob w):
 Calls Tryz.prog 63 #[V] w fun r w'=>r= .returned (.bool (dj (nds ms)))/\Below w.heap.size w w':=by
 obtain ⟨ao,cap,hv,hl,qS⟩:=h.open;have hV:=h;obtain ⟨n,hn⟩:=ex (ms.length);rw[<-hn]at hv hl qS;have ll:(nds ms).length=n:=by rw[bP,hn]
 rw[hv]at hV;subst hv;by_cases h0:n=0
 ·have He:=hid (vI (ns:=nds ms) (fun q=>q.1 (List.eq_nil_of_length_eq_zero (by omega))));have t0:((n:Int)==0)=true:=by rw[beq_iff_eq];omega
  clear hn hl qS h ll hV hg;go_enter Tryz.func63,Tryz.ntmps63;go_wp2;go_ret;exact ⟨fV He.o.symm,aBi _ _⟩
 ·have t0:((n:Int)==0)=false:=bF (by omega);by_cases h1:4096<n
  ·have He:=hid (vI (ns:=nds ms) (fun q=>by have:=q.2.1;omega));have t1:decide (4096<(n:Int))=true:=dT (by omega);clear hn hl qS h ll hV hg h0;go_enter Tryz.func63,Tryz.ntmps63;go_wp2;go_ret;exact ⟨fV He.o.symm,aBi _ _⟩
  ·have t1:decide (4096<(n:Int))=false:=dF (by omega);obtain ⟨b,o,rfl,aN,bN⟩:=qS (by omega);obtain ⟨m0,mP⟩:∃m0,ms[0]? =some m0:=aF (by omega);have f1:=(bN 0 m0 mP).1.c1;rw[Nat.zero_mul,Nat.add_zero]at f1;have uH:((nds ms)[0]!)=m0.nd:=gI mP;obtain ⟨key,cl⟩:=ex (m0.nd.key);rw[<-cl]at f1;have b0:(0:Int)<(n:Int):=by omega
   by_cases Ya:key=⟨#[]⟩
   ·obtain ⟨k1,k2,k3⟩:=jJ Ya;have hok:=Jd (ns:=nds ms) ⟨fun q=>by rw[q]at ll;exact h0 ll.symm,by omega,by rw[uH,<-cl];exact Ya⟩;rw[ll]at hok;obtain ⟨i0,ug,qL,uD,uC⟩:=info_parts qJ;have Hby:=hid (show i0.bytes*n<=281474976710656 by rw[uC];omega);have Xt:=hid (show n<=maxLen by unfold maxLen;omega);have Hi5:=hid ug;have Hz0:=hid qL;have Hz1:=hid uD;have Qj:=hid (fun w1 own gr=>EM.make (w:=w) (w1:=w1) (n:=n) (by omega) own gr)
    have HR:=hid (show (List.replicate n 0)[0]? =some 0 by rw[List.getElem?_replicate,if_pos (by omega)]);have Xy:=hid (Dd (n:=n) (by omega));have HL:=hid (fun (Q':Exit->Act->World->Prop) (a':Act) w' (im:EtO a' b o n cap w.heap.size 0) h'=>SO (Q:=Q') (w0:=w) (w:=w') (a:=a') (d:=1::List.replicate (n-1) 0) hV aN bN hg hn.symm (by omega) im h');rw[<-hok]at HL;generalize dj (nds ms)=tp at*
    clear hn hl qS bN aN mP uH cl h hV ll hg h0 h1 Ya hok ug qL uD uC;go_enter Tryz.func63,Tryz.ntmps63
    go_wp2_with (at_make;refine wpList_make_full _ rfl _ _ 53 rfl w.heap.size 3 i0 (.int .i64 0) 1 Tryz.underlying53 Hi5.o Hz0.o Hz1.o _ _ _ _ n rfl rfl rfl rfl Hby.o Xt.o (aBh _) ?_;intro w1 own gr;have HF:=hid (Qj.o w1 own gr);have fz:=HF.o.frozen 0;have ce:=HF.o.at HR.o;clear own gr)
    have HE:=hid (show EM w (w1.setCell ⟨w.heap.size,0,none⟩ (.int .i64 1)) w.heap.size n (1::List.replicate (n-1) 0) from by
     have:=HF.o.store 0 1 (by omega);rw[Xy.o]at this;exact this)
    rename_i Q1 K1 AV
    refine HL.o _ _ _ ⟨rfl,rfl,rfl,rfl,rfl,rfl,rfl⟩ HE.o (fun e a2 w2 f2 b2=>JU (AV _ _ ?_)) (fun e a2 w2 b2 d2 t2=> ?_)
    ·have ie:=hid b2;have He:=hid e;obtain ⟨v2,rfl,eE⟩:=f2.shape;simp only[uL,eE];clear eE;clear f2 b2 e HL HE HF ce fz Qj;go_wp2;go_ret;exact ⟨fV He.o.symm,ie.o⟩
    ·refine ⟨d2,.bool false,?_,fV e.symm,b2⟩;rw[<-vq t2];exact results_tmp rfl _ _ _
   ·obtain ⟨k1,k2,k3⟩:=jT Ya;have He:=hid (vI (ns:=nds ms) (fun q=>Ya (by rw[cl,<-uH];exact q.2.2)));clear hn hl qS bN aN mP uH cl h hV ll hg h0 h1 Ya;go_enter Tryz.func63,Tryz.ntmps63;go_wp2;go_ret;exact ⟨fV He.o.symm,aBi _ _⟩
def dR (ns:List Nd):ByteArray×Int:=
 if dj ns=false then (⟨#[]⟩,100) else if 65536<(lL ns).length then (⟨#[]⟩,3) else (⟨(lL ns).toArray⟩,0)
theorem ED {a b:ByteArray×Int} (h:a=b):Ending.returned (.tuple #[.string a.1,.int .i64 a.2])= .returned (.tuple #[.string b.1,.int .i64 b.2]):=by rw[h]
theorem PC (w:World) (V:Value) (ms:List NdM) (h:Nds w V ms) (hg:Glob w):
 Calls Tryz.prog 24 #[V] w fun r w'=>r= .returned (.tuple #[.string (dR (nds ms)).1,.int .i64 (dR (nds ms)).2])/\Below w.heap.size w w':=by
 have Ht:=hid (SM w V ms h hg);cases ht:dj (nds ms) with
 |false=>
  have hv:(⟨#[]⟩,100)=dR (nds ms):=by unfold dR;rw[if_pos ht]
  rw[ht]at Ht;have Hv:=hid hv;clear h hg ht hv;go_enter Tryz.func24,Tryz.ntmps24
  go_wp2_with fail
  refine Ht.o.mono ?_;rintro r w1 ⟨rfl,hb⟩;have Hb:=hid hb;clear hb Ht;go_wp2;refine bodyPost_ret (results_tmp2 rfl _ _ _) rfl ?_;exact ⟨ED Hv.o,Hb.o⟩
 |true=>
  have hlen:0<ms.length:=by
   have:=((jI _).1 ht).1.1;rw[<-bP];exact List.length_pos_iff.2 this
  have ll:(nds ms).length=ms.length:=bP ms;have HL:=hid (fun w1 (bG:Below w.heap.size w w1)=>Zf h ht ms.length 0 0 false (w1.alloc (.cells #[.slice none 0 0] 114)) w1.heap.size (.slice none 0 0) []
   ⟨bG.alloc bG.size _,bG.size,(fun g hg=>by cases hg)⟩ ⟨ag _,World.ownsRow_nil _ _ _ _,(fun g hg=>by cases hg),by decide⟩ hlen (by omega) (aBh _))
  have hE:kV (nds ms) ms.length 0 0 false []=lL (nds ms):=by unfold lL;rw[ll]
  rw[hE]at HL;have hv:dR (nds ms)=if 65536<(lL (nds ms)).length then (⟨#[]⟩,3) else (⟨(lL (nds ms)).toArray⟩,0):=by unfold dR;rw[if_neg (by rw[ht];decide)]
  rw[hv];rw[ht]at Ht;have HV:=hid h;obtain ⟨e,he⟩:=ex (lL (nds ms));rw[<-he]at HL |-;obtain ⟨rv,hrv⟩:∃rv:ByteArray×Int,rv=if 65536<e.length then (⟨#[]⟩,3) else (⟨e.toArray⟩,0):=⟨_,rfl⟩
  rw[<-hrv];have Hrv:=hid hrv;clear h hg ht hlen ll hE hv he hrv;go_enter Tryz.func24,Tryz.ntmps24
  go_wp2_with fail
  refine Ht.o.mono ?_;rintro r w1 ⟨rfl,hb⟩;have Hb:=hid hb;have Hl:=hid (HL.o w1 hb);have AM:=hb.size;clear hb Ht HL
  go_wp2_with fail
  refine Hl.o.mono ?_;rintro r w2 ⟨rfl,v2,hp⟩;have hbn:=Hb.o;have HB:=hid (show Below w.heap.size w w2 from (hbn.alloc hbn.size (.cells #[.slice none 0 0] 114)).trans (hp.mod.below (hbn.alloc hbn.size _).size (fun k hk=>by
   rcases hk with e|e
   ·rw[e];exact AM
   ·cases e)))
  have p0:=aa hp.pg.blk 0;simp at p0;obtain ⟨Xf,Yj,Ic⟩:∃ao c,v2= .slice ao e.length c:=by
   rcases hp.pg.row.2 with ⟨hv,hn⟩|⟨g,cap,cur,hv,_⟩
   ·exact ⟨none,0,by rw[hv,hn]⟩
   ·exact ⟨_,_,hv⟩
  have hc:=nR hp.pg.row;rw[Ic]at p0 hc;clear hp Hl hbn AM Ic Hb;by_cases h65:65536<e.length
  ·have t1:decide (65536<(e.length:Int))=true:=dT (by omega);have He:=hid (show (⟨#[]⟩,3)=rv by rw[Hrv.o,if_pos h65]);clear h65;go_wp2;refine bodyPost_ret (results_tmp2 rfl _ _ _) rfl ?_;exact ⟨ED He.o,HB.o⟩
  ·have t1:decide (65536<(e.length:Int))=false:=dF (by omega);have He:=hid (show (⟨e.toArray⟩,0)=rv by rw[Hrv.o,if_neg h65]);clear h65;go_wp2;refine bodyPost_ret (results_tmp2 rfl _ _ _) rfl ?_;exact ⟨ED He.o,HB.o⟩
theorem PD (w:World) (V:Value) (ms:List NdM) (h:Nds w V ms) (hg:Glob w):
 Calls Tryz.prog 34 #[V] w fun r w'=>r= .returned (.int .i64 (dR (nds ms)).2)/\Below w.heap.size w w':=by
 have He:=hid (PC w V ms h hg);generalize dR (nds ms)=e at*;obtain ⟨e1,e2⟩:=e;clear h hg;go_enter Tryz.func34,Tryz.ntmps34
 go_wp2_with fail
 refine He.o.mono ?_;rintro r w1 ⟨rfl,hb⟩;have Hb:=hid hb;clear hb He;go_wp2;go_ret;exact ⟨rfl,Hb.o⟩
theorem ez {ns:List Nd} {m:Nd} {key:ByteArray} {k:Nat} (h:bH ns m key=some k):bt ns m key= .ok (ns[k]!):=by
 unfold bt aY;rw[h];rfl
theorem eA {ns:List Nd} {m:Nd} {key:ByteArray} (h:bH ns m key=none):bt ns m key= .error (m.line,122):=by
 unfold bt aY;rw[h];rfl
theorem wV {ns:List Nd}:∀{l:List Int} {last:Int} {had:List ByteArray},eS ns 2 l last had=true->
 (∀a∈l,¬(ns[a.toNat]!).key∈had)/\l.Pairwise (fun a b=>(ns[a.toNat]!).key≠(ns[b.toNat]!).key)
 |[],_,_,_=>⟨(fun _ h=>nomatch h),List.Pairwise.nil⟩
 |k::r,last,had,h=>by
  unfold eS at h
  split at h
  ·cases h
  ·split at h
   ·cases h
   ·rename_i h1 h2
    obtain ⟨h3,h4⟩:=wV h;have h5:¬(ns[k.toNat]!).key∈had:=fun hm=>h2 (by unfold kH;rw[dT (show (2:Int)=2/\(ns[k.toNat]!).key∈had from ⟨rfl,hm⟩)];simp);refine ⟨fun a ha=> ?_,List.Pairwise.cons (fun a ha he=> ?_) h4⟩
    ·rcases List.mem_cons.1 ha with rfl|ha
     ·exact h5
     ·exact fun hm=>h3 a ha (List.mem_cons_of_mem _ hm)
    ·exact h3 a ha (by rw[<-he];exact List.mem_cons_self ..)
theorem nP {ns:List Nd} {m:Nd} {key:ByteArray} {x:Nat} (h:bH ns m key=some x):∃z∈m.kids,z.toNat=x/\(ns[z.toNat]!).key=key:=by
 unfold bH at h;cases hf:m.kids.find? (fun k=>decide ((ns[k.toNat]!).key=key)) with
 |none=>rw[hf]at h;cases h
 |some z=>
  rw[hf]at h;refine ⟨z,List.mem_of_find?_eq_some hf,by simpa using h,?_⟩;have:=List.find?_some hf
  simpa using this
structure MapOk (ns:List Nd) (m:Nd):Prop where
 up:m.kids.Pairwise (· <·)
 low:∀z∈m.kids,0<=z/\z<(ns.length:Int)
 keys:m.kind=2->m.kids.Pairwise (fun a b=>(ns[a.toNat]!).key≠(ns[b.toNat]!).key)
theorem NM {ns:List Nd} {i:Nat} (h:kE ns i (ns[i]!)=true):MapOk ns (ns[i]!):=by
 unfold kE at h
 split at h
 ·cases h
 ·rename_i h0
  split at h
  ·cases h
  ·rename_i h1
   split at h
   ·cases h
   ·rename_i h2
    by_cases hk:(ns[i]!).kind=1
    ·have hs:dY (ns[i]!)=true:=Decidable.not_not.1 fun hh=>h1 ⟨hk,hh⟩;have e:=tH hs;exact ⟨(by rw[e];exact List.Pairwise.nil),(by rw[e];exact fun z hz=>nomatch hz),(fun _=>by rw[e];exact List.Pairwise.nil)⟩
    ·have hR:eS ns (ns[i]!).kind (ns[i]!).kids (i:Int) []=true:=Decidable.not_not.1 fun hh=>h2 ⟨by omega,.inr (.inr (.inr hh))⟩;obtain ⟨s1,s2⟩:=iB hR;exact ⟨s2,fun z hz=>⟨by have:=(s1 z hz).1;omega,(s1 z hz).2⟩,fun h2k=>(wV (by rw[h2k]at hR;exact hR)).2⟩
def Iu (s:ByteArray):ByteArray:=⟨(s.data.toList.map cq).toArray⟩
