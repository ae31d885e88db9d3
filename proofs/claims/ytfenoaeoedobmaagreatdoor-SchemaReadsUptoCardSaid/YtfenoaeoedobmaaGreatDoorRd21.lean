/-
Parts of a proof, one behind the other (laid dense by a program of mine: pack.py).
-/
import Derived.OwnWalk
import Derived.Test.YtfenoaeoedobmaaGreatDoorRd19
import Derived.Test.YtfenoaeoedobmaaGreatDoorRd20
set_option linter.unusedVariables false
set_option linter.unusedSimpArgs false
set_option maxHeartbeats 4000000
set_option maxRecDepth 20000
namespace Go.Proofs.YtfenoaeoedobmaaGreatDoor
open Go Go.RowKit
section
variable {w0 w:World} {Q:Exit→Act→World→Prop} {a:Act} {ms:List NdM} {b o n cap g i nb mb b2 o2 q cap2 j:Nat} {last:Int} {d:List Nat} {m:NdM} {had:List ByteArray} {deep:Nat} {x:Int}
theorem kidsP_bad1 {ns:List Nd} {kind:Int} {deep:Nat} {k:Int} {r:List Int} {last:Int} {had:List ByteArray} {d:List Nat} (h:k≤last∨(ns.length:Int)≤k∨d[k.toNat]! ≠0):kidsP ns kind deep (k::r) last had d=none:=by
 rw[kidsP,if_pos h]
theorem kidsP_bad2 {ns:List Nd} {kind:Int} {deep:Nat} {k:Int} {r:List Int} {last:Int} {had:List ByteArray} {d:List Nat} (h:keyOk kind (ns[k.toNat]!).key had=false):kidsP ns kind deep (k::r) last had d=none:=by
 rw[kidsP]
 split
 ·rfl
 ·rfl
theorem kidsP_ok {ns:List Nd} {kind:Int} {deep:Nat} {k:Int} {r:List Int} {last:Int} {had:List ByteArray} {d:List Nat} (h1:¬(k≤last∨(ns.length:Int)≤k∨d[k.toNat]! ≠0)) (h2:keyOk kind (ns[k.toNat]!).key had=true):kidsP ns kind deep (k::r) last had d=kidsP ns kind deep r k ((ns[k.toNat]!).key::had) (d.set k.toNat (deep+1)):=by
 rw[kidsP,if_neg h1,if_neg (by rw[h2];decide)]
theorem et_kid (hN:Nds w0 (.slice (some ⟨b,o,none⟩) n cap) ms) (hb:b<w0.heap.size) (hat:∀i m,ms[i]? =some m→NdAt w0 b (o+i*6) m∧m.Ok w0) (hn:ms.length=n)
 (hf:EtK a b o n cap g i nb mb b2 o2 q cap2 j last) (h:EK w0 w g n d nb mb m had) (hd:d[i]? =some deep) (hdeep:deep≤16) (hi:i<n)
 (hx:w0.cell? ⟨b2,o2+j,none⟩=some (.int .i64 x)) (hb2:b2<w0.heap.size) (hj:j<q) (hlast:(i:Int)≤last) (hhad:had.length≤1048576) (hkind:m.nd.kind=2∨m.nd.kind=3) (r:List Int)
 (ok:∀a' w' (k:Nat),x=(k:Int)→i<k→k<n→kidsP (nds ms) m.nd.kind deep (x::r) last had d=kidsP (nds ms) m.nd.kind deep r x (((nds ms)[k]!).key::had) (d.set k (deep+1))→
  EtK a' b o n cap g i nb mb b2 o2 q cap2 j x→EK w0 w' g n (d.set k (deep+1)) nb mb m (((nds ms)[k]!).key::had)→Q .normal a' w')
 (bad:kidsP (nds ms) m.nd.kind deep (x::r) last had d=none→∀a' w',Below w0.heap.size w0 w'→a'.defers=[]→a'.tmps[2]? =some (.bool false)→Q .ret a' w'):etKid.wp Tryz.prog Q a w:=by
 have hbl:=h.em.below;have Hb:=hid hbl;have c1:=(hbl.cell hb2).trans hx;have hnn:(nds ms).length=n:=by rw[nds_len,hn]
 have bj:(j:Int)<(q:Int):=by omega
 obtain ⟨v,rfl⟩:=hf.shape;clear hf;have Hok:=hid ok;have Hbad:=hid bad;clear ok bad;dsimp only[etKid,ncs,ncl,ncr,ncb,nco,nct,nce,ncx,Tryz.f63];by_cases g1:x≤last
 ·have t1:decide (x≤last)=true:=dT g1;have HB:=hid (Hbad.out (kidsP_bad1 (.inl g1)));clear hx hbl h hN hat hd hdeep hi hj hlast hhad hkind g1 Hok Hbad hnn hn;go_wp2;exact HB.out _ _ Hb.out rfl rfl
 ·have t1:decide (x≤last)=false:=dF g1;by_cases g2:(n:Int)≤x
  ·have t2:decide ((n:Int)≤x)=true:=dT g2;have HB:=hid (Hbad.out (kidsP_bad1 (.inr (.inl (by rw[hnn];exact g2)))));clear hx hbl h hN hat hd hdeep hi hj hlast hhad hkind g1 g2 Hok Hbad hnn hn;go_wp2;exact HB.out _ _ Hb.out rfl rfl
  ·obtain ⟨k,rfl⟩:∃k:Nat,x=(k:Int):=⟨x.toNat,by omega⟩;have t2:decide (n≤k)=false:=dF (by omega);have bk:(k:Int)<(n:Int):=by omega
   obtain ⟨dk,hdk⟩:∃dk,d[k]? =some dk:=at_of_lt (by rw[h.em.len];omega);have hdk2:d[((k:Int)).toNat]! =dk:=by rw[Int.toNat_natCast,List.getElem!_eq_getElem?_getD,hdk];rfl
   have e1:=h.em.at hdk;by_cases g3:dk=0
   ·subst g3;obtain ⟨mk,hmk⟩:∃mk,ms[k]? =some mk:=at_of_lt (by omega);have hkey:=nds_at hmk;obtain ⟨c,hokk⟩:=hat k mk hmk;obtain ⟨key,ekey⟩:∃key,key=mk.nd.key:=⟨_,rfl⟩;have hks:key.size≤maxLen:=by rw[ekey];have:=hokk.key;unfold maxLen;omega
    have k1:=c.c1;rw[←ekey]at k1;have e2:=h.em.at hd;have HS:=hid (h.stored k (deep+1) (by omega));have hno:¬((k:Int)≤last∨((nds ms).length:Int)≤(k:Int)∨d[((k:Int)).toNat]! ≠0):=by rw[hnn,hdk2];omega
    have wd:=wrap_ok (z:=(deep:Int)+1) (by omega) (by omega);have fz:=h.em.frozen k;have bi:(i:Int)<(n:Int):=by omega
    have ecast:((deep+1:Nat):Int)=(deep:Int)+1:=by omega
    have n0:=cell_blk HS.out.nd 0;have n1:=(HS.out.em.below.cell (p:=⟨b,o+k*6+1,none⟩) hb).trans k1;rw[ecast]at n0 n1 HS;simp only[List.getElem?_toArray,List.getElem?_cons_zero]at n0;have ekn:((nds ms)[((k:Int)).toNat]!).key=key:=by rw[Int.toNat_natCast,hkey,ekey]
    have ekn2:((nds ms)[k]!).key=key:=by rw[hkey,ekey]
    have Hbad2:=hid (fun (hq:keyOk m.nd.kind key had=false)=>Hbad.out (kidsP_bad2 (by rw[ekn];exact hq)));have Hok2:=hid (fun (hq:keyOk m.nd.kind key had=true) a' w' (p1:EtK a' b o n cap g i nb mb b2 o2 q cap2 j (k:Int)) (p2:EK w0 w' g n (d.set k (deep+1)) nb mb m (key::had))=>Hok.out a' w' k rfl (by omega) (by omega) (by rw[kidsP_ok hno (by rw[ekn];exact hq),ekn,ekn2,Int.toNat_natCast]) p1 (by rw[ekn2];exact p2))
    have HL:=hid (HS.out.map.look key hks);have Hhad:=hid hhad;have Hks:=hid hks;clear hx hbl h hN hat hd hdeep hi hj hlast hhad g1 g2 Hok Hbad hnn hn hdk hdk2 hmk hkey c hokk ekey hks k1 hno ekn ekn2;rcases hkind with hk2|hk3
    ·rw[hk2]at n0;by_cases hm:key∈had
     ·have HB:=hid (Hbad2.out (by unfold keyOk;rw[hk2,dT (show (2:Int)=2∧key∈had from ⟨rfl,hm⟩)];simp));rw[dT hm]at HL;have hL:=HL.out;clear Hok2 Hbad2 hm hk2 HL;go_wp2;exact HB.out _ _ HS.out.em.below rfl rfl
     ·have HO:=hid (Hok2.out (by unfold keyOk;rw[hk2,dF (fun q:(2:Int)=2∧key∈had=>hm q.2),dF (fun q:(2:Int)=3∧key≠⟨#[]⟩=>by omega)];rfl));rw[dF hm]at HL;have hL:=HL.out;clear Hok2 Hbad2 hm hk2 HL
      go_wp2_with (at_mapUpdate;refine hadPut rfl _ _ _ rfl mb had rfl HS.out.map Hhad.out key Hks.out rfl rfl ?_;intro w2 hh hg;have HE:=hid (HS.out.put hh hg);clear hh hg)
      exact HO.out _ _ ⟨rfl,rfl,rfl,rfl,rfl,rfl,rfl,rfl,rfl,rfl,rfl,rfl,rfl,rfl⟩ HE.out
    ·rw[hk3]at n0;by_cases hm:key=⟨#[]⟩
     ·obtain ⟨k4,k5,k6⟩:=str_empty hm;have HO:=hid (Hok2.out (by unfold keyOk;rw[hk3,dF (fun q:(3:Int)=2∧key∈had=>by omega),dF (fun q:(3:Int)=3∧key≠⟨#[]⟩=>q.2 hm)];rfl));clear Hok2 Hbad2 hm hk3 HL
      go_wp2_with (at_mapUpdate;refine hadPut rfl _ _ _ rfl mb had rfl HS.out.map Hhad.out key Hks.out rfl rfl ?_;intro w2 hh hg;have HE:=hid (HS.out.put hh hg);clear hh hg)
      exact HO.out _ _ ⟨rfl,rfl,rfl,rfl,rfl,rfl,rfl,rfl,rfl,rfl,rfl,rfl,rfl,rfl⟩ HE.out
     ·obtain ⟨k4,k5,k6⟩:=str_full hm;have HB:=hid (Hbad2.out (by unfold keyOk;rw[hk3,dT (show (3:Int)=3∧key≠⟨#[]⟩ from ⟨rfl,hm⟩)];rfl));clear Hok2 Hbad2 hm hk3 HL;go_wp2;exact HB.out _ _ HS.out.em.below rfl rfl
   ·have t3:((dk:Int)==0)=false:=bF (by omega);have HB:=hid (Hbad.out (kidsP_bad1 (.inr (.inr (by rw[hdk2];exact g3)))));clear hx hbl h hN hat hd hdeep hi hj hlast hhad hkind g1 g2 g3 Hok Hbad hnn hn hdk hdk2;go_wp2;exact HB.out _ _ Hb.out rfl rfl
theorem et_inner (hN:Nds w0 (.slice (some ⟨b,o,none⟩) n cap) ms) (hb:b<w0.heap.size) (hat:∀i m,ms[i]? =some m→NdAt w0 b (o+i*6) m∧m.Ok w0) (hn:ms.length=n)
 (hf:EtK a b o n cap g i nb mb b2 o2 q cap2 0 (i:Int)) (h:EK w0 w g n d nb mb m []) (hd:d[i]? =some deep) (hdeep:deep≤16) (hi:i<n) (hq:q=m.nd.kids.length) (hq2:q≤1048576)
 (hx:∀j x,m.nd.kids[j]? =some x→w0.cell? ⟨b2,o2+j,none⟩=some (.int .i64 x)) (hb2:b2<w0.heap.size) (hkind:m.nd.kind=2∨m.nd.kind=3)
 (ok:∀a' w' d',kidsP (nds ms) m.nd.kind deep m.nd.kids (i:Int) [] d=some d'→EtO a' b o n cap g i→EM w0 w' g n d'→Q .normal a' w')
 (bad:kidsP (nds ms) m.nd.kind deep m.nd.kids (i:Int) [] d=none→∀a' w',Below w0.heap.size w0 w'→a'.defers=[]→a'.tmps[2]? =some (.bool false)→Q .ret a' w'):etIn.wp Tryz.prog Q a w:=by
 show (Code.block 2 (Code.loop (Code.seq etK1 (Code.seq etK2 (Code.seq (Code.block 3 etKid) etK4))))).wp Tryz.prog Q a w
 refine wp_block (wp_loop (fun a' w'=>∃(j:Nat) (last:Int) (d':List Nat) (had:List ByteArray),j≤q∧EtK a' b o n cap g i nb mb b2 o2 q cap2 j last∧EK w0 w' g n d' nb mb m had∧
  kidsP (nds ms) m.nd.kind deep m.nd.kids (i:Int) [] d=kidsP (nds ms) m.nd.kind deep (m.nd.kids.drop j) last had d'∧(i:Int)≤last∧had.length=j∧d'[i]? =some deep) (fun a' _=>q-(intOf (a'.tmps.getD 83 undef)).toNat) ⟨0,_,d,[],Nat.zero_le _,hf,h,rfl,Int.le_refl _,rfl,hd⟩ ?_)
 clear hf h hd;rintro a1 w1 ⟨j,last,d1,had,hj,hf1,h1,hs,hil,hhl,hd1⟩;by_cases hjq:j<q
 ·obtain ⟨x,hxj⟩:∃x,m.nd.kids[j]? =some x:=at_of_lt (by omega);have hdr:m.nd.kids.drop j=x::m.nd.kids.drop (j+1):=by
   obtain ⟨hlt,he⟩:=List.getElem?_eq_some_iff.1 hxj;rw[List.drop_eq_getElem_cons hlt,he]
  rw[hdr]at hs;have HK:=hid (fun (Q':Exit→Act→World→Prop) (a':Act) (hf':EtK a' b o n cap g i nb mb b2 o2 q cap2 j last)=>et_kid (Q:=Q') (w:=w1) (r:=m.nd.kids.drop (j+1)) hN hb hat hn hf' h1 hd1 hdeep hi (hx j x hxj) hb2 hjq hil (by omega) hkind);obtain ⟨Hms,Hgo⟩:=step_two (k:=j) (n:=q) hjq (by omega);have Hs:=hid hs;have Hbad:=hid bad;have Hd1:=hid hd1;have Hhl:=hid hhl;have Hil:=hid hil;have Hjq:=hid hjq
  clear hq hkind;have tj:decide (j<q)=true:=dT hjq;have wj:wrap64 ((j:Int)+1)=(j:Int)+1:=wrap_ok (by omega) (by omega);obtain ⟨v,rfl⟩:=hf1.shape;clear hf1 hs hxj hdr hx hd1 hhl hil hj hjq ok bad h1 hN hat hn;dsimp only[etK1,etK2,ncs,ncl,ncr,ncb,nco,nct,nce,ncx,Tryz.f63];go_wp2
  rename_i Q1 K1 hK1
  refine HK.out _ _ ⟨rfl,rfl,rfl,rfl,rfl,rfl,rfl,rfl,rfl,rfl,rfl,rfl,rfl,rfl⟩ (fun a2 w2 k hk hik hkn hss hf2 h2=>hK1 _ _ ?_) (fun hbad a2 w2 hb2 hd2 ht2=>Hbad.out (Hs.out.trans hbad) a2 w2 hb2 hd2 ht2);subst hk;have hHE:=hid (show j+1≤q∧EK w0 w2 g n (d1.set k (deep+1)) nb mb m (((nds ms)[k]!).key::had)∧kidsP (nds ms) m.nd.kind deep m.nd.kids (i:Int) [] d=kidsP (nds ms) m.nd.kind deep (m.nd.kids.drop (j+1)) (k:Int) (((nds ms)[k]!).key::had) (d1.set k (deep+1))∧(i:Int)≤(k:Int)∧(((nds ms)[k]!).key::had).length=j+1∧(d1.set k (deep+1))[i]? =some deep from
   ⟨Hjq.out,h2,Hs.out.trans hss,by omega,by rw[List.length_cons,Hhl.out],by rw[List.getElem?_set_ne (by omega)];exact Hd1.out⟩)
  obtain ⟨v2,rfl⟩:=hf2.shape;clear hf2 hss h2 hik hkn HK Hs Hbad Hd1 Hhl Hil Hjq;dsimp only[etK4,ncs,ncl,ncr,ncb,nco,nct,nce,ncx,Tryz.f63];go_wp2;obtain ⟨z1,z2,z3,z4,z5,z6⟩:=hHE.out;exact ⟨⟨j+1,_,_,_,z1,⟨rfl,rfl,rfl,rfl,rfl,rfl,rfl,rfl,rfl,rfl,rfl,rfl,rfl,congrArg some Hgo.out⟩,z2,z3,z4,z5,z6⟩,Hms.out⟩
 ·have ej:j=q:=by omega
  subst ej;have hfin:kidsP (nds ms) m.nd.kind deep m.nd.kids (i:Int) [] d=some d1:=by
   rw[hs,List.drop_eq_nil_of_le (by omega)];rfl
  have HO:=hid (fun a' hf'=>ok a' w1 d1 hfin hf' h1.em);have tj:decide (j<j)=false:=dF (Nat.lt_irrefl j);obtain ⟨v,rfl⟩:=hf1.shape;clear hf1 hs hx hd1 hhl hil hj hjq ok bad h1 hN hat hn hq hkind hfin;dsimp only[etK1,etK2,ncs,ncl,ncr,ncb,nco,nct,nce,ncx,Tryz.f63];go_wp2;exact HO.out _ ⟨rfl,rfl,rfl,rfl,rfl,rfl,rfl⟩
theorem EK.first (h:EM w0 w g n d):EK w0 ((w.alloc (.cells #[.int .i64 m.nd.kind,.string m.nd.key,.string m.nd.text,.bool m.nd.quoted,.int .i64 m.nd.line,m.kv] 55)).alloc (.map #[] 0)) g n d w.heap.size (w.heap.size+1) m []:=by
 have hg:=(h.row.lt g rfl).2;have hs:=h.below.size;refine ⟨(h.later ((Below.refl _ w).alloc (Nat.le_refl _) _)).later ((Below.refl _ _).alloc (Nat.le_refl _) _),?_,hs,by omega,?_,by omega,by omega,by omega⟩
 ·rw[alloc_old _ (by simp),alloc_new]
 ·have:=Had.made (w.alloc (.cells #[.int .i64 m.nd.kind,.string m.nd.key,.string m.nd.text,.bool m.nd.quoted,.int .i64 m.nd.line,m.kv] 55))
  simpa using this
theorem EM.new1 (h:EM w0 w g n d) (o:Obj):Below w0.heap.size w0 (w.alloc o):=h.below.alloc h.below.size o
section
variable {ns:List Nd} {nd:Nd}
theorem nodeP_deep (h:d[i]! =0∨16<d[i]!):nodeP ns i nd d=none:=by unfold nodeP;rw[if_pos h]
theorem nodeP_scal (h:¬(d[i]! =0∨16<d[i]!)) (hk:nd.kind=1):nodeP ns i nd d=if scalarOk nd=true then some d else none:=by unfold nodeP;rw[if_neg h,if_pos hk]
theorem nodeP_bad (hk:¬nd.kind=1) (hb:(nd.kind≠2∧nd.kind≠3)∨nd.kids=[]∨nd.text≠⟨#[]⟩∨nd.quoted=true):nodeP ns i nd d=none:=by
 unfold nodeP
 split
 ·rfl
 ·first|rfl|rw[if_neg hk,if_pos hb]
theorem nodeP_many (h:¬(d[i]! =0∨16<d[i]!)) (hk:¬nd.kind=1) (hb:¬((nd.kind≠2∧nd.kind≠3)∨nd.kids=[]∨nd.text≠⟨#[]⟩∨nd.quoted=true)):nodeP ns i nd d=kidsP ns nd.kind d[i]! nd.kids (i:Int) [] d:=by unfold nodeP;rw[if_neg h,if_neg hk,if_neg hb]
end
theorem et_node (hN:Nds w0 (.slice (some ⟨b,o,none⟩) n cap) ms) (hb:b<w0.heap.size) (hat:∀i m,ms[i]? =some m→NdAt w0 b (o+i*6) m∧m.Ok w0) (hg:Glob w0) (hn:ms.length=n) (hf:EtO a b o n cap g i) (h:EM w0 w g n d) (hi:i<n)
 (ok:∀a' w' d',nodeP (nds ms) i ((nds ms)[i]!) d=some d'→EtO a' b o n cap g i→EM w0 w' g n d'→Q .normal a' w'∧Q (.exit 1) a' w')
 (bad:nodeP (nds ms) i ((nds ms)[i]!) d=none→∀a' w',Below w0.heap.size w0 w'→a'.defers=[]→a'.tmps[2]? =some (.bool false)→Q .ret a' w'):etNode.wp Tryz.prog Q a w:=by
 show (Code.seq etN0 (Code.seq etN1 (Code.seq etN2 (Code.seq etN3 (Code.seq etN4 (Code.seq etN5 (Code.seq etN6 etIn))))))).wp Tryz.prog Q a w
 obtain ⟨m,hm⟩:∃m,ms[i]? =some m:=at_of_lt (by omega);obtain ⟨c,hok⟩:=hat i m hm;have hnd:(nds ms)[i]! =m.nd:=nds_at hm;rw[hnd]at ok bad;have hbl:=h.below;have c0:=(hbl.cell (p:=⟨b,o+i*6,none⟩) hb).trans c.c0;have c1:=(hbl.cell (p:=⟨b,o+i*6+1,none⟩) hb).trans c.c1;have c2:=(hbl.cell (p:=⟨b,o+i*6+2,none⟩) hb).trans c.c2;have c3:=(hbl.cell (p:=⟨b,o+i*6+3,none⟩) hb).trans c.c3;have c4:=(hbl.cell (p:=⟨b,o+i*6+4,none⟩) hb).trans c.c4
 have c5:=(hbl.cell (p:=⟨b,o+i*6+5,none⟩) hb).trans c.c5;obtain ⟨ao2,cap2,hkv,hl2,hks⟩:=ints_open hok.kids;obtain ⟨q,hq⟩:∃q,q=m.nd.kids.length:=⟨_,rfl⟩;rw[←hq]at hkv hl2 hks;rw[hkv]at c5;obtain ⟨di,hdi⟩:∃di,d[i]? =some di:=at_of_lt (by rw[h.len];omega);have hdi2:d[i]! =di:=by rw[List.getElem!_eq_getElem?_getD,hdi];rfl
 have e1:=h.at hdi;have bi:(i:Int)<(n:Int):=by omega
 have e2:∀ob,(w.alloc ob).cell? ⟨g,i,none⟩=some (.int .i64 (di:Int)):=fun ob=>(World.cell?_of_block (alloc_old ob (h.row.lt g rfl).2)).trans e1;have Hb:=hid h.below;have Hbn:=hid (fun o=>h.new1 o);have HE:=hid h;have Hbad:=hid bad;have Hok:=hid ok;have Hdi2:=hid hdi2;have HN:=hid hN;have Hsc:=hid (fun w1 (hb1:Below w0.heap.size w0 w1)=>escalar_c w1 m (hok.later hb1) (hg.later hb1));have hmv:m.v= .agg #[.int .i64 m.nd.kind,.string m.nd.key,.string m.nd.text,.bool m.nd.quoted,.int .i64 m.nd.line,.slice ao2 q cap2]:=by unfold NdM.v;rw[hkv]
 rw[hmv]at Hsc;have ek:m.nd.kids=[]↔q=0:=by rw[hq,List.length_eq_zero_iff]
 obtain ⟨kind,hkind⟩:∃kind,kind=m.nd.kind:=⟨_,rfl⟩;obtain ⟨tx,htx⟩:∃tx,tx=m.nd.text:=⟨_,rfl⟩;obtain ⟨qt,hqt⟩:∃qt,qt=m.nd.quoted:=⟨_,rfl⟩;rw[←hkind]at c0 Hsc;rw[←htx]at c2 Hsc;rw[←hqt]at c3 Hsc;obtain ⟨v,rfl⟩:=hf.shape;clear hf hN h hbl c hm hnd ok bad hg hmv hdi2;by_cases g1:di=0∨16<di
 ·have HB:=hid (Hbad.out (nodeP_deep (by rw[Hdi2.out];exact g1)));by_cases g0:di=0
  ·have t1:((di:Int)==0)=true:=by rw[beq_iff_eq];omega
   clear hat hn hi hok hq hl2 hks hdi hkind htx hqt ek g0 g1 Hbad Hok HN Hsc HE hkv hb;dsimp only[etN0,etN1,ncs,ncl,ncr,ncb,nco,nct,nce,ncx,Tryz.f63];go_wp2;exact HB.out _ _ (Hbn.out _) rfl rfl
  ·have t1:((di:Int)==0)=false:=bF (by omega);have t2:decide (16<(di:Int))=true:=dT (by omega);clear hat hn hi hok hq hl2 hks hdi hkind htx hqt ek g0 g1 Hbad Hok HN Hsc HE hkv hb;dsimp only[etN0,etN1,ncs,ncl,ncr,ncb,nco,nct,nce,ncx,Tryz.f63];go_wp2;exact HB.out _ _ (Hbn.out _) rfl rfl
 ·have t1:((di:Int)==0)=false:=bF (by omega);have t2:decide (16<(di:Int))=false:=dF (by omega);have hno:¬(d[i]! =0∨16<d[i]!):=by rw[Hdi2.out];exact g1
  by_cases k1:kind=1
  ·have t3:(kind==1)=true:=by rw[beq_iff_eq];exact k1
   have hsc:=nodeP_scal (ns:=nds ms) (i:=i) (nd:=m.nd) hno (by rw[←hkind];exact k1);have HB:=hid (fun (e:scalarOk m.nd=false)=>Hbad.out (hsc.trans (by rw[e];rfl)));have HO:=hid (fun (e:scalarOk m.nd=true) a' w' hf' he'=>(Hok.out a' w' d (hsc.trans (by rw[e];rfl)) hf' he').2);have HE2:=hid (fun w1 (hb1:Below w.heap.size w w1)=>HE.out.later hb1);have Hbw:=hid (fun o=>(Below.refl w.heap.size w).alloc (Nat.le_refl _) o)
   generalize scalarOk m.nd=sb at*;clear hat hn hi hok hq hl2 hks hdi hkind htx hqt ek g1 Hbad Hok HN HE hkv hb hno k1 hsc;dsimp only[etN0,etN1,etN2,ncs,ncl,ncr,ncb,nco,nct,nce,ncx,Tryz.f63]
   go_wp2_with fail
   refine (Hsc.out _ (Hbn.out _)).mono ?_;rintro r w1 ⟨rfl,hb1⟩;have Hb1:=hid ((Hbw.out (.cells #[.int .i64 kind,.string m.nd.key,.string tx,.bool qt,.int .i64 m.nd.line,.slice ao2 q cap2] 55)).trans (hb1.mono (Below.size (Hbw.out _))));clear hb1 Hsc;cases sb with
   |true=>
    have HX:=hid (HE2.out w1 Hb1.out);go_wp2;exact HO.out trivial _ _ ⟨rfl,rfl,rfl,rfl,rfl,rfl,rfl⟩ HX.out
   |false=>
    have HX:=hid (HE2.out w1 Hb1.out).below;go_wp2;exact HB.out trivial _ _ HX.out rfl rfl
  ·have t3:(kind==1)=false:=by rw[beq_eq_false_iff_ne];exact k1
   have HB:=hid (fun hh=>Hbad.out (nodeP_bad (ns:=nds ms) (i:=i) (nd:=m.nd) (d:=d) (by rw[←hkind];exact k1) hh));by_cases k23:kind=2∨kind=3
   ·have hf2:∃f2 f3:Bool,(kind==2)=f2∧(kind==3)=f3∧(f2=true∨(f2=false∧f3=true)):=by
     rcases k23 with e|e
     ·exact ⟨_,_,rfl,rfl,.inl (by rw[e];rfl)⟩
     ·exact ⟨_,_,rfl,rfl,.inr ⟨by rw[e];rfl,by rw[e];rfl⟩⟩
    have hr:(!(kind==2)&& !(kind==3))=false:=by rcases k23 with e|e<;>rw[e]<;>rfl
    by_cases q0:q=0
    ·have s5:((q:Int)==0)=true:=by rw[beq_iff_eq];omega
     have HB2:=hid (HB.out (.inr (.inl (ek.2 q0))));clear HB q0 hat hn hi hok hq hl2 hks hdi hkind htx hqt ek g1 Hbad Hok HN HE hkv hb hno k1 Hsc;dsimp only[etN0,etN1,etN2,etN3,ncs,ncl,ncr,ncb,nco,nct,nce,ncx,Tryz.f63];rcases k23 with k2|k2<;>subst k2
     ·clear hf2;go_wp2;exact HB2.out _ _ (Hbn.out _) rfl rfl
     ·clear hf2;go_wp2;exact HB2.out _ _ (Hbn.out _) rfl rfl
    ·have s5:((q:Int)==0)=false:=bF (by omega);have p5:¬q=0:=q0;by_cases ht:tx=⟨#[]⟩
     ·obtain ⟨y4,y5,y6⟩:=str_empty ht;cases qt with
      |true=>
       have HB2:=hid (HB.out (.inr (.inr (.inr hqt.symm))));clear ht HB q0 hat hn hi hok hq hl2 hks hdi hkind htx hqt ek g1 Hbad Hok HN HE hkv hb hno k1 Hsc;dsimp only[etN0,etN1,etN2,etN3,ncs,ncl,ncr,ncb,nco,nct,nce,ncx,Tryz.f63];rcases k23 with k2|k2<;>subst k2
       ·clear hf2;go_wp2;exact HB2.out _ _ (Hbn.out _) rfl rfl
       ·clear hf2;go_wp2;exact HB2.out _ _ (Hbn.out _) rfl rfl
      |false=>
       obtain ⟨b2,o2,rfl,hb2,hcell⟩:=hks (by omega);have HM:=nodeP_many (ns:=nds ms) (i:=i) (nd:=m.nd) (d:=d) hno (by rw[←hkind];exact k1) (by
        rintro (e|e|e|e)
        ·rw[←hkind]at e;rcases k23 with k|k
         ·exact e.1 k
         ·exact e.2 k
        ·exact q0 (ek.1 e)
        ·exact e (htx.symm.trans ht)
        ·rw[←hqt]at e;cases e)
       rw[Hdi2.out]at HM;have HK:=EK.first (m:=m) HE.out;rw[←hkind,←htx,←hqt,hkv]at HK;have HK2:=hid HK;have hmm:= @run_makeMap Tryz.prog;have HI:=hid (fun a' (hf':EtK a' b o n cap g i w.heap.size (w.heap.size+1) b2 o2 q cap2 0 (i:Int)) w' (hk':EK w0 w' g n d w.heap.size (w.heap.size+1) m [])=>
        et_inner (Q:=Q) HN.out hb hat hn hf' hk' hdi (by omega) hi hq hl2 hcell hb2 (by rw[←hkind];exact k23) (fun a3 w3 d3 e3 f3 m3=>(Hok.out a3 w3 d3 (HM.trans e3) f3 m3).1) (fun e3=>Hbad.out (HM.trans e3)))
       clear HB hn hat hok hi hq hl2 hdi htx hqt ek g1 Hbad Hok HN HE hkv hno k1 Hsc HM HK hb hcell hb2 hks hkind ht;clear q0;dsimp only[etN0,etN1,etN2,etN3,etN4,etN5,etN6,ncs,ncl,ncr,ncb,nco,nct,nce,ncx,Tryz.f63];rcases k23 with k2|k2<;>subst k2
       ·clear hf2;go_wp2;exact HI.out _ ⟨rfl,rfl,rfl,rfl,rfl,rfl,rfl,rfl,rfl,rfl,rfl,rfl,rfl,rfl⟩ _ HK2.out
       ·clear hf2;go_wp2;exact HI.out _ ⟨rfl,rfl,rfl,rfl,rfl,rfl,rfl,rfl,rfl,rfl,rfl,rfl,rfl,rfl⟩ _ HK2.out
     ·obtain ⟨y4,y5,y6⟩:=str_full ht;have HB2:=hid (HB.out (.inr (.inr (.inl (by rw[←htx];exact ht)))));clear ht HB q0 hat hn hi hok hq hl2 hks hdi hkind htx hqt ek g1 Hbad Hok HN HE hkv hb hno k1 Hsc;dsimp only[etN0,etN1,etN2,etN3,ncs,ncl,ncr,ncb,nco,nct,nce,ncx,Tryz.f63];rcases k23 with k2|k2<;>subst k2
      ·clear hf2;go_wp2;exact HB2.out _ _ (Hbn.out _) rfl rfl
      ·clear hf2;go_wp2;exact HB2.out _ _ (Hbn.out _) rfl rfl
   ·have t4:(kind==2)=false:=by rw[beq_eq_false_iff_ne];exact fun e=>k23 (.inl e)
    have t5:(kind==3)=false:=by rw[beq_eq_false_iff_ne];exact fun e=>k23 (.inr e)
    have HB2:=hid (HB.out (.inl ⟨by rw[←hkind];exact fun e=>k23 (.inl e),by rw[←hkind];exact fun e=>k23 (.inr e)⟩));have p4:¬kind=2:=fun e=>k23 (.inl e);have p5:¬kind=3:=fun e=>k23 (.inr e);clear HB k23;clear hat hn hi hok hq hl2 hks hdi hkind htx hqt ek g1 Hbad Hok HN HE hkv hb hno k1 Hsc;dsimp only[etN0,etN1,etN2,etN3,ncs,ncl,ncr,ncb,nco,nct,nce,ncx,Tryz.f63];go_wp2;exact HB2.out _ _ (Hbn.out _) rfl rfl
end
section
variable {w0 w:World} {Q:Exit→Act→World→Prop} {a:Act} {ms:List NdM} {b o n cap g:Nat} {d:List Nat}
theorem et_loop (hN:Nds w0 (.slice (some ⟨b,o,none⟩) n cap) ms) (hb:b<w0.heap.size) (hat:∀i m,ms[i]? =some m→NdAt w0 b (o+i*6) m∧m.Ok w0) (hg:Glob w0) (hn:ms.length=n) (hn4:n≤4096) (hf:EtO a b o n cap g 0) (h:EM w0 w g n d)
 (ok:restP (nds ms) (nds ms) 0 d=true→∀a' w',EtO a' b o n cap g n→Below w0.heap.size w0 w'→Q (.exit 0) a' w')
 (bad:restP (nds ms) (nds ms) 0 d=false→∀a' w',Below w0.heap.size w0 w'→a'.defers=[]→a'.tmps[2]? =some (.bool false)→Q .ret a' w'):(ncb etLoop).wp Tryz.prog Q a w:=by
 show (Code.loop (Code.seq etO1 (Code.seq etO2 (Code.seq (Code.block 1 etNode) etO4)))).wp Tryz.prog Q a w
 have hnn:(nds ms).length=n:=by rw[nds_len,hn]
 refine wp_loop (fun a' w'=>∃(i:Nat) (d':List Nat),i≤n∧EtO a' b o n cap g i∧EM w0 w' g n d'∧restP (nds ms) (nds ms) 0 d=restP (nds ms) ((nds ms).drop i) i d') (fun a' _=>n-(intOf (a'.tmps.getD 32 undef)).toNat) ⟨0,d,Nat.zero_le _,hf,h,rfl⟩ ?_;clear hf h;rintro a1 w1 ⟨i,d1,hi,hf1,h1,hs⟩;by_cases hin:i<n
 ·have hs2:=hs.trans (restP_at (ns:=nds ms) (i:=i) (d:=d1) (by omega));have HK:=hid (fun (Q':Exit→Act→World→Prop) (a':Act) (hf':EtO a' b o n cap g i)=>et_node (Q:=Q') (w:=w1) hN hb hat hg hn hf' h1 hin);obtain ⟨Hms,Hgo⟩:=step_two (k:=i) (n:=n) hin (by omega);have Hok:=hid (fun (d2:List Nat) (e:nodeP (nds ms) i ((nds ms)[i]!) d1=some d2)=>show restP (nds ms) (nds ms) 0 d=restP (nds ms) ((nds ms).drop (i+1)) (i+1) d2 from hs2.trans (by rw[e]))
  have Hbad:=hid (fun (e:nodeP (nds ms) i ((nds ms)[i]!) d1=none)=>bad (hs2.trans (by rw[e])));have Hin:=hid hin;have ti:decide (i<n)=true:=dT hin;have wi:wrap64 ((i:Int)+1)=(i:Int)+1:=wrap_ok (by omega) (by omega);obtain ⟨v,rfl⟩:=hf1.shape;clear hf1 hs hs2 ok bad h1 hN hat hn hnn hi hin hg hb;dsimp only[etO1,etO2,ncs,ncl,ncr,ncb,nco,nct,nce,ncx,Tryz.f63];go_wp2
  rename_i Q1 K1 hK1
  have Hnext:∀(a2:Act) (w2:World) (d2:List Nat),nodeP (nds ms) i ((nds ms)[i]!) d1=some d2→EtO a2 b o n cap g i→EM w0 w2 g n d2→K1 a2 w2:=by
   intro a2 w2 d2 e2 f2 m2;refine hK1 _ _ ?_;have HE:=hid (show i+1≤n∧EM w0 w2 g n d2∧restP (nds ms) (nds ms) 0 d=restP (nds ms) ((nds ms).drop (i+1)) (i+1) d2 from ⟨Hin.out,m2,Hok.out d2 e2⟩);obtain ⟨v2,rfl⟩:=f2.shape;clear f2 m2 e2 HK Hok Hbad;dsimp only[etO4,ncs,ncl,ncr,ncb,nco,nct,nce,ncx,Tryz.f63];go_wp2;obtain ⟨z1,z2,z3⟩:=HE.out;exact ⟨⟨i+1,_,z1,⟨rfl,rfl,rfl,rfl,rfl,rfl,congrArg some Hgo.out⟩,z2,z3⟩,Hms.out⟩
  refine HK.out _ _ ⟨rfl,rfl,rfl,rfl,rfl,rfl,rfl⟩ (fun a2 w2 d2 e2 f2 m2=>⟨Hnext a2 w2 d2 e2 f2 m2,?_⟩) (fun e2=>Hbad.out e2);exact Hnext a2 w2 d2 e2 f2 m2
 ·have ei:i=n:=by omega
  subst ei;have hfin:restP (nds ms) (nds ms) 0 d=true:=hs.trans (restP_end (by omega));have HO:=hid (fun a' hf'=>ok hfin a' w1 hf' h1.below);have ti:decide (i<i)=false:=dF (Nat.lt_irrefl i);obtain ⟨v,rfl⟩:=hf1.shape;clear hf1 hs ok bad h1 hN hat hn hfin hnn hi hg hb;dsimp only[etO1,etO2,ncs,ncl,ncr,ncb,nco,nct,nce,ncx,Tryz.f63];go_wp2;exact HO.out _ ⟨rfl,rfl,rfl,rfl,rfl,rfl,rfl⟩
end
theorem treeP_no {ns:List Nd} (h:¬(ns≠[]∧ns.length≤4096∧(ns[0]!).key=⟨#[]⟩)):treeP ns=false:=by unfold treeP;rw[dF h];rfl
theorem treeP_yes {ns:List Nd} (h:ns≠[]∧ns.length≤4096∧(ns[0]!).key=⟨#[]⟩):treeP ns=restP ns ns 0 (1::List.replicate (ns.length-1) 0):=by unfold treeP;rw[dT h];rfl
theorem made_ints (n:Nat):(madeCells (Value.int .i64 0).cells (n*1)).toList=dInts (List.replicate n 0):=by
 unfold dInts;rw[List.map_replicate,Nat.mul_one];apply List.ext_getElem
 ·simp[size_madeCells]
 ·intro i h1 h2;simp only[List.getElem_replicate];unfold madeCells;simp[Value.cells];rw[Nat.mod_one];rfl
theorem EM.make {w w1:World} {n:Nat} (h0:0<n) (own:w1.ownsRow w.heap.size 3 1 (.slice (some ⟨w.heap.size,0,none⟩) n n) n (madeCells (Value.int .i64 0).cells (n*1)).toList) (gr:w.grownBy w1 none):
 EM w w1 w.heap.size n (List.replicate n 0):=
 ⟨((Mod.refl (fun _=>False) w).grown gr nofun).below (Nat.le_refl _) (fun _ f=>f.elim),by rw[←made_ints];exact ownsRow_base own 0 (Nat.zero_le _),Nat.le_refl _,by simp,fun x hx=>by
  rw[List.mem_replicate]at hx;omega⟩
theorem EM.store {w0 w:World} {g n:Nat} {d:List Nat} (h:EM w0 w g n d) (k x:Nat) (hx:x≤17):EM w0 (w.setCell ⟨g,k,none⟩ (.int .i64 (x:Int))) g n (d.set k x):=by
 obtain ⟨s1,s2⟩:=h.row.stored k (.int .i64 (x:Int));have hm:Mod (fun q=>q=g) w (w.setCell ⟨g,k,none⟩ (.int .i64 (x:Int))):=(Mod.refl _ w).setCell _ _ (fun _=>rfl);refine ⟨h.below.trans (hm.below h.below.size fun q hq=>by rw[hq];exact h.new),by rw[←dInts_set];exact s1,h.new,by rw[List.length_set];exact h.len,fun y hy=> ?_⟩;rcases List.mem_or_eq_of_mem_set hy with q|q
 ·exact h.low y q
 ·rw[q];exact hx
theorem first_depth {n:Nat} (h0:0<n):(List.replicate n 0).set 0 1=1::List.replicate (n-1) 0:=by
 obtain ⟨m,rfl⟩:∃m,n=m+1:=⟨n-1,by omega⟩;rfl
theorem etree_c (w:World) (V:Value) (ms:List NdM) (h:Nds w V ms) (hg:Glob w):
 Calls Tryz.prog 63 #[V] w fun r w'=>r= .returned (.bool (treeP (nds ms)))∧Below w.heap.size w w':=by
 obtain ⟨ao,cap,hv,hl,hat0⟩:=h.open;have hV:=h;obtain ⟨n,hn⟩:∃n,n=ms.length:=⟨_,rfl⟩;rw[←hn]at hv hl hat0;have hnn:(nds ms).length=n:=by rw[nds_len,hn]
 rw[hv]at hV;subst hv;by_cases h0:n=0
 ·have He:=hid (treeP_no (ns:=nds ms) (fun q=>q.1 (List.eq_nil_of_length_eq_zero (by omega))));have t0:((n:Int)==0)=true:=by rw[beq_iff_eq];omega
  clear hn hl hat0 h hnn hV hg;go_enter Tryz.func63,Tryz.ntmps63;go_wp2;go_ret;exact ⟨ret_b He.out.symm,Below.refl _ _⟩
 ·have t0:((n:Int)==0)=false:=bF (by omega);by_cases h1:4096<n
  ·have He:=hid (treeP_no (ns:=nds ms) (fun q=>by have:=q.2.1;omega));have t1:decide (4096<(n:Int))=true:=dT (by omega);clear hn hl hat0 h hnn hV hg h0;go_enter Tryz.func63,Tryz.ntmps63;go_wp2;go_ret;exact ⟨ret_b He.out.symm,Below.refl _ _⟩
  ·have t1:decide (4096<(n:Int))=false:=dF (by omega);obtain ⟨b,o,rfl,hlt,hat⟩:=hat0 (by omega);obtain ⟨m0,hm0⟩:∃m0,ms[0]? =some m0:=at_of_lt (by omega);have f1:=(hat 0 m0 hm0).1.c1;rw[Nat.zero_mul,Nat.add_zero]at f1;have hk0:((nds ms)[0]!)=m0.nd:=nds_at hm0;obtain ⟨key,hkey⟩:∃key,key=m0.nd.key:=⟨_,rfl⟩;rw[←hkey]at f1;have b0:(0:Int)<(n:Int):=by omega
   by_cases hky:key=⟨#[]⟩
   ·obtain ⟨k1,k2,k3⟩:=str_empty hky;have hok:=treeP_yes (ns:=nds ms) ⟨fun q=>by rw[q]at hnn;exact h0 hnn.symm,by omega,by rw[hk0,←hkey];exact hky⟩;rw[hnn]at hok;obtain ⟨i0,hi5,hz0,hz1,hz2⟩:=info_parts int_info;have Hby:=hid (show i0.bytes*n≤281474976710656 by rw[hz2];omega);have Hml:=hid (show n≤maxLen by unfold maxLen;omega);have Hi5:=hid hi5;have Hz0:=hid hz0;have Hz1:=hid hz1;have Hfirst:=hid (fun w1 own gr=>EM.make (w:=w) (w1:=w1) (n:=n) (by omega) own gr)
    have HR:=hid (show (List.replicate n 0)[0]? =some 0 by rw[List.getElem?_replicate,if_pos (by omega)]);have Hfd:=hid (first_depth (n:=n) (by omega));have HL:=hid (fun (Q':Exit→Act→World→Prop) (a':Act) w' (hf':EtO a' b o n cap w.heap.size 0) h'=>et_loop (Q:=Q') (w0:=w) (w:=w') (a:=a') (d:=1::List.replicate (n-1) 0) hV hlt hat hg hn.symm (by omega) hf' h');rw[←hok]at HL;generalize treeP (nds ms)=tp at*
    clear hn hl hat0 hat hlt hm0 hk0 hkey h hV hnn hg h0 h1 hky hok hi5 hz0 hz1 hz2;go_enter Tryz.func63,Tryz.ntmps63
    go_wp2_with (at_make;refine wpList_make_full _ rfl _ _ 53 rfl w.heap.size 3 i0 (.int .i64 0) 1 Tryz.underlying53 Hi5.out Hz0.out Hz1.out _ _ _ _ n rfl rfl rfl rfl Hby.out Hml.out (Nat.le_refl _) ?_;intro w1 own gr;have HF:=hid (Hfirst.out w1 own gr);have fz:=HF.out.frozen 0;have ce:=HF.out.at HR.out;clear own gr)
    have HE:=hid (show EM w (w1.setCell ⟨w.heap.size,0,none⟩ (.int .i64 1)) w.heap.size n (1::List.replicate (n-1) 0) from by
     have:=HF.out.store 0 1 (by omega);rw[Hfd.out]at this;exact this)
    rename_i Q1 K1 hK1
    refine HL.out _ _ _ ⟨rfl,rfl,rfl,rfl,rfl,rfl,rfl⟩ HE.out (fun e a2 w2 f2 b2=>out_block (hK1 _ _ ?_)) (fun e a2 w2 b2 d2 t2=> ?_)
    ·have Hb2:=hid b2;have He:=hid e;obtain ⟨v2,rfl⟩:=f2.shape;clear f2 b2 e HL HE HF ce fz Hfirst;go_wp2;go_ret;exact ⟨ret_b He.out.symm,Hb2.out⟩
    ·refine ⟨d2,.bool false,?_,ret_b e.symm,b2⟩;rw[←getD_of t2];exact results_tmp rfl _ _ _
   ·obtain ⟨k1,k2,k3⟩:=str_full hky;have He:=hid (treeP_no (ns:=nds ms) (fun q=>hky (by rw[hkey,←hk0];exact q.2.2)));clear hn hl hat0 hat hlt hm0 hk0 hkey h hV hnn hg h0 h1 hky;go_enter Tryz.func63,Tryz.ntmps63;go_wp2;go_ret;exact ⟨ret_b He.out.symm,Below.refl _ _⟩
def emitV (ns:List Nd):ByteArray×Int:=
 if treeP ns=false then (⟨#[]⟩,100) else if 65536<(emitL ns).length then (⟨#[]⟩,3) else (⟨(emitL ns).toArray⟩,0)
theorem ret_si {a b:ByteArray×Int} (h:a=b):Ending.returned (.tuple #[.string a.1,.int .i64 a.2])= .returned (.tuple #[.string b.1,.int .i64 b.2]):=by rw[h]
theorem emit_c (w:World) (V:Value) (ms:List NdM) (h:Nds w V ms) (hg:Glob w):
 Calls Tryz.prog 24 #[V] w fun r w'=>r= .returned (.tuple #[.string (emitV (nds ms)).1,.int .i64 (emitV (nds ms)).2])∧Below w.heap.size w w':=by
 have Ht:=hid (etree_c w V ms h hg);cases ht:treeP (nds ms) with
 |false=>
  have hv:(⟨#[]⟩,100)=emitV (nds ms):=by unfold emitV;rw[if_pos ht]
  rw[ht]at Ht;have Hv:=hid hv;clear h hg ht hv;go_enter Tryz.func24,Tryz.ntmps24
  go_wp2_with fail
  refine Ht.out.mono ?_;rintro r w1 ⟨rfl,hb⟩;have Hb:=hid hb;clear hb Ht;go_wp2;refine bodyPost_ret (results_tmp2 rfl _ _ _) rfl ?_;exact ⟨ret_si Hv.out,Hb.out⟩
 |true=>
  have hlen:0<ms.length:=by
   have:=((treeP_iff _).1 ht).1.1;rw[←nds_len];exact List.length_pos_iff.2 this
  have hnn:(nds ms).length=ms.length:=nds_len ms;have HL:=hid (fun w1 (hb1:Below w.heap.size w w1)=>lay_c h ht ms.length 0 0 false (w1.alloc (.cells #[.slice none 0 0] 114)) w1.heap.size (.slice none 0 0) []
   ⟨hb1.alloc hb1.size _,hb1.size,(fun g hg=>by cases hg)⟩ ⟨alloc_new _,World.ownsRow_nil _ _ _ _,(fun g hg=>by cases hg),by decide⟩ hlen (by omega) (Nat.le_refl _))
  have hE:layP (nds ms) ms.length 0 0 false []=emitL (nds ms):=by unfold emitL;rw[hnn]
  rw[hE]at HL;have hv:emitV (nds ms)=if 65536<(emitL (nds ms)).length then (⟨#[]⟩,3) else (⟨(emitL (nds ms)).toArray⟩,0):=by unfold emitV;rw[if_neg (by rw[ht];decide)]
  rw[hv];rw[ht]at Ht;have HV:=hid h;obtain ⟨e,he⟩:∃e,e=emitL (nds ms):=⟨_,rfl⟩;rw[←he]at HL ⊢;obtain ⟨rv,hrv⟩:∃rv:ByteArray×Int,rv=if 65536<e.length then (⟨#[]⟩,3) else (⟨e.toArray⟩,0):=⟨_,rfl⟩
  rw[←hrv];have Hrv:=hid hrv;clear h hg ht hlen hnn hE hv he hrv;go_enter Tryz.func24,Tryz.ntmps24
  go_wp2_with fail
  refine Ht.out.mono ?_;rintro r w1 ⟨rfl,hb⟩;have Hb:=hid hb;have Hl:=hid (HL.out w1 hb);have hs1:=hb.size;clear hb Ht HL
  go_wp2_with fail
  refine Hl.out.mono ?_;rintro r w2 ⟨rfl,v2,hp⟩;have hbn:=Hb.out;have HB:=hid (show Below w.heap.size w w2 from (hbn.alloc hbn.size (.cells #[.slice none 0 0] 114)).trans (hp.mod.below (hbn.alloc hbn.size _).size (fun k hk=>by
   rcases hk with e|e
   ·rw[e];exact hs1
   ·cases e)))
  have p0:=cell_blk hp.pg.blk 0;simp at p0;obtain ⟨ao1,c1v,hv1⟩:∃ao c,v2= .slice ao e.length c:=by
   rcases hp.pg.row.2 with ⟨hv,hn⟩|⟨g,cap,cur,hv,_⟩
   ·exact ⟨none,0,by rw[hv,hn]⟩
   ·exact ⟨_,_,hv⟩
  have hc:=conv_row hp.pg.row;rw[hv1]at p0 hc;clear hp Hl hbn hs1 hv1 Hb;by_cases h65:65536<e.length
  ·have t1:decide (65536<(e.length:Int))=true:=dT (by omega);have He:=hid (show (⟨#[]⟩,3)=rv by rw[Hrv.out,if_pos h65]);clear h65;go_wp2;refine bodyPost_ret (results_tmp2 rfl _ _ _) rfl ?_;exact ⟨ret_si He.out,HB.out⟩
  ·have t1:decide (65536<(e.length:Int))=false:=dF (by omega);have He:=hid (show (⟨e.toArray⟩,0)=rv by rw[Hrv.out,if_neg h65]);clear h65;go_wp2;refine bodyPost_ret (results_tmp2 rfl _ _ _) rfl ?_;exact ⟨ret_si He.out,HB.out⟩
theorem emay_c (w:World) (V:Value) (ms:List NdM) (h:Nds w V ms) (hg:Glob w):
 Calls Tryz.prog 34 #[V] w fun r w'=>r= .returned (.int .i64 (emitV (nds ms)).2)∧Below w.heap.size w w':=by
 have He:=hid (emit_c w V ms h hg);generalize emitV (nds ms)=e at*;obtain ⟨e1,e2⟩:=e;clear h hg;go_enter Tryz.func34,Tryz.ntmps34
 go_wp2_with fail
 refine He.out.mono ?_;rintro r w1 ⟨rfl,hb⟩;have Hb:=hid hb;clear hb He;go_wp2;go_ret;exact ⟨rfl,Hb.out⟩
end Go.Proofs.YtfenoaeoedobmaaGreatDoor
