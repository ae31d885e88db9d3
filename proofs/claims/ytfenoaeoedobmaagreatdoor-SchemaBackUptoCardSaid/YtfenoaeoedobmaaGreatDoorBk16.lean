/-
Parts of a proof.
-/
import Derived.Test.YtfenoaeoedobmaaGreatDoorBk15
set_option linter.unusedVariables false
set_option linter.unusedSimpArgs false
set_option maxHeartbeats 4000000
set_option maxRecDepth 20000
namespace Go.Proofs.YtfenoaeoedobmaaGreatDoor
open Go Go.RowKit
noncomputable def etLoop:Code:=(ncr (ncl (ncr (ncr (ncr (ncr (ncx Tryz.f63.body)))))))
noncomputable def etO1:Code:=(ncl (nco (ncb (ncr (ncl (ncr (ncr (ncr (ncr (ncx Tryz.f63.body))))))))))
noncomputable def etO2:Code:=(ncl (ncr (nco (ncb (ncr (ncl (ncr (ncr (ncr (ncr (ncx Tryz.f63.body)))))))))))
noncomputable def etO4:Code:=(ncr (ncr (ncr (nco (ncb (ncr (ncl (ncr (ncr (ncr (ncr (ncx Tryz.f63.body))))))))))))
noncomputable def etN0:Code:=(ncl (ncb (ncl (ncr (ncr (nco (ncb (ncr (ncl (ncr (ncr (ncr (ncr (ncx Tryz.f63.body))))))))))))))
noncomputable def etN1:Code:=(ncl (ncr (ncb (ncl (ncr (ncr (nco (ncb (ncr (ncl (ncr (ncr (ncr (ncr (ncx Tryz.f63.body)))))))))))))))
noncomputable def etN2:Code:=(ncl (ncr (ncr (ncb (ncl (ncr (ncr (nco (ncb (ncr (ncl (ncr (ncr (ncr (ncr (ncx Tryz.f63.body))))))))))))))))
noncomputable def etN3:Code:=(ncl (ncr (ncr (ncr (ncb (ncl (ncr (ncr (nco (ncb (ncr (ncl (ncr (ncr (ncr (ncr (ncx Tryz.f63.body)))))))))))))))))
noncomputable def etN4:Code:=(ncl (ncr (ncr (ncr (ncr (ncb (ncl (ncr (ncr (nco (ncb (ncr (ncl (ncr (ncr (ncr (ncr (ncx Tryz.f63.body))))))))))))))))))
noncomputable def etN5:Code:=(ncl (ncr (ncr (ncr (ncr (ncr (ncb (ncl (ncr (ncr (nco (ncb (ncr (ncl (ncr (ncr (ncr (ncr (ncx Tryz.f63.body)))))))))))))))))))
noncomputable def etN6:Code:=(ncl (ncr (ncr (ncr (ncr (ncr (ncr (ncb (ncl (ncr (ncr (nco (ncb (ncr (ncl (ncr (ncr (ncr (ncr (ncx Tryz.f63.body))))))))))))))))))))
noncomputable def etIn:Code:=(ncr (ncr (ncr (ncr (ncr (ncr (ncr (ncb (ncl (ncr (ncr (nco (ncb (ncr (ncl (ncr (ncr (ncr (ncr (ncx Tryz.f63.body))))))))))))))))))))
noncomputable def etK1:Code:=(ncl (nco (ncb (ncr (ncr (ncr (ncr (ncr (ncr (ncr (ncb (ncl (ncr (ncr (nco (ncb (ncr (ncl (ncr (ncr (ncr (ncr (ncx Tryz.f63.body)))))))))))))))))))))))
noncomputable def etK2:Code:=(ncl (ncr (nco (ncb (ncr (ncr (ncr (ncr (ncr (ncr (ncr (ncb (ncl (ncr (ncr (nco (ncb (ncr (ncl (ncr (ncr (ncr (ncr (ncx Tryz.f63.body))))))))))))))))))))))))
noncomputable def etKid:Code:=(ncb (ncl (ncr (ncr (nco (ncb (ncr (ncr (ncr (ncr (ncr (ncr (ncr (ncb (ncl (ncr (ncr (nco (ncb (ncr (ncl (ncr (ncr (ncr (ncr (ncx Tryz.f63.body))))))))))))))))))))))))))
noncomputable def etK4:Code:=(ncr (ncr (ncr (nco (ncb (ncr (ncr (ncr (ncr (ncr (ncr (ncr (ncb (ncl (ncr (ncr (nco (ncb (ncr (ncl (ncr (ncr (ncr (ncr (ncx Tryz.f63.body)))))))))))))))))))))))))
noncomputable def a3l:Code:=(ncb (ncl (ncr (ncr (nco (ncb (ncr (ncl (ncr (ncr (ncr (ncr (ncx Tryz.f63.body)))))))))))))
def et_L (v:Nat->Value):Act:=⟨#[v 0,v 1,v 2,v 3,v 4,v 5,v 6,v 7,v 8,v 9,v 10,v 11,v 12,v 13,v 14,v 15,v 16,v 17,v 18,v 19,v 20,v 21,v 22,v 23,v 24,v 25,v 26,v 27,v 28,v 29,v 30,v 31,v 32,v 33,v 34,v 35,v 36,v 37,v 38,v 39,v 40,v 41,v 42,v 43,v 44,v 45,v 46,v 47,v 48,v 49,v 50,v 51,v 52,v 53,v 54,v 55,v 56,v 57,v 58,v 59,v 60,v 61,v 62,v 63,v 64,v 65,v 66,v 67,v 68,v 69,v 70,v 71,v 72,v 73,v 74,v 75,v 76,v 77,v 78,v 79,v 80,v 81,v 82,v 83,v 84,v 85,v 86,v 87,v 88,v 89,v 90,v 91,v 92,v 93,v 94,v 95,v 96,v 97,v 98,v 99,v 100,v 101,v 102,v 103,v 104,v 105,v 106,v 107,v 108,v 109,v 110,v 111,v 112,v 113,v 114,v 115,v 116,v 117,v 118,v 119,v 120,v 121,v 122,v 123,v 124,v 125,v 126,v 127,v 128,v 129,v 130,v 131,v 132,v 133,v 134,v 135,v 136,v 137,v 138,v 139,v 140,v 141,v 142,v 143,v 144],[]⟩
theorem a3m (a:Act) (hs:a.tmps.size=145) (hd:a.defers=[]):∃v:Nat->Value,(∀(i:Nat) (x:Value),a.tmps[i]? =some x->v i=x)/\a=et_L v:=by
 obtain ⟨t,d⟩:=a;obtain ⟨l⟩:=t;obtain rfl:d=[]:=hd;have hl:l.length=145:=hs;refine ⟨fun i=>l.getD i undef,fun i x hx=> ?_,?_⟩
 ·have hx':l[i]? =some x:=by simpa using hx
  simp[List.getD,hx']
 ·have e:l=(List.range 145).map (fun i=>l.getD i undef):=by
   apply List.ext_getElem
   ·simp[hl]
   ·intro i h1 h2;simp[List.getD,h1]
  generalize (fun i=>l.getD i undef)=v at e |-;subst e;rfl
structure EtO (a:Act) (b:Nat) (o:Nat) (n:Nat) (cap:Nat) (g:Nat) (i:Nat):Prop where
 size:a.tmps.size=145
 dfr:a.defers=[]
 s0:a.tmps[0]? =some (.slice (some ⟨b,o,none⟩) n cap)
 s3:a.tmps[3]? =some (.slice (some ⟨g,0,none⟩) n n)
 s30:a.tmps[30]? =some (.slice (some ⟨b,o,none⟩) n cap)
 s31:a.tmps[31]? =some (.int .i64 (n:Int))
 s32:a.tmps[32]? =some (.int .i64 (i:Int))
theorem EtO.shape {a:Act} {b:Nat} {o:Nat} {n:Nat} {cap:Nat} {g:Nat} {i:Nat} (h:EtO a b o n cap g i):∃v:Nat->Value,a=et_L v/\v 0= .slice (some ⟨b,o,none⟩) n cap/\v 3= .slice (some ⟨g,0,none⟩) n n/\v 30= .slice (some ⟨b,o,none⟩) n cap/\v 31= .int .i64 (n:Int)/\v 32= .int .i64 (i:Int):=by
 obtain ⟨v,hv,hd⟩:=a3m a h.size h.dfr;exact ⟨v,hd,hv 0 _ h.s0,hv 3 _ h.s3,hv 30 _ h.s30,hv 31 _ h.s31,hv 32 _ h.s32⟩
structure EtK (a:Act) (b:Nat) (o:Nat) (n:Nat) (cap:Nat) (g:Nat) (i:Nat) (nb:Nat) (mb:Nat) (b2:Nat) (o2:Nat) (q:Nat) (cap2:Nat) (j:Nat) (last:Int):Prop where
 size:a.tmps.size=145
 dfr:a.defers=[]
 s0:a.tmps[0]? =some (.slice (some ⟨b,o,none⟩) n cap)
 s3:a.tmps[3]? =some (.slice (some ⟨g,0,none⟩) n n)
 s4:a.tmps[4]? =some (.int .i64 (i:Int))
 s5:a.tmps[5]? =some (.pointer (some ⟨nb,0,none⟩))
 s6:a.tmps[6]? =some (.map (some mb))
 s7:a.tmps[7]? =some (.int .i64 last)
 s30:a.tmps[30]? =some (.slice (some ⟨b,o,none⟩) n cap)
 s31:a.tmps[31]? =some (.int .i64 (n:Int))
 s32:a.tmps[32]? =some (.int .i64 (i:Int))
 s81:a.tmps[81]? =some (.slice (some ⟨b2,o2,none⟩) q cap2)
 s82:a.tmps[82]? =some (.int .i64 (q:Int))
 s83:a.tmps[83]? =some (.int .i64 (j:Int))
theorem EtK.shape {a:Act} {b:Nat} {o:Nat} {n:Nat} {cap:Nat} {g:Nat} {i:Nat} {nb:Nat} {mb:Nat} {b2:Nat} {o2:Nat} {q:Nat} {cap2:Nat} {j:Nat} {last:Int} (h:EtK a b o n cap g i nb mb b2 o2 q cap2 j last):∃v:Nat->Value,a=et_L v/\v 0= .slice (some ⟨b,o,none⟩) n cap/\v 3= .slice (some ⟨g,0,none⟩) n n/\v 4= .int .i64 (i:Int)/\v 5= .pointer (some ⟨nb,0,none⟩)/\v 6= .map (some mb)/\v 7= .int .i64 last/\v 30= .slice (some ⟨b,o,none⟩) n cap/\v 31= .int .i64 (n:Int)/\v 32= .int .i64 (i:Int)/\v 81= .slice (some ⟨b2,o2,none⟩) q cap2/\v 82= .int .i64 (q:Int)/\v 83= .int .i64 (j:Int):=by
 obtain ⟨v,hv,hd⟩:=a3m a h.size h.dfr;exact ⟨v,hd,hv 0 _ h.s0,hv 3 _ h.s3,hv 4 _ h.s4,hv 5 _ h.s5,hv 6 _ h.s6,hv 7 _ h.s7,hv 30 _ h.s30,hv 31 _ h.s31,hv 32 _ h.s32,hv 81 _ h.s81,hv 82 _ h.s82,hv 83 _ h.s83⟩
theorem EtK.toO {a:Act} {b o n cap g i nb mb b2 o2 q cap2 j:Nat} {last:Int} (h:EtK a b o n cap g i nb mb b2 o2 q cap2 j last):EtO a b o n cap g i:=⟨h.size,h.dfr,h.s0,h.s3,h.s30,h.s31,h.s32⟩
theorem aZ1 {ns:List Nd} {i:Nat} {d:List Nat} (hi:i<ns.length):restP ns (ns.drop i) i d=(match nodeP ns i (ns[i]!) d with|none=>false|some d'=>restP ns (ns.drop (i+1)) (i+1) d'):=by
 have e:ns.drop i=ns[i]! ::ns.drop (i+1):=by
  rw[List.drop_eq_getElem_cons hi];congr 1;rw[List.getElem!_eq_getElem?_getD,a7i hi];rfl
 rw[e];rfl
theorem aVo {ns:List Nd} {i:Nat} {d:List Nat} (hi:ns.length<=i):restP ns (ns.drop i) i d=true:=by
 rw[List.drop_eq_nil_of_le hi];rfl
theorem aVp {d:List Nat} {k x:Nat} (h:d[k]? =some x):(dInts d)[k]? =some (.int .i64 (x:Int)):=by
 unfold dInts;rw[List.getElem?_map,h];rfl
theorem aN0 (d:List Nat) (k x:Nat):(dInts d).set k (.int .i64 (x:Int))=dInts (d.set k x):=by
 unfold dInts;rw[List.map_set]
structure EM (w0 w:World) (g n:Nat) (d:List Nat):Prop where
 below:Below w0.heap.size w0 w
 row:w.ownsRow 0 3 1 (.slice (some ⟨g,0,none⟩) n n) n (dInts d)
 new:w0.heap.size<=g
 len:d.length=n
 low:∀x∈d,x<=17
theorem EM.at {w0 w:World} {g n:Nat} {d:List Nat} (h:EM w0 w g n d) {k x:Nat} (hx:d[k]? =some x):w.cell? ⟨g,k,none⟩=some (.int .i64 (x:Int)):=by
 have hk:=(a7j hx).1;exact (h.row.cellAt k (by have:=h.len;omega)).trans (aVp hx)
theorem EM.later {w0 w w2:World} {g n:Nat} {d:List Nat} (h:EM w0 w g n d) (hb:Below w.heap.size w w2):EM w0 w2 g n d:=
 ⟨h.below.trans (hb.mono h.below.size),aGs h.row hb,h.new,h.len,h.low⟩
theorem EM.frozen {w0 w:World} {g n:Nat} {d:List Nat} (h:EM w0 w g n d) (k:Nat):w.frozen? ⟨g,k,none⟩=false:=by
 rcases h.row.2 with ⟨hv,_⟩|⟨g',cap,cur,hv,_,hc,_⟩
 ·cases hv
 ·simp only[Value.slice.injEq,Option.some.injEq,Addr.mk.injEq,and_true]at hv;obtain ⟨rfl,_⟩:=hv;exact aAd hc k
structure EK (w0 w:World) (g n:Nat) (d:List Nat) (nb mb:Nat) (m:NdM) (had:List ByteArray):Prop where
 em:EM w0 w g n d
 nd:w.heap[nb]? =some (.cells #[.int .i64 m.nd.kind,.string m.nd.key,.string m.nd.text,.bool m.nd.quoted,.int .i64 m.nd.line,m.kv] 55 (0,0))
 nb0:w0.heap.size<=nb
 nbg:nb≠g
 map:Had w mb had
 mb0:w0.heap.size<=mb
 mbg:mb≠g
 mbn:mb≠nb
theorem EK.stored {w0 w:World} {g n:Nat} {d:List Nat} {nb mb:Nat} {m:NdM} {had:List ByteArray} (h:EK w0 w g n d nb mb m had) (k x:Nat) (hx:x<=17):
 EK w0 (w.setCell ⟨g,k,none⟩ (.int .i64 (x:Int))) g n (d.set k x) nb mb m had:=by
 obtain ⟨s1,s2⟩:=h.em.row.stored k (.int .i64 (x:Int));have hm:Mod (fun q=>q=g) w (w.setCell ⟨g,k,none⟩ (.int .i64 (x:Int))):=(Mod.refl _ w).setCell _ _ (fun _=>rfl);refine ⟨⟨h.em.below.trans (hm.below h.em.below.size fun q hq=>by rw[hq];exact h.em.new),by rw[<-aN0];exact s1,h.em.new,by rw[List.length_set];exact h.em.len,fun y hy=> ?_⟩,hm.heap h.nd h.nbg,h.nb0,h.nbg,h.map.kept s2 (fun e=>h.mbg (a7h e)),h.mb0,h.mbg,h.mbn⟩
 rcases List.mem_or_eq_of_mem_set hy with q|q
 ·exact h.em.low y q
 ·rw[q];exact hx
theorem EK.put {w0 w w2:World} {g n:Nat} {d:List Nat} {nb mb:Nat} {m:NdM} {had had2:List ByteArray} (h:EK w0 w g n d nb mb m had) (hh:Had w2 mb had2) (hg:w.grownBy w2 (some mb)):EK w0 w2 g n d nb mb m had2:=by
 have hm:Mod (fun q=>q=mb) w w2:=(Mod.refl _ w).grown hg (fun k e _=>(a7h e).symm);exact ⟨⟨h.em.below.trans (hm.below h.em.below.size fun q hq=>by rw[hq];exact h.mb0),aBq h.em.row fun g' hg'=>hm.block g' (h.em.row.lt g' hg').2 (by
  simp only[Value.ownBlock,Option.some.injEq]at hg';rw[<-hg'];exact fun e=>h.mbg e.symm),h.em.new,h.em.len,h.em.low⟩,hm.heap h.nd (fun e=>h.mbn e.symm),h.nb0,h.nbg,hh,h.mb0,h.mbg,h.mbn⟩
section
variable {w0 w:World} {Q:Exit->Act->World->Prop} {a:Act} {ms:List NdM} {b o n cap g i nb mb b2 o2 q cap2 j:Nat} {last:Int} {d:List Nat} {m:NdM} {had:List ByteArray} {deep:Nat} {x:Int}
theorem aHu {ns:List Nd} {kind:Int} {deep:Nat} {k:Int} {r:List Int} {last:Int} {had:List ByteArray} {d:List Nat} (h:k<=last\/(ns.length:Int)<=k\/d[k.toNat]! ≠0):kidsP ns kind deep (k::r) last had d=none:=by
 rw[kidsP,if_pos h]
theorem aTk {ns:List Nd} {kind:Int} {deep:Nat} {k:Int} {r:List Int} {last:Int} {had:List ByteArray} {d:List Nat} (h:keyOk kind (ns[k.toNat]!).key had=false):kidsP ns kind deep (k::r) last had d=none:=by
 rw[kidsP]
 split
 ·rfl
 ·rfl
theorem aZ2 {ns:List Nd} {kind:Int} {deep:Nat} {k:Int} {r:List Int} {last:Int} {had:List ByteArray} {d:List Nat} (h1:¬(k<=last\/(ns.length:Int)<=k\/d[k.toNat]! ≠0)) (h2:keyOk kind (ns[k.toNat]!).key had=true):kidsP ns kind deep (k::r) last had d=kidsP ns kind deep r k ((ns[k.toNat]!).key::had) (d.set k.toNat (deep+1)):=by
 rw[kidsP,if_neg h1,if_neg (by rw[h2];decide)]
theorem et_kid (hN:Nds w0 (.slice (some ⟨b,o,none⟩) n cap) ms) (hb:b<w0.heap.size) (hat:∀i m,ms[i]? =some m->NdAt w0 b (o+i*6) m/\m.Ok w0) (hn:ms.length=n)
 (hf:EtK a b o n cap g i nb mb b2 o2 q cap2 j last) (h:EK w0 w g n d nb mb m had) (hd:d[i]? =some deep) (hdeep:deep<=16) (hi:i<n)
 (hx:w0.cell? ⟨b2,o2+j,none⟩=some (.int .i64 x)) (hb2:b2<w0.heap.size) (hj:j<q) (hlast:(i:Int)<=last) (hhad:had.length<=1048576) (hkind:m.nd.kind=2\/m.nd.kind=3) (r:List Int)
 (ok:∀a' w' (k:Nat),x=(k:Int)->i<k->k<n->kidsP (nds ms) m.nd.kind deep (x::r) last had d=kidsP (nds ms) m.nd.kind deep r x (((nds ms)[k]!).key::had) (d.set k (deep+1))->
  EtK a' b o n cap g i nb mb b2 o2 q cap2 j x->EK w0 w' g n (d.set k (deep+1)) nb mb m (((nds ms)[k]!).key::had)->Q .normal a' w')
 (bad:kidsP (nds ms) m.nd.kind deep (x::r) last had d=none->∀a' w',Below w0.heap.size w0 w'->a'.defers=[]->a'.tmps[2]? =some (.bool false)->Q .ret a' w'):etKid.wp Tryz.prog Q a w:=by
 have hbl:=h.em.below;have Hb:=hid hbl;have c1:=(hbl.cell hb2).trans hx;have hnn:(nds ms).length=n:=by rw[aBa,hn]
 have bj:(j:Int)<(q:Int):=by omega
 obtain ⟨v,rfl,eE⟩:=hf.shape;simp only[et_L,eE];clear eE;clear hf;have Hok:=hid ok;have Hbad:=hid bad;clear ok bad;dsimp only[etKid,ncs,ncl,ncr,ncb,nco,nct,nce,ncx,Tryz.f63];by_cases g1:x<=last
 ·have t1:decide (x<=last)=true:=dT g1;have HB:=hid (Hbad.out (aHu (.inl g1)));clear hx hbl h hN hat hd hdeep hi hj hlast hhad hkind g1 Hok Hbad hnn hn;go_wp2;exact HB.out _ _ Hb.out rfl rfl
 ·have t1:decide (x<=last)=false:=dF g1;by_cases g2:(n:Int)<=x
  ·have t2:decide ((n:Int)<=x)=true:=dT g2;have HB:=hid (Hbad.out (aHu (.inr (.inl (by rw[hnn];exact g2)))));clear hx hbl h hN hat hd hdeep hi hj hlast hhad hkind g1 g2 Hok Hbad hnn hn;go_wp2;exact HB.out _ _ Hb.out rfl rfl
  ·obtain ⟨k,rfl⟩:∃k:Nat,x=(k:Int):=⟨x.toNat,by omega⟩;have t2:decide (n<=k)=false:=dF (by omega);have bk:(k:Int)<(n:Int):=by omega
   obtain ⟨dk,hdk⟩:∃dk,d[k]? =some dk:=aAh (by rw[h.em.len];omega);have hdk2:d[((k:Int)).toNat]! =dk:=by rw[Int.toNat_natCast,List.getElem!_eq_getElem?_getD,hdk];rfl
   have e1:=h.em.at hdk;by_cases g3:dk=0
   ·subst g3;obtain ⟨mk,hmk⟩:∃mk,ms[k]? =some mk:=aAh (by omega);have hkey:=aDv hmk;obtain ⟨c,hokk⟩:=hat k mk hmk;obtain ⟨key,ekey⟩:∃key,key=mk.nd.key:=⟨_,rfl⟩;have hks:key.size<=maxLen:=by rw[ekey];have:=hokk.key;unfold maxLen;omega
    have k1:=c.c1;rw[<-ekey]at k1;have e2:=h.em.at hd;have HS:=hid (h.stored k (deep+1) (by omega));have hno:¬((k:Int)<=last\/((nds ms).length:Int)<=(k:Int)\/d[((k:Int)).toNat]! ≠0):=by rw[hnn,hdk2];omega
    have wd:=aA1 (z:=(deep:Int)+1) (by omega) (by omega);have fz:=h.em.frozen k;have bi:(i:Int)<(n:Int):=by omega
    have ecast:((deep+1:Nat):Int)=(deep:Int)+1:=by omega
    have n0:=aAa HS.out.nd 0;have n1:=(HS.out.em.below.cell (p:=⟨b,o+k*6+1,none⟩) hb).trans k1;rw[ecast]at n0 n1 HS;simp only[List.getElem?_toArray,List.getElem?_cons_zero]at n0;have ekn:((nds ms)[((k:Int)).toNat]!).key=key:=by rw[Int.toNat_natCast,hkey,ekey]
    have ekn2:((nds ms)[k]!).key=key:=by rw[hkey,ekey]
    have Hbad2:=hid (fun (hq:keyOk m.nd.kind key had=false)=>Hbad.out (aTk (by rw[ekn];exact hq)));have Hok2:=hid (fun (hq:keyOk m.nd.kind key had=true) a' w' (p1:EtK a' b o n cap g i nb mb b2 o2 q cap2 j (k:Int)) (p2:EK w0 w' g n (d.set k (deep+1)) nb mb m (key::had))=>Hok.out a' w' k rfl (by omega) (by omega) (by rw[aZ2 hno (by rw[ekn];exact hq),ekn,ekn2,Int.toNat_natCast]) p1 (by rw[ekn2];exact p2))
    have HL:=hid (HS.out.map.look key hks);have Hhad:=hid hhad;have Hks:=hid hks;clear hx hbl h hN hat hd hdeep hi hj hlast hhad g1 g2 Hok Hbad hnn hn hdk hdk2 hmk hkey c hokk ekey hks k1 hno ekn ekn2;rcases hkind with hk2|hk3
    ·rw[hk2]at n0;by_cases hm:key∈had
     ·have HB:=hid (Hbad2.out (by unfold keyOk;rw[hk2,dT (show (2:Int)=2/\key∈had from ⟨rfl,hm⟩)];simp));rw[dT hm]at HL;have hL:=HL.out;clear Hok2 Hbad2 hm hk2 HL;go_wp2;exact HB.out _ _ HS.out.em.below rfl rfl
     ·have HO:=hid (Hok2.out (by unfold keyOk;rw[hk2,dF (fun q:(2:Int)=2/\key∈had=>hm q.2),dF (fun q:(2:Int)=3/\key≠⟨#[]⟩=>by omega)];rfl));rw[dF hm]at HL;have hL:=HL.out;clear Hok2 Hbad2 hm hk2 HL
      go_wp2_with (at_mapUpdate;refine aVd rfl _ _ _ rfl mb had rfl HS.out.map Hhad.out key Hks.out rfl rfl ?_;intro w2 hh hg;have HE:=hid (HS.out.put hh hg);clear hh hg)
      exact HO.out _ _ ⟨rfl,rfl,rfl,rfl,rfl,rfl,rfl,rfl,rfl,rfl,rfl,rfl,rfl,rfl⟩ HE.out
    ·rw[hk3]at n0;by_cases hm:key=⟨#[]⟩
     ·obtain ⟨k4,k5,k6⟩:=aEf hm;have HO:=hid (Hok2.out (by unfold keyOk;rw[hk3,dF (fun q:(3:Int)=2/\key∈had=>by omega),dF (fun q:(3:Int)=3/\key≠⟨#[]⟩=>q.2 hm)];rfl));clear Hok2 Hbad2 hm hk3 HL
      go_wp2_with (at_mapUpdate;refine aVd rfl _ _ _ rfl mb had rfl HS.out.map Hhad.out key Hks.out rfl rfl ?_;intro w2 hh hg;have HE:=hid (HS.out.put hh hg);clear hh hg)
      exact HO.out _ _ ⟨rfl,rfl,rfl,rfl,rfl,rfl,rfl,rfl,rfl,rfl,rfl,rfl,rfl,rfl⟩ HE.out
     ·obtain ⟨k4,k5,k6⟩:=aE2 hm;have HB:=hid (Hbad2.out (by unfold keyOk;rw[hk3,dT (show (3:Int)=3/\key≠⟨#[]⟩ from ⟨rfl,hm⟩)];rfl));clear Hok2 Hbad2 hm hk3 HL;go_wp2;exact HB.out _ _ HS.out.em.below rfl rfl
   ·have t3:((dk:Int)==0)=false:=bF (by omega);have HB:=hid (Hbad.out (aHu (.inr (.inr (by rw[hdk2];exact g3)))));clear hx hbl h hN hat hd hdeep hi hj hlast hhad hkind g1 g2 g3 Hok Hbad hnn hn hdk hdk2;go_wp2;exact HB.out _ _ Hb.out rfl rfl
theorem aZ3 (hN:Nds w0 (.slice (some ⟨b,o,none⟩) n cap) ms) (hb:b<w0.heap.size) (hat:∀i m,ms[i]? =some m->NdAt w0 b (o+i*6) m/\m.Ok w0) (hn:ms.length=n)
 (hf:EtK a b o n cap g i nb mb b2 o2 q cap2 0 (i:Int)) (h:EK w0 w g n d nb mb m []) (hd:d[i]? =some deep) (hdeep:deep<=16) (hi:i<n) (hq:q=m.nd.kids.length) (hq2:q<=1048576)
 (hx:∀j x,m.nd.kids[j]? =some x->w0.cell? ⟨b2,o2+j,none⟩=some (.int .i64 x)) (hb2:b2<w0.heap.size) (hkind:m.nd.kind=2\/m.nd.kind=3)
 (ok:∀a' w' d',kidsP (nds ms) m.nd.kind deep m.nd.kids (i:Int) [] d=some d'->EtO a' b o n cap g i->EM w0 w' g n d'->Q .normal a' w')
 (bad:kidsP (nds ms) m.nd.kind deep m.nd.kids (i:Int) [] d=none->∀a' w',Below w0.heap.size w0 w'->a'.defers=[]->a'.tmps[2]? =some (.bool false)->Q .ret a' w'):etIn.wp Tryz.prog Q a w:=by
 show (Code.block 2 (Code.loop (Code.seq etK1 (Code.seq etK2 (Code.seq (Code.block 3 etKid) etK4))))).wp Tryz.prog Q a w
 refine wp_block (wp_loop (fun a' w'=>∃(j:Nat) (last:Int) (d':List Nat) (had:List ByteArray),j<=q/\EtK a' b o n cap g i nb mb b2 o2 q cap2 j last/\EK w0 w' g n d' nb mb m had/\
  kidsP (nds ms) m.nd.kind deep m.nd.kids (i:Int) [] d=kidsP (nds ms) m.nd.kind deep (m.nd.kids.drop j) last had d'/\(i:Int)<=last/\had.length=j/\d'[i]? =some deep) (fun a' _=>q-(intOf (a'.tmps.getD 83 undef)).toNat) ⟨0,_,d,[],Nat.zero_le _,hf,h,rfl,Int.le_refl _,rfl,hd⟩ ?_)
 clear hf h hd;rintro a1 w1 ⟨j,last,d1,had,hj,hf1,h1,hs,hil,hhl,hd1⟩;by_cases hjq:j<q
 ·obtain ⟨x,hxj⟩:∃x,m.nd.kids[j]? =some x:=aAh (by omega);have hdr:m.nd.kids.drop j=x::m.nd.kids.drop (j+1):=by
   obtain ⟨hlt,he⟩:=a7j hxj;rw[List.drop_eq_getElem_cons hlt,he]
  rw[hdr]at hs;have HK:=hid (fun (Q':Exit->Act->World->Prop) (a':Act) (hf':EtK a' b o n cap g i nb mb b2 o2 q cap2 j last)=>et_kid (Q:=Q') (w:=w1) (r:=m.nd.kids.drop (j+1)) hN hb hat hn hf' h1 hd1 hdeep hi (hx j x hxj) hb2 hjq hil (by omega) hkind);obtain ⟨Hms,Hgo⟩:=aA3 (k:=j) (n:=q) hjq (by omega);have Hs:=hid hs;have Hbad:=hid bad;have Hd1:=hid hd1;have Hhl:=hid hhl;have Hil:=hid hil;have Hjq:=hid hjq
  clear hq hkind;have tj:decide (j<q)=true:=dT hjq;have wj:wrap64 ((j:Int)+1)=(j:Int)+1:=aA1 (by omega) (by omega);obtain ⟨v,rfl,eE⟩:=hf1.shape;simp only[et_L,eE];clear eE;clear hf1 hs hxj hdr hx hd1 hhl hil hj hjq ok bad h1 hN hat hn;dsimp only[etK1,etK2,ncs,ncl,ncr,ncb,nco,nct,nce,ncx,Tryz.f63];go_wp2
  rename_i Q1 K1 hK1
  refine HK.out _ _ ⟨rfl,rfl,rfl,rfl,rfl,rfl,rfl,rfl,rfl,rfl,rfl,rfl,rfl,rfl⟩ (fun a2 w2 k hk hik hkn hss hf2 h2=>hK1 _ _ ?_) (fun hbad a2 w2 hb2 hd2 ht2=>Hbad.out (Hs.out.trans hbad) a2 w2 hb2 hd2 ht2);subst hk;have hHE:=hid (show j+1<=q/\EK w0 w2 g n (d1.set k (deep+1)) nb mb m (((nds ms)[k]!).key::had)/\kidsP (nds ms) m.nd.kind deep m.nd.kids (i:Int) [] d=kidsP (nds ms) m.nd.kind deep (m.nd.kids.drop (j+1)) (k:Int) (((nds ms)[k]!).key::had) (d1.set k (deep+1))/\(i:Int)<=(k:Int)/\(((nds ms)[k]!).key::had).length=j+1/\(d1.set k (deep+1))[i]? =some deep from
   ⟨Hjq.out,h2,Hs.out.trans hss,by omega,by rw[a7f,Hhl.out],by rw[List.getElem?_set_ne (by omega)];exact Hd1.out⟩)
  obtain ⟨v2,rfl,eE⟩:=hf2.shape;simp only[et_L,eE];clear eE;clear hf2 hss h2 hik hkn HK Hs Hbad Hd1 Hhl Hil Hjq;dsimp only[etK4,ncs,ncl,ncr,ncb,nco,nct,nce,ncx,Tryz.f63];go_wp2;obtain ⟨z1,z2,z3,z4,z5,z6⟩:=hHE.out;exact ⟨⟨j+1,_,_,_,z1,⟨rfl,rfl,rfl,rfl,rfl,rfl,rfl,rfl,rfl,rfl,rfl,rfl,rfl,congrArg some Hgo.out⟩,z2,z3,z4,z5,z6⟩,Hms.out⟩
 ·have ej:j=q:=by omega
  subst ej;have hfin:kidsP (nds ms) m.nd.kind deep m.nd.kids (i:Int) [] d=some d1:=by
   rw[hs,List.drop_eq_nil_of_le (by omega)];rfl
  have HO:=hid (fun a' hf'=>ok a' w1 d1 hfin hf' h1.em);have tj:decide (j<j)=false:=dF (Nat.lt_irrefl j);obtain ⟨v,rfl,eE⟩:=hf1.shape;simp only[et_L,eE];clear eE;clear hf1 hs hx hd1 hhl hil hj hjq ok bad h1 hN hat hn hq hkind hfin;dsimp only[etK1,etK2,ncs,ncl,ncr,ncb,nco,nct,nce,ncx,Tryz.f63];go_wp2;exact HO.out _ ⟨rfl,rfl,rfl,rfl,rfl,rfl,rfl⟩
theorem EK.first (h:EM w0 w g n d):EK w0 ((w.alloc (.cells #[.int .i64 m.nd.kind,.string m.nd.key,.string m.nd.text,.bool m.nd.quoted,.int .i64 m.nd.line,m.kv] 55)).alloc (.map #[] 0)) g n d w.heap.size (w.heap.size+1) m []:=by
 have hg:=(h.row.lt g rfl).2;have hs:=h.below.size;refine ⟨(h.later ((a7d _ w).alloc (a7c _) _)).later ((a7d _ _).alloc (a7c _) _),?_,hs,by omega,?_,by omega,by omega,by omega⟩
 ·rw[aAe _ (by simp),aAc]
 ·have:=Had.made (w.alloc (.cells #[.int .i64 m.nd.kind,.string m.nd.key,.string m.nd.text,.bool m.nd.quoted,.int .i64 m.nd.line,m.kv] 55))
  simpa using this
theorem EM.new1 (h:EM w0 w g n d) (o:Obj):Below w0.heap.size w0 (w.alloc o):=h.below.alloc h.below.size o
section
variable {ns:List Nd} {nd:Nd}
theorem aTl (h:d[i]! =0\/16<d[i]!):nodeP ns i nd d=none:=by unfold nodeP;rw[if_pos h]
theorem aTm (h:¬(d[i]! =0\/16<d[i]!)) (hk:nd.kind=1):nodeP ns i nd d=if aCf nd=true then some d else none:=by unfold nodeP;rw[if_neg h,if_pos hk]
theorem aVq (hk:¬nd.kind=1) (hb:(nd.kind≠2/\nd.kind≠3)\/nd.kids=[]\/nd.text≠⟨#[]⟩\/nd.quoted=true):nodeP ns i nd d=none:=by
 unfold nodeP
 split
 ·rfl
 ·first|rfl|rw[if_neg hk,if_pos hb]
theorem aTn (h:¬(d[i]! =0\/16<d[i]!)) (hk:¬nd.kind=1) (hb:¬((nd.kind≠2/\nd.kind≠3)\/nd.kids=[]\/nd.text≠⟨#[]⟩\/nd.quoted=true)):nodeP ns i nd d=kidsP ns nd.kind d[i]! nd.kids (i:Int) [] d:=by unfold nodeP;rw[if_neg h,if_neg hk,if_neg hb]
end
theorem a5h (hN:Nds w0 (.slice (some ⟨b,o,none⟩) n cap) ms) (hb:b<w0.heap.size) (hat:∀i m,ms[i]? =some m->NdAt w0 b (o+i*6) m/\m.Ok w0) (hg:Glob w0) (hn:ms.length=n) (hf:EtO a b o n cap g i) (h:EM w0 w g n d) (hi:i<n)
 (ok:∀a' w' d',nodeP (nds ms) i ((nds ms)[i]!) d=some d'->EtO a' b o n cap g i->EM w0 w' g n d'->Q .normal a' w'/\Q (.exit 1) a' w')
 (bad:nodeP (nds ms) i ((nds ms)[i]!) d=none->∀a' w',Below w0.heap.size w0 w'->a'.defers=[]->a'.tmps[2]? =some (.bool false)->Q .ret a' w'):a3l.wp Tryz.prog Q a w:=by
 show (Code.seq etN0 (Code.seq etN1 (Code.seq etN2 (Code.seq etN3 (Code.seq etN4 (Code.seq etN5 (Code.seq etN6 etIn))))))).wp Tryz.prog Q a w
 obtain ⟨m,hm⟩:∃m,ms[i]? =some m:=aAh (by omega);obtain ⟨c,hok⟩:=hat i m hm;have hnd:(nds ms)[i]! =m.nd:=aDv hm;rw[hnd]at ok bad;have hbl:=h.below;have c0:=(hbl.cell (p:=⟨b,o+i*6,none⟩) hb).trans c.c0;have c1:=(hbl.cell (p:=⟨b,o+i*6+1,none⟩) hb).trans c.c1;have c2:=(hbl.cell (p:=⟨b,o+i*6+2,none⟩) hb).trans c.c2;have c3:=(hbl.cell (p:=⟨b,o+i*6+3,none⟩) hb).trans c.c3;have c4:=(hbl.cell (p:=⟨b,o+i*6+4,none⟩) hb).trans c.c4
 have c5:=(hbl.cell (p:=⟨b,o+i*6+5,none⟩) hb).trans c.c5;obtain ⟨ao2,cap2,hkv,hl2,hks⟩:=aAj hok.kids;obtain ⟨q,hq⟩:∃q,q=m.nd.kids.length:=⟨_,rfl⟩;rw[<-hq]at hkv hl2 hks;rw[hkv]at c5;obtain ⟨di,hdi⟩:∃di,d[i]? =some di:=aAh (by rw[h.len];omega);have hdi2:d[i]! =di:=by rw[List.getElem!_eq_getElem?_getD,hdi];rfl
 have e1:=h.at hdi;have bi:(i:Int)<(n:Int):=by omega
 have e2:∀ob,(w.alloc ob).cell? ⟨g,i,none⟩=some (.int .i64 (di:Int)):=fun ob=>(World.cell?_of_block (aAe ob (h.row.lt g rfl).2)).trans e1;have Hb:=hid h.below;have Hbn:=hid (fun o=>h.new1 o);have HE:=hid h;have Hbad:=hid bad;have Hok:=hid ok;have Hdi2:=hid hdi2;have HN:=hid hN;have Hsc:=hid (fun w1 (hb1:Below w0.heap.size w0 w1)=>aU9 w1 m (hok.later hb1) (hg.later hb1));have hmv:m.v= .agg #[.int .i64 m.nd.kind,.string m.nd.key,.string m.nd.text,.bool m.nd.quoted,.int .i64 m.nd.line,.slice ao2 q cap2]:=by unfold NdM.v;rw[hkv]
 rw[hmv]at Hsc;have ek:m.nd.kids=[]↔q=0:=by rw[hq,List.length_eq_zero_iff]
 obtain ⟨kind,hkind⟩:∃kind,kind=m.nd.kind:=⟨_,rfl⟩;obtain ⟨tx,htx⟩:∃tx,tx=m.nd.text:=⟨_,rfl⟩;obtain ⟨qt,hqt⟩:∃qt,qt=m.nd.quoted:=⟨_,rfl⟩;rw[<-hkind]at c0 Hsc;rw[<-htx]at c2 Hsc;rw[<-hqt]at c3 Hsc;obtain ⟨v,rfl,eE⟩:=hf.shape;simp only[et_L,eE];clear eE;clear hf hN h hbl c hm hnd ok bad hg hmv hdi2;by_cases g1:di=0\/16<di
 ·have HB:=hid (Hbad.out (aTl (by rw[Hdi2.out];exact g1)));by_cases g0:di=0
  ·have t1:((di:Int)==0)=true:=by rw[beq_iff_eq];omega
   clear hat hn hi hok hq hl2 hks hdi hkind htx hqt ek g0 g1 Hbad Hok HN Hsc HE hkv hb;dsimp only[etN0,etN1,ncs,ncl,ncr,ncb,nco,nct,nce,ncx,Tryz.f63];go_wp2;exact HB.out _ _ (Hbn.out _) rfl rfl
  ·have t1:((di:Int)==0)=false:=bF (by omega);have t2:decide (16<(di:Int))=true:=dT (by omega);clear hat hn hi hok hq hl2 hks hdi hkind htx hqt ek g0 g1 Hbad Hok HN Hsc HE hkv hb;dsimp only[etN0,etN1,ncs,ncl,ncr,ncb,nco,nct,nce,ncx,Tryz.f63];go_wp2;exact HB.out _ _ (Hbn.out _) rfl rfl
 ·have t1:((di:Int)==0)=false:=bF (by omega);have t2:decide (16<(di:Int))=false:=dF (by omega);have hno:¬(d[i]! =0\/16<d[i]!):=by rw[Hdi2.out];exact g1
  by_cases k1:kind=1
  ·have t3:(kind==1)=true:=by rw[beq_iff_eq];exact k1
   have hsc:=aTm (ns:=nds ms) (i:=i) (nd:=m.nd) hno (by rw[<-hkind];exact k1);have HB:=hid (fun (e:aCf m.nd=false)=>Hbad.out (hsc.trans (by rw[e];rfl)));have HO:=hid (fun (e:aCf m.nd=true) a' w' hf' he'=>(Hok.out a' w' d (hsc.trans (by rw[e];rfl)) hf' he').2);have HE2:=hid (fun w1 (hb1:Below w.heap.size w w1)=>HE.out.later hb1);have Hbw:=hid (fun o=>(a7d w.heap.size w).alloc (a7c _) o)
   generalize aCf m.nd=sb at*;clear hat hn hi hok hq hl2 hks hdi hkind htx hqt ek g1 Hbad Hok HN HE hkv hb hno k1 hsc;dsimp only[etN0,etN1,etN2,ncs,ncl,ncr,ncb,nco,nct,nce,ncx,Tryz.f63]
   go_wp2_with fail
   refine (Hsc.out _ (Hbn.out _)).mono ?_;rintro r w1 ⟨rfl,hb1⟩;have Hb1:=hid ((Hbw.out (.cells #[.int .i64 kind,.string m.nd.key,.string tx,.bool qt,.int .i64 m.nd.line,.slice ao2 q cap2] 55)).trans (hb1.mono (Below.size (Hbw.out _))));clear hb1 Hsc;cases sb with
   |true=>
    have HX:=hid (HE2.out w1 Hb1.out);go_wp2;exact HO.out trivial _ _ ⟨rfl,rfl,rfl,rfl,rfl,rfl,rfl⟩ HX.out
   |false=>
    have HX:=hid (HE2.out w1 Hb1.out).below;go_wp2;exact HB.out trivial _ _ HX.out rfl rfl
  ·have t3:(kind==1)=false:=by rw[beq_eq_false_iff_ne];exact k1
   have HB:=hid (fun hh=>Hbad.out (aVq (ns:=nds ms) (i:=i) (nd:=m.nd) (d:=d) (by rw[<-hkind];exact k1) hh));by_cases k23:kind=2\/kind=3
   ·have hf2:∃f2 f3:Bool,(kind==2)=f2/\(kind==3)=f3/\(f2=true\/(f2=false/\f3=true)):=by
     rcases k23 with e|e
     ·exact ⟨_,_,rfl,rfl,.inl (by rw[e];rfl)⟩
     ·exact ⟨_,_,rfl,rfl,.inr ⟨by rw[e];rfl,by rw[e];rfl⟩⟩
    have hr:(!(kind==2)&& !(kind==3))=false:=by rcases k23 with e|e<;>rw[e]<;>rfl
    by_cases q0:q=0
    ·have s5:((q:Int)==0)=true:=by rw[beq_iff_eq];omega
     have HB2:=hid (HB.out (.inr (.inl (ek.2 q0))));clear HB q0 hat hn hi hok hq hl2 hks hdi hkind htx hqt ek g1 Hbad Hok HN HE hkv hb hno k1 Hsc;dsimp only[etN0,etN1,etN2,etN3,ncs,ncl,ncr,ncb,nco,nct,nce,ncx,Tryz.f63];rcases k23 with k2|k2<;>subst k2
     ·clear hf2;go_wp2;exact HB2.out _ _ (Hbn.out _) rfl rfl
     ·clear hf2;go_wp2;exact HB2.out _ _ (Hbn.out _) rfl rfl
    ·have s5:((q:Int)==0)=false:=bF (by omega);have p5:¬q=0:=q0;by_cases ht:tx=⟨#[]⟩
     ·obtain ⟨y4,y5,y6⟩:=aEf ht;cases qt with
      |true=>
       have HB2:=hid (HB.out (.inr (.inr (.inr hqt.symm))));clear ht HB q0 hat hn hi hok hq hl2 hks hdi hkind htx hqt ek g1 Hbad Hok HN HE hkv hb hno k1 Hsc;dsimp only[etN0,etN1,etN2,etN3,ncs,ncl,ncr,ncb,nco,nct,nce,ncx,Tryz.f63];rcases k23 with k2|k2<;>subst k2
       ·clear hf2;go_wp2;exact HB2.out _ _ (Hbn.out _) rfl rfl
       ·clear hf2;go_wp2;exact HB2.out _ _ (Hbn.out _) rfl rfl
      |false=>
       obtain ⟨b2,o2,rfl,hb2,hcell⟩:=hks (by omega);have HM:=aTn (ns:=nds ms) (i:=i) (nd:=m.nd) (d:=d) hno (by rw[<-hkind];exact k1) (by
        rintro (e|e|e|e)
        ·rw[<-hkind]at e;rcases k23 with k|k
         ·exact e.1 k
         ·exact e.2 k
        ·exact q0 (ek.1 e)
        ·exact e (htx.symm.trans ht)
        ·rw[<-hqt]at e;cases e)
       rw[Hdi2.out]at HM;have HK:=EK.first (m:=m) HE.out;rw[<-hkind,<-htx,<-hqt,hkv]at HK;have HK2:=hid HK;have hmm:= @run_makeMap Tryz.prog;have HI:=hid (fun a' (hf':EtK a' b o n cap g i w.heap.size (w.heap.size+1) b2 o2 q cap2 0 (i:Int)) w' (hk':EK w0 w' g n d w.heap.size (w.heap.size+1) m [])=>
        aZ3 (Q:=Q) HN.out hb hat hn hf' hk' hdi (by omega) hi hq hl2 hcell hb2 (by rw[<-hkind];exact k23) (fun a3 w3 d3 e3 f3 m3=>(Hok.out a3 w3 d3 (HM.trans e3) f3 m3).1) (fun e3=>Hbad.out (HM.trans e3)))
       clear HB hn hat hok hi hq hl2 hdi htx hqt ek g1 Hbad Hok HN HE hkv hno k1 Hsc HM HK hb hcell hb2 hks hkind ht;clear q0;dsimp only[etN0,etN1,etN2,etN3,etN4,etN5,etN6,ncs,ncl,ncr,ncb,nco,nct,nce,ncx,Tryz.f63];rcases k23 with k2|k2<;>subst k2
       ·clear hf2;go_wp2;exact HI.out _ ⟨rfl,rfl,rfl,rfl,rfl,rfl,rfl,rfl,rfl,rfl,rfl,rfl,rfl,rfl⟩ _ HK2.out
       ·clear hf2;go_wp2;exact HI.out _ ⟨rfl,rfl,rfl,rfl,rfl,rfl,rfl,rfl,rfl,rfl,rfl,rfl,rfl,rfl⟩ _ HK2.out
     ·obtain ⟨y4,y5,y6⟩:=aE2 ht;have HB2:=hid (HB.out (.inr (.inr (.inl (by rw[<-htx];exact ht)))));clear ht HB q0 hat hn hi hok hq hl2 hks hdi hkind htx hqt ek g1 Hbad Hok HN HE hkv hb hno k1 Hsc;dsimp only[etN0,etN1,etN2,etN3,ncs,ncl,ncr,ncb,nco,nct,nce,ncx,Tryz.f63];rcases k23 with k2|k2<;>subst k2
      ·clear hf2;go_wp2;exact HB2.out _ _ (Hbn.out _) rfl rfl
      ·clear hf2;go_wp2;exact HB2.out _ _ (Hbn.out _) rfl rfl
   ·have t4:(kind==2)=false:=by rw[beq_eq_false_iff_ne];exact fun e=>k23 (.inl e)
    have t5:(kind==3)=false:=by rw[beq_eq_false_iff_ne];exact fun e=>k23 (.inr e)
    have HB2:=hid (HB.out (.inl ⟨by rw[<-hkind];exact fun e=>k23 (.inl e),by rw[<-hkind];exact fun e=>k23 (.inr e)⟩));have p4:¬kind=2:=fun e=>k23 (.inl e);have p5:¬kind=3:=fun e=>k23 (.inr e);clear HB k23;clear hat hn hi hok hq hl2 hks hdi hkind htx hqt ek g1 Hbad Hok HN HE hkv hb hno k1 Hsc;dsimp only[etN0,etN1,etN2,etN3,ncs,ncl,ncr,ncb,nco,nct,nce,ncx,Tryz.f63];go_wp2;exact HB2.out _ _ (Hbn.out _) rfl rfl
end
