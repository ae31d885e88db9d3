/-
Parts of a proof.
-/
import Derived.OwnWalk
import Derived.Test.YtfenoaeoedobmaaGreatDoorOw14
set_option linter.unusedVariables false
set_option linter.unusedSimpArgs false
set_option maxHeartbeats 4000000
set_option maxRecDepth 20000
namespace Go.Proofs.YtfenoaeoedobmaaGreatDoor
open Go Go.RowKit
noncomputable def dD:Code:=(nco (ncb (ncr (ncl (ncr (ncr (ncr (ncr (ncx Tryz.f63.body)))))))))
noncomputable def dn:Code:=(ncb (ncl (ncr (ncr dD))))
noncomputable def gW:Code:=(ncr (ncr (ncr (ncr (ncr (ncr dn))))))
noncomputable def Ji:Code:=(ncr (ncl (ncr (ncr (ncr (ncr (ncx Tryz.f63.body)))))))
noncomputable def Jh:Code:=(ncl dD)
noncomputable def Jg:Code:=(ncl (ncr dD))
noncomputable def K4:Code:=(ncr (ncr (ncr dD)))
noncomputable def sd:Code:=(ncl dn)
noncomputable def sa:Code:=(ncl (ncr dn))
noncomputable def wY:Code:=(ncl (ncr (ncr dn)))
noncomputable def An:Code:=(ncl (ncr (ncr (ncr dn))))
noncomputable def K7:Code:=(ncl (ncr (ncr (ncr (ncr dn)))))
noncomputable def K6:Code:=(ncl (ncr (ncr (ncr (ncr (ncr dn))))))
noncomputable def K5:Code:=(ncl gW)
noncomputable def K9:Code:=(ncr gW)
noncomputable def Jk:Code:=(ncl (nco (ncb (ncr gW))))
noncomputable def Jj:Code:=(ncl (ncr (nco (ncb (ncr gW)))))
noncomputable def Dm:Code:=(ncb (ncl (ncr (ncr (nco (ncb (ncr gW)))))))
noncomputable def K8:Code:=(ncr (ncr (ncr (nco (ncb (ncr gW))))))
noncomputable def Dl:Code:=dn
def nH (v:Nat->Value):Act:=⟨#[v 0,v 1,v 2,v 3,v 4,v 5,v 6,v 7,v 8,v 9,v 10,v 11,v 12,v 13,v 14,v 15,v 16,v 17,v 18,v 19,v 20,v 21,v 22,v 23,v 24,v 25,v 26,v 27,v 28,v 29,v 30,v 31,v 32,v 33,v 34,v 35,v 36,v 37,v 38,v 39,v 40,v 41,v 42,v 43,v 44,v 45,v 46,v 47,v 48,v 49,v 50,v 51,v 52,v 53,v 54,v 55,v 56,v 57,v 58,v 59,v 60,v 61,v 62,v 63,v 64,v 65,v 66,v 67,v 68,v 69,v 70,v 71,v 72,v 73,v 74,v 75,v 76,v 77,v 78,v 79,v 80,v 81,v 82,v 83,v 84,v 85,v 86,v 87,v 88,v 89,v 90,v 91,v 92,v 93,v 94,v 95,v 96,v 97,v 98,v 99,v 100,v 101,v 102,v 103,v 104,v 105,v 106,v 107,v 108,v 109,v 110,v 111,v 112,v 113,v 114,v 115,v 116,v 117,v 118,v 119,v 120,v 121,v 122,v 123,v 124,v 125,v 126,v 127,v 128,v 129,v 130,v 131,v 132,v 133,v 134,v 135,v 136,v 137,v 138,v 139,v 140,v 141,v 142,v 143,v 144],[]⟩
theorem Dk (a:Act) (hs:a.tmps.size=145) (hd:a.defers=[]):∃v:Nat->Value,(∀(i:Nat) (x:Value),a.tmps[i]? =some x->v i=x)/\a=nH v:=by
 obtain ⟨t,d⟩:=a;obtain ⟨l⟩:=t;obtain rfl:d=[]:=hd;have hl:l.length=145:=hs;refine ⟨fun i=>l.getD i undef,fun i x hx=> ?_,?_⟩
 ·have hx':l[i]? =some x:=by simpa using hx
  simp[List.getD,hx']
 ·have e:l=(List.range 145).map (fun i=>l.getD i undef):=by
   apply List.ext_getElem
   ·simp[hl]
   ·intro i h1 h2;simp[List.getD,h1]
  generalize (fun i=>l.getD i undef)=v at e |-;subst e;rfl
structure EtO (a:Act) (b:Nat) (o:Nat) (n:Nat) (cap:Nat) (g:Nat) (i:Nat):Prop where
 size:a.tmps.size=145
 dfr:a.defers=[]
 s0:a.tmps[0]? =some (.slice (some ⟨b,o,none⟩) n cap)
 s3:a.tmps[3]? =some (.slice (some ⟨g,0,none⟩) n n)
 s30:a.tmps[30]? =some (.slice (some ⟨b,o,none⟩) n cap)
 s31:a.tmps[31]? =some (.int .i64 (n:Int))
 s32:a.tmps[32]? =some (.int .i64 (i:Int))
theorem EtO.shape {a:Act} {b:Nat} {o:Nat} {n:Nat} {cap:Nat} {g:Nat} {i:Nat} (h:EtO a b o n cap g i):∃v:Nat->Value,a=nH v/\v 0= .slice (some ⟨b,o,none⟩) n cap/\v 3= .slice (some ⟨g,0,none⟩) n n/\v 30= .slice (some ⟨b,o,none⟩) n cap/\v 31= .int .i64 (n:Int)/\v 32= .int .i64 (i:Int):=by
 obtain ⟨v,hv,hd⟩:=Dk a h.size h.dfr;exact ⟨v,hd,hv 0 _ h.s0,hv 3 _ h.s3,hv 30 _ h.s30,hv 31 _ h.s31,hv 32 _ h.s32⟩
structure EtK (a:Act) (b:Nat) (o:Nat) (n:Nat) (cap:Nat) (g:Nat) (i:Nat) (nb:Nat) (mb:Nat) (b2:Nat) (o2:Nat) (q:Nat) (cap2:Nat) (j:Nat) (last:Int):Prop where
 size:a.tmps.size=145
 dfr:a.defers=[]
 s0:a.tmps[0]? =some (.slice (some ⟨b,o,none⟩) n cap)
 s3:a.tmps[3]? =some (.slice (some ⟨g,0,none⟩) n n)
 s4:a.tmps[4]? =some (.int .i64 (i:Int))
 s5:a.tmps[5]? =some (.pointer (some ⟨nb,0,none⟩))
 s6:a.tmps[6]? =some (.map (some mb))
 s7:a.tmps[7]? =some (.int .i64 last)
 s30:a.tmps[30]? =some (.slice (some ⟨b,o,none⟩) n cap)
 s31:a.tmps[31]? =some (.int .i64 (n:Int))
 s32:a.tmps[32]? =some (.int .i64 (i:Int))
 s81:a.tmps[81]? =some (.slice (some ⟨b2,o2,none⟩) q cap2)
 s82:a.tmps[82]? =some (.int .i64 (q:Int))
 s83:a.tmps[83]? =some (.int .i64 (j:Int))
theorem EtK.shape {a:Act} {b:Nat} {o:Nat} {n:Nat} {cap:Nat} {g:Nat} {i:Nat} {nb:Nat} {mb:Nat} {b2:Nat} {o2:Nat} {q:Nat} {cap2:Nat} {j:Nat} {last:Int} (h:EtK a b o n cap g i nb mb b2 o2 q cap2 j last):∃v:Nat->Value,a=nH v/\v 0= .slice (some ⟨b,o,none⟩) n cap/\v 3= .slice (some ⟨g,0,none⟩) n n/\v 4= .int .i64 (i:Int)/\v 5= .pointer (some ⟨nb,0,none⟩)/\v 6= .map (some mb)/\v 7= .int .i64 last/\v 30= .slice (some ⟨b,o,none⟩) n cap/\v 31= .int .i64 (n:Int)/\v 32= .int .i64 (i:Int)/\v 81= .slice (some ⟨b2,o2,none⟩) q cap2/\v 82= .int .i64 (q:Int)/\v 83= .int .i64 (j:Int):=by
 obtain ⟨v,hv,hd⟩:=Dk a h.size h.dfr;exact ⟨v,hd,hv 0 _ h.s0,hv 3 _ h.s3,hv 4 _ h.s4,hv 5 _ h.s5,hv 6 _ h.s6,hv 7 _ h.s7,hv 30 _ h.s30,hv 31 _ h.s31,hv 32 _ h.s32,hv 81 _ h.s81,hv 82 _ h.s82,hv 83 _ h.s83⟩
theorem EtK.toO {a:Act} {b o n cap g i nb mb b2 o2 q cap2 j:Nat} {last:Int} (h:EtK a b o n cap g i nb mb b2 o2 q cap2 j last):EtO a b o n cap g i:=⟨h.size,h.dfr,h.s0,h.s3,h.s30,h.s31,h.s32⟩
theorem BF {ns:List Nd} {i:Nat} {d:List Nat} (hi:i<ns.length):eJ ns (ns.drop i) i d=(match cM ns i (ns[i]!) d with|none=>false|some d'=>eJ ns (ns.drop (i+1)) (i+1) d'):=by
 have e:ns.drop i=ns[i]! ::ns.drop (i+1):=by
  rw[List.drop_eq_getElem_cons hi];congr 1;rw[List.getElem!_eq_getElem?_getD,aAg hi];rfl
 rw[e];rfl
theorem zg {ns:List Nd} {i:Nat} {d:List Nat} (hi:ns.length<=i):eJ ns (ns.drop i) i d=true:=by
 rw[List.drop_eq_nil_of_le hi];rfl
theorem AG {d:List Nat} {k x:Nat} (h:d[k]? =some x):(np d)[k]? =some (.int .i64 (x:Int)):=by
 unfold np;rw[List.getElem?_map,h];rfl
theorem qX (d:List Nat) (k x:Nat):(np d).set k (.int .i64 (x:Int))=np (d.set k x):=by
 unfold np;rw[List.map_set]
structure EM (w0 w:World) (g n:Nat) (d:List Nat):Prop where
 below:Below w0.heap.size w0 w
 row:w.ownsRow 0 3 1 (.slice (some ⟨g,0,none⟩) n n) n (np d)
 new:w0.heap.size<=g
 len:d.length=n
 low:∀x∈d,x<=17
theorem EM.at {w0 w:World} {g n:Nat} {d:List Nat} (h:EM w0 w g n d) {k x:Nat} (hx:d[k]? =some x):w.cell? ⟨g,k,none⟩=some (.int .i64 (x:Int)):=by
 have hk:=(aAh hx).1;exact (h.row.cellAt k (by have:=h.len;omega)).trans (AG hx)
theorem EM.later {w0 w w2:World} {g n:Nat} {d:List Nat} (h:EM w0 w g n d) (hb:Below w.heap.size w w2):EM w0 w2 g n d:=
 ⟨h.below.trans (hb.mono h.below.size),jS h.row hb,h.new,h.len,h.low⟩
theorem EM.frozen {w0 w:World} {g n:Nat} {d:List Nat} (h:EM w0 w g n d) (k:Nat):w.frozen? ⟨g,k,none⟩=false:=by
 rcases h.row.2 with ⟨hv,_⟩|⟨g',cap,cur,hv,_,hc,_⟩
 ·cases hv
 ·simp only[Value.slice.injEq,Option.some.injEq,Addr.mk.injEq,and_true]at hv;obtain ⟨rfl,_⟩:=hv;exact ai hc k
structure EK (w0 w:World) (g n:Nat) (d:List Nat) (nb mb:Nat) (m:NdM) (had:List ByteArray):Prop where
 em:EM w0 w g n d
 nd:w.heap[nb]? =some (.cells #[.int .i64 m.nd.kind,.string m.nd.key,.string m.nd.text,.bool m.nd.quoted,.int .i64 m.nd.line,m.kv] 55 (0,0))
 nb0:w0.heap.size<=nb
 nbg:nb≠g
 map:Had w mb had
 mb0:w0.heap.size<=mb
 mbg:mb≠g
 mbn:mb≠nb
theorem EK.stored {w0 w:World} {g n:Nat} {d:List Nat} {nb mb:Nat} {m:NdM} {had:List ByteArray} (h:EK w0 w g n d nb mb m had) (k x:Nat) (hx:x<=17):
 EK w0 (w.setCell ⟨g,k,none⟩ (.int .i64 (x:Int))) g n (d.set k x) nb mb m had:=by
 obtain ⟨s1,s2⟩:=h.em.row.stored k (.int .i64 (x:Int));have hm:Mod (fun q=>q=g) w (w.setCell ⟨g,k,none⟩ (.int .i64 (x:Int))):=(Mod.refl _ w).setCell _ _ (fun _=>rfl);refine ⟨⟨h.em.below.trans (hm.below h.em.below.size fun q hq=>by rw[hq];exact h.em.new),by rw[<-qX];exact s1,h.em.new,by rw[List.length_set];exact h.em.len,fun y hy=> ?_⟩,hm.heap h.nd h.nbg,h.nb0,h.nbg,h.map.kept s2 (fun e=>h.mbg (aAf e)),h.mb0,h.mbg,h.mbn⟩
 rcases List.mem_or_eq_of_mem_set hy with q|q
 ·exact h.em.low y q
 ·rw[q];exact hx
theorem EK.put {w0 w w2:World} {g n:Nat} {d:List Nat} {nb mb:Nat} {m:NdM} {had had2:List ByteArray} (h:EK w0 w g n d nb mb m had) (hh:Had w2 mb had2) (hg:w.grownBy w2 (some mb)):EK w0 w2 g n d nb mb m had2:=by
 have hm:Mod (fun q=>q=mb) w w2:=(Mod.refl _ w).grown hg (fun k e _=>(aAf e).symm);exact ⟨⟨h.em.below.trans (hm.below h.em.below.size fun q hq=>by rw[hq];exact h.mb0),cL h.em.row fun g' hg'=>hm.block g' (h.em.row.lt g' hg').2 (by
  simp only[Value.ownBlock,Option.some.injEq]at hg';rw[<-hg'];exact fun e=>h.mbg e.symm),h.em.new,h.em.len,h.em.low⟩,hm.heap h.nd (fun e=>h.mbn e.symm),h.nb0,h.nbg,hh,h.mb0,h.mbg,h.mbn⟩
section
variable {w0 w:World} {Q:Exit->Act->World->Prop} {a:Act} {ms:List NdM} {b o n cap g i nb mb b2 o2 q cap2 j:Nat} {last:Int} {d:List Nat} {m:NdM} {had:List ByteArray} {deep:Nat} {x:Int}
theorem kH {ns:List Nd} {kind:Int} {deep:Nat} {k:Int} {r:List Int} {last:Int} {had:List ByteArray} {d:List Nat} (h:k<=last\/(ns.length:Int)<=k\/d[k.toNat]! ≠0):cN ns kind deep (k::r) last had d=none:=by
 rw[cN,if_pos h]
theorem wP {ns:List Nd} {kind:Int} {deep:Nat} {k:Int} {r:List Int} {last:Int} {had:List ByteArray} {d:List Nat} (h:g8 kind (ns[k.toNat]!).key had=false):cN ns kind deep (k::r) last had d=none:=by
 rw[cN]
 split
 ·rfl
 ·rfl
theorem CO {ns:List Nd} {kind:Int} {deep:Nat} {k:Int} {r:List Int} {last:Int} {had:List ByteArray} {d:List Nat} (h1:¬(k<=last\/(ns.length:Int)<=k\/d[k.toNat]! ≠0)) (h2:g8 kind (ns[k.toNat]!).key had=true):cN ns kind deep (k::r) last had d=cN ns kind deep r k ((ns[k.toNat]!).key::had) (d.set k.toNat (deep+1)):=by
 rw[cN,if_neg h1,if_neg (by rw[h2];decide)]
theorem Jf (hN:Nds w0 (.slice (some ⟨b,o,none⟩) n cap) ms) (hb:b<w0.heap.size) (hat:∀i m,ms[i]? =some m->NdAt w0 b (o+i*6) m/\m.Ok w0) (hn:ms.length=n)
 (hf:EtK a b o n cap g i nb mb b2 o2 q cap2 j last) (h:EK w0 w g n d nb mb m had) (hd:d[i]? =some deep) (hdeep:deep<=16) (hi:i<n)
 (hx:w0.cell? ⟨b2,o2+j,none⟩=some (.int .i64 x)) (hb2:b2<w0.heap.size) (hj:j<q) (hlast:(i:Int)<=last) (hhad:had.length<=1048576) (hkind:m.nd.kind=2\/m.nd.kind=3) (r:List Int)
 (ok:∀a' w' (k:Nat),x=(k:Int)->i<k->k<n->cN (nds ms) m.nd.kind deep (x::r) last had d=cN (nds ms) m.nd.kind deep r x (((nds ms)[k]!).key::had) (d.set k (deep+1))->
  EtK a' b o n cap g i nb mb b2 o2 q cap2 j x->EK w0 w' g n (d.set k (deep+1)) nb mb m (((nds ms)[k]!).key::had)->Q .normal a' w')
 (bad:cN (nds ms) m.nd.kind deep (x::r) last had d=none->∀a' w',Below w0.heap.size w0 w'->a'.defers=[]->a'.tmps[2]? =some (.bool false)->Q .ret a' w'):Dm.wp Tryz.prog Q a w:=by
 have hbl:=h.em.below;have Hb:=hid hbl;have c1:=(hbl.cell hb2).trans hx;have hnn:(nds ms).length=n:=by rw[bt,hn]
 have bj:(j:Int)<(q:Int):=by omega
 obtain ⟨v,rfl,eE⟩:=hf.shape;simp only[nH,eE];clear eE;clear hf;have Hok:=hid ok;have Hbad:=hid bad;clear ok bad;dsimp only[Dm,gW,dn,dD,ncb,ncl,nco,ncr,ncx,Tryz.f63];by_cases g1:x<=last
 ·have t1:decide (x<=last)=true:=dT g1;have HB:=hid (Hbad.o (kH (.inl g1)));clear hx hbl h hN hat hd hdeep hi hj hlast hhad hkind g1 Hok Hbad hnn hn;go_wp2;exact HB.o _ _ Hb.o rfl rfl
 ·have t1:decide (x<=last)=false:=dF g1;by_cases g2:(n:Int)<=x
  ·have t2:decide ((n:Int)<=x)=true:=dT g2;have HB:=hid (Hbad.o (kH (.inr (.inl (by rw[hnn];exact g2)))));clear hx hbl h hN hat hd hdeep hi hj hlast hhad hkind g1 g2 Hok Hbad hnn hn;go_wp2;exact HB.o _ _ Hb.o rfl rfl
  ·obtain ⟨k,rfl⟩:∃k:Nat,x=(k:Int):=⟨x.toNat,by omega⟩;have t2:decide (n<=k)=false:=dF (by omega);have bk:(k:Int)<(n:Int):=by omega
   obtain ⟨dk,hdk⟩:∃dk,d[k]? =some dk:=au (by rw[h.em.len];omega);have hdk2:d[((k:Int)).toNat]! =dk:=by rw[Int.toNat_natCast,List.getElem!_eq_getElem?_getD,hdk];rfl
   have e1:=h.em.at hdk;by_cases g3:dk=0
   ·subst g3;obtain ⟨mk,hmk⟩:∃mk,ms[k]? =some mk:=au (by omega);have hkey:=eS hmk;obtain ⟨c,hokk⟩:=hat k mk hmk;obtain ⟨key,ekey⟩:=ex (mk.nd.key);have hks:key.size<=maxLen:=by rw[ekey];have:=hokk.key;unfold maxLen;omega
    have k1:=c.c1;rw[<-ekey]at k1;have e2:=h.em.at hd;have HS:=hid (h.stored k (deep+1) (by omega));have hno:¬((k:Int)<=last\/((nds ms).length:Int)<=(k:Int)\/d[((k:Int)).toNat]! ≠0):=by rw[hnn,hdk2];omega
    have wd:=aW (z:=(deep:Int)+1) (by omega) (by omega);have fz:=h.em.frozen k;have bi:(i:Int)<(n:Int):=by omega
    have ecast:((deep+1:Nat):Int)=(deep:Int)+1:=by omega
    have n0:=af HS.o.nd 0;have n1:=(HS.o.em.below.cell (p:=⟨b,o+k*6+1,none⟩) hb).trans k1;rw[ecast]at n0 n1 HS;simp only[List.getElem?_toArray,List.getElem?_cons_zero]at n0;have ekn:((nds ms)[((k:Int)).toNat]!).key=key:=by rw[Int.toNat_natCast,hkey,ekey]
    have ekn2:((nds ms)[k]!).key=key:=by rw[hkey,ekey]
    have Hbad2:=hid (fun (hq:g8 m.nd.kind key had=false)=>Hbad.o (wP (by rw[ekn];exact hq)));have Hok2:=hid (fun (hq:g8 m.nd.kind key had=true) a' w' (p1:EtK a' b o n cap g i nb mb b2 o2 q cap2 j (k:Int)) (p2:EK w0 w' g n (d.set k (deep+1)) nb mb m (key::had))=>Hok.o a' w' k rfl (by omega) (by omega) (by rw[CO hno (by rw[ekn];exact hq),ekn,ekn2,Int.toNat_natCast]) p1 (by rw[ekn2];exact p2))
    have HL:=hid (HS.o.map.look key hks);have Hhad:=hid hhad;have Hks:=hid hks;clear hx hbl h hN hat hd hdeep hi hj hlast hhad g1 g2 Hok Hbad hnn hn hdk hdk2 hmk hkey c hokk ekey hks k1 hno ekn ekn2;rcases hkind with hk2|hk3
    ·rw[hk2]at n0;by_cases hm:key∈had
     ·have HB:=hid (Hbad2.o (by unfold g8;rw[hk2,dT (show (2:Int)=2/\key∈had from ⟨rfl,hm⟩)];simp));rw[dT hm]at HL;have hL:=HL.o;clear Hok2 Hbad2 hm hk2 HL;go_wp2;exact HB.o _ _ HS.o.em.below rfl rfl
     ·have HO:=hid (Hok2.o (by unfold g8;rw[hk2,dF (fun q:(2:Int)=2/\key∈had=>hm q.2),dF (fun q:(2:Int)=3/\key≠⟨#[]⟩=>by omega)];rfl));rw[dF hm]at HL;have hL:=HL.o;clear Hok2 Hbad2 hm hk2 HL
      go_wp2_with (at_mapUpdate;refine wV rfl _ _ _ rfl mb had rfl HS.o.map Hhad.o key Hks.o rfl rfl ?_;intro w2 hh hg;have HE:=hid (HS.o.put hh hg);clear hh hg)
      exact HO.o _ _ ⟨rfl,rfl,rfl,rfl,rfl,rfl,rfl,rfl,rfl,rfl,rfl,rfl,rfl,rfl⟩ HE.o
    ·rw[hk3]at n0;by_cases hm:key=⟨#[]⟩
     ·obtain ⟨k4,k5,k6⟩:=gz hm;have HO:=hid (Hok2.o (by unfold g8;rw[hk3,dF (fun q:(3:Int)=2/\key∈had=>by omega),dF (fun q:(3:Int)=3/\key≠⟨#[]⟩=>q.2 hm)];rfl));clear Hok2 Hbad2 hm hk3 HL
      go_wp2_with (at_mapUpdate;refine wV rfl _ _ _ rfl mb had rfl HS.o.map Hhad.o key Hks.o rfl rfl ?_;intro w2 hh hg;have HE:=hid (HS.o.put hh hg);clear hh hg)
      exact HO.o _ _ ⟨rfl,rfl,rfl,rfl,rfl,rfl,rfl,rfl,rfl,rfl,rfl,rfl,rfl,rfl⟩ HE.o
     ·obtain ⟨k4,k5,k6⟩:=gH hm;have HB:=hid (Hbad2.o (by unfold g8;rw[hk3,dT (show (3:Int)=3/\key≠⟨#[]⟩ from ⟨rfl,hm⟩)];rfl));clear Hok2 Hbad2 hm hk3 HL;go_wp2;exact HB.o _ _ HS.o.em.below rfl rfl
   ·have t3:((dk:Int)==0)=false:=bF (by omega);have HB:=hid (Hbad.o (kH (.inr (.inr (by rw[hdk2];exact g3)))));clear hx hbl h hN hat hd hdeep hi hj hlast hhad hkind g1 g2 g3 Hok Hbad hnn hn hdk hdk2;go_wp2;exact HB.o _ _ Hb.o rfl rfl
theorem Dj (hN:Nds w0 (.slice (some ⟨b,o,none⟩) n cap) ms) (hb:b<w0.heap.size) (hat:∀i m,ms[i]? =some m->NdAt w0 b (o+i*6) m/\m.Ok w0) (hn:ms.length=n)
 (hf:EtK a b o n cap g i nb mb b2 o2 q cap2 0 (i:Int)) (h:EK w0 w g n d nb mb m []) (hd:d[i]? =some deep) (hdeep:deep<=16) (hi:i<n) (hq:q=m.nd.kids.length) (hq2:q<=1048576)
 (hx:∀j x,m.nd.kids[j]? =some x->w0.cell? ⟨b2,o2+j,none⟩=some (.int .i64 x)) (hb2:b2<w0.heap.size) (hkind:m.nd.kind=2\/m.nd.kind=3)
 (ok:∀a' w' d',cN (nds ms) m.nd.kind deep m.nd.kids (i:Int) [] d=some d'->EtO a' b o n cap g i->EM w0 w' g n d'->Q .normal a' w')
 (bad:cN (nds ms) m.nd.kind deep m.nd.kids (i:Int) [] d=none->∀a' w',Below w0.heap.size w0 w'->a'.defers=[]->a'.tmps[2]? =some (.bool false)->Q .ret a' w'):K9.wp Tryz.prog Q a w:=by
 show (Code.block 2 (Code.loop (Code.seq Jk (Code.seq Jj (Code.seq (Code.block 3 Dm) K8))))).wp Tryz.prog Q a w
 refine wp_block (wp_loop (fun a' w'=>∃(j:Nat) (last:Int) (d':List Nat) (had:List ByteArray),j<=q/\EtK a' b o n cap g i nb mb b2 o2 q cap2 j last/\EK w0 w' g n d' nb mb m had/\
  cN (nds ms) m.nd.kind deep m.nd.kids (i:Int) [] d=cN (nds ms) m.nd.kind deep (m.nd.kids.drop j) last had d'/\(i:Int)<=last/\had.length=j/\d'[i]? =some deep) (fun a' _=>q-(intOf (a'.tmps.getD 83 undef)).toNat) ⟨0,_,d,[],Nat.zero_le _,hf,h,rfl,Int.le_refl _,rfl,hd⟩ ?_)
 clear hf h hd;rintro a1 w1 ⟨j,last,d1,had,hj,hf1,h1,hs,hil,hhl,hd1⟩;by_cases hjq:j<q
 ·obtain ⟨x,hxj⟩:∃x,m.nd.kids[j]? =some x:=au (by omega);have hdr:m.nd.kids.drop j=x::m.nd.kids.drop (j+1):=by
   obtain ⟨hlt,he⟩:=aAh hxj;rw[List.drop_eq_getElem_cons hlt,he]
  rw[hdr]at hs;have HK:=hid (fun (Q':Exit->Act->World->Prop) (a':Act) (hf':EtK a' b o n cap g i nb mb b2 o2 q cap2 j last)=>Jf (Q:=Q') (w:=w1) (r:=m.nd.kids.drop (j+1)) hN hb hat hn hf' h1 hd1 hdeep hi (hx j x hxj) hb2 hjq hil (by omega) hkind);obtain ⟨Hms,Hgo⟩:=aM (k:=j) (n:=q) hjq (by omega);have Hs:=hid hs;have Hbad:=hid bad;have Hd1:=hid hd1;have Hhl:=hid hhl;have Hil:=hid hil;have Hjq:=hid hjq
  clear hq hkind;have tj:decide (j<q)=true:=dT hjq;have wj:wrap64 ((j:Int)+1)=(j:Int)+1:=aW (by omega) (by omega);obtain ⟨v,rfl,eE⟩:=hf1.shape;simp only[nH,eE];clear eE;clear hf1 hs hxj hdr hx hd1 hhl hil hj hjq ok bad h1 hN hat hn;dsimp only[Jk,Jj,gW,dn,dD,ncb,ncl,nco,ncr,ncx,Tryz.f63];go_wp2
  rename_i Q1 K1 hK1
  refine HK.o _ _ ⟨rfl,rfl,rfl,rfl,rfl,rfl,rfl,rfl,rfl,rfl,rfl,rfl,rfl,rfl⟩ (fun a2 w2 k hk hik hkn hss hf2 h2=>hK1 _ _ ?_) (fun hbad a2 w2 hb2 hd2 ht2=>Hbad.o (Hs.o.trans hbad) a2 w2 hb2 hd2 ht2);subst hk;have hHE:=hid (show j+1<=q/\EK w0 w2 g n (d1.set k (deep+1)) nb mb m (((nds ms)[k]!).key::had)/\cN (nds ms) m.nd.kind deep m.nd.kids (i:Int) [] d=cN (nds ms) m.nd.kind deep (m.nd.kids.drop (j+1)) (k:Int) (((nds ms)[k]!).key::had) (d1.set k (deep+1))/\(i:Int)<=(k:Int)/\(((nds ms)[k]!).key::had).length=j+1/\(d1.set k (deep+1))[i]? =some deep from
   ⟨Hjq.o,h2,Hs.o.trans hss,by omega,by rw[aAd,Hhl.o],by rw[List.getElem?_set_ne (by omega)];exact Hd1.o⟩)
  obtain ⟨v2,rfl,eE⟩:=hf2.shape;simp only[nH,eE];clear eE;clear hf2 hss h2 hik hkn HK Hs Hbad Hd1 Hhl Hil Hjq;dsimp only[K8,gW,dn,dD,ncb,ncl,nco,ncr,ncx,Tryz.f63];go_wp2;obtain ⟨z1,z2,z3,z4,z5,z6⟩:=hHE.o;exact ⟨⟨j+1,_,_,_,z1,⟨rfl,rfl,rfl,rfl,rfl,rfl,rfl,rfl,rfl,rfl,rfl,rfl,rfl,congrArg some Hgo.o⟩,z2,z3,z4,z5,z6⟩,Hms.o⟩
 ·have ej:j=q:=by omega
  subst ej;have hfin:cN (nds ms) m.nd.kind deep m.nd.kids (i:Int) [] d=some d1:=by
   rw[hs,List.drop_eq_nil_of_le (by omega)];rfl
  have HO:=hid (fun a' hf'=>ok a' w1 d1 hfin hf' h1.em);have tj:decide (j<j)=false:=dF (Nat.lt_irrefl j);obtain ⟨v,rfl,eE⟩:=hf1.shape;simp only[nH,eE];clear eE;clear hf1 hs hx hd1 hhl hil hj hjq ok bad h1 hN hat hn hq hkind hfin;dsimp only[Jk,Jj,gW,dn,dD,ncb,ncl,nco,ncr,ncx,Tryz.f63];go_wp2;exact HO.o _ ⟨rfl,rfl,rfl,rfl,rfl,rfl,rfl⟩
theorem EK.first (h:EM w0 w g n d):EK w0 ((w.alloc (.cells #[.int .i64 m.nd.kind,.string m.nd.key,.string m.nd.text,.bool m.nd.quoted,.int .i64 m.nd.line,m.kv] 55)).alloc (.map #[] 0)) g n d w.heap.size (w.heap.size+1) m []:=by
 have hg:=(h.row.lt g rfl).2;have hs:=h.below.size;refine ⟨(h.later ((aAb _ w).alloc (aAa _) _)).later ((aAb _ _).alloc (aAa _) _),?_,hs,by omega,?_,by omega,by omega,by omega⟩
 ·rw[aj _ (by simp),ah]
 ·have:=Had.made (w.alloc (.cells #[.int .i64 m.nd.kind,.string m.nd.key,.string m.nd.text,.bool m.nd.quoted,.int .i64 m.nd.line,m.kv] 55))
  simpa using this
theorem EM.new1 (h:EM w0 w g n d) (o:Obj):Below w0.heap.size w0 (w.alloc o):=h.below.alloc h.below.size o
section
variable {ns:List Nd} {nd:Nd}
theorem wC (h:d[i]! =0\/16<d[i]!):cM ns i nd d=none:=by unfold cM;rw[if_pos h]
theorem wz (h:¬(d[i]! =0\/16<d[i]!)) (hk:nd.kind=1):cM ns i nd d=if dd nd=true then some d else none:=by unfold cM;rw[if_neg h,if_pos hk]
theorem zL (hk:¬nd.kind=1) (hb:(nd.kind≠2/\nd.kind≠3)\/nd.kids=[]\/nd.text≠⟨#[]⟩\/nd.quoted=true):cM ns i nd d=none:=by
 unfold cM
 split
 ·rfl
 ·first|rfl|rw[if_neg hk,if_pos hb]
theorem wB (h:¬(d[i]! =0\/16<d[i]!)) (hk:¬nd.kind=1) (hb:¬((nd.kind≠2/\nd.kind≠3)\/nd.kids=[]\/nd.text≠⟨#[]⟩\/nd.quoted=true)):cM ns i nd d=cN ns nd.kind d[i]! nd.kids (i:Int) [] d:=by unfold cM;rw[if_neg h,if_neg hk,if_neg hb]
end
theorem FF (hN:Nds w0 (.slice (some ⟨b,o,none⟩) n cap) ms) (hb:b<w0.heap.size) (hat:∀i m,ms[i]? =some m->NdAt w0 b (o+i*6) m/\m.Ok w0) (hg:Glob w0) (hn:ms.length=n) (hf:EtO a b o n cap g i) (h:EM w0 w g n d) (hi:i<n)
 (ok:∀a' w' d',cM (nds ms) i ((nds ms)[i]!) d=some d'->EtO a' b o n cap g i->EM w0 w' g n d'->Q .normal a' w'/\Q (.exit 1) a' w')
 (bad:cM (nds ms) i ((nds ms)[i]!) d=none->∀a' w',Below w0.heap.size w0 w'->a'.defers=[]->a'.tmps[2]? =some (.bool false)->Q .ret a' w'):Dl.wp Tryz.prog Q a w:=by
 show (Code.seq sd (Code.seq sa (Code.seq wY (Code.seq An (Code.seq K7 (Code.seq K6 (Code.seq K5 K9))))))).wp Tryz.prog Q a w
 obtain ⟨m,hm⟩:∃m,ms[i]? =some m:=au (by omega);obtain ⟨c,hok⟩:=hat i m hm;have hnd:(nds ms)[i]! =m.nd:=eS hm;rw[hnd]at ok bad;have hbl:=h.below;have c0:=(hbl.cell (p:=⟨b,o+i*6,none⟩) hb).trans c.c0;have c1:=(hbl.cell (p:=⟨b,o+i*6+1,none⟩) hb).trans c.c1;have c2:=(hbl.cell (p:=⟨b,o+i*6+2,none⟩) hb).trans c.c2;have c3:=(hbl.cell (p:=⟨b,o+i*6+3,none⟩) hb).trans c.c3;have c4:=(hbl.cell (p:=⟨b,o+i*6+4,none⟩) hb).trans c.c4
 have c5:=(hbl.cell (p:=⟨b,o+i*6+5,none⟩) hb).trans c.c5;obtain ⟨ao2,cap2,hkv,hl2,hks⟩:=aF hok.kids;obtain ⟨q,hq⟩:=ex (m.nd.kids.length);rw[<-hq]at hkv hl2 hks;rw[hkv]at c5;obtain ⟨di,hdi⟩:∃di,d[i]? =some di:=au (by rw[h.len];omega);have hdi2:d[i]! =di:=by rw[List.getElem!_eq_getElem?_getD,hdi];rfl
 have e1:=h.at hdi;have bi:(i:Int)<(n:Int):=by omega
 have e2:∀ob,(w.alloc ob).cell? ⟨g,i,none⟩=some (.int .i64 (di:Int)):=fun ob=>(World.cell?_of_block (aj ob (h.row.lt g rfl).2)).trans e1;have Hb:=hid h.below;have Hbn:=hid (fun o=>h.new1 o);have HE:=hid h;have Hbad:=hid bad;have Hok:=hid ok;have Hdi2:=hid hdi2;have HN:=hid hN;have Hsc:=hid (fun w1 (hb1:Below w0.heap.size w0 w1)=>Ao w1 m (hok.later hb1) (hg.later hb1));have hmv:m.v= .agg #[.int .i64 m.nd.kind,.string m.nd.key,.string m.nd.text,.bool m.nd.quoted,.int .i64 m.nd.line,.slice ao2 q cap2]:=by unfold NdM.v;rw[hkv]
 rw[hmv]at Hsc;have ek:m.nd.kids=[]↔q=0:=by rw[hq,List.length_eq_zero_iff]
 obtain ⟨kind,hkind⟩:=ex (m.nd.kind);obtain ⟨tx,htx⟩:=ex (m.nd.text);obtain ⟨qt,hqt⟩:=ex (m.nd.quoted);rw[<-hkind]at c0 Hsc;rw[<-htx]at c2 Hsc;rw[<-hqt]at c3 Hsc;obtain ⟨v,rfl,eE⟩:=hf.shape;simp only[nH,eE];clear eE;clear hf hN h hbl c hm hnd ok bad hg hmv hdi2;by_cases g1:di=0\/16<di
 ·have HB:=hid (Hbad.o (wC (by rw[Hdi2.o];exact g1)));by_cases g0:di=0
  ·have t1:((di:Int)==0)=true:=by rw[beq_iff_eq];omega
   clear hat hn hi hok hq hl2 hks hdi hkind htx hqt ek g0 g1 Hbad Hok HN Hsc HE hkv hb;dsimp only[sd,sa,dn,dD,ncb,ncl,nco,ncr,ncx,Tryz.f63];go_wp2;exact HB.o _ _ (Hbn.o _) rfl rfl
  ·have t1:((di:Int)==0)=false:=bF (by omega);have t2:decide (16<(di:Int))=true:=dT (by omega);clear hat hn hi hok hq hl2 hks hdi hkind htx hqt ek g0 g1 Hbad Hok HN Hsc HE hkv hb;dsimp only[sd,sa,dn,dD,ncb,ncl,nco,ncr,ncx,Tryz.f63];go_wp2;exact HB.o _ _ (Hbn.o _) rfl rfl
 ·have t1:((di:Int)==0)=false:=bF (by omega);have t2:decide (16<(di:Int))=false:=dF (by omega);have hno:¬(d[i]! =0\/16<d[i]!):=by rw[Hdi2.o];exact g1
  by_cases k1:kind=1
  ·have t3:(kind==1)=true:=by rw[beq_iff_eq];exact k1
   have hsc:=wz (ns:=nds ms) (i:=i) (nd:=m.nd) hno (by rw[<-hkind];exact k1);have HB:=hid (fun (e:dd m.nd=false)=>Hbad.o (hsc.trans (by rw[e];rfl)));have HO:=hid (fun (e:dd m.nd=true) a' w' hf' he'=>(Hok.o a' w' d (hsc.trans (by rw[e];rfl)) hf' he').2);have HE2:=hid (fun w1 (hb1:Below w.heap.size w w1)=>HE.o.later hb1);have Hbw:=hid (fun o=>(aAb w.heap.size w).alloc (aAa _) o)
   generalize dd m.nd=sb at*;clear hat hn hi hok hq hl2 hks hdi hkind htx hqt ek g1 Hbad Hok HN HE hkv hb hno k1 hsc;dsimp only[sd,sa,wY,dn,dD,ncb,ncl,nco,ncr,ncx,Tryz.f63]
   go_wp2_with fail
   refine (Hsc.o _ (Hbn.o _)).mono ?_;rintro r w1 ⟨rfl,hb1⟩;have Hb1:=hid ((Hbw.o (.cells #[.int .i64 kind,.string m.nd.key,.string tx,.bool qt,.int .i64 m.nd.line,.slice ao2 q cap2] 55)).trans (hb1.mono (Below.size (Hbw.o _))));clear hb1 Hsc;cases sb with
   |true=>
    have HX:=hid (HE2.o w1 Hb1.o);go_wp2;exact HO.o trivial _ _ ⟨rfl,rfl,rfl,rfl,rfl,rfl,rfl⟩ HX.o
   |false=>
    have HX:=hid (HE2.o w1 Hb1.o).below;go_wp2;exact HB.o trivial _ _ HX.o rfl rfl
  ·have t3:(kind==1)=false:=by rw[beq_eq_false_iff_ne];exact k1
   have HB:=hid (fun hh=>Hbad.o (zL (ns:=nds ms) (i:=i) (nd:=m.nd) (d:=d) (by rw[<-hkind];exact k1) hh));by_cases k23:kind=2\/kind=3
   ·have hf2:∃f2 f3:Bool,(kind==2)=f2/\(kind==3)=f3/\(f2=true\/(f2=false/\f3=true)):=by
     rcases k23 with e|e
     ·exact ⟨_,_,rfl,rfl,.inl (by rw[e];rfl)⟩
     ·exact ⟨_,_,rfl,rfl,.inr ⟨by rw[e];rfl,by rw[e];rfl⟩⟩
    have hr:(!(kind==2)&& !(kind==3))=false:=by rcases k23 with e|e<;>rw[e]<;>rfl
    by_cases q0:q=0
    ·have s5:((q:Int)==0)=true:=by rw[beq_iff_eq];omega
     have HB2:=hid (HB.o (.inr (.inl (ek.2 q0))));clear HB q0 hat hn hi hok hq hl2 hks hdi hkind htx hqt ek g1 Hbad Hok HN HE hkv hb hno k1 Hsc;dsimp only[sd,sa,wY,An,dn,dD,ncb,ncl,nco,ncr,ncx,Tryz.f63];rcases k23 with k2|k2<;>subst k2
     ·clear hf2;go_wp2;exact HB2.o _ _ (Hbn.o _) rfl rfl
     ·clear hf2;go_wp2;exact HB2.o _ _ (Hbn.o _) rfl rfl
    ·have s5:((q:Int)==0)=false:=bF (by omega);have p5:¬q=0:=q0;by_cases ht:tx=⟨#[]⟩
     ·obtain ⟨y4,y5,y6⟩:=gz ht;cases qt with
      |true=>
       have HB2:=hid (HB.o (.inr (.inr (.inr hqt.symm))));clear ht HB q0 hat hn hi hok hq hl2 hks hdi hkind htx hqt ek g1 Hbad Hok HN HE hkv hb hno k1 Hsc;dsimp only[sd,sa,wY,An,dn,dD,ncb,ncl,nco,ncr,ncx,Tryz.f63];rcases k23 with k2|k2<;>subst k2
       ·clear hf2;go_wp2;exact HB2.o _ _ (Hbn.o _) rfl rfl
       ·clear hf2;go_wp2;exact HB2.o _ _ (Hbn.o _) rfl rfl
      |false=>
       obtain ⟨b2,o2,rfl,hb2,hcell⟩:=hks (by omega);have HM:=wB (ns:=nds ms) (i:=i) (nd:=m.nd) (d:=d) hno (by rw[<-hkind];exact k1) (by
        rintro (e|e|e|e)
        ·rw[<-hkind]at e;rcases k23 with k|k
         ·exact e.1 k
         ·exact e.2 k
        ·exact q0 (ek.1 e)
        ·exact e (htx.symm.trans ht)
        ·rw[<-hqt]at e;cases e)
       rw[Hdi2.o]at HM;have HK:=EK.first (m:=m) HE.o;rw[<-hkind,<-htx,<-hqt,hkv]at HK;have HK2:=hid HK;have hmm:= @run_makeMap Tryz.prog;have HI:=hid (fun a' (hf':EtK a' b o n cap g i w.heap.size (w.heap.size+1) b2 o2 q cap2 0 (i:Int)) w' (hk':EK w0 w' g n d w.heap.size (w.heap.size+1) m [])=>
        Dj (Q:=Q) HN.o hb hat hn hf' hk' hdi (by omega) hi hq hl2 hcell hb2 (by rw[<-hkind];exact k23) (fun a3 w3 d3 e3 f3 m3=>(Hok.o a3 w3 d3 (HM.trans e3) f3 m3).1) (fun e3=>Hbad.o (HM.trans e3)))
       clear HB hn hat hok hi hq hl2 hdi htx hqt ek g1 Hbad Hok HN HE hkv hno k1 Hsc HM HK hb hcell hb2 hks hkind ht;clear q0;dsimp only[sd,sa,wY,An,K7,K6,K5,dn,dD,gW,ncb,ncl,nco,ncr,ncx,Tryz.f63];rcases k23 with k2|k2<;>subst k2
       ·clear hf2;go_wp2;exact HI.o _ ⟨rfl,rfl,rfl,rfl,rfl,rfl,rfl,rfl,rfl,rfl,rfl,rfl,rfl,rfl⟩ _ HK2.o
       ·clear hf2;go_wp2;exact HI.o _ ⟨rfl,rfl,rfl,rfl,rfl,rfl,rfl,rfl,rfl,rfl,rfl,rfl,rfl,rfl⟩ _ HK2.o
     ·obtain ⟨y4,y5,y6⟩:=gH ht;have HB2:=hid (HB.o (.inr (.inr (.inl (by rw[<-htx];exact ht)))));clear ht HB q0 hat hn hi hok hq hl2 hks hdi hkind htx hqt ek g1 Hbad Hok HN HE hkv hb hno k1 Hsc;dsimp only[sd,sa,wY,An,dn,dD,ncb,ncl,nco,ncr,ncx,Tryz.f63];rcases k23 with k2|k2<;>subst k2
      ·clear hf2;go_wp2;exact HB2.o _ _ (Hbn.o _) rfl rfl
      ·clear hf2;go_wp2;exact HB2.o _ _ (Hbn.o _) rfl rfl
   ·have t4:(kind==2)=false:=by rw[beq_eq_false_iff_ne];exact fun e=>k23 (.inl e)
    have t5:(kind==3)=false:=by rw[beq_eq_false_iff_ne];exact fun e=>k23 (.inr e)
    have HB2:=hid (HB.o (.inl ⟨by rw[<-hkind];exact fun e=>k23 (.inl e),by rw[<-hkind];exact fun e=>k23 (.inr e)⟩));have p4:¬kind=2:=fun e=>k23 (.inl e);have p5:¬kind=3:=fun e=>k23 (.inr e);clear HB k23;clear hat hn hi hok hq hl2 hks hdi hkind htx hqt ek g1 Hbad Hok HN HE hkv hb hno k1 Hsc;dsimp only[sd,sa,wY,An,dn,dD,ncb,ncl,nco,ncr,ncx,Tryz.f63];go_wp2;exact HB2.o _ _ (Hbn.o _) rfl rfl
end
section
variable {w0 w:World} {Q:Exit->Act->World->Prop} {a:Act} {ms:List NdM} {b o n cap g:Nat} {d:List Nat}
theorem FG (hN:Nds w0 (.slice (some ⟨b,o,none⟩) n cap) ms) (hb:b<w0.heap.size) (hat:∀i m,ms[i]? =some m->NdAt w0 b (o+i*6) m/\m.Ok w0) (hg:Glob w0) (hn:ms.length=n) (hn4:n<=4096) (hf:EtO a b o n cap g 0) (h:EM w0 w g n d)
 (ok:eJ (nds ms) (nds ms) 0 d=true->∀a' w',EtO a' b o n cap g n->Below w0.heap.size w0 w'->Q (.exit 0) a' w')
 (bad:eJ (nds ms) (nds ms) 0 d=false->∀a' w',Below w0.heap.size w0 w'->a'.defers=[]->a'.tmps[2]? =some (.bool false)->Q .ret a' w'):(ncb Ji).wp Tryz.prog Q a w:=by
 show (Code.loop (Code.seq Jh (Code.seq Jg (Code.seq (Code.block 1 Dl) K4)))).wp Tryz.prog Q a w
 have hnn:(nds ms).length=n:=by rw[bt,hn]
 refine wp_loop (fun a' w'=>∃(i:Nat) (d':List Nat),i<=n/\EtO a' b o n cap g i/\EM w0 w' g n d'/\eJ (nds ms) (nds ms) 0 d=eJ (nds ms) ((nds ms).drop i) i d') (fun a' _=>n-(intOf (a'.tmps.getD 32 undef)).toNat) ⟨0,d,Nat.zero_le _,hf,h,rfl⟩ ?_;clear hf h;rintro a1 w1 ⟨i,d1,hi,hf1,h1,hs⟩;by_cases hin:i<n
 ·have hs2:=hs.trans (BF (ns:=nds ms) (i:=i) (d:=d1) (by omega));have HK:=hid (fun (Q':Exit->Act->World->Prop) (a':Act) (hf':EtO a' b o n cap g i)=>FF (Q:=Q') (w:=w1) hN hb hat hg hn hf' h1 hin);obtain ⟨Hms,Hgo⟩:=aM (k:=i) (n:=n) hin (by omega);have Hok:=hid (fun (d2:List Nat) (e:cM (nds ms) i ((nds ms)[i]!) d1=some d2)=>show eJ (nds ms) (nds ms) 0 d=eJ (nds ms) ((nds ms).drop (i+1)) (i+1) d2 from hs2.trans (by rw[e]))
  have Hbad:=hid (fun (e:cM (nds ms) i ((nds ms)[i]!) d1=none)=>bad (hs2.trans (by rw[e])));have Hin:=hid hin;have ti:decide (i<n)=true:=dT hin;have wi:wrap64 ((i:Int)+1)=(i:Int)+1:=aW (by omega) (by omega);obtain ⟨v,rfl,eE⟩:=hf1.shape;simp only[nH,eE];clear eE;clear hf1 hs hs2 ok bad h1 hN hat hn hnn hi hin hg hb;dsimp only[Jh,Jg,dD,ncb,ncl,nco,ncr,ncx,Tryz.f63]
  go_wp2
  rename_i Q1 K1 hK1
  have Hnext:∀(a2:Act) (w2:World) (d2:List Nat),cM (nds ms) i ((nds ms)[i]!) d1=some d2->EtO a2 b o n cap g i->EM w0 w2 g n d2->K1 a2 w2:=by
   intro a2 w2 d2 e2 f2 m2;refine hK1 _ _ ?_;have HE:=hid (show i+1<=n/\EM w0 w2 g n d2/\eJ (nds ms) (nds ms) 0 d=eJ (nds ms) ((nds ms).drop (i+1)) (i+1) d2 from ⟨Hin.o,m2,Hok.o d2 e2⟩);obtain ⟨v2,rfl,eE⟩:=f2.shape;simp only[nH,eE];clear eE;clear f2 m2 e2 HK Hok Hbad;dsimp only[K4,dD,ncb,ncl,nco,ncr,ncx,Tryz.f63];go_wp2;obtain ⟨z1,z2,z3⟩:=HE.o;exact ⟨⟨i+1,_,z1,⟨rfl,rfl,rfl,rfl,rfl,rfl,congrArg some Hgo.o⟩,z2,z3⟩,Hms.o⟩
  refine HK.o _ _ ⟨rfl,rfl,rfl,rfl,rfl,rfl,rfl⟩ (fun a2 w2 d2 e2 f2 m2=>⟨Hnext a2 w2 d2 e2 f2 m2,?_⟩) (fun e2=>Hbad.o e2);exact Hnext a2 w2 d2 e2 f2 m2
 ·have ei:i=n:=by omega
  subst ei;have hfin:eJ (nds ms) (nds ms) 0 d=true:=hs.trans (zg (by omega));have HO:=hid (fun a' hf'=>ok hfin a' w1 hf' h1.below);have ti:decide (i<i)=false:=dF (Nat.lt_irrefl i);obtain ⟨v,rfl,eE⟩:=hf1.shape;simp only[nH,eE];clear eE;clear hf1 hs ok bad h1 hN hat hn hfin hnn hi hg hb;dsimp only[Jh,Jg,dD,ncb,ncl,nco,ncr,ncx,Tryz.f63];go_wp2;exact HO.o _ ⟨rfl,rfl,rfl,rfl,rfl,rfl,rfl⟩
end
theorem oh {ns:List Nd} (h:¬(ns≠[]/\ns.length<=4096/\(ns[0]!).key=⟨#[]⟩)):dI ns=false:=by unfold dI;rw[dF h];rfl
theorem yU {ns:List Nd} (h:ns≠[]/\ns.length<=4096/\(ns[0]!).key=⟨#[]⟩):dI ns=eJ ns ns 0 (1::List.replicate (ns.length-1) 0):=by unfold dI;rw[dT h];rfl
theorem zV (n:Nat):(madeCells (Value.int .i64 0).cells (n*1)).toList=np (List.replicate n 0):=by
 unfold np;rw[List.map_replicate,Nat.mul_one];apply List.ext_getElem
 ·simp[size_madeCells]
 ·intro i h1 h2;simp only[List.getElem_replicate];unfold madeCells;simp[Value.cells];rw[Nat.mod_one];rfl
theorem EM.make {w w1:World} {n:Nat} (h0:0<n) (own:w1.ownsRow w.heap.size 3 1 (.slice (some ⟨w.heap.size,0,none⟩) n n) n (madeCells (Value.int .i64 0).cells (n*1)).toList) (gr:w.grownBy w1 none):
 EM w w1 w.heap.size n (List.replicate n 0):=
 ⟨((Mod.refl (fun _=>False) w).grown gr nofun).below (aAa _) (fun _ f=>f.elim),by rw[<-zV];exact gn own 0 (Nat.zero_le _),aAa _,by simp,fun x hx=>by
  rw[List.mem_replicate]at hx;omega⟩
theorem EM.store {w0 w:World} {g n:Nat} {d:List Nat} (h:EM w0 w g n d) (k x:Nat) (hx:x<=17):EM w0 (w.setCell ⟨g,k,none⟩ (.int .i64 (x:Int))) g n (d.set k x):=by
 obtain ⟨s1,s2⟩:=h.row.stored k (.int .i64 (x:Int));have hm:Mod (fun q=>q=g) w (w.setCell ⟨g,k,none⟩ (.int .i64 (x:Int))):=(Mod.refl _ w).setCell _ _ (fun _=>rfl);refine ⟨h.below.trans (hm.below h.below.size fun q hq=>by rw[hq];exact h.new),by rw[<-qX];exact s1,h.new,by rw[List.length_set];exact h.len,fun y hy=> ?_⟩;rcases List.mem_or_eq_of_mem_set hy with q|q
 ·exact h.low y q
 ·rw[q];exact hx
theorem uo {n:Nat} (h0:0<n):(List.replicate n 0).set 0 1=1::List.replicate (n-1) 0:=by
 obtain ⟨m,rfl⟩:∃m,n=m+1:=⟨n-1,by omega⟩;rfl
theorem FE (w:World) (V:Value) (ms:List NdM) (h:Nds w V ms) (hg:Glob w):
 Calls Tryz.prog 63 #[V] w fun r w'=>r= .returned (.bool (dI (nds ms)))/\Below w.heap.size w w':=by
 obtain ⟨ao,cap,hv,hl,hat0⟩:=h.open;have hV:=h;obtain ⟨n,hn⟩:=ex (ms.length);rw[<-hn]at hv hl hat0;have hnn:(nds ms).length=n:=by rw[bt,hn]
 rw[hv]at hV;subst hv;by_cases h0:n=0
 ·have He:=hid (oh (ns:=nds ms) (fun q=>q.1 (List.eq_nil_of_length_eq_zero (by omega))));have t0:((n:Int)==0)=true:=by rw[beq_iff_eq];omega
  clear hn hl hat0 h hnn hV hg;go_enter Tryz.func63,Tryz.ntmps63;go_wp2;go_ret;exact ⟨eD He.o.symm,aAb _ _⟩
 ·have t0:((n:Int)==0)=false:=bF (by omega);by_cases h1:4096<n
  ·have He:=hid (oh (ns:=nds ms) (fun q=>by have:=q.2.1;omega));have t1:decide (4096<(n:Int))=true:=dT (by omega);clear hn hl hat0 h hnn hV hg h0;go_enter Tryz.func63,Tryz.ntmps63;go_wp2;go_ret;exact ⟨eD He.o.symm,aAb _ _⟩
  ·have t1:decide (4096<(n:Int))=false:=dF (by omega);obtain ⟨b,o,rfl,hlt,hat⟩:=hat0 (by omega);obtain ⟨m0,hm0⟩:∃m0,ms[0]? =some m0:=au (by omega);have f1:=(hat 0 m0 hm0).1.c1;rw[Nat.zero_mul,Nat.add_zero]at f1;have hk0:((nds ms)[0]!)=m0.nd:=eS hm0;obtain ⟨key,hkey⟩:=ex (m0.nd.key);rw[<-hkey]at f1;have b0:(0:Int)<(n:Int):=by omega
   by_cases hky:key=⟨#[]⟩
   ·obtain ⟨k1,k2,k3⟩:=gz hky;have hok:=yU (ns:=nds ms) ⟨fun q=>by rw[q]at hnn;exact h0 hnn.symm,by omega,by rw[hk0,<-hkey];exact hky⟩;rw[hnn]at hok;obtain ⟨i0,hi5,hz0,hz1,hz2⟩:=info_parts gR;have Hby:=hid (show i0.bytes*n<=281474976710656 by rw[hz2];omega);have Hml:=hid (show n<=maxLen by unfold maxLen;omega);have Hi5:=hid hi5;have Hz0:=hid hz0;have Hz1:=hid hz1;have Hfirst:=hid (fun w1 own gr=>EM.make (w:=w) (w1:=w1) (n:=n) (by omega) own gr)
    have HR:=hid (show (List.replicate n 0)[0]? =some 0 by rw[List.getElem?_replicate,if_pos (by omega)]);have Hfd:=hid (uo (n:=n) (by omega));have HL:=hid (fun (Q':Exit->Act->World->Prop) (a':Act) w' (hf':EtO a' b o n cap w.heap.size 0) h'=>FG (Q:=Q') (w0:=w) (w:=w') (a:=a') (d:=1::List.replicate (n-1) 0) hV hlt hat hg hn.symm (by omega) hf' h');rw[<-hok]at HL;generalize dI (nds ms)=tp at*
    clear hn hl hat0 hat hlt hm0 hk0 hkey h hV hnn hg h0 h1 hky hok hi5 hz0 hz1 hz2;go_enter Tryz.func63,Tryz.ntmps63
    go_wp2_with (at_make;refine wpList_make_full _ rfl _ _ 53 rfl w.heap.size 3 i0 (.int .i64 0) 1 Tryz.underlying53 Hi5.o Hz0.o Hz1.o _ _ _ _ n rfl rfl rfl rfl Hby.o Hml.o (aAa _) ?_;intro w1 own gr;have HF:=hid (Hfirst.o w1 own gr);have fz:=HF.o.frozen 0;have ce:=HF.o.at HR.o;clear own gr)
    have HE:=hid (show EM w (w1.setCell ⟨w.heap.size,0,none⟩ (.int .i64 1)) w.heap.size n (1::List.replicate (n-1) 0) from by
     have:=HF.o.store 0 1 (by omega);rw[Hfd.o]at this;exact this)
    rename_i Q1 K1 hK1
    refine HL.o _ _ _ ⟨rfl,rfl,rfl,rfl,rfl,rfl,rfl⟩ HE.o (fun e a2 w2 f2 b2=>zE (hK1 _ _ ?_)) (fun e a2 w2 b2 d2 t2=> ?_)
    ·have Hb2:=hid b2;have He:=hid e;obtain ⟨v2,rfl,eE⟩:=f2.shape;simp only[nH,eE];clear eE;clear f2 b2 e HL HE HF ce fz Hfirst;go_wp2;go_ret;exact ⟨eD He.o.symm,Hb2.o⟩
    ·refine ⟨d2,.bool false,?_,eD e.symm,b2⟩;rw[<-nW t2];exact results_tmp rfl _ _ _
   ·obtain ⟨k1,k2,k3⟩:=gH hky;have He:=hid (oh (ns:=nds ms) (fun q=>hky (by rw[hkey,<-hk0];exact q.2.2)));clear hn hl hat0 hat hlt hm0 hk0 hkey h hV hnn hg h0 h1 hky;go_enter Tryz.func63,Tryz.ntmps63;go_wp2;go_ret;exact ⟨eD He.o.symm,aAb _ _⟩
