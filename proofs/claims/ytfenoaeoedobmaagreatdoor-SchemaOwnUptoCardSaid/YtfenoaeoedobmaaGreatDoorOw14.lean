/-
Parts of a proof.
-/
import Derived.Test.YtfenoaeoedobmaaGreatDoorOw13
set_option linter.unusedVariables false
set_option linter.unusedSimpArgs false
set_option maxHeartbeats 4000000
set_option maxRecDepth 20000
namespace Go.Proofs.YtfenoaeoedobmaaGreatDoor
open Go Go.RowKit
noncomputable def I6:Code:=(ncr (ncr (ncr (ncr (ncx Tryz.f64.body)))))
noncomputable def I5:Code:=(ncl (nco (ncb (ncr (ncr (ncr (ncr (ncx Tryz.f64.body))))))))
noncomputable def I4:Code:=(ncl (ncr (nco (ncb (ncr (ncr (ncr (ncr (ncx Tryz.f64.body)))))))))
noncomputable def KT:Code:=(ncr (ncr (ncr (nco (ncb (ncr (ncr (ncr (ncr (ncx Tryz.f64.body))))))))))
noncomputable def xT:Code:=(ncb (ncl (ncr (ncr (nco (ncb (ncr (ncr (ncr (ncr (ncx Tryz.f64.body)))))))))))
noncomputable def Fq:Code:=(ncl (ncb (ncl (ncr (ncr (nco (ncb (ncr (ncr (ncr (ncr (ncx Tryz.f64.body))))))))))))
noncomputable def Fp:Code:=(ncl (ncr (ncb (ncl (ncr (ncr (nco (ncb (ncr (ncr (ncr (ncr (ncx Tryz.f64.body)))))))))))))
noncomputable def Fm:Code:=(ncl (ncr (ncr (ncb (ncl (ncr (ncr (nco (ncb (ncr (ncr (ncr (ncr (ncx Tryz.f64.body))))))))))))))
noncomputable def Fl:Code:=(ncl (ncr (ncr (ncr (ncb (ncl (ncr (ncr (nco (ncb (ncr (ncr (ncr (ncr (ncx Tryz.f64.body)))))))))))))))
noncomputable def Fk:Code:=(ncl (ncr (ncr (ncr (ncr (ncb (ncl (ncr (ncr (nco (ncb (ncr (ncr (ncr (ncr (ncx Tryz.f64.body))))))))))))))))
noncomputable def Fj:Code:=(ncl (ncr (ncr (ncr (ncr (ncr (ncb (ncl (ncr (ncr (nco (ncb (ncr (ncr (ncr (ncr (ncx Tryz.f64.body)))))))))))))))))
noncomputable def CA:Code:=(ncr (ncr (ncr (ncr (ncr (ncr (ncb (ncl (ncr (ncr (nco (ncb (ncr (ncr (ncr (ncr (ncx Tryz.f64.body)))))))))))))))))
def nC (v:Nat->Value):Act:=⟨#[v 0,v 1,v 2,v 3,v 4,v 5,v 6,v 7,v 8,v 9,v 10,v 11,v 12,v 13,v 14,v 15,v 16,v 17,v 18,v 19,v 20,v 21,v 22,v 23,v 24,v 25,v 26,v 27,v 28,v 29,v 30,v 31,v 32,v 33,v 34,v 35,v 36,v 37,v 38,v 39,v 40,v 41,v 42,v 43,v 44,v 45,v 46,v 47,v 48,v 49,v 50,v 51,v 52,v 53,v 54,v 55,v 56,v 57,v 58,v 59,v 60,v 61,v 62,v 63,v 64,v 65,v 66,v 67,v 68,v 69,v 70,v 71,v 72,v 73,v 74,v 75,v 76,v 77,v 78,v 79,v 80,v 81,v 82,v 83,v 84,v 85,v 86,v 87,v 88,v 89,v 90,v 91,v 92,v 93,v 94],[]⟩
theorem wG (a:Act) (hs:a.tmps.size=95) (hd:a.defers=[]):∃v:Nat->Value,(∀(i:Nat) (x:Value),a.tmps[i]? =some x->v i=x)/\a=nC v:=by
 obtain ⟨t,d⟩:=a;obtain ⟨l⟩:=t;obtain rfl:d=[]:=hd;have hl:l.length=95:=hs;refine ⟨fun i=>l.getD i undef,fun i x hx=> ?_,?_⟩
 ·have hx':l[i]? =some x:=by simpa using hx
  simp[List.getD,hx']
 ·have e:l=(List.range 95).map (fun i=>l.getD i undef):=by
   apply List.ext_getElem
   ·simp[hl]
   ·intro i h1 h2;simp[List.getD,h1]
  generalize (fun i=>l.getD i undef)=v at e |-;subst e;rfl
structure LyA (a:Act) (pb:Nat) (V:Value) (ind:Nat) (nb:Nat) (b2:Nat) (o2:Nat) (q:Nat) (cap2:Nat) (j:Nat) (th:Bool):Prop where
 size:a.tmps.size=95
 dfr:a.defers=[]
 s0:a.tmps[0]? =some (.pointer (some ⟨pb,0,none⟩))
 s1:a.tmps[1]? =some (V)
 s3:a.tmps[3]? =some (.int .i64 (ind:Int))
 s4:a.tmps[4]? =some (.bool th)
 s10:a.tmps[10]? =some (.func (.func 96) #[.pointer (some ⟨pb,0,none⟩)] #[])
 s11:a.tmps[11]? =some (.pointer (some ⟨nb,0,none⟩))
 s36:a.tmps[36]? =some (.slice (some ⟨b2,o2,none⟩) q cap2)
 s37:a.tmps[37]? =some (.int .i64 (q:Int))
 s38:a.tmps[38]? =some (.int .i64 (j:Int))
theorem LyA.shape {a:Act} {pb:Nat} {V:Value} {ind:Nat} {nb:Nat} {b2:Nat} {o2:Nat} {q:Nat} {cap2:Nat} {j:Nat} {th:Bool} (h:LyA a pb V ind nb b2 o2 q cap2 j th):∃v:Nat->Value,a=nC v/\v 0= .pointer (some ⟨pb,0,none⟩)/\v 1=V/\v 3= .int .i64 (ind:Int)/\v 4= .bool th/\v 10= .func (.func 96) #[.pointer (some ⟨pb,0,none⟩)] #[]/\v 11= .pointer (some ⟨nb,0,none⟩)/\v 36= .slice (some ⟨b2,o2,none⟩) q cap2/\v 37= .int .i64 (q:Int)/\v 38= .int .i64 (j:Int):=by
 obtain ⟨v,hv,hd⟩:=wG a h.size h.dfr;exact ⟨v,hd,hv 0 _ h.s0,hv 1 _ h.s1,hv 3 _ h.s3,hv 4 _ h.s4,hv 10 _ h.s10,hv 11 _ h.s11,hv 36 _ h.s36,hv 37 _ h.s37,hv 38 _ h.s38⟩
structure LyB (a:Act) (pb:Nat) (V:Value) (ind:Nat) (nb:Nat) (b2:Nat) (o2:Nat) (q:Nat) (cap2:Nat) (j:Nat) (k:Nat):Prop where
 size:a.tmps.size=95
 dfr:a.defers=[]
 s0:a.tmps[0]? =some (.pointer (some ⟨pb,0,none⟩))
 s1:a.tmps[1]? =some (V)
 s3:a.tmps[3]? =some (.int .i64 (ind:Int))
 s10:a.tmps[10]? =some (.func (.func 96) #[.pointer (some ⟨pb,0,none⟩)] #[])
 s11:a.tmps[11]? =some (.pointer (some ⟨nb,0,none⟩))
 s14:a.tmps[14]? =some (.int .i64 (k:Int))
 s36:a.tmps[36]? =some (.slice (some ⟨b2,o2,none⟩) q cap2)
 s37:a.tmps[37]? =some (.int .i64 (q:Int))
 s38:a.tmps[38]? =some (.int .i64 (j:Int))
theorem LyB.shape {a:Act} {pb:Nat} {V:Value} {ind:Nat} {nb:Nat} {b2:Nat} {o2:Nat} {q:Nat} {cap2:Nat} {j:Nat} {k:Nat} (h:LyB a pb V ind nb b2 o2 q cap2 j k):∃v:Nat->Value,a=nC v/\v 0= .pointer (some ⟨pb,0,none⟩)/\v 1=V/\v 3= .int .i64 (ind:Int)/\v 10= .func (.func 96) #[.pointer (some ⟨pb,0,none⟩)] #[]/\v 11= .pointer (some ⟨nb,0,none⟩)/\v 14= .int .i64 (k:Int)/\v 36= .slice (some ⟨b2,o2,none⟩) q cap2/\v 37= .int .i64 (q:Int)/\v 38= .int .i64 (j:Int):=by
 obtain ⟨v,hv,hd⟩:=wG a h.size h.dfr;exact ⟨v,hd,hv 0 _ h.s0,hv 1 _ h.s1,hv 3 _ h.s3,hv 10 _ h.s10,hv 11 _ h.s11,hv 14 _ h.s14,hv 36 _ h.s36,hv 37 _ h.s37,hv 38 _ h.s38⟩
structure LyC (a:Act) (pb:Nat) (V:Value) (ind:Nat) (nb:Nat) (b2:Nat) (o2:Nat) (q:Nat) (cap2:Nat) (j:Nat) (k:Nat) (kb:Nat) (mk:ByteArray):Prop where
 size:a.tmps.size=95
 dfr:a.defers=[]
 s0:a.tmps[0]? =some (.pointer (some ⟨pb,0,none⟩))
 s1:a.tmps[1]? =some (V)
 s3:a.tmps[3]? =some (.int .i64 (ind:Int))
 s4:a.tmps[4]? =some (.bool false)
 s10:a.tmps[10]? =some (.func (.func 96) #[.pointer (some ⟨pb,0,none⟩)] #[])
 s11:a.tmps[11]? =some (.pointer (some ⟨nb,0,none⟩))
 s14:a.tmps[14]? =some (.int .i64 (k:Int))
 s15:a.tmps[15]? =some (.pointer (some ⟨kb,0,none⟩))
 s16:a.tmps[16]? =some (.string mk)
 s36:a.tmps[36]? =some (.slice (some ⟨b2,o2,none⟩) q cap2)
 s37:a.tmps[37]? =some (.int .i64 (q:Int))
 s38:a.tmps[38]? =some (.int .i64 (j:Int))
theorem LyC.shape {a:Act} {pb:Nat} {V:Value} {ind:Nat} {nb:Nat} {b2:Nat} {o2:Nat} {q:Nat} {cap2:Nat} {j:Nat} {k:Nat} {kb:Nat} {mk:ByteArray} (h:LyC a pb V ind nb b2 o2 q cap2 j k kb mk):∃v:Nat->Value,a=nC v/\v 0= .pointer (some ⟨pb,0,none⟩)/\v 1=V/\v 3= .int .i64 (ind:Int)/\v 4= .bool false/\v 10= .func (.func 96) #[.pointer (some ⟨pb,0,none⟩)] #[]/\v 11= .pointer (some ⟨nb,0,none⟩)/\v 14= .int .i64 (k:Int)/\v 15= .pointer (some ⟨kb,0,none⟩)/\v 16= .string mk/\v 36= .slice (some ⟨b2,o2,none⟩) q cap2/\v 37= .int .i64 (q:Int)/\v 38= .int .i64 (j:Int):=by
 obtain ⟨v,hv,hd⟩:=wG a h.size h.dfr;exact ⟨v,hd,hv 0 _ h.s0,hv 1 _ h.s1,hv 3 _ h.s3,hv 4 _ h.s4,hv 10 _ h.s10,hv 11 _ h.s11,hv 14 _ h.s14,hv 15 _ h.s15,hv 16 _ h.s16,hv 36 _ h.s36,hv 37 _ h.s37,hv 38 _ h.s38⟩
structure Apart (w:World) (pb:Nat) (v:Value) (b:Nat) (o:Obj):Prop where
 blk:w.heap[b]? =some o
 ne:b≠pb
 nv:∀g,v.ownBlock=some g->g≠b
theorem Apart.step {w w2:World} {pb b:Nat} {v v2:Value} {o:Obj} {l2:List UInt8} (h:Apart w pb v b o) (p:PgTo w pb v w2 v2 l2):Apart w2 pb v2 b o:=by
 have hlt:=ag h.blk;refine ⟨p.mod.heap h.blk (by
  rintro (e|e)
  ·exact h.ne e
  ·exact h.nv b e rfl),h.ne,fun g hg e=> ?_⟩
 rcases p.new g hg with q|q
 ·exact h.nv g q e
 ·omega
theorem Apart.new {w:World} {pb:Nat} {v:Value} {l:List UInt8} (h:Pg w pb v l) (o:Obj):Apart (w.alloc o) pb v w.heap.size o:=
 ⟨ah o,by have:=h.lt;omega,fun g hg=>by have:=(h.row.lt g hg).2;omega⟩
theorem pieces (w:World) (ss:List ByteArray) (arr:Array Value) (harr:arr.toList=ss.map Value.string) (n:Nat) (hn:n=ss.length) (hl:n<=1048576) (T:TypeId):
 SlR (w.alloc (.cells arr T)) (.slice (some ⟨w.heap.size,0,none⟩) n n) 1 ss aR:=by
 subst hn;refine ⟨some ⟨w.heap.size,0,none⟩,ss.length,rfl,hl,fun h0=>⟨w.heap.size,0,rfl,by simp,fun i x hi j u hu=> ?_⟩⟩;cases j with
 |succ j=>simp[aR]at hu
 |zero=>
  simp only[aR,List.getElem?_cons_zero,Option.some.injEq]at hu;subst hu;rw[Nat.mul_one,Nat.zero_add,Nat.add_zero,af (ah _),<-Array.getElem?_toList,harr,List.getElem?_map,hi];rfl
theorem lh {w:World} {pb:Nat} {v:Value} {l:List UInt8} (h:Pg w pb v l) (ss:List ByteArray) (arr:Array Value) (harr:arr.toList=ss.map Value.string) (n:Nat) (hn:n=ss.length) (hl:n<=1048576) (T:TypeId) (hsz:∀s∈ss,s.size<=5000000):
 Calls Tryz.prog 96 #[.pointer (some ⟨pb,0,none⟩),.slice (some ⟨w.heap.size,0,none⟩) n n] (w.alloc (.cells arr T)) fun r w'=>r= .returned (.tuple #[])/\∃v',PgTo w pb v w' v' (j8 l ss):=by
 have hp:=(PgTo.refl h).alloc (.cells arr T);refine (Kt _ pb v l hp.pg _ ss (pieces w ss arr harr n hn hl T) hsz ?_).mono ?_
 ·intro b o n c e;simp only[Value.slice.injEq,Option.some.injEq,Addr.mk.injEq]at e;have:=h.lt;refine ⟨by omega,fun e2=> ?_⟩;have:=(h.row.lt b e2).2;omega
 ·rintro r w' ⟨hr,v',h'⟩;exact ⟨hr,v',hp.trans h'⟩
def rR (ind:Nat) (th:Bool) (out:List UInt8):List UInt8:=if th=true then out else fJ out (List.replicate ind 32)
def fX (kind:Int) (key:ByteArray):List UInt8:=if kind=2 then ly key.data.toList++[58] else [45]
def qP (ns:List Nd) (lay:Nat->Nat->Bool->List UInt8->List UInt8) (kind:Int) (ind:Nat) (k:Nat) (out:List UInt8):List UInt8:=
 if (ns[k]!).kind=1 then fJ (fJ (fJ out (fX kind (ns[k]!).key)) (dQ (ns[k]!))) [10]
 else if kind=2 then lay k (ind+2) false (fJ (fJ out (fX kind (ns[k]!).key)) [10])
 else lay k (ind+2) true (fJ (fJ out (fX kind (ns[k]!).key)) [32])
theorem Ad (ns:List Nd) (lay:Nat->Nat->Bool->List UInt8->List UInt8) (kind:Int) (ind k:Nat) (r:List Int) (th:Bool) (out:List UInt8):
 lu ns lay kind ind ((k:Int)::r) th out=lu ns lay kind ind r false (qP ns lay kind ind k (rR ind th out)):=by
 rw[lu];congr 1;rw[Int.toNat_natCast];unfold qP rR;by_cases h1:(ns[k]!).kind=1
 ·rw[if_pos h1,if_pos h1];rfl
 ·rw[if_neg h1,if_neg h1];by_cases h2:kind=2
  ·rw[if_pos h2,if_pos h2];unfold fX;rw[if_pos h2]
  ·rw[if_neg h2,if_neg h2];unfold fX;rw[if_neg h2]
structure Base (w0 w:World) (pb:Nat) (v:Value):Prop where
 below:Below w0.heap.size w0 w
 pb:w0.heap.size<=pb
 own:∀g,v.ownBlock=some g->w0.heap.size<=g
theorem Base.step {w0 w w2:World} {pb:Nat} {v v2:Value} {l2:List UInt8} (h:Base w0 w pb v) (p:PgTo w pb v w2 v2 l2):Base w0 w2 pb v2:=
 ⟨h.below.trans (p.mod.below h.below.size fun k hk=>by
  rcases hk with e|e
  ·rw[e];exact h.pb
  ·exact h.own k e),h.pb,fun g hg=>by
  rcases p.new g hg with e|e
  ·exact h.own g e
  ·exact aAe h.below.size e⟩
abbrev NdO (m:NdM):Obj:= .cells #[.int .i64 m.nd.kind,.string m.nd.key,.string m.nd.text,.bool m.nd.quoted,.int .i64 m.nd.line,m.kv] 55
theorem zo (c:Nat):Lib.repeatL (⟨#[32]⟩:ByteArray).data.toList c=List.replicate c 32:=by
 induction c with
 |zero=>rfl
 |succ c ih=>
  show [32]++Lib.repeatL _ c=_
  rw[ih];rfl
section
variable {w0 w:World} {Q:Exit->Act->World->Prop} {a:Act} {ms:List NdM} {pb:Nat} {V:Value} {ind nb b2 o2 q cap2 j k:Nat} {th:Bool} {v:Value} {l:List UInt8} {m mk:NdM}
theorem ly_a (X:Code) (hf:LyA a pb V ind nb b2 o2 q cap2 j th) (h:Pg w pb v l) (hx:w.cell? ⟨b2,o2+j,none⟩=some (.int .i64 (k:Int))) (hj:j<q) (hind:ind<=10000)
 (ok:∀a' w' v',LyB a' pb V ind nb b2 o2 q cap2 j k->PgTo w pb v w' v' (rR ind th l)->X.wp Tryz.prog Q a' w'):(Code.seq Fq (Code.seq Fp X)).wp Tryz.prog Q a w:=by
 have bj:(j:Int)<(q:Int):=by omega
 have Hok:=hid ok;have H0:=hid (PgTo.refl h);obtain ⟨vv,rfl,eE⟩:=hf.shape;simp only[nC,eE];clear eE;clear hf ok;cases th with
 |true=>
  clear h hj hind;dsimp only[Fq,Fp,ncs,ncl,ncr,ncb,nco,nct,nce,ncx,Tryz.f64];go_wp2;exact Hok.o _ _ v ⟨rfl,rfl,rfl,rfl,rfl,rfl,rfl,rfl,rfl,rfl,rfl⟩ H0.o
 |false=>
  have Hr:=hid (Tryz.strings_Repeat ⟨#[32]⟩ ind w (by omega) (by show 1*ind<=_;omega));rw[zo]at Hr;have Hp:=hid (fun w1 (hb:Below w.heap.size w w1)=>lh (w:=w1) (h.later hb) [⟨(List.replicate ind 32).toArray⟩] #[.string ⟨(List.replicate ind 32).toArray⟩] rfl 1 rfl (by decide) 9 (fun s hs=>by
   simp only[List.mem_singleton]at hs;subst hs;simp[ByteArray.size];omega))
  have HP0:=hid (fun w1 (hb:Below w.heap.size w w1)=>PgTo.below h hb);clear h hj hind H0;dsimp only[Fq,Fp,ncs,ncl,ncr,ncb,nco,nct,nce,ncx,Tryz.f64]
  go_wp2_with fail
  refine Hr.o.mono ?_;rintro r w1 ⟨rfl,hb⟩;have Hp1:=hid (Hp.o w1 hb);have HP1:=hid (HP0.o w1 hb);clear hb Hr Hp HP0
  go_wp2_with fail
  refine Hp1.o.mono ?_;rintro r w2 ⟨rfl,v2,hp⟩;have HP2:=hid (HP1.o.trans hp);clear hp Hp1 HP1;go_wp2;refine Hok.o _ _ v2 ⟨rfl,rfl,rfl,rfl,rfl,rfl,rfl,rfl,rfl,rfl,rfl⟩ ?_;have:=HP2.o;unfold rR
  simpa[j8] using this
theorem ly_b (X:Code) {b o n cap:Nat} {kind:Int} (hf:LyB a pb (.slice (some ⟨b,o,none⟩) n cap) ind nb b2 o2 q cap2 j k) (h:Pg w pb v l) (hat:NdAt w b (o+k*6) mk) (hmk:mk.Ok w) (hk:k<n)
 (hn0:w.cell? ⟨nb,0,none⟩=some (.int .i64 kind)) (hnb:nb<w.heap.size) (hkind:kind=2\/kind=3)
 (ok:∀a' w',LyC a' pb (.slice (some ⟨b,o,none⟩) n cap) ind nb b2 o2 q cap2 j k w.heap.size ⟨(fX kind mk.nd.key).toArray⟩->PgTo w pb v w' v l->Apart w' pb v w.heap.size (NdO mk)->X.wp Tryz.prog Q a' w'):
 (Code.seq Fm (Code.seq Fl (Code.seq Fk (Code.seq Fj X)))).wp Tryz.prog Q a w:=by
 have bk:(k:Int)<(n:Int):=by omega
 obtain ⟨ao3,c3,hkv,_,_⟩:=aF hmk.kids;obtain ⟨q3,hq3⟩:=ex (mk.nd.kids.length);rw[<-hq3]at hkv;have x0:=hat.c0;have x1:=hat.c1;have x2:=hat.c2;have x3:=hat.c3;have x4:=hat.c4;have x5:=hat.c5;rw[hkv]at x5;have hks:=hmk.key;have Hok:=hid ok;have HA:=hid (Apart.new h (NdO mk));have HP:=hid ((PgTo.refl h).alloc (NdO mk));have hE:NdO mk= .cells #[.int .i64 mk.nd.kind,.string mk.nd.key,.string mk.nd.text,.bool mk.nd.quoted,.int .i64 mk.nd.line,.slice ao3 q3 c3] 55 :=by unfold NdO;rw[hkv]
 rw[hE]at HA HP;rw[hE]at Hok;have hn1:∀ob,(w.alloc ob).cell? ⟨nb,0,none⟩=some (.int .i64 kind):=fun ob=>(World.cell?_of_block (aj ob hnb)).trans hn0;obtain ⟨vv,rfl,eE⟩:=hf.shape;simp only[nC,eE];clear eE;clear hf ok h hat hmk hkv hq3 hE hk;rcases hkind with rfl|rfl
 ·have Hk:=hid (fun w1=>Jp w1 mk.nd.key hks);have hadd:=sm (ly mk.nd.key.data.toList) [58] (by
   have h1:(ly mk.nd.key.data.toList).length<=4*mk.nd.key.data.toList.length+2:=by
    unfold ly
    split
    ·omega
    ·exact iF _
   rw[an]at h1;simp;omega)
  have hm:fX 2 mk.nd.key=ly mk.nd.key.data.toList++[58]:=by unfold fX;rw[if_pos rfl]
  rw[hm]at Hok;clear hks hm;dsimp only[Fm,Fl,Fk,Fj,ncs,ncl,ncr,ncb,nco,nct,nce,ncx,Tryz.f64]
  go_wp2_with fail
  refine (Hk.o _).mono ?_;rintro r w1 ⟨rfl,hb⟩;have HA1:=hid (HA.o.step (PgTo.below HP.o.pg hb));have HP1:=hid (HP.o.trans (PgTo.below HP.o.pg hb));clear hb Hk HA HP;go_wp2;exact Hok.o _ _ ⟨rfl,rfl,rfl,rfl,rfl,rfl,rfl,rfl,rfl,rfl,rfl,rfl,rfl,rfl⟩ HP1.o HA1.o
 ·have hm:fX 3 mk.nd.key=[45]:=rfl;rw[hm]at Hok;clear hks hm;dsimp only[Fm,Fl,Fk,Fj,ncs,ncl,ncr,ncb,nco,nct,nce,ncx,Tryz.f64];go_wp2;exact Hok.o _ _ ⟨rfl,rfl,rfl,rfl,rfl,rfl,rfl,rfl,rfl,rfl,rfl,rfl,rfl,rfl⟩ HP.o HA.o
theorem ly_c {kb:Nat} {mkL:List UInt8} {ns:List Nd} {LAY:Nat->Nat->Bool->List UInt8->List UInt8} (hf:LyC a pb V ind nb b2 o2 q cap2 j k kb ⟨mkL.toArray⟩) (h:Pg w pb v l) (hA:Apart w pb v kb (NdO mk)) (hmk:mk.Ok w)
 (hn:Apart w pb v nb (NdO m)) (hkd:(ns[k]!)=mk.nd) (hkey:fX m.nd.kind mk.nd.key=mkL) (hml:mkL.length<=5000000) (hind:ind<=10000)
 (ih:∀th w1 v1 l1,PgTo w pb v w1 v1 l1->Calls Tryz.prog 64 #[.pointer (some ⟨pb,0,none⟩),V,.int .i64 (k:Int),.int .i64 ((ind:Int)+2),.bool th] w1 fun r w'=>r= .returned (.tuple #[])/\∃v',PgTo w1 pb v1 w' v' (LAY k (ind+2) th l1))
 (ok:∀a' w' v',LyA a' pb V ind nb b2 o2 q cap2 j false->PgTo w pb v w' v' (qP ns LAY m.nd.kind ind k l)->Q .normal a' w'):CA.wp Tryz.prog Q a w:=by
 have Hok:=hid ok;have Hih:=hid ih;have Hkd:=hid hkd;have Hkey:=hid hkey;obtain ⟨ao3,c3,hkv,_,_⟩:=aF hmk.kids;obtain ⟨q3,hq3⟩:=ex (mk.nd.kids.length);rw[<-hq3]at hkv;obtain ⟨x0,x1,x2,x3,x4,x5⟩:=cB6 hA.blk;have y0:=af hn.blk 0;simp[hkv]at x0 x1 x2 x3 x4 x5 y0;have wi:=aW (z:=(ind:Int)+2) (by omega) (by omega);by_cases h1:mk.nd.kind=1
 ·have t1:(mk.nd.kind==1)=true:=by rw[beq_iff_eq];exact h1
  have hmv:mk.v= .agg #[.int .i64 mk.nd.kind,.string mk.nd.key,.string mk.nd.text,.bool mk.nd.quoted,.int .i64 mk.nd.line,.slice ao3 q3 c3]:=by unfold NdM.v;rw[hkv]
  have Ht:=hid (yl w mk hmk);rw[hmv]at Ht;have htl:(dQ mk.nd).length<=5000000:=by
   have h3:=hmk.text;have h2:=iF mk.nd.text.data.toList;rw[an]at h2;unfold dQ
   split
   ·rw[aAd];omega
   ·split
    ·rw[aAd,an];omega
    ·simp
  have Hp:=hid (fun w1 (hb:Below w.heap.size w w1)=>lh (w:=w1) (h.later hb) [⟨mkL.toArray⟩,⟨(dQ mk.nd).toArray⟩,⟨#[10]⟩] #[.string ⟨mkL.toArray⟩,.string ⟨(dQ mk.nd).toArray⟩,.string ⟨#[10]⟩] rfl 3 rfl (by decide) 9 (fun s hs=>by
   simp only[List.mem_cons,List.not_mem_nil,or_false]at hs;rcases hs with rfl|rfl|rfl
   ·simp[ByteArray.size];omega
   ·simp[ByteArray.size];omega
   ·decide))
  have HP0:=hid (fun w1 (hb:Below w.heap.size w w1)=>PgTo.below h hb);have H1:=hid h1;obtain ⟨vv,rfl,eE⟩:=hf.shape;simp only[nC,eE];clear eE;clear hf ok ih hkd hkey h hA hmk hn hml hind hq3 hmv htl h1 hkv Hih;dsimp only[CA,ncs,ncl,ncr,ncb,nco,nct,nce,ncx,Tryz.f64]
  go_wp2_with fail
  refine Ht.o.mono ?_;rintro r w1 ⟨rfl,hb⟩;have Hp1:=hid (Hp.o w1 hb);have HP1:=hid (HP0.o w1 hb);clear hb Ht Hp HP0
  go_wp2_with fail
  refine Hp1.o.mono ?_;rintro r w2 ⟨rfl,v2,hp⟩;have HP2:=hid (HP1.o.trans hp);clear hp Hp1 HP1;go_wp2;refine Hok.o _ _ v2 ⟨rfl,rfl,rfl,rfl,rfl,rfl,rfl,rfl,rfl,rfl,rfl⟩ ?_;have:=HP2.o;unfold qP;rw[Hkd.o,if_pos H1.o,Hkey.o]
  simpa[j8] using this
 ·have t1:(mk.nd.kind==1)=false:=by rw[beq_eq_false_iff_ne];exact h1
  have H1:=hid h1;by_cases h2:m.nd.kind=2
  ·have t2:(m.nd.kind==2)=true:=by rw[beq_iff_eq];exact h2
   have H2:=hid h2;have Hp:=hid (lh (w:=w) h [⟨mkL.toArray⟩,⟨#[10]⟩] #[.string ⟨mkL.toArray⟩,.string ⟨#[10]⟩] rfl 2 rfl (by decide) 9 (fun s hs=>by
    simp only[List.mem_cons,List.not_mem_nil,or_false]at hs;rcases hs with rfl|rfl
    ·simp[ByteArray.size];omega
    ·decide))
   obtain ⟨vv,rfl,eE⟩:=hf.shape;simp only[nC,eE];clear eE;clear hf ok ih hkd hkey h hA hmk hn hml hind hq3 h1 h2 hkv;dsimp only[CA,ncs,ncl,ncr,ncb,nco,nct,nce,ncx,Tryz.f64]
   go_wp2_with fail
   refine Hp.o.mono ?_;rintro r w2 ⟨rfl,v2,hp⟩;have HP2:=hid hp;have Hi:=hid (Hih.o false w2 v2 _ hp);clear hp Hp Hih
   go_wp2_with fail
   refine Hi.o.mono ?_;rintro r w3 ⟨rfl,v3,hp3⟩;have HP3:=hid (HP2.o.trans hp3);clear hp3 Hi HP2;go_wp2;refine Hok.o _ _ v3 ⟨rfl,rfl,rfl,rfl,rfl,rfl,rfl,rfl,rfl,rfl,rfl⟩ ?_;have:=HP3.o;unfold qP;rw[Hkd.o,if_neg H1.o,if_pos H2.o,Hkey.o]
   simpa[j8] using this
  ·have t2:(m.nd.kind==2)=false:=by rw[beq_eq_false_iff_ne];exact h2
   have H2:=hid h2;have Hp:=hid (lh (w:=w) h [⟨mkL.toArray⟩,⟨#[32]⟩] #[.string ⟨mkL.toArray⟩,.string ⟨#[32]⟩] rfl 2 rfl (by decide) 9 (fun s hs=>by
    simp only[List.mem_cons,List.not_mem_nil,or_false]at hs;rcases hs with rfl|rfl
    ·simp[ByteArray.size];omega
    ·decide))
   obtain ⟨vv,rfl,eE⟩:=hf.shape;simp only[nC,eE];clear eE;clear hf ok ih hkd hkey h hA hmk hn hml hind hq3 h1 h2 hkv;dsimp only[CA,ncs,ncl,ncr,ncb,nco,nct,nce,ncx,Tryz.f64]
   go_wp2_with fail
   refine Hp.o.mono ?_;rintro r w2 ⟨rfl,v2,hp⟩;have HP2:=hid hp;have Hi:=hid (Hih.o true w2 v2 _ hp);clear hp Hp Hih
   go_wp2_with fail
   refine Hi.o.mono ?_;rintro r w3 ⟨rfl,v3,hp3⟩;have HP3:=hid (HP2.o.trans hp3);clear hp3 Hi HP2;go_wp2;refine Hok.o _ _ v3 ⟨rfl,rfl,rfl,rfl,rfl,rfl,rfl,rfl,rfl,rfl,rfl⟩ ?_;have:=HP3.o;unfold qP;rw[Hkd.o,if_neg H1.o,if_neg H2.o,Hkey.o]
   simpa[j8] using this
end
section
variable {w0 w:World} {Q:Exit->Act->World->Prop} {a:Act} {ms:List NdM} {pb ind nb b2 o2 q cap2 b o n cap:Nat} {th:Bool} {v:Value} {l:List UInt8} {m:NdM}
theorem Fi {LAY:Nat->Nat->Bool->List UInt8->List UInt8} (hN:Nds w0 (.slice (some ⟨b,o,none⟩) n cap) ms) (hb:b<w0.heap.size) (hat:∀i m,ms[i]? =some m->NdAt w0 b (o+i*6) m/\m.Ok w0) (hn:ms.length=n)
 (hf:LyA a pb (.slice (some ⟨b,o,none⟩) n cap) ind nb b2 o2 q cap2 0 th) (hB:Base w0 w pb v) (h:Pg w pb v l) (hA:Apart w pb v nb (NdO m)) (hkind:m.nd.kind=2\/m.nd.kind=3) (hq:q=m.nd.kids.length) (hq2:q<=1048576)
 (hx:∀j x,m.nd.kids[j]? =some x->w0.cell? ⟨b2,o2+j,none⟩=some (.int .i64 x)) (hb2:b2<w0.heap.size) (hup:∀x∈m.nd.kids,∃k:Nat,x=(k:Int)/\k<n) (hind:ind<=10000)
 (ih:∀(k:Nat) th w1 v1 l1,(k:Int)∈m.nd.kids->Base w0 w1 pb v1->Pg w1 pb v1 l1->Calls Tryz.prog 64 #[.pointer (some ⟨pb,0,none⟩),.slice (some ⟨b,o,none⟩) n cap,.int .i64 (k:Int),.int .i64 ((ind:Int)+2),.bool th] w1 fun r w'=>r= .returned (.tuple #[])/\∃v',PgTo w1 pb v1 w' v' (LAY k (ind+2) th l1))
 (ok:∀a' w' v',a'.defers=[]->PgTo w pb v w' v' (lu (nds ms) LAY m.nd.kind ind m.nd.kids th l)->Q (.exit 0) a' w'):(ncb I6).wp Tryz.prog Q a w:=by
 show (Code.loop (Code.seq I5 (Code.seq I4 (Code.seq (Code.block 1 xT) KT)))).wp Tryz.prog Q a w
 refine wp_loop (fun a' w'=>∃(j:Nat) (th':Bool) (v':Value) (l':List UInt8),j<=q/\LyA a' pb (.slice (some ⟨b,o,none⟩) n cap) ind nb b2 o2 q cap2 j th'/\PgTo w pb v w' v' l'/\Apart w' pb v' nb (NdO m)/\
  lu (nds ms) LAY m.nd.kind ind m.nd.kids th l=lu (nds ms) LAY m.nd.kind ind (m.nd.kids.drop j) th' l') (fun a' _=>q-(intOf (a'.tmps.getD 38 undef)).toNat) ⟨0,th,v,l,Nat.zero_le _,hf,PgTo.refl h,hA,rfl⟩ ?_
 clear hf hA;rintro a1 w1 ⟨j,th1,v1,l1,hj,hf1,hp1,hA1,hs⟩;by_cases hjq:j<q
 ·obtain ⟨x,hxj⟩:∃x,m.nd.kids[j]? =some x:=au (by omega);have hxm:=List.mem_of_getElem? hxj;obtain ⟨k,rfl,hkn⟩:=hup x hxm;have hdr:m.nd.kids.drop j=(k:Int)::m.nd.kids.drop (j+1):=by
   obtain ⟨hlt,he⟩:=aAh hxj;rw[List.drop_eq_getElem_cons hlt,he]
  rw[hdr,Ad]at hs;obtain ⟨mk,hmk⟩:∃mk,ms[k]? =some mk:=au (by omega);obtain ⟨c,hok⟩:=hat k mk hmk;have hkd:=eS hmk;have hml:(fX m.nd.kind mk.nd.key).length<=5000000:=by
   have h3:=hok.key;have h2:=iF mk.nd.key.data.toList;rw[an]at h2;unfold fX
   split
   ·rw[aAc];unfold ly
    split
    ·rw[an];simp;omega
    ·simp;omega
   ·simp
  have HR:∀(Q':Exit->Act->World->Prop) (a':Act),LyA a' pb (.slice (some ⟨b,o,none⟩) n cap) ind nb b2 o2 q cap2 j th1->
   (∀a2 w2 v2 l2,LyA a2 pb (.slice (some ⟨b,o,none⟩) n cap) ind nb b2 o2 q cap2 j false->PgTo w pb v w2 v2 l2->Apart w2 pb v2 nb (NdO m)->lu (nds ms) LAY m.nd.kind ind m.nd.kids th l=lu (nds ms) LAY m.nd.kind ind (m.nd.kids.drop (j+1)) false l2->Q' .normal a2 w2)->
   xT.wp Tryz.prog Q' a' w1:=by
   intro Q' a' hf' hok'
   show (Code.seq Fq (Code.seq Fp (Code.seq Fm (Code.seq Fl (Code.seq Fk (Code.seq Fj CA)))))).wp Tryz.prog Q' a' w1
   have hB1:=hB.step hp1;refine ly_a _ hf' hp1.pg ((hB1.below.cell hb2).trans (hx j _ hxj)) hjq hind (fun a2 w2 v2 f2 p2=> ?_);have hp2:=hp1.trans p2;have hB2:=hB1.step p2;have hA2:=hA1.step p2;have hc2:NdAt w2 b (o+k*6) mk:=⟨(hB2.below.cell hb).trans c.c0,(hB2.below.cell hb).trans c.c1,(hB2.below.cell hb).trans c.c2,(hB2.below.cell hb).trans c.c3,(hB2.below.cell hb).trans c.c4,(hB2.below.cell hb).trans c.c5⟩
   refine ly_b _ f2 p2.pg hc2 (hok.later hB2.below) hkn (af hA2.blk 0) (ag hA2.blk) hkind (fun a3 w3 f3 p3 hK3=> ?_);have hp3:=hp2.trans p3;have hB3:=hB2.step p3;have hA3:=hA2.step p3;refine ly_c (LAY:=LAY) (ns:=nds ms) f3 p3.pg hK3 (hok.later hB3.below) hA3 hkd rfl hml hind (fun th4 w4 v4 l4 p4=>ih k th4 w4 v4 l4 hxm (hB3.step p4) p4.pg) (fun a5 w5 v5 f5 p5=> ?_);exact hok' a5 w5 v5 _ f5 (hp3.trans p5) (hA3.step p5) hs
  obtain ⟨Hms,Hgo⟩:=aM (k:=j) (n:=q) hjq (by omega);have HR2:=hid HR;have Hj:=hid hjq;have tj:decide (j<q)=true:=dT hjq;have wj:wrap64 ((j:Int)+1)=(j:Int)+1:=aW (by omega) (by omega);obtain ⟨vv,rfl,eE⟩:=hf1.shape;simp only[nC,eE];clear eE;clear hf1 hs hxj hxm hdr hx hj hjq ok hN hat hn hq hkind hB h hp1 hA1 hmk c hok hkd hml ih HR hup hkn hind hq2 hb hb2;dsimp only[I5,I4,ncs,ncl,ncr,ncb,nco,nct,nce,ncx,Tryz.f64]
  go_wp2
  rename_i Q1 K1 hK1
  refine HR2.o _ _ ⟨rfl,rfl,rfl,rfl,rfl,rfl,rfl,rfl,rfl,rfl,rfl⟩ (fun a2 w2 v2 l2 f2 p2 A2 e2=>hK1 _ _ ?_);have HE:=hid (show j+1<=q/\PgTo w pb v w2 v2 l2/\Apart w2 pb v2 nb (NdO m)/\lu (nds ms) LAY m.nd.kind ind m.nd.kids th l=lu (nds ms) LAY m.nd.kind ind (m.nd.kids.drop (j+1)) false l2 from ⟨Hj.o,p2,A2,e2⟩);obtain ⟨v2',rfl,eE⟩:=f2.shape;simp only[nC,eE];clear eE;clear f2 p2 A2 e2 HR2;dsimp only[KT,ncs,ncl,ncr,ncb,nco,nct,nce,ncx,Tryz.f64]
  go_wp2;obtain ⟨z1,z2,z3,z4⟩:=HE.o;exact ⟨⟨j+1,false,v2,l2,z1,⟨rfl,rfl,rfl,rfl,rfl,rfl,rfl,rfl,rfl,rfl,congrArg some Hgo.o⟩,z2,z3,z4⟩,Hms.o⟩
 ·have ej:j=q:=by omega
  subst ej;have hfin:lu (nds ms) LAY m.nd.kind ind m.nd.kids th l=l1:=by
   rw[hs,List.drop_eq_nil_of_le (by omega)];rfl
  rw[hfin]at ok;have HO:=hid (fun a' hd=>ok a' w1 v1 hd hp1);have tj:decide (j<j)=false:=dF (Nat.lt_irrefl j);obtain ⟨vv,rfl,eE⟩:=hf1.shape;simp only[nC,eE];clear eE;clear hf1 hs hx hj hjq ok hN hat hn hq hkind hB h hp1 hA1 ih hup hind hq2 hb hb2 hfin;dsimp only[I5,I4,ncs,ncl,ncr,ncb,nco,nct,nce,ncx,Tryz.f64];go_wp2;exact HO.o _ rfl
end
theorem Di (s:ByteArray):(s.extract 1 s.size).data.toList=s.data.toList.tail:=by
 rw[ByteArray.data_extract,Array.toList_extract,List.extract_eq_take_drop,List.drop_one,List.take_of_length_le];rw[List.length_tail,Array.length_toList];exact aAa _
theorem Ja {ns:List Nd} (ht:dI ns=true) {i:Nat} (hi:i<ns.length) (hk:¬(ns[i]!).kind=1):
 ((ns[i]!).kind=2\/(ns[i]!).kind=3)/\(∀x∈(ns[i]!).kids,∃k:Nat,x=(k:Int)/\i<k/\k<ns.length):=by
 obtain ⟨_,hg⟩:=(iz ns).1 ht;have h:=hg.node i hi;unfold jd at h
 split at h
 ·cases h
 ·rename_i h0
  rw[if_neg (fun q=>hk q.1)]at h
  split at h
  ·cases h
  ·rename_i h2
   have hR:dw ns (ns[i]!).kind (ns[i]!).kids (i:Int) []=true:=Decidable.not_not.1 fun hh=>h2 ⟨by omega,.inr (.inr (.inr hh))⟩;refine ⟨by omega,fun x hx=> ?_⟩;have:=(fq hR).1 x hx;exact ⟨x.toNat,by omega,by omega,by omega⟩
theorem Aa {ns:List Nd} {f i ind:Nat} {th:Bool} {out:List UInt8} (h:(ns[i]!).kind=1) (h2:dQ (ns[i]!)=[]):nD ns (f+1) i ind th out=out:=by rw[nD,if_pos h,if_pos h2]
theorem wN {ns:List Nd} {f i ind:Nat} {th:Bool} {out:List UInt8} (h:(ns[i]!).kind=1) (h2:¬dQ (ns[i]!)=[]):nD ns (f+1) i ind th out=fJ (fJ out (dQ (ns[i]!)).tail) [10]:=by rw[nD,if_pos h,if_neg h2]
theorem Ab {ns:List Nd} {f i ind:Nat} {th:Bool} {out:List UInt8} (h:¬(ns[i]!).kind=1):nD ns (f+1) i ind th out=lu ns (nD ns f) (ns[i]!).kind ind (ns[i]!).kids th out:=by rw[nD,if_neg h]
theorem KW {w0:World} {V:Value} {ms:List NdM} (hN0:Nds w0 V ms) (ht:dI (nds ms)=true):∀(f i ind:Nat) (th:Bool) (w:World) (pb:Nat) (v:Value) (l:List UInt8),Base w0 w pb v->Pg w pb v l->i<ms.length->ms.length<=i+f->ind<=2*i->
 Calls Tryz.prog 64 #[.pointer (some ⟨pb,0,none⟩),V,.int .i64 (i:Int),.int .i64 (ind:Int),.bool th] w fun r w'=>r= .returned (.tuple #[])/\∃v',PgTo w pb v w' v' (nD (nds ms) f i ind th l):=by
 obtain ⟨ao,cap,hv,hl,hat0⟩:=hN0.open;have hN:=hN0;obtain ⟨n,hn⟩:=ex (ms.length);rw[<-hn]at hv hl hat0 |-;rw[hv]at hN;subst hv;have hnn:(nds ms).length=n:=by rw[bt,hn]
 have hn4:n<=4096:=by
  have:=((iz _).1 ht).1.2.1;omega
 intro f
 induction f with
 |zero=>
  intro i ind th w pb v l _ _ h1 h2;omega
 |succ f ih=>
  intro i ind th w pb v l hB h hi hf hind;obtain ⟨b,o,rfl,hb,hat⟩:=hat0 (by omega);obtain ⟨m,hm⟩:∃m,ms[i]? =some m:=au (by omega);obtain ⟨c,hok⟩:=hat i m hm;have hnd:(nds ms)[i]! =m.nd:=eS hm;have bi:(i:Int)<(n:Int):=by omega
  obtain ⟨ao2,cap2,hkv,hl2,hks⟩:=aF hok.kids;obtain ⟨q,hq⟩:=ex (m.nd.kids.length);rw[<-hq]at hkv hl2 hks;have hbl:=hB.below;have x0:=(hbl.cell (p:=⟨b,o+i*6,none⟩) hb).trans c.c0;have x1:=(hbl.cell (p:=⟨b,o+i*6+1,none⟩) hb).trans c.c1;have x2:=(hbl.cell (p:=⟨b,o+i*6+2,none⟩) hb).trans c.c2;have x3:=(hbl.cell (p:=⟨b,o+i*6+3,none⟩) hb).trans c.c3;have x4:=(hbl.cell (p:=⟨b,o+i*6+4,none⟩) hb).trans c.c4
  have x5:=(hbl.cell (p:=⟨b,o+i*6+5,none⟩) hb).trans c.c5;rw[hkv]at x5;have HA:=hid (Apart.new h (NdO m));have HP:=hid ((PgTo.refl h).alloc (NdO m));have hE:NdO m= .cells #[.int .i64 m.nd.kind,.string m.nd.key,.string m.nd.text,.bool m.nd.quoted,.int .i64 m.nd.line,.slice ao2 q cap2] 55 :=by unfold NdO;rw[hkv]
  by_cases h1:m.nd.kind=1
  ·have t1:(m.nd.kind==1)=true:=by rw[beq_iff_eq];exact h1
   have hmv:m.v= .agg #[.int .i64 m.nd.kind,.string m.nd.key,.string m.nd.text,.bool m.nd.quoted,.int .i64 m.nd.line,.slice ao2 q cap2]:=by unfold NdM.v;rw[hkv]
   have Ht:=hid (fun w1 (hb1:Below w.heap.size w w1)=>yl w1 m ((hok.later hB.below).later hb1));rw[hmv]at Ht;rw[hE]at HP;have htl:(dQ m.nd).length<=5000000:=by
    have h3:=hok.text;have h2:=iF m.nd.text.data.toList;rw[an]at h2;unfold dQ
    split
    ·rw[aAd];omega
    ·split
     ·rw[aAd,an];omega
     ·simp
   have hmm:∀(fn:Fn) (first cap:Array Value) (w:World),(Instr.makeFunc fn first cap).run Tryz.prog w= .ok (.func fn first cap) w:=fun _ _ _ _=>rfl;have Hbn:=hid (fun o=>(aAb w.heap.size w).alloc (aAa _) o);by_cases h2:dQ m.nd=[]
   ·have hres:=Aa (ns:=nds ms) (f:=f) (i:=i) (ind:=ind) (th:=th) (out:=l) (by rw[hnd];exact h1) (by rw[hnd];exact h2);rw[hres];rw[h2]at Ht;clear hB h hi hf hind hm c hok hnd hkv hl2 hks hq hbl hE h1 hmv htl h2 hres ih hat hat0 hN hN0 hn hl hnn hn4 ht hb HA;go_enter Tryz.func64,Tryz.ntmps64
    go_wp2_with fail
    refine (Ht.o _ (Hbn.o _)).mono ?_;rintro r w1 ⟨rfl,hb1⟩;have HP2:=hid (HP.o.trans (PgTo.below HP.o.pg hb1));clear hb1 HP Ht Hbn;go_wp2
    first|go_end0|refine bodyPost_ret (results_none rfl _ _ _) rfl ?_
    exact ⟨rfl,_,HP2.o⟩
   ·have hres:=wN (ns:=nds ms) (f:=f) (i:=i) (ind:=ind) (th:=th) (out:=l) (by rw[hnd];exact h1) (by rw[hnd];exact h2);rw[hnd]at hres;rw[hres];obtain ⟨s,hs⟩:∃s:ByteArray,s=⟨(dQ m.nd).toArray⟩:=⟨_,rfl⟩;have hsl:s.data.toList=dQ m.nd:=by rw[hs]
    rw[<-hs]at Ht;have hs0:s≠⟨#[]⟩:=fun e=>h2 (by rw[<-hsl,e]);obtain ⟨k4,k5,k6⟩:=gH hs0;have hsz:s.size=(dQ m.nd).length:=by rw[<-hsl,an]
    have hsp:0<s.size:=by
     rw[hsz];exact List.length_pos_iff.2 h2
    have b1:(1:Int)<=(s.size:Int):=by omega
    have htail:=Di s;rw[hsl]at htail;obtain ⟨s1,hs1⟩:=ex (s.extract 1 s.size);have hs1z:s1.size<=5000000:=by rw[hs1,ByteArray.size_extract];omega
    rw[<-hs1]at htail;have Hp:=hid (fun w1 v1 (h1:Pg w1 pb v1 l)=>lh (w:=w1) h1 [s1,⟨#[10]⟩] #[.string s1,.string ⟨#[10]⟩] rfl 2 rfl (by decide) 9 (fun t ht=>by
     simp only[List.mem_cons,List.not_mem_nil,or_false]at ht;rcases ht with rfl|rfl
     ·exact hs1z
     ·decide))
    have Htail:=hid htail;rw[hs1]at Hp;clear hB h hi hf hind hm c hok hnd hkv hl2 hks hq hbl hE h1 hmv htl h2 hres ih hat hat0 hN hN0 hn hl hnn hn4 ht hb HA hs hsl hs0 hsz hsp htail hs1z;go_enter Tryz.func64,Tryz.ntmps64
    go_wp2_with fail
    refine (Ht.o _ (Hbn.o _)).mono ?_;rintro r w1 ⟨rfl,hb1⟩;have HP2:=hid (HP.o.trans (PgTo.below HP.o.pg hb1));have Hp2:=hid (Hp.o w1 v HP2.o.pg);clear hb1 HP Ht Hbn Hp
    go_wp2_with fail
    refine Hp2.o.mono ?_;rintro r w2 ⟨rfl,v2,hp⟩;have HP3:=hid (HP2.o.trans hp);clear hp HP2 Hp2;go_wp2
    first|go_end0|refine bodyPost_ret (results_none rfl _ _ _) rfl ?_
    refine ⟨rfl,v2,?_⟩;have:=HP3.o;rw[<-hs1]at this;unfold j8 at this;simp only[List.foldl_cons,List.foldl_nil,Htail.o]at this;exact this
  ·obtain ⟨hkd,hup⟩:=Ja (ns:=nds ms) ht (i:=i) (by omega) (by rw[hnd];exact h1);rw[hnd]at hkd hup;have t1:(m.nd.kind==1)=false:=by rw[beq_eq_false_iff_ne];exact h1
   have hq0:0<q:=by
    rcases Nat.eq_zero_or_pos q with e|e
    ·exfalso
     obtain ⟨_,hg⟩:=(iz _).1 ht;have h3:=hg.node i (by omega);rw[hnd]at h3;unfold jd at h3
     split at h3
     ·cases h3
     ·rw[if_neg (fun q=>h1 q.1),if_pos ⟨by omega,.inl (List.eq_nil_of_length_eq_zero (by omega))⟩]at h3;cases h3
    ·exact e
   obtain ⟨b2,o2,rfl,hb2,hcell⟩:=hks hq0;have hmm:∀(fn:Fn) (first cap:Array Value) (w:World),(Instr.makeFunc fn first cap).run Tryz.prog w= .ok (.func fn first cap) w:=fun _ _ _ _=>rfl;have hres:=Ab (ns:=nds ms) (f:=f) (i:=i) (ind:=ind) (th:=th) (out:=l) (by rw[hnd];exact h1);rw[hnd]at hres;rw[hres];have HL:=hid (fun (Q':Exit->Act->World->Prop) (a':Act) w' (hf':LyA a' pb (.slice (some ⟨b,o,none⟩) n cap) ind w.heap.size b2 o2 q cap2 0 th) (hp':PgTo w pb v w' v l) (hA':Apart w' pb v w.heap.size (NdO m))=>
    Fi (Q:=Q') (LAY:=nD (nds ms) f) hN hb hat hn.symm hf' (hB.step hp') hp'.pg hA' hkd hq hl2 hcell hb2 (fun x hx=>by
     obtain ⟨k,e,_,hk⟩:=hup x hx;exact ⟨k,e,by omega⟩) (by omega) (fun k th1 w1 v1 l1 hm1 hB1 hp1=>by
     obtain ⟨k',e,hik,hk⟩:=hup _ hm1;obtain rfl:k=k':=by omega
     exact ih k (ind+2) th1 w1 pb v1 l1 hB1 hp1 (by omega) (by omega) (by omega)))
   rw[hE]at HA HP;rw[hE]at HL;clear hB h hi hf hind hm c hok hnd hkv hl2 hks hq hbl hE h1 hres ih hat hat0 hN hN0 hn hl hnn hn4 ht hb hkd hup hq0 hb2 hcell;go_enter Tryz.func64,Tryz.ntmps64;go_wp2;refine HL.o _ _ _ ⟨rfl,rfl,rfl,rfl,rfl,rfl,rfl,rfl,rfl,rfl,rfl⟩ HP.o HA.o (fun a2 w2 v2 d2 p2=> ?_);exact ⟨d2,.tuple #[],results_none rfl _ _ _,rfl,v2,HP.o.trans p2⟩
def np (d:List Nat):List Value:=d.map fun (x:Nat)=>Value.int .i64 (x:Int)
theorem gR:(Tryz.prog.info? 3).map (fun i=>(i.zero,i.size,i.bytes))=some (some (.int .i64 0),1,8):=by kernel_rfl
