/-
Parts of a proof.
-/
import Derived.Lib.SlBytesConst
import Derived.Test.YtfenoaeoedobmaaGreatDoorOn40
import Derived.Test.YtfenoaeoedobmaaGreatDoorOn44
import Derived.Test.YtfenoaeoedobmaaGreatDoorOn48
set_option linter.unusedVariables false
set_option linter.unusedSimpArgs false
set_option maxHeartbeats 8000000
set_option maxRecDepth 20000
namespace Go.Proofs.YtfenoaeoedobmaaGreatDoor
open Go Go.RowKit
def Bt:List UInt8:=[107,105,110,100,58,32,83,101,114,118,105,99,101,10,110,97,109,101,58,32,119,101,98,10,101,110,100,112,111,105,110,116,115,58,10,32,32,45,32,101,49,10]
def nE1:ByteArray:=⟨#[101,49]⟩
def VU:ByteArray:=⟨#[119,101,98]⟩
def aNs:List Nd:=[⟨2,⟨#[]⟩,⟨#[]⟩,false,1,[1,2,3]⟩,⟨1,kKind,iN,false,1,[]⟩,⟨1,bJ,VU,false,2,[]⟩,⟨3,bd,⟨#[]⟩,false,4,[4]⟩,⟨1,⟨#[]⟩,nE1,false,4,[]⟩]
def uM:Res:=⟨1,VU,[nE1],[],⟨#[]⟩,[],⟨#[]⟩,false⟩
def DS:List Nd:=[⟨2,⟨#[]⟩,⟨#[]⟩,false,0,[1,2,3]⟩,⟨1,kKind,iN,false,0,[]⟩,⟨1,bJ,VU,false,0,[]⟩,⟨3,bd,⟨#[]⟩,false,0,[4]⟩,⟨1,⟨#[]⟩,nE1,false,0,[]⟩]
theorem Ti:jb Bt= .ok [aNs]:=by with_unfolding_all rfl
theorem Xn:dy [aNs] 0= .ok [uM]:=by with_unfolding_all rfl
theorem Xi:dC wtF uM=DS:=by with_unfolding_all rfl
theorem a_doc:dO DS= .ok uM:=by with_unfolding_all rfl
theorem Xk:jZ uM uM=true:=by with_unfolding_all rfl
theorem Xm:dR DS=(⟨Bt.toArray⟩,0):=by with_unfolding_all rfl
theorem Th:dH uM=DS:=by
 unfold dH;rw[Xi,a_doc];simp only;rw[Xk,if_pos rfl]
theorem Xl:nE [⟨Bt.toArray⟩]=⟨Bt.toArray⟩:=by with_unfolding_all rfl
theorem Xj:qe [uM]=(⟨Bt.toArray⟩,0):=by
 unfold qe fp;rw[Th,Xm,if_neg (by unfold DS;simp),if_neg (by simp)];unfold fp;rw[List.nil_append,Xl,if_neg (by decide)]
theorem PX {w:World} {b:Nat} {c:Array Value} {T:TypeId} {f:Nat×Nat} (h:w.heap[b]? =some (.cells c T f)) (i:Nat):w.cell? ⟨b,i,none⟩=c[i]? :=by
 simp[World.cell?,h]
theorem Li (w:World) (bs:List UInt8) (arr:Array Value) (T:TypeId) (f:Nat×Nat) (h:arr.toList=bs.map (fun c=>Value.int .u8 (c.toNat:Int))) (hl:bs.length<=1048576):SlR (w.alloc (.cells arr T f)) (.slice (some ⟨w.heap.size,0,none⟩) bs.length bs.length) 1 bs dz:=by
 refine ⟨_,_,rfl,hl,fun _=>⟨w.heap.size,0,rfl,by simp,fun i x hx j u hu=> ?_⟩⟩;have hb:(w.alloc (.cells arr T f)).heap[w.heap.size]? =some (.cells arr T f):=by
  show (w.heap.push (.cells arr T f))[w.heap.size]? =_
  simp
 have hj:j=0:=by
  have:=(aBo hu).1;unfold dz at this
  simpa using this
 subst hj;have hu2:Value.int .u8 (x.toNat:Int)=u:=by unfold dz at hu;simpa using hu
 rw[Nat.mul_one,Nat.zero_add,Nat.add_zero,PX hb i,<-Array.getElem?_toList,h,List.getElem?_map,hx,<-hu2];rfl
theorem a_ok:ResZ uM:=by
 refine ⟨by decide,by decide,by decide,by decide,?_,nofun,nofun,by decide⟩;intro x hx;rw[List.mem_singleton.1 hx]
 decide
theorem Td (w:World) (hg:GlobT w):Calls Tryz.prog 14 #[] w fun x w'=>x= .returned (.bool true)/\Below w.heap.size w w':=by
 have kc:=fun (w:World) (C:Array Value) (n c:Nat)=>Lib.run_convert_bytes_const (P:= Tryz.prog) w 42 5 C n c Tryz.underlying42 Tryz.underlying5;obtain ⟨arr,eC⟩:∃arr:Array Value,arr=#[.int .u8 107,.int .u8 105,.int .u8 110,.int .u8 100,.int .u8 58,.int .u8 32,.int .u8 83,.int .u8 101,.int .u8 114,.int .u8 118,.int .u8 105,.int .u8 99,.int .u8 101,.int .u8 10,.int .u8 110,.int .u8 97,.int .u8 109,.int .u8 101,.int .u8 58,.int .u8 32,.int .u8 119,.int .u8 101,.int .u8 98,.int .u8 10,.int .u8 101,.int .u8 110,.int .u8 100,.int .u8 112,.int .u8 111,.int .u8 105,.int .u8 110,.int .u8 116,.int .u8 115,.int .u8 58,.int .u8 10,.int .u8 32,.int .u8 32,.int .u8 45,.int .u8 32,.int .u8 101,.int .u8 49,.int .u8 10]:=⟨_,rfl⟩
 obtain ⟨wa,CP⟩:=ex (w.alloc (.cells arr 5 (42,43)));have C5:Below w.heap.size w wa:=by rw[CP];exact (aBi _ _).alloc (aBh _) _
 have AN:=Li w Bt arr 5 (42,43) (by rw[eC];rfl) (by decide);rw[<-CP]at AN;have HP:=hid (Aj wa Bt (some ⟨w.heap.size,0,none⟩) 42 AN (by decide) (hg.later C5).gl);rw[Ti,show Bt.length=42 from rfl]at HP;have Hg:=hid (fun w2 (hb:Below w.heap.size w w2)=>hg.later hb);have HB:=hid C5;rw[eC]at CP;clear hg AN eC C5;go_enter Tryz.func14,Tryz.ntmps14
 go_wp2_with fail
 change Calls _ _ _ (w.alloc (.cells _ _ (42,43))) _;rw[<-CP];refine HP.o.mono ?_;unfold Gj;rintro x w2 ⟨⟨V,n,ds,rfl,jz,hn,uG,pJ⟩,hb⟩;clear CP HP;have jL:Below w.heap.size w w2:=HB.o.trans (hb.mono HB.o.size);have HD:=hid (fun w3 (aV:Below w2.heap.size w2 w3)=>xv w3 V ds ((jz.later aV).docs hn uG) (Hg.o w3 (jL.trans (aV.mono jL.size))).gl);rw[pJ,Xn]at HD;obtain ⟨va,vn,vc,hV⟩:∃a n c,V= .slice a n c:=by
  rcases jz.row.row.2 with ⟨hv,_⟩|⟨g,cap,cur,hv,_⟩
  ·exact ⟨_,_,_,hv⟩
  ·exact ⟨_,_,_,hv⟩
 subst hV;have my:=hid jL;clear jz hn uG pJ hb jL;obtain ⟨w3,vf⟩:=ex (w2.alloc (.cells #[.int .i64 0,.int .i64 0,.int .i64 0] 27));have aV:Below w2.heap.size w2 w3:=by rw[vf];exact (aBi _ _).alloc (aBh _) _
 have OS:w3.heap[w2.heap.size]? =some (.cells #[.int .i64 0,.int .i64 0,.int .i64 0] 27 (0,0)):=by rw[vf];exact ag _
 have HD3:=hid (HD.o w3 aV);have z2:=aa OS 2;simp at z2;have iF:=hid (my.o.trans (aV.mono my.o.size));clear HD aV OS;subst vf
 go_wp2_with fail
 refine HD3.o.mono ?_;unfold Qa;rintro x w4 ⟨⟨V2,n2,ms,rfl,jz,hn,uG,rP⟩,bX⟩;obtain ⟨m,hm,hmr⟩:∃m,ms=[m]/\m.r=uM:=by
  cases ms with
  |nil=>cases rP
  |cons m l=>
   rw[List.map_cons]at rP;injection rP with h1 h2
   cases l with
   |nil=>exact ⟨m,rfl,h1⟩
   |cons y l=>cases h2
 subst hm;have hL0:=jz.toL hn uG;obtain ⟨w5,Ly⟩:=ex (w4.alloc (.cells #[.int .i64 0,.int .i64 0,.int .i64 0] 27));have lV:Below w4.heap.size w4 w5:=by rw[Ly];exact (aBi _ _).alloc (aBh _) _
 have Z2:w5.heap[w4.heap.size]? =some (.cells #[.int .i64 0,.int .i64 0,.int .i64 0] 27 (0,0)):=by rw[Ly];exact ag _
 have yh:Below w.heap.size w w5:=(iF.o.trans (bX.mono iF.o.size)).trans (lV.mono (aBl iF.o.size bX.size));have HT:=hid (Gi w5 V2 [m] (hL0.later lV) (fun y hy=>by rw[List.mem_singleton.1 hy,hmr];exact a_ok) (Hg.o w5 yh));rw[show [m].map (·.r)=[uM] by rw[List.map_cons,hmr];rfl,Xj]at HT;obtain ⟨va2,vc2,hV2⟩:∃a c,V2= .slice a 1 c:=by
  obtain ⟨a,c,e,_⟩:=hL0.sl;exact ⟨a,c,e⟩
 obtain ⟨av,cv,hv,hl,bN⟩:=vW hL0;obtain ⟨b,o,hav,kf,hc,hr⟩:=bN 0 m rfl;have fY:=fun (w6:World) (oO:Below w5.heap.size w5 w6) i u (hu:m.cells[i]? =some u)=>((lV.trans (oO.mono lV.size)).cell (p:=⟨b,o+0*8+i,none⟩) kf).trans (hc i u hu);have Ql:=hid fY;obtain ⟨r,ev,tv,rv⟩:=m;simp only at hmr;subst hmr;obtain ⟨ea,ec,hev,hel⟩:=hr.e;obtain ⟨hel,_⟩:=hel;rw[show (uM.endps).length=1 from rfl]at hev
 subst hev;rw[hV2]at hv;obtain rfl:va2=av:=by injection hv
 subst hav;subst hV2;have Hf:=hid (fun (w6:World) (oO:Below w5.heap.size w5 w6)=>show w6.cell? ⟨w4.heap.size,2,none⟩=some (.int .i64 0) from by
  have h1:=aa Z2 2;have aN:=af Z2;exact (oO.cell (p:=⟨w4.heap.size,2,none⟩) aN).trans h1)
 have Bv:=hid yh;clear jz hn uG rP bX hL0 lV Z2 yh bN hl hc hr hel fY HD3 z2 kf hv my iF Hg HB;subst Ly
 go_wp2_with fail
 refine HT.o.mono ?_;unfold uu;rintro x w6 ⟨rfl,oO⟩;have f2:=Hf.o w6 oO;have e1:=Ql.o w6 oO 1 _ rfl;have e2:=Ql.o w6 oO 2 _ rfl;simp only[Nat.zero_mul,Nat.add_zero,Nat.zero_add]at e1 e2;have Hb6:=hid (Bv.o.trans (oO.mono Bv.o.size));rw[show uM.name=⟨#[119,101,98]⟩ from rfl]at e1;unfold Bt;clear oO Ql Hf HT Bv;go_wp2;refine bodyPost_ret (results_tmp (t:=0) rfl _ _ _) rfl ⟨rfl,Hb6.o⟩
theorem zx:∀(N:List (List Nd)) (s:Nat),(∀(k:Nat) (d:List Nd),N[k]? =some d->∃x,dO d= .ok x)->∃L,dy N s= .ok L
 |[],s,_=>⟨[],rfl⟩
 |y::r,s,h=>by
  obtain ⟨x,hx⟩:=h 0 y rfl;obtain ⟨L,hL⟩:=zx r (s+1) (fun k d hk=>h (k+1) d (by simpa using hk));exact ⟨x::L,by rw[qX hx,hL];rfl⟩
theorem Bc:∀(N:List (List Nd)) (s:Nat) (L:List Res),dy N s= .ok L->L.length=N.length/\∀(i:Nat) (d:List Nd) (x:Res),N[i]? =some d->dO d= .ok x->L[i]? =some x
 |[],s,L,h=>by
  unfold dy at h;injection h with h
  subst h;exact ⟨rfl,fun i d x hd=>by simp at hd⟩
 |y::r,s,L,h=>by
  cases hy:dO y with
  |error e=>rw[sQ hy]at h;cases h
  |ok x=>
   rw[qX hy]at h;cases hr:dy r (s+1) with
   |error e=>rw[hr]at h;cases h
   |ok l=>
    rw[hr]at h;unfold Ae at h;injection h with h
    obtain ⟨h1,h2⟩:=Bc r (s+1) l hr;subst h;refine ⟨by simp[h1],fun i d z hd hz=> ?_⟩;cases i with
    |zero=>
     simp at hd;subst hd;rw[hy]at hz;injection hz with hz
     subst hz;rfl
    |succ i=>exact h2 i d z (by simpa using hd) hz
theorem SY {N:List (List Nd)} {s:Nat} {e:Nat×fx} (h:dy N s= .error e):e.2.2≠0:=by
 induction N generalizing s with
 |nil=>cases h
 |cons y r ih=>
  cases hy:dO y with
  |error e2=>
   rw[sQ hy]at h;injection h with h
   subst h;exact E9 y e2 hy
  |ok x=>
   rw[qX hy]at h;cases hr:dy r (s+1) with
   |error e3=>
    rw[hr]at h;injection h with h
    subst h;exact ih hr
   |ok l=>rw[hr]at h;cases h
def IP (r:Res) (t:ByteArray):Prop:=
 dj (dC wtF r)=true/\t.data.toList=(dS wtF r).txt 2 0/\DocG (dS wtF r)/\dC wtF r=(dS wtF r).doc/\∃b,dO (dC wtF r)= .ok b/\jZ b r=true
theorem LW {r:Res} (h1:dH r≠[]) (h2:(dR (dH r)).2=0):IP r (dR (dH r)).1:=by
 have hb:∃b,dO (dC wtF r)= .ok b/\jZ b r=true/\dH r=dC wtF r:=by
  unfold dH at h1 |-;cases hd:dO (dC wtF r) with
  |error e=>rw[hd]at h1;exact absurd rfl h1
  |ok b=>
   rw[hd]at h1;simp only at h1 |-;by_cases hs:jZ b r=true
   ·rw[if_pos hs];exact ⟨b,rfl,hs,rfl⟩
   ·rw[if_neg hs]at h1;exact absurd rfl h1
 obtain ⟨b,bG,bI,aV⟩:=hb;rw[aV]at h2 |-;have ht:dj (dC wtF r)=true:=by
  unfold dR at h2;by_cases ht:dj (dC wtF r)=false
  ·rw[if_pos ht]at h2;exact absurd h2 (by decide)
  ·simpa using ht
 have hg:=MR wtF ht;obtain ⟨_,_,_,hw,_⟩:=Ci wtF ht;refine ⟨ht,?_,hg,hw,b,bG,bI⟩;unfold dR at h2 |-;rw[if_neg (by rw[ht];decide)]at h2 |-;by_cases hl:65536<(lL (dC wtF r)).length
 ·rw[if_pos hl]at h2;exact absurd h2 (by decide)
 ·rw[if_neg hl]
  show (lL (dC wtF r)).toArray.toList=_
  rw[hw]at hl |-;rw[PB hg.ne hg.ok (by omega)]
theorem rV:∀(rs:List Res) (out:List ByteArray) (t:ByteArray),fp rs out=(t,0)->∃ts,ts.length=rs.length/\t=nE (out++ts)/\t.size<=65536/\∀(i:Nat) (r:Res) (x:ByteArray),rs[i]? =some r->ts[i]? =some x->IP r x
 |[],out,t,h=>by
  unfold fp at h
  split at h
  ·cases h
  ·rename_i hl
   injection h with h1 h2
   subst h1;exact ⟨[],rfl,by rw[List.append_nil],by omega,fun i r x hr=>by simp at hr⟩
 |r::rest,out,t,h=>by
  unfold fp at h;by_cases h1:dH r=[]
  ·rw[if_pos h1]at h;injection h with _ h;cases h
  ·rw[if_neg h1]at h;by_cases h2:(dR (dH r)).2=0
   ·rw[if_neg (by simpa using h2)]at h;obtain ⟨ts,q1,q2,q3,q4⟩:=rV rest _ t h;refine ⟨(dR (dH r)).1::ts,by simp[q1],by rw[q2,List.append_assoc];rfl,q3,fun i r' x hr hx=> ?_⟩;cases i with
    |zero=>
     simp at hr hx;subst hr;subst hx;exact LW h1 h2
    |succ i=>exact q4 i r' x (by simpa using hr) (by simpa using hx)
   ·rw[if_pos (by simpa using h2)]at h;injection h with _ h
    exact absurd h h2
theorem Oa:∀Fs:List Fo,Lib.join (Fs.map (fun F=>F.txt 2 0)) Jq.data.toList=qI Fs
 |[]=>rfl
 |[F]=>by rw[List.map_cons,List.map_nil,Lib.join_one];rfl
 |F::G::r=>by
  have ih:=Oa (G::r);rw[List.map_cons,Lib.join_cons];unfold qI;rw[<-ih,List.map_cons,Lib.join_cons];unfold Lib.joinTail;simp[Jq]
theorem UE {F:Fo} (h:F≠ .nil) (k:Int) (d:Nat):F.txt k d≠[]:=by
 cases F with
 |nil=>exact absurd rfl h
 |sc key text q nx=>intro e;have:=congrArg List.length e;simp[Fo.txt]at this
 |br kind key kids nx=>
  intro e;have:=congrArg List.length e;simp[Fo.txt]at this;by_cases hk:k=2
  ·rw[if_pos hk]at this;simp at this
  ·rw[if_neg hk]at this;simp at this
theorem Sh (rs:List Res) (ts:List ByteArray) (hl:ts.length=rs.length) (h:∀(i:Nat) (r:Res) (x:ByteArray),rs[i]? =some r->ts[i]? =some x->IP r x):(nE ts).data.toList=qI (rs.map (dS wtF)):=by
 have h1:ts.map (·.data.toList)=(rs.map (dS wtF)).map (fun F=>F.txt 2 0):=by
  apply List.ext_getElem
  ·simp[hl]
  ·intro i h1 h2;simp only[List.length_map]at h1 h2;rw[List.getElem_map,List.getElem_map,List.getElem_map];exact (h i rs[i] ts[i] (aBn h2) (aBn h1)).2.1
 have h2:fB ts=ts:=by
  unfold fB;rw[List.filter_eq_self];intro x hx;obtain ⟨i,hi,e⟩:=List.getElem_of_mem hx;have hw:=h i rs[i] x (aBn (by omega)) (by rw[aBn hi,e]);have hne:=hw.2.2.1.ne;have ht:=hw.2.1;rw[decide_eq_true_iff];intro e2;rw[e2]at ht;exact UE hne 2 0 ht.symm
 unfold nE;rw[h2,h1];exact Oa _
theorem Jg {rs:List Res} {t:ByteArray} (h:qe rs=(t,0)):∃L bs,jb t.data.toList= .ok L/\L.length=rs.length/\dy L 0= .ok bs/\bs.length=rs.length/\∀(i:Nat) (b r:Res),bs[i]? =some b->rs[i]? =some r->dO (dC wtF r)= .ok b/\jZ b r=true:=by
 obtain ⟨ts,hl,ht,hs,hw⟩:=rV rs [] t h;rw[List.nil_append]at ht;have hj:=Sh rs ts hl hw;rw[<-ht]at hj;have hr:∀(i:Nat) (r:Res),rs[i]? =some r->∃x,IP r x:=fun i r hi=>by
  have aN:=(aBo hi).1;exact ⟨_,hw i r ts[i] hi (aBn (by omega))⟩
 have hG:∀F∈rs.map (dS wtF),DocG F:=fun F hF=>by
  obtain ⟨r,xT,rfl⟩:=List.mem_map.1 hF;obtain ⟨i,hi,e⟩:=List.getElem_of_mem xT;obtain ⟨x,hx⟩:=hr i r (by rw[aBn hi,e]);exact hx.2.2.1
 have gQ:(qI (rs.map (dS wtF))).length<=65536:=by rw[<-hj,aj];exact hs
 have h1:=Mz hG gQ;obtain ⟨L,h2,h3⟩:=GR (rs.map (dS wtF)) 0 0 (oR 0 (rs.map (dS wtF))).length hG (aBh _);have hLl:L.length=rs.length:=by
  have:=congrArg List.length h3
  simpa using this
 have bN:∀(i:Nat) (d:List Nd) (r:Res),L[i]? =some d->rs[i]? =some r->∃b,dO d= .ok b/\dO (dC wtF r)= .ok b/\jZ b r=true:=fun i d r hd hri=>by
  obtain ⟨x,hx⟩:=hr i r hri;obtain ⟨_,_,_,xS,b,bG,bI⟩:=hx;have e1:(L.map (·.map er))[i]? =some (d.map er):=by rw[List.getElem?_map,hd];rfl
  rw[h3,List.getElem?_map,List.getElem?_map,hri]at e1;have e2:(dS wtF r).doc=d.map er:=aBm e1;refine ⟨b,?_,bG,bI⟩;have e3:(dC wtF r).map er=d.map er:=by
   rw[xS,e2,List.map_map];rfl
  exact La e3 bG
 obtain ⟨bs,hbs⟩:=zx L 0 (fun k d hk=>by
  have aN:=(aBo hk).1;obtain ⟨b,hb,_⟩:=bN k d rs[k] hk (aBn (by omega));exact ⟨b,hb⟩)
 obtain ⟨g1,g2⟩:=Bc L 0 bs hbs;refine ⟨L,bs,?_,hLl,hbs,g1.trans hLl,fun i b r hb hri=> ?_⟩
 ·unfold jb sj;rw[hj,h1];simp only;rw[h2];rfl
 ·have aN:=(aBo hb).1;have hd:L[i]? =some L[i]:=aBn (by omega);obtain ⟨b2,bI,D8⟩:=bN i _ r hd hri;have:=g2 i _ b2 hd bI;rw[hb]at this;obtain rfl:=aBm this;exact D8
theorem Ef {n:Nd} {x:Nat} (h:bD n= .ok x):x<INF:=by
 unfold bD at h
 split at h
 ·cases h
 split at h
 ·split at h
  ·cases h
  ·injection h with h
   obtain ⟨k,hk⟩:∃k:Nat,(aZ n.text n.quoted).int=(k:Int):=⟨(aZ n.text n.quoted).int.toNat,by omega⟩;rw[hk]at h;rw[<-h];exact (p8 k (by omega)).2.2
 split at h
 ·rename_i hk
  split at h
  ·rename_i hc
   injection h with h
   rw[<-h];exact rp (GO hk hc) hc
  ·cases h
 ·cases h
theorem zY {t:Tgt} (h:rC wtF t):t.weight<INF:=Ef h.2
theorem Mg {t:Tgt} (h:rC wtF t):oJ t t=true:=by
 unfold oJ eqW;rw[xn (zY h) (zY h)];simp
theorem DR {α:Type} {f:α->α->Bool} {l:List α} (h:∀x∈l,f x x=true):jj f l l=true:=
 rB rfl fun j a b ha hb=>by
  rw[ha]at hb;obtain rfl:=aBm hb;exact h a (List.mem_of_getElem? ha)
theorem Ju {r:Res} (h:SaidR wtF r):jZ r r=true:=by
 have ht:jj oJ r.targets r.targets=true:=DR fun x hx=>by
  cases h with
  |split s l hs h h1 hl=>exact Mg (h x hx)
  |_=>exact nomatch hx
 have hu:jj pr r.rules r.rules=true:=DR fun x _=>by unfold pr;simp
 unfold jZ;rw[ht,hu];simp
theorem vG {r:Res} (h:SaidR wtF r):dC wtF r=(dS wtF r).doc:=by
 unfold dC;rw[if_neg];cases h with
 |del k s h1 h2 hs=>show ¬((k:Int)<1\/4<(k:Int));omega
 |_=>simp
theorem vH {r:Res} (h:SaidR wtF r):dH r=(dS wtF r).doc:=by
 unfold dH;rw[vG h,(xq h).2];simp only;rw[if_pos (Ju h)]
theorem BU {r:Res} (h:SaidR wtF r):0<(dH r).length:=by
 rw[vH h,Fo.doc_len];omega
theorem BY:∀(rs:List Res) (out:List ByteArray),(∀r∈rs,SaidR wtF r)->(fp rs out).2=0\/(fp rs out).2=3
 |[],out,_=>by
  unfold fp
  split
  ·exact .inr rfl
  ·exact .inl rfl
 |r::rest,out,h=>by
  have hr:=h r (List.mem_cons_self ..);unfold fp;rw[if_neg (fun e=>by have:=BU hr;rw[e]at this;exact absurd this (by decide))];have he:(dR (dH r)).2=0\/(dR (dH r)).2=3:=by
   unfold dR;rw[vH hr,BT (xq hr).1,if_neg (by decide)]
   split
   ·exact .inr rfl
   ·exact .inl rfl
  split
  ·exact he
  ·exact BY rest _ fun x hx=>h x (List.mem_cons_of_mem _ hx)
theorem K7 {L:List (List Nd)} {rs:List Res} {i:Nat} (h:dy L i= .ok rs):∀r∈rs,SaidR wtF r:=by
 induction L generalizing i rs with
 |nil=>unfold dy at h;injection h with h;rw[<-h];exact fun _ q=>nomatch q
 |cons d L ih=>
  unfold dy at h;cases hd:dO d with
  |error e=>rw[hd]at h;cases h
  |ok x=>
   rw[hd]at h;simp only at h;cases hr:dy L (i+1) with
   |error e=>rw[hr]at h;cases h
   |ok l=>
    rw[hr]at h;injection h with h
    rw[<-h];intro r q;rcases List.mem_cons.1 q with rfl|q
    ·exact Rp (fun _ _=>BN) hd
    ·exact ih hr r q
theorem No {rs:List Res} (hs:∀r∈rs,SaidR wtF r) {t:ByteArray} (h:qe rs=(t,0)):∃L,jb t.data.toList= .ok L/\L.length=rs.length/\dy L 0= .ok rs:=by
 obtain ⟨L,bs,h1,h2,h3,h4,h5⟩:=Jg h;refine ⟨L,h1,h2,?_⟩;rw[h3,show bs=rs from List.ext_getElem h4 fun i a b=>by
  have hb:=aBn a;have hr:=aBn b;have hsr:=hs rs[i] (List.getElem_mem b);have:=(h5 i _ _ hb hr).1;rw[vG hsr,(xq hsr).2]at this;injection this with this
  exact this.symm]
theorem E5:∀(f:Nat) (ts:List Tok) (k:Nat) (e:Nat×Flt),ofL f ts k= .error e->e.2.2≠0
 |0,_,_,_,h=>by unfold ofL at h;cases h
 |f+1,ts,k,e,h=>by
  unfold ofL at h
  split at h
  ·cases h
  ·split at h
   ·exact E5 f _ _ _ h
   ·split at h
    ·rename_i e2 he
     injection h with h
     rw[<-h];exact Dt he
    ·split at h
     ·rename_i e2 he
      injection h with h
      rw[<-h];exact E5 f _ _ _ he
     ·cases h
theorem Nk {bs:List UInt8} {e:Int×Int×Int} (h:jb bs= .error e):e.2.2≠0:=by
 unfold jb sj at h
 split at h
 ·rename_i e2 he
  injection h with h
  rw[<-h];exact GF he
 ·unfold Ak at h
  split at h
  ·rename_i e2 he
   injection h with h
   rw[<-h];exact E5 _ _ _ _ he
  ·cases h
theorem fm {s:ByteArray} (h:aD s=true):s.size<=64:=by
 unfold aD GZ at h;rw[Bool.and_eq_true,decide_eq_true_eq,aj]at h;exact h.2.2
theorem Nj {s:ByteArray} (h:ja s=true):s.size<=300:=by
 unfold ja at h;have hl:s.data.toList.length<=(sX s).data.toList.length+1:=by
  show _<=(Lib.trimSuffix s.data.toList [42]).toArray.toList.length+1
  unfold Lib.trimSuffix
  split
  ·simp;omega
  ·simp
 rw[aj]at hl;rw[Bool.or_eq_true,Bool.and_eq_true]at h;rcases h with ⟨_,h⟩|h
 ·have:(sX s).data.toList=[]:=by
   by_cases q:(sX s).data.toList=[]
   ·exact q
   ·rw[ji q]at h;cases h
  rw[this]at hl;simp at hl;omega
 ·unfold nu at h;rw[Bool.and_eq_true,decide_eq_true_eq]at h;omega
theorem Fi {s:ByteArray} (h:gK s=true):s.size<=64:=by
 unfold gK at h;rw[Bool.or_eq_true]at h;rcases h with h|h
 ·by_cases q:s.data.toList=[42]
  ·rw[<-aj,q];decide
  ·rw[ji q]at h;cases h
 ·unfold jo at h;rw[Bool.and_eq_true,decide_eq_true_eq,aj]at h;exact h.2.2
theorem KG {s:ByteArray} (h:kJ s=true):s.size<=70:=by
 rw[xe]at h;rw[<-aj];rcases h with h|⟨r,h,g⟩|h
 ·rw[h];decide
 ·rw[h];have:=g.2.1;simp only[aBk];omega
 ·have:=h.2.1;omega
theorem sd {r:Res} (h:SaidR wtF r):ResZ r:=by
 have z:(⟨#[]⟩:ByteArray).size<=1048576:=by decide
 have hI:∀k:Int,0<=k->k<=4->I64 k:=fun k a b=>by unfold I64;omega
 have hu:∀act (l:List Rul),(∀t∈l,rE act t)->∀x∈l,x.path.size<=1048576/\x.method.size<=1048576/\x.split.size<=1048576:=fun act l h x hx=>by
  obtain ⟨a,b,c,d⟩:=h x hx;have:=Nj a;have:=Fi b;refine ⟨by omega,by omega,?_⟩;cases act with
  |true=>rw[c rfl];exact z
  |false=>have:=fm (d rfl).1;omega
 cases h with
 |del k s h1 h2 hs=>exact ⟨hI (k:Int) (by omega) (by omega),by have:=fm hs;show s.size<=_;omega,z,z,nofun,nofun,nofun,by show 0+3*0+4*0+8<=1048576;decide⟩
 |serv s l hs h hn hl=>exact ⟨hI 1 (by decide) (by decide),by have:=fm hs;show s.size<=_;omega,z,z,fun x hx=>by have:=fm (h x hx);omega,nofun,nofun,by show l.length+3*0+4*0+8<=_;omega⟩
 |split s l hs h h1 hl=>exact ⟨hI 2 (by decide) (by decide),by have:=fm hs;show s.size<=_;omega,z,z,nofun,fun x hx=>by
  have hf:=zY (h x hx);unfold INF at hf;obtain ⟨a,_⟩:=h x hx;rcases a with ⟨a,b⟩|⟨a,b⟩
  ·have:=fm a;rw[b];exact ⟨by omega,z,by omega⟩
  ·have:=fm b;rw[a];exact ⟨z,by omega,by omega⟩,nofun,by show 0+3*l.length+4*0+8<=_;omega⟩
 |route s l h hs hh hf ho h1 hl=>exact ⟨hI 3 (by decide) (by decide),by have:=fm hs;show s.size<=_;omega,by have:=KG hh;show h.size<=_;omega,z,nofun,nofun,hu _ l ho,by show 0+3*0+4*l.length+8<=_;omega⟩
 |policy s l h hs hh ho h1 hl=>exact ⟨hI 4 (by decide) (by decide),by have:=fm hs;show s.size<=_;omega,z,by have:=fm hh;show h.size<=_;omega,nofun,nofun,hu _ l ho,by show 0+3*0+4*l.length+8<=_;omega⟩
theorem Zc (w:World) (r:Res) (ev tv rv:Value) (hz:ResZ r) (hL:ResL w r ev tv rv) (hg:GlobT w) (h:0<(dH r).length):
 Calls Tryz.prog 18 #[.agg (bV r ev tv rv)] w fun x w'=>x= .returned (.bool true)/\Below w.heap.size w w':=by
 obtain ⟨W,hW⟩:=ex (w.alloc (.cells (bV r ev tv rv) 49));have mU:Below w.heap.size w W:=by rw[hW];exact (aBi _ _).alloc (aBh _) _
 have y1:W.heap[w.heap.size]? =some (.cells (bV r ev tv rv) 49 (0,0)):=by rw[hW];exact ag _
 obtain ⟨ea,en,ec,rfl⟩:=bO hL.e;obtain ⟨ta,tn,tc,rfl⟩:=bO hL.t;obtain ⟨ra,rn,rc,rfl⟩:=bO hL.r;have HT:=hid (P9 W r _ _ _ hz ⟨hL.e.later mU,hL.t.later mU,hL.r.later mU⟩ (hg.later mU));have HB:=hid mU;have Hh:=hid h;clear hz hL hg mU h;unfold bV at HT hW y1 |-;obtain ⟨a0,a1,a2,a3,a4,a5,a6,a7⟩:=cB8 y1;simp at a0 a1 a2 a3 a4 a5 a6 a7;clear y1;go_enter Tryz.func18,Tryz.ntmps18
 go_wp2_with fail
 rw[<-hW];refine HT.o.mono ?_;rintro x w2 ⟨v,ms,rfl,hD,hn,bI⟩;obtain ⟨na,nn,nc,Wh⟩:∃a n c,v= .slice a n c:=bO hD.nds.1;subst Wh;have uF:nn=ms.length:=vX hD.row;have t1:decide (0<nn)=true:=dT (by rw[uF,<-bP,hn];exact Hh.o);have HE:=hid (HB.o.trans (bI.mono HB.o.size));clear a0 a1 a2 a3 a4 a5 a6 a7 hW HT hD hn bI uF;go_wp2;refine bodyPost_ret (results_tmp (t:=2) rfl _ _ _) rfl ⟨rfl,HE.o⟩
theorem Lj {w:World} {ops:Array Oper} {rest:List Oper} {o:Oper} {a:Act} {Q:Exit->Act->World->Prop} (ln:o.guard=none) (s x:Operand)
 (ho:o.op= .call {callee:= .builtin .append,args:=#[s,x],argTypes:=#[42,42]})
 (v:Value) (hs:a.eval s=v) (dh:w.ownsRow 0 5 1 v 0 []) (ao:Option Addr) (m c:Nat) (ks:List UInt8) (hx:a.eval x= .slice ao m c) (jg:SlR w (.slice ao m c) 1 ks dz)
 (h:∀fj c' w',w'.ownsRow 0 5 1 (.slice fj m c') m (ks.flatMap dz)->w.grownBy w' v.ownBlock->(∀g,(Value.slice fj m c').ownBlock=some g->v.ownBlock=some g\/w.heap.size<=g)->
  wpList Tryz.prog ops Q rest (a.put o.dst (.slice fj m c')) w'):wpList Tryz.prog ops Q (o::rest) a w:=by
 obtain ⟨Xf,c1,hv,hl,bN⟩:=jg;injection hv with e1 e2 e3
 subst e1;subst e2;subst e3;cases ao with
 |none=>
  have h0:ks=[]:=by
   refine List.eq_nil_of_length_eq_zero ?_;rcases Nat.eq_zero_or_pos ks.length with q|q
   ·exact q
   ·obtain ⟨b,o,e,_⟩:=bN q;cases e
  subst h0;have hf:∃fj c',v= .slice fj 0 c':=by
   rcases dh.2 with ⟨hv,_⟩|⟨g,cap,cur,hv,_⟩
   ·exact ⟨none,0,hv⟩
   ·exact ⟨_,_,hv⟩
  obtain ⟨fj,c',rfl⟩:=hf;obtain ⟨i,hi,hz,js,FP⟩:=info_parts zI;refine wpList_plain ln fun K hK=> ?_;have hr:=uy (P:= Tryz.prog) (w:=w) 0 42 o.type 5 i 1 Tryz.underlying42 hi _ 0 [] c dh;unfold Oper.wp execOp;simp only[ho,resolve,invoke,builtin,Sem.run_bind,Sem.run_pure,Result.andThen_ok,List.map_toArray,List.map_cons,List.map_nil,hs,hx,List.length_nil,hr]
  exact hK _ _ (h _ _ w dh ⟨rfl,rfl,rfl,aBh _,fun _ _ _=>rfl⟩ fun g hg=> .inl hg)
 |some ad=>
  have one:∀u∈ks.flatMap dz,u.oneCell'=true:=fun u hu=>by
   obtain ⟨y,_,hy⟩:=List.mem_flatMap.1 hu;rw[List.mem_singleton.1 hy];rfl
  refine iY ln s x 42 ho 5 (.int .u8 0) 1 1 Tryz.underlying42 zI rfl (by decide) v 0 [] hs dh (some ad) ks.length c (ks.flatMap dz) hx (flat_len (sz:=1) (cells:=dz) (fun _=>rfl) ks) nofun (fun ad' had j u hj=> ?_) one (by unfold maxLen;omega) (by omega) ks.length (by omega) h;obtain rfl:=aBm had;have ZR:=(aBo hj).1
  rw[flat_len (sz:=1) (cells:=dz) (fun _=>rfl) ks,Nat.mul_one]at ZR;obtain ⟨y,hy⟩:=aF ZR;obtain ⟨b,o,e,_,hc⟩:=bN (by omega);obtain rfl:=aBm e;have h3:=qT (sz:=1) (cells:=dz) (fun _=>rfl) ks j y hy 0 (.int .u8 (y.toNat:Int)) rfl;rw[Nat.mul_one,Nat.add_zero]at h3;rw[h3]at hj;obtain rfl:=aBm hj;have e2:Addr.add ⟨b,o,none⟩ j=⟨b,o+j,none⟩:=by simp[Addr.add]
  have h4:=hc j y hy 0 _ rfl;rw[Nat.mul_one,Nat.add_zero]at h4;rw[e2];exact h4
theorem PZ (w:World) (s:ByteArray) (hs:s.size<=1048576) (cap:Nat):SlR (Lib.bytesWorld w 5 s) (.slice (some ⟨w.heap.size,0,none⟩) s.data.toList.length cap) 1 s.data.toList dz:=by
 refine ⟨_,cap,rfl,by rw[aj];exact hs,fun _=>⟨w.heap.size,0,rfl,by rw[Lib.bytesWorld_size];omega,fun i x hx j u hu=> ?_⟩⟩;have hj:j=0:=by
  have:=(aBo hu).1;unfold dz at this
  simpa using this
 subst hj;have hu2:Value.int .u8 (x.toNat:Int)=u:=by unfold dz at hu;simpa using hu
 have hi:i<s.size:=by rw[<-aj];exact (aBo hx).1
 rw[Nat.mul_one,Nat.zero_add,Nat.add_zero,Lib.bytesWorld_cell w 5 s i hi,List.getD_eq_getElem?_getD,hx,<-hu2];rfl
