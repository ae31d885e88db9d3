/-
Parts of a proof.
-/
import Derived.Test.YtfenoaeoedobmaaGreatDoorOw39
set_option linter.unusedVariables false
set_option linter.unusedSimpArgs false
set_option maxHeartbeats 8000000
set_option maxRecDepth 20000
namespace Go.Proofs.YtfenoaeoedobmaaGreatDoor
open Go Go.RowKit
theorem yg (w:World) (t:Tok) (b:Bool) (hb:(t.kind==1)=b):Calls Tryz.prog 68 #[.agg t.a] w fun r w'=>r= .returned (.bool b)/\Below w.heap.size w w':=by
 unfold Tok.a;cases b
 all_goals
  go_enter Tryz.func68,Tryz.ntmps68;go_wp2;go_ret;exact ⟨rfl,(aAb _ _).alloc (aAa _) _⟩
def kK (ts:List Tok):Int:=if docN ts<ts.length then (docN ts:Int) else -1
theorem FQ {ts:List Tok} {k:Nat} {t:Tok} (h:ts[k]? =some t) (ht:t.kind=1) (hk:docN ts=k+docN (ts.drop k)):kK ts=(k:Int):=by
 have hl:=(aAh h).1;have e:ts.drop k=t::ts.drop (k+1):=fC h;have e2:docN (t::ts.drop (k+1))=0:=by unfold docN;rw[if_pos ht]
 rw[e,e2]at hk;unfold kK;rw[if_pos (by omega),hk];rfl
theorem FP {ts:List Tok} {k:Nat} {t:Tok} (h:ts[k]? =some t) (ht:¬t.kind=1) (hk:docN ts=k+docN (ts.drop k)):docN ts=(k+1)+docN (ts.drop (k+1)):=by
 have e:ts.drop k=t::ts.drop (k+1):=fC h;have e2:docN (t::ts.drop (k+1))=docN (ts.drop (k+1))+1:=by
  conv=>lhs;unfold docN
  rw[if_neg ht]
 rw[e,e2]at hk;omega
theorem Ay {ts:List Tok} {k:Nat} (h:ts.length<=k) (hk:docN ts=k+docN (ts.drop k)):kK ts= -1:=by
 rw[List.drop_eq_nil_of_le h]at hk;unfold kK;rw[if_neg (by omega)]
theorem Ju (w:World) (v:Value) (ts:List Tok) (hv:SlR w v 5 ts Tok.cells):
 Calls Tryz.prog 67 #[v,.func (.func 68) #[] #[]] w fun r w'=>r= .returned (.int .i64 (kK ts))/\Below w.heap.size w w':=by
 obtain ⟨ao,cap,rfl,hl,hat⟩:=hv;obtain ⟨n,hn⟩:=ex (ts.length);have Hn:=hid hn;have Hat:=hid hat;have Hl:=hid (show n<=1048576 by omega);rw[<-hn];clear hn hat hl;go_enter Tryz.func67,Tryz.ntmps67;go_wp2
 go_loopw [8] (fun v wr=>∃k:Nat,v= .int .i64 (k:Int)/\Hid (k<=n/\Below w.heap.size w wr/\docN ts=k+docN (ts.drop k))) (fun v _=>n-(intOf v).toNat)
 case atStart=>exact ⟨0,rfl,hid ⟨Nat.zero_le _,aAb _ _,by simp⟩⟩
 case round=>
  obtain ⟨k,rfl,H⟩:=hrel;have hn:n=ts.length:=Hn.o;by_cases hkn:k<n
  ·obtain ⟨t,ht⟩:∃t,ts[k]? =some t:=⟨ts[k]'(by omega),aAg _⟩;obtain ⟨b,o,rfl,hlt,hcell0⟩:=Hat.o (by omega);have hcell:∀j u,(Tok.cells t)[j]? =some u->wr.cell? ⟨b,o+k*5+j,none⟩=some u:=fun j u hu=>(H.o.2.1.cell hlt).trans (hcell0 k t ht j u hu);have c0:wr.cell? ⟨b,o+k*5,none⟩=some (.int .i64 t.kind):=hcell 0 _ rfl;have c1:wr.cell? ⟨b,o+k*5+1,none⟩=some (.int .i64 t.line):=hcell 1 _ rfl
   have c2:wr.cell? ⟨b,o+k*5+2,none⟩=some (.int .i64 t.col):=hcell 2 _ rfl;have c3:wr.cell? ⟨b,o+k*5+3,none⟩=some (.string ⟨t.text.toArray⟩):=hcell 3 _ rfl;have c4:wr.cell? ⟨b,o+k*5+4,none⟩=some (.bool t.quoted):=hcell 4 _ rfl;have bk:(k:Int)<(n:Int):=by omega
   obtain ⟨Hms,Hgo⟩:=aM (k:=k) (n:=n) hkn (by have:=Hl.o;omega);by_cases hd:t.kind=1
   ·have Hc:=hid (yg wr t true (beq_iff_eq.2 hd));have Hx:=hid (FQ ht hd H.o.2.2);have Hb:=hid H.o.2.1;unfold Tok.a at Hc;clear hcell0 hlt hcell hn H hkn ht hd
    go_wp2_with fail
    refine Hc.o.mono ?_;rintro r w2 ⟨rfl,h2⟩;have HE:=hid (Hb.o.trans (h2.mono Hb.o.size));clear h2 c0 c1 c2 c3 c4 Hc;go_wp2;exact bodyPost_ret (results_tmp (t:=4) rfl _ _ _) rfl ⟨congrArg (fun z=>Ending.returned (.int .i64 z)) Hx.o.symm,HE.o⟩
   ·have Hc:=hid (yg wr t false (beq_eq_false_iff_ne.2 hd));have Hx:=hid (FP ht hd H.o.2.2);have Hb:=hid (And.intro H.o.2.1 hkn);unfold Tok.a at Hc;clear hcell0 hlt hcell hn H hkn ht hd
    go_wp2_with fail
    refine Hc.o.mono ?_;rintro r w2 ⟨rfl,h2⟩;have HE:=hid (show k+1<=n/\Below w.heap.size w w2/\docN ts=(k+1)+docN (ts.drop (k+1)) from ⟨Hb.o.2,Hb.o.1.trans (h2.mono Hb.o.1.size),Hx.o⟩);clear h2 c0 c1 c2 c3 c4 Hc;go_wp2;go_roundw
    case rel=>exact ⟨k+1,Hgo.o,HE⟩
    case measure=>exact Hms.o
  ·have tk:decide (k<n)=false:=dF hkn;have HE:=hid (And.intro (Ay (by omega) H.o.2.2) H.o.2.1);clear H hkn hn;go_wp2;exact bodyPost_ret (results_tmp (t:=4) rfl _ _ _) rfl ⟨congrArg (fun z=>Ending.returned (.int .i64 z)) HE.o.1.symm,HE.o.2⟩
theorem K2 (w:World) (v v':Value) (l:List Int) (h:SlR w v 1 l aP) (h':SlR w v' 1 l aP):
 Calls Tryz.prog 33 #[v,v'] w fun x w'=>x= .returned (.bool true)/\∃k,w'=w.drewN k:=by
 obtain ⟨ao,cap,rfl,hl,hat⟩:=h;obtain ⟨ao',cap',rfl,hl',hat'⟩:=h';by_cases h0:l.length=0
 ·have e1:l=[]:=List.eq_nil_of_length_eq_zero h0;subst e1;refine (Tryz.slices_Equal_int_empty ao ao' cap 0 cap' w (by decide)).mono ?_;rintro x w' ⟨rfl,rfl⟩;exact ⟨rfl,0,rfl⟩
 ·obtain ⟨b1,o1,rfl,l1,q1⟩:=hat (by omega);obtain ⟨b2,o2,rfl,l2,q2⟩:=hat' (by omega);have hc:∀(b o:Nat),(∀i x,l[i]? =some x->∀j u,(aP x)[j]? =some u->w.cell? ⟨b,o+i*1+j,none⟩=some u)->∀j,j<l.length->w.cell? ⟨b,o+j,none⟩=some (.int .i64 (l.getD j 0)):=by
   intro b o q j hj;have:=q j l[j] (aAg hj) 0 _ rfl;rw[Nat.mul_one,Nat.add_zero]at this;rw[this,List.getD_eq_getElem?_getD,aAg hj];rfl
  refine (Tryz.slices_Equal_int b1 o1 l.length cap b2 o2 l.length cap' l l w (aAa _) (aAa _) (by omega) (by omega) (hc b1 o1 q1) (hc b2 o2 q2)).mono ?_;rintro x w' ⟨rfl,k,rfl⟩;exact ⟨by simp,k,rfl⟩
theorem EF (w:World) (x:Nd) (kv kv':Value) (h:SlR w kv 1 x.kids aP) (h':SlR w kv' 1 x.kids aP):
 Calls Tryz.prog 32 #[.agg #[.int .i64 x.kind,.string x.key,.string x.text,.bool x.quoted,.int .i64 x.line,kv],.agg #[.int .i64 x.kind,.string x.key,.string x.text,.bool x.quoted,.int .i64 x.line,kv']] w fun r w'=>r= .returned (.bool true)/\Below w.heap.size w w':=by
 obtain ⟨ka,kn,kc,rfl⟩:=ba h;obtain ⟨ka',kn',kc',rfl⟩:=ba h';have HQ:=hid (fun o1 o2=>K2 ((w.alloc o1).alloc o2) _ _ _ (h.later (((aAb _ _).alloc (aAa _) o1).alloc (by simp) o2)) (h'.later (((aAb _ _).alloc (aAa _) o1).alloc (by simp) o2)));have HB:=hid (fun o1 o2 k=>bdH (((aAb w.heap.size w).alloc (aAa _) o1).alloc (by simp) o2) k);have t1:(x.key.toList==x.key.toList)=true:=by simp
 have t2:(x.text.toList==x.text.toList)=true:=by simp
 have t3:(x.kind==x.kind)=true:=by simp
 clear h h';go_enter Tryz.func32,Tryz.ntmps32
 go_wp2_with fail
 refine (HQ.o _ _).mono ?_;rintro r w' ⟨rfl,k,rfl⟩;have HE:=hid (HB.o (.cells #[.int .i64 x.kind,.string x.key,.string x.text,.bool x.quoted,.int .i64 x.line,.slice ka kn kc] 55) (.cells #[.int .i64 x.kind,.string x.key,.string x.text,.bool x.quoted,.int .i64 x.line,.slice ka' kn' kc'] 55) k);clear HQ HB;go_wp2;refine bodyPost_ret (results_tmp (t:=4) rfl _ _ _) rfl ⟨rfl,HE.o⟩
theorem La (w:World) (v v':Value) (ms ms':List NdM) (h:Nds w v ms) (h':Nds w v' ms') (he:nds ms=nds ms'):
 Calls Tryz.prog 31 #[v,v',.func (.func 32) #[] #[]] w fun r w'=>r= .returned (.bool true)/\Below w.heap.size w w':=by
 obtain ⟨ao,cap,ao',cap',rfl,rfl,hl,hat⟩:=xQ h h' he;obtain ⟨n,hn⟩:=ex (ms.length);rw[<-hn]at hl hat |-;have Hat:=hid (fun w2 (hb:Below w.heap.size w w2) (h0:0<n)=>show ∃b o b' o',ao=some ⟨b,o,none⟩/\ao'=some ⟨b',o',none⟩/\∀i,i<n->∃x kv kv',NdAt w2 b (o+i*6) ⟨x,kv⟩/\NdAt w2 b' (o'+i*6) ⟨x,kv'⟩/\SlR w2 kv 1 x.kids aP/\SlR w2 kv' 1 x.kids aP from by
  obtain ⟨b,o,b',o',e1,e2,hx⟩:=hat h0;refine ⟨b,o,b',o',e1,e2,fun i hi=> ?_⟩;obtain ⟨x,kv,kv',hA,hB,hk,hk'⟩:=hx i hi;have f:=fun p v q=>hb.keeps (p:=p) (v:=v) q;exact ⟨x,kv,kv',⟨f _ _ hA.c0,f _ _ hA.c1,f _ _ hA.c2,f _ _ hA.c3,f _ _ hA.c4,f _ _ hA.c5⟩,⟨f _ _ hB.c0,f _ _ hB.c1,f _ _ hB.c2,f _ _ hB.c3,f _ _ hB.c4,f _ _ hB.c5⟩,hk.later hb,hk'.later hb⟩)
 have Hl:=hid hl;have hne:((n:Int) != (n:Int))=false:=by simp
 clear h h' he hat hn hl;go_enter Tryz.func31,Tryz.ntmps31;go_wp2
 go_loopw [17] (fun vi wr=>∃j:Nat,vi= .int .i64 (j:Int)/\Hid (j<=n/\Below w.heap.size w wr)) (fun vi _=>n-(intOf vi).toNat)
 case atStart=>exact ⟨0,rfl,hid ⟨Nat.zero_le _,aAb _ _⟩⟩
 case round=>
  obtain ⟨j,rfl,H⟩:=hrel;by_cases hjn:j<n
  ·have tj:decide (j<n)=true:=dT hjn;have bj:(j:Int)<(n:Int):=by omega
   obtain ⟨b,o,b',o',rfl,rfl,hx⟩:=Hat.o wr H.o.2 (by omega);obtain ⟨x,kv,kv',hA,hB,hk,hk'⟩:=hx j hjn;obtain ⟨c0,c1,c2,c3,c4,c5⟩:=hA;obtain ⟨d0,d1,d2,d3,d4,d5⟩:=hB;simp only at c0 c1 c2 c3 c4 c5 d0 d1 d2 d3 d4 d5;have hb2:=fun o1 o2=>((aAb wr.heap.size wr).alloc (aAa _) o1).alloc (by simp) o2;have HC:=hid (fun o1 o2=>EF ((wr.alloc o1).alloc o2) x kv kv' (hk.later (hb2 o1 o2)) (hk'.later (hb2 o1 o2)))
   have HB:=hid (fun o1 o2 w2 (h2:Below ((wr.alloc o1).alloc o2).heap.size ((wr.alloc o1).alloc o2) w2)=>show j+1<=n/\Below w.heap.size w w2 from ⟨hjn,(H.o.2.trans ((hb2 o1 o2).mono H.o.2.size)).trans (h2.mono (aAe H.o.2.size (hb2 o1 o2).size))⟩);obtain ⟨ka,kn,kc,rfl⟩:=ba hk;obtain ⟨ka',kn',kc',rfl⟩:=ba hk';have d0:=fun o1=>(((aAb wr.heap.size wr).alloc (aAa _) o1).keeps d0)
   have d1:=fun o1=>(((aAb wr.heap.size wr).alloc (aAa _) o1).keeps d1);have d2:=fun o1=>(((aAb wr.heap.size wr).alloc (aAa _) o1).keeps d2);have d3:=fun o1=>(((aAb wr.heap.size wr).alloc (aAa _) o1).keeps d3);have d4:=fun o1=>(((aAb wr.heap.size wr).alloc (aAa _) o1).keeps d4);have d5:=fun o1=>(((aAb wr.heap.size wr).alloc (aAa _) o1).keeps d5)
   obtain ⟨Hms,Hgo⟩:=aM (k:=j) (n:=n) hjn (by have:=Hl.o;omega);clear hx hk hk' hb2 H hjn Hat
   go_wp2_with fail
   refine (HC.o _ _).mono ?_;rintro r w2 ⟨rfl,h2⟩;have HE:=hid (HB.o _ _ _ h2);clear h2 HC HB c0 c1 c2 c3 c4 c5 d0 d1 d2 d3 d4 d5;go_wp2;go_roundw
   case rel=>exact ⟨j+1,Hgo.o,HE⟩
   case measure=>exact Hms.o
  ·have tj:decide (j<n)=false:=dF hjn;have HE:=hid H.o.2;clear H hjn Hat;go_wp2;refine bodyPost_ret (results_tmp (t:=6) rfl _ _ _) rfl ⟨rfl,HE.o⟩
theorem FJ (w:World) (v v':Value) (ms ms':List NdM) (h:Nds w v ms) (h':Nds w v' ms') (he:nds ms=nds ms'):
 Calls Tryz.prog 20 #[v,v'] w fun r w'=>r= .returned (.bool true)/\Below w.heap.size w w':=by
 obtain ⟨ao,cap,ao',cap',rfl,rfl,_⟩:=xQ h h' he;have HC:=hid (La w _ _ ms ms' h h' he);clear h h' he;go_enter Tryz.func20,Tryz.ntmps20
 go_wp2_with fail
 refine HC.o.mono ?_;rintro r w2 ⟨rfl,h2⟩;have HE:=hid h2;clear h2 HC;go_wp2;refine bodyPost_ret (results_tmp (t:=4) rfl _ _ _) rfl ⟨rfl,HE.o⟩
section
variable {w:World} {Q:Exit->Act->World->Prop} {a:Act} {dv av bv xv yv:Value} {fb i n:Nat} {r:Res} {ev tv rv:Value} {b cap:Nat}
theorem lJ {w1:World} {o:Nat} {r:Res} {ev tv rv:Value} (hb:Below w.heap.size w w1)
 (h:w.cell? ⟨b,o,none⟩=some (.int .i64 r.kind)/\w.cell? ⟨b,o+1,none⟩=some (.string r.name)/\w.cell? ⟨b,o+2,none⟩=some ev/\w.cell? ⟨b,o+3,none⟩=some tv/\w.cell? ⟨b,o+4,none⟩=some (.string r.host)/\w.cell? ⟨b,o+5,none⟩=some rv/\w.cell? ⟨b,o+6,none⟩=some (.string r.route)/\w.cell? ⟨b,o+7,none⟩=some (.bool r.del)):
 w1.cell? ⟨b,o,none⟩=some (.int .i64 r.kind)/\w1.cell? ⟨b,o+1,none⟩=some (.string r.name)/\w1.cell? ⟨b,o+2,none⟩=some ev/\w1.cell? ⟨b,o+3,none⟩=some tv/\w1.cell? ⟨b,o+4,none⟩=some (.string r.host)/\w1.cell? ⟨b,o+5,none⟩=some rv/\w1.cell? ⟨b,o+6,none⟩=some (.string r.route)/\w1.cell? ⟨b,o+7,none⟩=some (.bool r.del):=
 ⟨hb.keeps h.1,hb.keeps h.2.1,hb.keeps h.2.2.1,hb.keeps h.2.2.2.1,hb.keeps h.2.2.2.2.1,hb.keeps h.2.2.2.2.2.1,hb.keeps h.2.2.2.2.2.2.1,hb.keeps h.2.2.2.2.2.2.2⟩
theorem ow_r (hf:OwI a dv (.slice (some ⟨b,0,none⟩) n cap) fb bv i) (hi:i<n)
 (hc:w.cell? ⟨b,i*8,none⟩=some (.int .i64 r.kind)/\w.cell? ⟨b,i*8+1,none⟩=some (.string r.name)/\w.cell? ⟨b,i*8+2,none⟩=some ev/\w.cell? ⟨b,i*8+3,none⟩=some tv/\w.cell? ⟨b,i*8+4,none⟩=some (.string r.host)/\w.cell? ⟨b,i*8+5,none⟩=some rv/\w.cell? ⟨b,i*8+6,none⟩=some (.string r.route)/\w.cell? ⟨b,i*8+7,none⟩=some (.bool r.del))
 (hz:ResZ r) (hL:ResL w r ev tv rv) (hg:GlobT w)
 (ok:∀a' w1 w2 xv yv ms ms',OwX a' dv (.slice (some ⟨b,0,none⟩) n cap) fb bv i xv yv->Below w.heap.size w w1->DocP w1 w.heap.size ⟨xv,ms⟩->AM xv ms->nds ms=eV r->Below w1.heap.size w1 w2->DocP w2 w1.heap.size ⟨yv,ms'⟩->nds ms'=eV r->Q .normal a' w2):owR.wp Tryz.prog Q a w:=by
 obtain ⟨ea,en,ec,rfl⟩:=ba hL.e;obtain ⟨ta,tn,tc,rfl⟩:=ba hL.t;obtain ⟨ra,rn,rc,rfl⟩:=ba hL.r;have HA:=hid (sB w.drew r _ _ _ hz (hL.later (aAb _ _).drew) (hg.later (aAb _ _).drew));have HB:=hid (fun w2 (hb:Below w.heap.size w w2)=>sB w2 r _ _ _ hz (hL.later hb) (hg.later hb));have Hok:=hid ok;have bi:(i:Int)<(n:Int):=by omega
 have hc0:=lJ ((aAb w.heap.size w).drew) hc;obtain ⟨vv,rfl,eE⟩:=hf.shape;simp only[ik,eE];clear eE;clear hf ok hz hL hg hc hi;unfold bJ at HA HB;dsimp only[owR,dU,ncb,ncl,nco,ncr,ncx,Tryz.f7]
 go_wp2_with fail
 go_region_held3 (fun w'=>w'.cell? ⟨b,i*8,none⟩=some (.int .i64 r.kind)/\w'.cell? ⟨b,i*8+1,none⟩=some (.string r.name)/\w'.cell? ⟨b,i*8+2,none⟩=some (.slice ea en ec)/\w'.cell? ⟨b,i*8+3,none⟩=some (.slice ta tn tc)/\w'.cell? ⟨b,i*8+4,none⟩=some (.string r.host)/\w'.cell? ⟨b,i*8+5,none⟩=some (.slice ra rn rc)/\w'.cell? ⟨b,i*8+6,none⟩=some (.string r.route)/\w'.cell? ⟨b,i*8+7,none⟩=some (.bool r.del))
  (first|exact hc0|exact lJ h5 (lJ h4 hc0)|exact lJ h4 hc0|assumption)
  (first
   |(go_at_call 19;(with_reducible refine HB2.o.mono ?_);rintro e w' ⟨yv,ms',rfl,hD2,hn2,h5,_⟩)
   |(go_at_call 19;(with_reducible refine HA.o.mono ?_);rintro e w1 ⟨xv,ms,rfl,hD,hn,h4,hap⟩;have HB2:=hid (HB.o w1 ((aAb w.heap.size w).drew.trans (h4.mono (aAa _))))))
 have Hb:=hid ((aAb w.heap.size w).drew.trans (h4.mono (aAa _)));have HD:=hid (And.intro hD (And.intro hap (And.intro hn (And.intro h5 (And.intro hD2 hn2)))));clear hD hap hn h5 hD2 hn2 h4 HA HB HB2 hc0;go_wp2;obtain ⟨d1,d2,d3,d4,d5,d6⟩:=HD.o;exact Hok.o _ w1 _ xv yv ms ms' ⟨rfl,rfl,rfl,rfl,rfl,rfl,rfl,rfl,rfl⟩ Hb.o d1 d2 d3 d4 d5 d6
theorem KF (hf:OwX a dv av fb (.slice (some ⟨b,0,none⟩) n cap) i xv yv) (hi:i<n)
 (hc:w.cell? ⟨b,i*8,none⟩=some (.int .i64 r.kind)/\w.cell? ⟨b,i*8+1,none⟩=some (.string r.name)/\w.cell? ⟨b,i*8+2,none⟩=some ev/\w.cell? ⟨b,i*8+3,none⟩=some tv/\w.cell? ⟨b,i*8+4,none⟩=some (.string r.host)/\w.cell? ⟨b,i*8+5,none⟩=some rv/\w.cell? ⟨b,i*8+6,none⟩=some (.string r.route)/\w.cell? ⟨b,i*8+7,none⟩=some (.bool r.del))
 (hz:ResZ r) (hL:ResL w r ev tv rv) (hg:GlobT w) {ms:List NdM} (hy:Nds w yv ms) (hn:nds ms=eV r)
 (ok:∀a' w',OwI a' dv av fb (.slice (some ⟨b,0,none⟩) n cap) i->Below w.heap.size w w'->Q .normal a' w'):EY.wp Tryz.prog Q a w:=by
 obtain ⟨ea,en,ec,rfl⟩:=ba hL.e;obtain ⟨ta,tn,tc,rfl⟩:=ba hL.t;obtain ⟨ra,rn,rc,rfl⟩:=ba hL.r;obtain ⟨ya,yn,yc,rfl⟩:=ba hy.sl;have HA:=hid (sB w r _ _ _ hz hL hg);have Hy:=hid hy;have Hn:=hid hn;have Hok:=hid ok;have bi:(i:Int)<(n:Int):=by omega
 obtain ⟨c0,c1,c2,c3,c4,c5,c6,c7⟩:=hc;obtain ⟨vv,rfl,eE⟩:=hf.shape;simp only[ik,eE];clear eE;clear hf ok hz hL hg hi hy hn;unfold bJ at HA;dsimp only[EY,dU,ncb,ncl,nco,ncr,ncx,Tryz.f7]
 go_wp2_with fail
 refine HA.o.mono ?_;rintro x w2 ⟨v,ms2,rfl,hD,hn2,hb2,_⟩;have HS:=hid (FJ w2 _ v ms ms2 (Hy.o.later hb2) hD.nds (Hn.o.trans hn2.symm));obtain ⟨va,vn,vc,hv⟩:=ba hD.nds.sl;subst hv;have Hb2:=hid hb2;clear hD hn2 hb2 c0 c1 c2 c3 c4 c5 c6 c7 HA Hy
 go_wp2_with fail
 refine HS.o.mono ?_;rintro x w3 ⟨rfl,hb3⟩;have HE:=hid (Hb2.o.trans (hb3.mono Hb2.o.size));clear hb3 HS Hb2;go_wp2;exact Hok.o _ _ ⟨rfl,rfl,rfl,rfl,rfl,rfl,rfl⟩ HE.o
end
section
variable {w:World} {Q:Exit->Act->World->Prop} {a:Act} {dv bv:Value} {fb n ca:Nat} {aa:Option Addr}
theorem Kx {P:Nat->World->Prop} (hn:n<=1048576) (hf:OwI a dv (.slice aa n ca) fb bv 0) (h0:P 0 w)
 (hR:∀(i:Nat) (w1:World) (Q':Exit->Act->World->Prop) (a':Act),i<n->P i w1->OwI a' dv (.slice aa n ca) fb bv i->(∀a2 w2,OwI a2 dv (.slice aa n ca) fb bv i->P (i+1) w2->Q' .normal a2 w2)->KO.wp Tryz.prog Q' a' w1)
 (ok:∀a' w',OwI a' dv (.slice aa n ca) fb bv n->P n w'->Q (.exit 0) a' w'):KM.wp Tryz.prog Q a w:=by
 show (Code.loop (Code.seq IK (Code.seq (Code.block 1 KO) KJ))).wp Tryz.prog Q a w
 refine wp_loop (fun a' w'=>∃i:Nat,i<=n/\OwI a' dv (.slice aa n ca) fb bv i/\P i w') (fun a' _=>n-(intOf (a'.tmps.getD 7 undef)).toNat) ⟨0,Nat.zero_le _,hf,h0⟩ ?_;clear hf h0;rintro a1 w1 ⟨i,hi,hf1,h1⟩;by_cases hlt:i<n
 ·have HR:=hid (fun Q' a' hf' ok'=>hR i w1 Q' a' hlt h1 hf' ok');obtain ⟨Hms,Hgo⟩:=aM (k:=i) (n:=n) hlt (by omega);have Hi:=hid hlt;have ti:decide (i<n)=true:=dT hlt;have wi:wrap64 ((i:Int)+1)=(i:Int)+1:=aW (by omega) (by omega);obtain ⟨vv,rfl,eE⟩:=hf1.shape;simp only[ik,eE];clear eE;clear hf1 h1 hlt hi hR ok hn;dsimp only[IK,dU,ncb,ncl,nco,ncr,ncx,Tryz.f7]
  go_wp2
  rename_i Q1 K1 hK1
  refine HR.o _ _ ⟨rfl,rfl,rfl,rfl,rfl,rfl,rfl⟩ (fun a2 w2 f2 r2=> ?_);refine hK1 _ _ ?_;have HE:=hid r2;obtain ⟨vv2,rfl,eE⟩:=f2.shape;simp only[ik,eE];clear eE;clear f2 r2 HR;dsimp only[KJ,dU,ncb,ncl,nco,ncr,ncx,Tryz.f7];go_wp2;exact ⟨⟨i+1,Hi.o,⟨rfl,rfl,rfl,rfl,rfl,rfl,congrArg some Hgo.o⟩,HE.o⟩,Hms.o⟩
 ·have ej:i=n:=by omega
  subst ej;have HO:=hid (fun a' hd=>ok a' w1 hd h1);have ti:decide (i<i)=false:=dF (Nat.lt_irrefl i);obtain ⟨vv,rfl,eE⟩:=hf1.shape;simp only[ik,eE];clear eE;clear hf1 hi hlt h1 ok hR hn;dsimp only[IK,dU,ncb,ncl,nco,ncr,ncx,Tryz.f7];go_wp2;exact HO.o _ ⟨rfl,rfl,rfl,rfl,rfl,rfl,rfl⟩
theorem Kw {P:Nat->World->Prop} (hn:n<=1048576) (hf:OwJ a dv (.slice aa n ca) fb bv 0) (h0:P 0 w)
 (hR:∀(i:Nat) (w1:World) (Q':Exit->Act->World->Prop) (a':Act),i<n->P i w1->OwJ a' dv (.slice aa n ca) fb bv i->(∀a2 w2,OwJ a2 dv (.slice aa n ca) fb bv i->P (i+1) w2->Q' .normal a2 w2)->KN.wp Tryz.prog Q' a' w1)
 (ok:∀a' w',OwJ a' dv (.slice aa n ca) fb bv n->P n w'->Q (.exit 10) a' w'):KL.wp Tryz.prog Q a w:=by
 show (Code.loop (Code.seq IJ (Code.seq (Code.block 11 KN) KI))).wp Tryz.prog Q a w
 refine wp_loop (fun a' w'=>∃i:Nat,i<=n/\OwJ a' dv (.slice aa n ca) fb bv i/\P i w') (fun a' _=>n-(intOf (a'.tmps.getD 14 undef)).toNat) ⟨0,Nat.zero_le _,hf,h0⟩ ?_;clear hf h0;rintro a1 w1 ⟨i,hi,hf1,h1⟩;by_cases hlt:i<n
 ·have HR:=hid (fun Q' a' hf' ok'=>hR i w1 Q' a' hlt h1 hf' ok');obtain ⟨Hms,Hgo⟩:=aM (k:=i) (n:=n) hlt (by omega);have Hi:=hid hlt;have ti:decide (i<n)=true:=dT hlt;have wi:wrap64 ((i:Int)+1)=(i:Int)+1:=aW (by omega) (by omega);obtain ⟨vv,rfl,eE⟩:=hf1.shape;simp only[ik,eE];clear eE;clear hf1 h1 hlt hi hR ok hn;dsimp only[IJ,c8,ncb,ncl,nco,ncr,ncx,Tryz.f7]
  go_wp2
  rename_i Q1 K1 hK1
  refine HR.o _ _ ⟨rfl,rfl,rfl,rfl,rfl,rfl,rfl⟩ (fun a2 w2 f2 r2=> ?_);refine hK1 _ _ ?_;have HE:=hid r2;obtain ⟨vv2,rfl,eE⟩:=f2.shape;simp only[ik,eE];clear eE;clear f2 r2 HR;dsimp only[KI,c8,ncb,ncl,nco,ncr,ncx,Tryz.f7];go_wp2;exact ⟨⟨i+1,Hi.o,⟨rfl,rfl,rfl,rfl,rfl,rfl,congrArg some Hgo.o⟩,HE.o⟩,Hms.o⟩
 ·have ej:i=n:=by omega
  subst ej;have HO:=hid (fun a' hd=>ok a' w1 hd h1);have ti:decide (i<i)=false:=dF (Nat.lt_irrefl i);obtain ⟨vv,rfl,eE⟩:=hf1.shape;simp only[ik,eE];clear eE;clear hf1 hi hlt h1 ok hR hn;dsimp only[IJ,c8,ncb,ncl,nco,ncr,ncx,Tryz.f7];go_wp2;exact HO.o _ ⟨rfl,rfl,rfl,rfl,rfl,rfl,rfl⟩
end
theorem fN:∀(F:Fo) (i:Nat) (x:Int),x∈F.heads i->∃k:Nat,x=(k:Int)/\i<=k/\k<i+F.size
 | .nil,_,_,h=>nomatch h
 | .sc key text q nx,i,x,h=>by
  rw[Fo.heads_sc]at h;rw[Fo.size_sc];rcases List.mem_cons.1 h with rfl|h
  ·exact ⟨i,rfl,by omega,by omega⟩
  ·obtain ⟨k,e,a,b⟩:=fN nx (i+1) x h;exact ⟨k,e,by omega,by omega⟩
 | .br kd key kids nx,i,x,h=>by
  rw[Fo.heads_br]at h;rw[Fo.size_br];rcases List.mem_cons.1 h with rfl|h
  ·exact ⟨i,rfl,by omega,by omega⟩
  ·obtain ⟨k,e,a,b⟩:=fN nx _ x h;exact ⟨k,e,by omega,by omega⟩
theorem ud {kind:Int} {key:ByteArray} {had:List ByteArray} (hk:AN kind key) (hh:kind=2->¬key∈had):g8 kind key had=true:=by
 unfold g8;rw[dF (fun q=>q.2 (hk.2 q.1)),dF (fun q=>hh q.1 q.2)];rfl
theorem Fo.At.lt {ns:List Nd} {F:Fo} {i:Nat} (h:Fo.At ns F i):i+F.size<=ns.length:=by
 obtain ⟨a,b,rfl,rfl⟩:=h;simp[Fo.flat_len]
theorem oX {ns:List Nd} {kind:Int}:∀(F:Fo) (i:Nat) (last:Int) (had:List ByteArray),Fo.At ns F i->F.Ok kind->last<(i:Int)->(kind=2->F.keys.Nodup/\∀x∈F.keys,¬x∈had)->dw ns kind (F.heads i) last had=true
 | .nil,_,_,_,_,_,_,_=>rfl
 | .sc key text q nx,i,last,had,h,hok,hl,hn=>by
  obtain ⟨h1,h2⟩:=h.head_sc;have hlt:=(aAh h1).1;rw[Fo.heads_sc];unfold dw;rw[if_neg (by omega),Int.toNat_natCast,jA h1,ud hok.1 (fun e=>(hn e).2 _ (List.mem_cons_self ..)),if_neg (by decide)];refine oX nx (i+1) _ _ h2 hok.2.2 (by omega) fun e=> ?_;obtain ⟨n1,n2⟩:=hn e;obtain ⟨n3,n4⟩:=List.nodup_cons.1 (show (key::nx.keys).Nodup from n1);refine ⟨n4,fun x hx=>fun hm=> ?_⟩
  rcases List.mem_cons.1 hm with rfl|hm
  ·exact n3 hx
  ·exact n2 x (List.mem_cons_of_mem _ hx) hm
 | .br kd key kids nx,i,last,had,h,hok,hl,hn=>by
  obtain ⟨h1,-,h2⟩:=h.head_br;have hlt:=(aAh h1).1;rw[Fo.heads_br];unfold dw;rw[if_neg (by omega),Int.toNat_natCast,jA h1,ud hok.1 (fun e=>(hn e).2 _ (List.mem_cons_self ..)),if_neg (by decide)];refine oX nx _ _ _ h2 hok.2.2.2.2.2 (by omega) fun e=> ?_;obtain ⟨n1,n2⟩:=hn e;obtain ⟨n3,n4⟩:=List.nodup_cons.1 (show (key::nx.keys).Nodup from n1);refine ⟨n4,fun x hx=>fun hm=> ?_⟩
  rcases List.mem_cons.1 hm with rfl|hm
  ·exact n3 hx
  ·exact n2 x (List.mem_cons_of_mem _ hx) hm
def JQ (F:Fo) (i v:Nat) (d:List Nat):Prop:=(∀x∈F.heads i,d[x.toNat]! =v)/\∀j:Nat,i<=j->j<i+F.size->¬(j:Int)∈F.heads i->d[j]! =0
theorem nQ {ns:List Nd}:∀(F:Fo) (i v:Nat) (d:List Nat) (kind:Int),Fo.At ns F i->F.Ok kind->JQ F i v d->1<=v->(F≠ .nil->F.depth+v<=17)->d.length=ns.length->
 ∃d',(∀rest,eJ ns (F.flat i++rest) i d=eJ ns rest (i+F.size) d')/\d'.length=ns.length/\∀j,j<i\/i+F.size<=j->d'[j]! =d[j]!
 | .nil,i,v,d,kind,_,_,_,_,_,hl=>⟨d,fun rest=>rfl,hl,fun _ _=>rfl⟩
 | .sc key text q nx,i,v,d,kind,h,hok,hd,hv,hdp,hl=>by
  obtain ⟨h1,h2⟩:=h.head_sc;have hdp:=hdp (by simp);rw[Fo.depth_sc]at hdp;rw[Fo.size_sc];have hdi:d[i]! =v:=hd.1 (i:Int) (List.mem_cons_self ..);have hn:cM ns i ⟨1,key,text,q,0,[]⟩ d=some d:=by
   unfold cM;rw[if_neg (by omega),if_pos rfl,if_pos];unfold dd;rcases hok.2.1 with e|e
   ·simp[e]
   ·simp[e]
  obtain ⟨d',g1,g2,g3⟩:=nQ nx (i+1) v d kind h2 hok.2.2 ⟨fun x hx=>hd.1 x (List.mem_cons_of_mem _ hx),fun j a b c=>hd.2 j (by omega) (by rw[Fo.size_sc];omega) (fun hm=>by rcases List.mem_cons.1 hm with e|e;omega;exact c e)⟩ hv (fun _=>by omega) hl;refine ⟨d',fun rest=> ?_,g2,fun j hj=>g3 j (by omega)⟩;rw[Fo.flat_sc,List.cons_append]
  conv=>lhs;unfold eJ
  rw[hn];simp only;rw[g1,Nat.add_assoc]
 | .br kd key kids nx,i,v,d,kind,h,hok,hd,hv,hdp,hl=>by
  obtain ⟨h1,h2,h3⟩:=h.head_br;obtain ⟨o1,o2,o3,o4,o5,o6⟩:=hok;have hdp:=hdp (by simp);rw[Fo.depth_br]at hdp;rw[Fo.size_br];have hdi:d[i]! =v:=hd.1 (i:Int) (List.mem_cons_self ..);have hlen:=h2.lt;have hlen3:=h3.lt;have hkz:∀j:Nat,i+1<=j->j<i+1+kids.size->d[j]! =0:=fun j a b=>hd.2 j (by omega) (by rw[Fo.size_br];omega) (fun hm=>by
   rcases List.mem_cons.1 hm with e|e
   ·omega
   ·obtain ⟨k,e1,e2,e3⟩:=fN nx _ _ e;omega)
  have hR:dw ns kd (kids.heads (i+1)) (i:Int) []=true:=oX kids (i+1) _ _ h2 o4 (by omega) fun e=>⟨o5 e,fun _ _ h=>nomatch h⟩;have hn:cM ns i ⟨kd,key,⟨#[]⟩,false,0,kids.heads (i+1)⟩ d=some (iW (v+1) (kids.heads (i+1)) d):=by
   unfold cM;have hne:kids.heads (i+1)≠[]:=by cases kids with|nil=>exact absurd rfl o3|sc=>simp[Fo.heads]|br=>simp[Fo.heads]
   dsimp only;rw[if_neg (by have:=Fo.depth_pos o3;omega),if_neg (show ¬kd=1 by omega),if_neg (by
    rintro (q|q|q|q)
    ·omega
    ·exact hne q
    ·exact q rfl
    ·cases q)]
   rw[hdi];refine (oY _ _ _ _ (by omega)).1 ⟨hR,fun x hx=> ?_⟩;obtain ⟨k,rfl,a,b⟩:=fN kids _ _ hx;exact hkz k a b
  obtain ⟨d1,e1⟩:=ex (iW (v+1) (kids.heads (i+1)) d);rw[<-e1]at hn;have l1:d1.length=ns.length:=by rw[e1,ky,hl]
  have hout:∀j,j<i+1\/i+1+kids.size<=j->d1[j]! =d[j]! :=fun j hj=>by
   rw[e1];exact gM _ _ _ _ fun x hx e=>by
    obtain ⟨k,rfl,a,b⟩:=fN kids _ _ hx;omega
  have hS:JQ kids (i+1) (v+1) d1:=⟨fun x hx=>by
   obtain ⟨k,rfl,a,b⟩:=fN kids _ _ hx;rw[e1];exact lV _ _ _ _ (by rw[hl];omega) ⟨_,hx,rfl⟩,fun j a b c=>by
   rw[e1,gM _ _ _ _ (fun x hx e=>by
    obtain ⟨k,rfl,_,_⟩:=fN kids _ _ hx;rw[Int.toNat_natCast]at e;exact c (e ▸ hx))]
   exact hkz j a b⟩
  obtain ⟨d2,g1,g2,g3⟩:=nQ kids (i+1) (v+1) d1 kd h2 o4 hS (by omega) (fun _=>by omega) l1;have hS2:JQ nx (i+1+kids.size) v d2:=⟨fun x hx=>by
   obtain ⟨k,rfl,a,b⟩:=fN nx _ _ hx;rw[Int.toNat_natCast,g3 k (by omega),hout k (by omega)];exact hd.1 (k:Int) (List.mem_cons_of_mem _ hx),fun j a b c=>by
   rw[g3 j (by omega),hout j (by omega)];exact hd.2 j (by omega) (by rw[Fo.size_br];omega) (fun hm=>by rcases List.mem_cons.1 hm with e|e;omega;exact c e)⟩
  obtain ⟨d3,k1,k2,k3⟩:=nQ nx (i+1+kids.size) v d2 kind h3 o6 hS2 hv (fun _=>by omega) g2;refine ⟨d3,fun rest=> ?_,k2,fun j hj=> ?_⟩
  ·rw[Fo.flat_br,List.cons_append,List.append_assoc]
   conv=>lhs;unfold eJ
   rw[hn];simp only;rw[g1,k1,show i+1+kids.size+nx.size=i+(1+kids.size+nx.size) by omega]
  ·rw[k3 j (by omega),g3 j (by omega),hout j (by omega)]
theorem A8 {F:Fo} (h:DocG F):dI F.doc=true:=by
 have hl:=F.doc_len;have hs:=h.size;have hd:=h.depth;have ha:=F.doc_at;have h0:=jA ha.head_br.1;have hok:(Fo.br 2 ⟨#[]⟩ F .nil).Ok 3:=⟨CS,.inl rfl,h.ne,h.ok,fun _=>h.nodup,trivial⟩;have hp:1<=F.doc.length:=by omega
 obtain ⟨d',g1,g2,g3⟩:=nQ (ns:=F.doc) (Fo.br 2 ⟨#[]⟩ F .nil) 0 1 (1::List.replicate (F.doc.length-1) 0) 3 ha hok ⟨fun x hx=>by
  have:x=0:=by simpa[Fo.heads] using hx
  rw[this];rfl,fun j a b c=>by
  have hj:j≠0:=fun e=>c (by rw[e];simp[Fo.heads]);obtain ⟨m,rfl⟩:∃m,j=m+1:=⟨j-1,by omega⟩;rw[List.getElem!_eq_getElem?_getD,List.getElem?_cons_succ,List.getElem?_replicate]
  split<;>rfl⟩ (by omega) (fun _=>by rw[Fo.depth_br];simp only[Fo.depth];omega) (by simp;omega)
 unfold dI;have e:=g1 [];rw[List.append_nil,show Fo.flat (Fo.br 2 ⟨#[]⟩ F .nil) 0=F.doc from rfl]at e;rw[e,h0,dT ⟨(fun q=>by rw[q]at hp;exact absurd hp (by decide)),by omega,rfl⟩];rfl
def jE (ns:List Nd) (l:List Int) (key:ByteArray):Option Nd:=((l.find? fun k=>decide ((ns[k.toNat]!).key=key)).map Int.toNat).map fun k=>ns[k]!
def xZ (key s:ByteArray):Nd:=⟨1,key,s,!fV s.data.toList,0,[]⟩
theorem fP {ns:List Nd} {k s:ByteArray} {nx:Fo} {i:Nat} (h:Fo.At ns (aJ k s nx) i) (key:ByteArray):jE ns ((aJ k s nx).heads i) key=if k=key then some (xZ k s) else jE ns (nx.heads (i+1)) key:=by
 have h1:=jA h.head_sc.1;unfold jE aJ;rw[Fo.heads_sc,List.find?_cons,Int.toNat_natCast,h1];by_cases e:k=key
 ·rw[if_pos e,dT e];simp only[Option.map_some,Int.toNat_natCast];rw[h1];rfl
 ·rw[if_neg e,dF e]
theorem Cp {ns:List Nd} {m:Nd} {key:ByteArray} {n:Nd} (h:jE ns m.kids key=some n):bH ns m key= .ok n:=by
 unfold bH;rw[show bC ns m key=some n from h]
theorem yF {key s:ByteArray} {so:ByteArray->Bool} (h:so s=true):aS (xZ key s) so= .ok s:=by
 unfold aS xZ;rw[if_neg (by rintro (q|q);exact q rfl;rw[h]at q;cases q)]
def ve (W:Nat->Prop) (t:Tgt):Prop:=
 ((isName t.service=true/\t.split=⟨#[]⟩)\/(t.service=⟨#[]⟩/\isName t.split=true))/\W t.weight
def pL (act:Bool) (x:Rul):Prop:=
 gP x.path=true/\fm x.method=true/\(act=true->x.split=⟨#[]⟩)/\(act=false->isName x.split=true/\x.allow=false)
