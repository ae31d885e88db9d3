/-
Parts of a proof.
-/
import Derived.Test.YtfenoaeoedobmaaGreatDoorBk39
set_option linter.unusedVariables false
set_option linter.unusedSimpArgs false
set_option maxHeartbeats 4000000
set_option maxRecDepth 20000
namespace Go.Proofs.YtfenoaeoedobmaaGreatDoor
open Go Go.RowKit
theorem a34 {α:Type} {w:World} {v v':Value} {sz:Nat} {xs:List α} {cells:α->List Value} (h:SlR w v sz xs cells) (h':SlR w v' sz xs cells):∃n ao cap ao' cap',n=xs.length/\v= .slice ao n cap/\v'= .slice ao' n cap'/\n<=1048576/\
 (∀i,i<n->∃x b o b' o',xs[i]? =some x/\ao=some ⟨b,o,none⟩/\ao'=some ⟨b',o',none⟩/\b<w.heap.size/\b'<w.heap.size/\(∀j u,(cells x)[j]? =some u->w.cell? ⟨b,o+i*sz+j,none⟩=some u)/\(∀j u,(cells x)[j]? =some u->w.cell? ⟨b',o'+i*sz+j,none⟩=some u)):=by
 obtain ⟨ao,cap,hv,hl,hat⟩:=h;obtain ⟨ao',cap',hv',_,hat'⟩:=h';refine ⟨_,ao,cap,ao',cap',rfl,hv,hv',hl,fun i hi=> ?_⟩;obtain ⟨b,o,ha,hb,hc⟩:=hat (by omega);obtain ⟨b',o',ha',hb',hc'⟩:=hat' (by omega);obtain ⟨x,hx⟩:=aAh hi;exact ⟨x,b,o,b',o',hx,ha,ha',hb,hb',hc i x hx,hc' i x hx⟩
theorem blk2 {w w2:World} {a1 a2:Array Value} {T:TypeId} (hb:Below (w.heap.size+2) ((w.alloc (.cells a1 T)).alloc (.cells a2 T)) w2):w2.heap[w.heap.size]? =some (.cells a1 T (0,0))/\w2.heap[w.heap.size+1]? =some (.cells a2 T (0,0)):=by
 have h1:((w.alloc (.cells a1 T)).alloc (.cells a2 T)).heap[w.heap.size]? =some (.cells a1 T (0,0)):=(aAe _ (by simp)).trans (aAc _);have h2:((w.alloc (.cells a1 T)).alloc (.cells a2 T)).heap[w.heap.size+1]? =some (.cells a2 T (0,0)):=by
  have:=aAc (w:=w.alloc (.cells a1 T)) (.cells a2 T)
  simpa using this
 exact ⟨(hb.block _ (by omega)).trans h1,(hb.block _ (by omega)).trans h2⟩
theorem aHd (w:World) (o1 o2:Obj):Below w.heap.size w ((w.alloc o1).alloc o2):=((a7d _ _).alloc (a7c _) o1).alloc (by simp) o2
theorem key_c' (w:World) (r:Res) (ev tv rv ev' tv' rv':Value) (T:TypeId) (hT:T= 49)
 (he:∃a n c,ev= .slice a n c) (ht:∃a n c,tv= .slice a n c) (hr:∃a n c,rv= .slice a n c) (he':∃a n c,ev'= .slice a n c) (ht':∃a n c,tv'= .slice a n c) (hr':∃a n c,rv'= .slice a n c):
 Calls Tryz.prog 28 #[.agg (resA r ev tv rv),.agg (resA r ev' tv' rv')] w fun e w'=>e= .returned (.bool true)/\Below w.heap.size w w':=by
 obtain ⟨a1,n1,c1,rfl⟩:=he;obtain ⟨a2,n2,c2,rfl⟩:=ht;obtain ⟨a3,n3,c3,rfl⟩:=hr;obtain ⟨a4,n4,c4,rfl⟩:=he';obtain ⟨a5,n5,c5,rfl⟩:=ht';obtain ⟨a6,n6,c6,rfl⟩:=hr';unfold resA;go_enter Tryz.func28,Tryz.ntmps28;go_wp2;go_ret;exact ⟨rfl,aHd _ _ _⟩
theorem aBk {α:Type} {w:World} {v:Value} {sz:Nat} {xs:List α} {cells:α->List Value} (h:SlR w v sz xs cells):∃a n c,v= .slice a n c:=by
 obtain ⟨a,c,e,_⟩:=h;exact ⟨a,_,c,e⟩
theorem _root_.Go.RowKit.Below.keeps {w w':World} {p:Addr} {v:Value} (h:Below w.heap.size w w') (hp:w.cell? p=some v):w'.cell? p=some v:=(h.cell (World.block_lt_of_cell? _ _ hp)).trans hp
theorem a14 (t:Rul) (w:World):(Op.equalIn 10000 60 (.agg #[.string t.path,.string t.method,.string t.split,.bool t.allow]) (.agg #[.string t.path,.string t.method,.string t.split,.bool t.allow])).run Tryz.prog w= .ok true w:=by
 rw[run_equalIn_agg w 9999 _ _ _ (by kernel_rfl) (by kernel_rfl)];have e: Tryz.prog.fieldsOf 60 =(match Tryz.prog.underlying 60 with|some (.struct fs)=>fs|_=>#[]):=rfl;rw[Tryz.underlying60]at e;rw[e];simp[Op.eqFields,part,Tryz.isAgg4,Tryz.isAgg9,run_equalIn_bool' w 9998 _ _ _ Tryz.underlying4,run_equalIn_string w 9998 _ _ _ Tryz.underlying9]
theorem a6h (t:Rul) (w:World):(binOp .neq 60 (.agg #[.string t.path,.string t.method,.string t.split,.bool t.allow]) (.agg #[.string t.path,.string t.method,.string t.split,.bool t.allow])).run Tryz.prog w= .ok (.bool false) w:=by
 rw[run_neq_struct,a14];rfl
theorem aE9 {B:Nat} {a w:World} (h:Below B a w) (n:Nat):Below B a (w.drewN n):=⟨h.os,h.tape,h.output,h.size,h.block⟩
def eqW (x y:Nat):Bool:=FloatKind.f64.format.order x y==some .eq
def tgtB (a b:Tgt):Bool:=(a.service.toList==b.service.toList)&&(a.split.toList==b.split.toList)&&eqW a.weight b.weight
def rulB (a b:Rul):Bool:=(a.path.toList==b.path.toList)&&(a.method.toList==b.method.toList)&&(a.split.toList==b.split.toList)&&(a.allow==b.allow)
def allB {α:Type} (f:α->α->Bool):List α->List α->Bool
 |[],[]=>true
 |a::l,b::m=>f a b&&allB f l m
 |_,_=>false
theorem aMz {α:Type} {f:α->α->Bool}:∀{l m:List α},l.length≠m.length->allB f l m=false
 |[],[],h=>absurd rfl h
 |[],_::_,_=>rfl
 |_::_,[],_=>rfl
 |a::l,b::m,h=>by
  unfold allB;rw[aMz (l:=l) (m:=m) (by simpa using h),Bool.and_false]
theorem aQl {α:Type} {f:α->α->Bool}:∀{l m:List α} {j:Nat} {a b:α},l[j]? =some a->m[j]? =some b->f a b=false->allB f l m=false
 |[],_,j,_,_,h,_,_=>by simp at h
 |_::_,[],j,_,_,_,h,_=>by simp at h
 |x::l,y::m,0,a,b,h1,h2,h=>by
  simp at h1 h2;subst h1;subst h2;unfold allB;rw[h,Bool.false_and]
 |x::l,y::m,j+1,a,b,h1,h2,h=>by
  unfold allB;rw[aQl (l:=l) (m:=m) (j:=j) (by simpa using h1) (by simpa using h2) h,Bool.and_false]
theorem aM0 {α:Type} {f:α->α->Bool}:∀{l m:List α},l.length=m.length->(∀(j:Nat) (a b:α),l[j]? =some a->m[j]? =some b->f a b=true)->allB f l m=true
 |[],[],_,_=>rfl
 |[],_::_,h,_=>by simp at h
 |_::_,[],h,_=>by simp at h
 |x::l,y::m,h,H=>by
  unfold allB;rw[H 0 x y rfl rfl,aM0 (l:=l) (m:=m) (by simpa using h) (fun j a b h1 h2=>H (j+1) a b (by simpa using h1) (by simpa using h2)),Bool.true_and]
theorem aH7 {P:Program} (w:World) (d:Nat) (t:TypeId) (a b:Nat) (h:P.underlying t=some (.float .f64)):(Op.equalIn (d+1) t (.float .f64 a) (.float .f64 b)).run P w= .ok (eqW a b) w:=by
 simp[Op.equalIn,run_underlying h,Op.floatEq,eqW]
theorem aX5 (s t:Tgt) (w:World):(Op.equalIn 10000 58 (.agg #[.string s.service,.string s.split,.float .f64 s.weight]) (.agg #[.string t.service,.string t.split,.float .f64 t.weight])).run Tryz.prog w= .ok (tgtB s t) w:=by
 rw[run_equalIn_agg w 9999 _ _ _ (by kernel_rfl) (by kernel_rfl)];have e: Tryz.prog.fieldsOf 58 =(match Tryz.prog.underlying 58 with|some (.struct fs)=>fs|_=>#[]):=rfl;rw[Tryz.underlying58]at e;rw[e];unfold tgtB;cases h1:(s.service.toList==t.service.toList)<;>cases h2:(s.split.toList==t.split.toList)<;>cases h3:eqW s.weight t.weight<;>
  simp[Op.eqFields,part,Tryz.isAgg56,Tryz.isAgg9,aH7 w 9998 _ _ _ Tryz.underlying56,run_equalIn_string w 9998 _ _ _ Tryz.underlying9,h1,h2,h3]
theorem a15 (s t:Tgt) (w:World):(binOp .neq 58 (.agg #[.string s.service,.string s.split,.float .f64 s.weight]) (.agg #[.string t.service,.string t.split,.float .f64 t.weight])).run Tryz.prog w= .ok (.bool (!(tgtB s t))) w:=by
 rw[run_neq_struct,aX5];rfl
theorem aX6 (s t:Rul) (w:World):(Op.equalIn 10000 60 (.agg #[.string s.path,.string s.method,.string s.split,.bool s.allow]) (.agg #[.string t.path,.string t.method,.string t.split,.bool t.allow])).run Tryz.prog w= .ok (rulB s t) w:=by
 rw[run_equalIn_agg w 9999 _ _ _ (by kernel_rfl) (by kernel_rfl)];have e: Tryz.prog.fieldsOf 60 =(match Tryz.prog.underlying 60 with|some (.struct fs)=>fs|_=>#[]):=rfl;rw[Tryz.underlying60]at e;rw[e];unfold rulB;cases h1:(s.path.toList==t.path.toList)<;>cases h2:(s.method.toList==t.method.toList)<;>cases h3:(s.split.toList==t.split.toList)<;>cases h4:(s.allow==t.allow)<;>
  simp[Op.eqFields,part,Tryz.isAgg4,Tryz.isAgg9,run_equalIn_bool' w 9998 _ _ _ Tryz.underlying4,run_equalIn_string w 9998 _ _ _ Tryz.underlying9,h1,h2,h3,h4]
theorem a16 (s t:Rul) (w:World):(binOp .neq 60 (.agg #[.string s.path,.string s.method,.string s.split,.bool s.allow]) (.agg #[.string t.path,.string t.method,.string t.split,.bool t.allow])).run Tryz.prog w= .ok (.bool (!(rulB s t))) w:=by
 rw[run_neq_struct,aX6];rfl
theorem teq_c (w:World) (v v':Value) (l l':List Tgt) (h:SlR w v 3 l aA6) (h':SlR w v' 3 l' aA6):
 Calls Tryz.prog 74 #[v,v'] w fun x w'=>x= .returned (.bool (allB tgtB l l'))/\∃k,w'=w.drewN k:=by
 obtain ⟨ao,cap,hv,hl,hat⟩:=h;obtain ⟨ao',cap',hv',hl',hat'⟩:=h';obtain ⟨n,hn⟩:∃n,n=l.length:=⟨_,rfl⟩;obtain ⟨n',hn'⟩:∃n',n'=l'.length:=⟨_,rfl⟩;rw[<-hn]at hv hl hat;rw[<-hn']at hv' hl' hat';subst hv;subst hv';by_cases hnn:n=n'
 ·subst hnn;have Hat:=hid (And.intro hat hat');have Hn:=hid (And.intro hn hn');have Hl:=hid hl;have hN:=fun s t w=>a15 s t w;clear hat hat' hn hn' hl hl';go_enter Tryz.func74,Tryz.ntmps74;go_wp2
  go_loopw [5,13] (fun v5 vi wr=>∃j:Nat,vi= .int .i64 (j:Int)/\Hid (j<=n/\(∃k,wr=w.drewN k)/\∀(i:Nat) (a b:Tgt),i<j->l[i]? =some a->l'[i]? =some b->tgtB a b=true)) (fun _ vi _=>n-(intOf vi).toNat)
  case atStart=>exact ⟨0,rfl,hid ⟨Nat.zero_le _,⟨0,rfl⟩,fun i a b hi=>absurd hi (Nat.not_lt_zero _)⟩⟩
  case round=>
   obtain ⟨j,rfl,H⟩:=hrel;obtain ⟨hjn,⟨kw,rfl⟩,hall⟩:=H.out;by_cases hj:j<n
   ·have tj:decide (j<n)=true:=dT hj;have bj:(j:Int)<(n:Int):=by omega
    obtain ⟨s,hs⟩:∃s,l[j]? =some s:=aAh (by rw[<-Hn.out.1];exact hj);obtain ⟨t,ht⟩:∃t,l'[j]? =some t:=aAh (by rw[<-Hn.out.2];exact hj);obtain ⟨b1,o1,rfl,l1,q1⟩:=Hat.out.1 (by omega);obtain ⟨b2,o2,rfl,l2,q2⟩:=Hat.out.2 (by omega);have q1:=q1 j s hs;have q2:=q2 j t ht;have c0:(w.drewN kw).cell? ⟨b1,o1+j*3,none⟩=_:=q1 0 _ rfl;have d0:(w.drewN kw).cell? ⟨b2,o2+j*3,none⟩=_:=q2 0 _ rfl;have c1:(w.drewN kw).cell? ⟨b1,o1+j*3+1,none⟩=_:=q1 1 _ rfl
    have d1:(w.drewN kw).cell? ⟨b2,o2+j*3+1,none⟩=_:=q2 1 _ rfl;have c2:(w.drewN kw).cell? ⟨b1,o1+j*3+2,none⟩=_:=q1 2 _ rfl;have d2:(w.drewN kw).cell? ⟨b2,o2+j*3+2,none⟩=_:=q2 2 _ rfl;have hNe:=fun W=>hN s t W;obtain ⟨Hms,Hgo⟩:=aA3 (k:=j) (n:=n) hj (by have:=Hl.out;omega);cases hb:tgtB s t with
    |true=>
     rw[hb]at hNe;simp only[Bool.not_true]at hNe;have HH:=hid (fun k=>show j+1<=n/\(∃k',(w.drewN kw).drewN k=w.drewN k')/\∀(i:Nat) (a b:Tgt),i<j+1->l[i]? =some a->l'[i]? =some b->tgtB a b=true from
      ⟨hj,⟨kw+k,aB0 _ _ _⟩,fun i a b hi h1 h2=>by
       rcases Nat.lt_succ_iff_lt_or_eq.1 hi with q|rfl
       ·exact hall i a b q h1 h2
       ·rw[hs]at h1;rw[ht]at h2;obtain rfl:=a7h h1;obtain rfl:=a7h h2;exact hb⟩)
     clear hN hall H q1 q2 hs ht hj hjn l1 l2 hb Hat Hn;go_wp2
     go_region_held3 (fun w'=>w'.cell? ⟨b1,o1+j*3,none⟩=some (.string s.service)/\w'.cell? ⟨b1,o1+j*3+1,none⟩=some (.string s.split)/\w'.cell? ⟨b1,o1+j*3+2,none⟩=some (.float .f64 s.weight)/\w'.cell? ⟨b2,o2+j*3,none⟩=some (.string t.service)/\w'.cell? ⟨b2,o2+j*3+1,none⟩=some (.string t.split)/\w'.cell? ⟨b2,o2+j*3+2,none⟩=some (.float .f64 t.weight)) (first|exact ⟨c0,c1,c2,d0,d1,d2⟩) (fail)
     all_goals go_wp2
     all_goals go_roundw
     all_goals first|exact ⟨j+1,Hgo.out,hid (HH.out 1)⟩|exact Hms.out
    |false=>
     rw[hb]at hNe;simp only[Bool.not_false]at hNe;have HH:=hid (fun k=>show allB tgtB l l'=false/\∃k',(w.drewN kw).drewN k=w.drewN k' from ⟨aQl hs ht hb,kw+k,aB0 _ _ _⟩);clear hN hall H q1 q2 hs ht hj hjn l1 l2 hb Hat Hn;go_wp2
     go_region_held3 (fun w'=>w'.cell? ⟨b1,o1+j*3,none⟩=some (.string s.service)/\w'.cell? ⟨b1,o1+j*3+1,none⟩=some (.string s.split)/\w'.cell? ⟨b1,o1+j*3+2,none⟩=some (.float .f64 s.weight)/\w'.cell? ⟨b2,o2+j*3,none⟩=some (.string t.service)/\w'.cell? ⟨b2,o2+j*3+1,none⟩=some (.string t.split)/\w'.cell? ⟨b2,o2+j*3+2,none⟩=some (.float .f64 t.weight)) (first|exact ⟨c0,c1,c2,d0,d1,d2⟩) (fail)
     all_goals go_wp2
     all_goals refine bodyPost_ret (results_tmp (t:=4) rfl _ _ _) rfl ?_
     all_goals obtain ⟨z1,z2⟩:=HH.out 1
     all_goals exact ⟨by rw[z1];rfl,z2⟩
   ·have tj:decide (j<n)=false:=dF hj;have HE:=hid (show allB tgtB l l'=true from aM0 (Hn.out.1.symm.trans Hn.out.2) (fun i a b h1 h2=>hall i a b (by have:=(a7j h1).1;have:=Hn.out.1;omega) h1 h2));clear hN hall H hj hjn Hat Hn;go_wp2;refine bodyPost_ret (results_tmp (t:=4) rfl _ _ _) rfl ?_;exact ⟨by rw[HE.out];rfl,kw,rfl⟩
 ·have t1:((n:Int) != (n':Int))=true:=bne_iff_ne.2 (fun e=>hnn (by omega));have t2:((n:Int)==(n':Int))=false:=beq_eq_false_iff_ne.2 (fun e=>hnn (by omega));have HE:=hid (show allB tgtB l l'=false from aMz (by rw[<-hn,<-hn'];exact hnn));clear hat hat' hn hn' hnn hl hl';go_enter Tryz.func74,Tryz.ntmps74
  go_wp2;refine bodyPost_ret (results_tmp (t:=4) rfl _ _ _) rfl ?_;exact ⟨by rw[HE.out];rfl,0,rfl⟩
theorem ueq_c (w:World) (v v':Value) (l l':List Rul) (h:SlR w v 4 l aAy) (h':SlR w v' 4 l' aAy):
 Calls Tryz.prog 75 #[v,v'] w fun x w'=>x= .returned (.bool (allB rulB l l'))/\∃k,w'=w.drewN k:=by
 obtain ⟨ao,cap,hv,hl,hat⟩:=h;obtain ⟨ao',cap',hv',hl',hat'⟩:=h';obtain ⟨n,hn⟩:∃n,n=l.length:=⟨_,rfl⟩;obtain ⟨n',hn'⟩:∃n',n'=l'.length:=⟨_,rfl⟩;rw[<-hn]at hv hl hat;rw[<-hn']at hv' hl' hat';subst hv;subst hv';by_cases hnn:n=n'
 ·subst hnn;have Hat:=hid (And.intro hat hat');have Hn:=hid (And.intro hn hn');have Hl:=hid hl;have hN:=fun s t w=>a16 s t w;clear hat hat' hn hn' hl hl';go_enter Tryz.func75,Tryz.ntmps75;go_wp2
  go_loopw [5,13] (fun v5 vi wr=>∃j:Nat,vi= .int .i64 (j:Int)/\Hid (j<=n/\(∃k,wr=w.drewN k)/\∀(i:Nat) (a b:Rul),i<j->l[i]? =some a->l'[i]? =some b->rulB a b=true)) (fun _ vi _=>n-(intOf vi).toNat)
  case atStart=>exact ⟨0,rfl,hid ⟨Nat.zero_le _,⟨0,rfl⟩,fun i a b hi=>absurd hi (Nat.not_lt_zero _)⟩⟩
  case round=>
   obtain ⟨j,rfl,H⟩:=hrel;obtain ⟨hjn,⟨kw,rfl⟩,hall⟩:=H.out;by_cases hj:j<n
   ·have tj:decide (j<n)=true:=dT hj;have bj:(j:Int)<(n:Int):=by omega
    obtain ⟨s,hs⟩:∃s,l[j]? =some s:=aAh (by rw[<-Hn.out.1];exact hj);obtain ⟨t,ht⟩:∃t,l'[j]? =some t:=aAh (by rw[<-Hn.out.2];exact hj);obtain ⟨b1,o1,rfl,l1,q1⟩:=Hat.out.1 (by omega);obtain ⟨b2,o2,rfl,l2,q2⟩:=Hat.out.2 (by omega);have q1:=q1 j s hs;have q2:=q2 j t ht;have c0:(w.drewN kw).cell? ⟨b1,o1+j*4,none⟩=_:=q1 0 _ rfl;have d0:(w.drewN kw).cell? ⟨b2,o2+j*4,none⟩=_:=q2 0 _ rfl;have c1:(w.drewN kw).cell? ⟨b1,o1+j*4+1,none⟩=_:=q1 1 _ rfl
    have d1:(w.drewN kw).cell? ⟨b2,o2+j*4+1,none⟩=_:=q2 1 _ rfl;have c2:(w.drewN kw).cell? ⟨b1,o1+j*4+2,none⟩=_:=q1 2 _ rfl;have d2:(w.drewN kw).cell? ⟨b2,o2+j*4+2,none⟩=_:=q2 2 _ rfl;have c3:(w.drewN kw).cell? ⟨b1,o1+j*4+3,none⟩=_:=q1 3 _ rfl;have d3:(w.drewN kw).cell? ⟨b2,o2+j*4+3,none⟩=_:=q2 3 _ rfl;have hNe:=fun W=>hN s t W;obtain ⟨Hms,Hgo⟩:=aA3 (k:=j) (n:=n) hj (by have:=Hl.out;omega);cases hb:rulB s t with
    |true=>
     rw[hb]at hNe;simp only[Bool.not_true]at hNe;have HH:=hid (fun k=>show j+1<=n/\(∃k',(w.drewN kw).drewN k=w.drewN k')/\∀(i:Nat) (a b:Rul),i<j+1->l[i]? =some a->l'[i]? =some b->rulB a b=true from
      ⟨hj,⟨kw+k,aB0 _ _ _⟩,fun i a b hi h1 h2=>by
       rcases Nat.lt_succ_iff_lt_or_eq.1 hi with q|rfl
       ·exact hall i a b q h1 h2
       ·rw[hs]at h1;rw[ht]at h2;obtain rfl:=a7h h1;obtain rfl:=a7h h2;exact hb⟩)
     clear hN hall H q1 q2 hs ht hj hjn l1 l2 hb Hat Hn;go_wp2
     go_region_held3 (fun w'=>w'.cell? ⟨b1,o1+j*4,none⟩=some (.string s.path)/\w'.cell? ⟨b1,o1+j*4+1,none⟩=some (.string s.method)/\w'.cell? ⟨b1,o1+j*4+2,none⟩=some (.string s.split)/\w'.cell? ⟨b1,o1+j*4+3,none⟩=some (.bool s.allow)/\w'.cell? ⟨b2,o2+j*4,none⟩=some (.string t.path)/\w'.cell? ⟨b2,o2+j*4+1,none⟩=some (.string t.method)/\w'.cell? ⟨b2,o2+j*4+2,none⟩=some (.string t.split)/\w'.cell? ⟨b2,o2+j*4+3,none⟩=some (.bool t.allow)) (first|exact ⟨c0,c1,c2,c3,d0,d1,d2,d3⟩) (fail)
     all_goals go_wp2
     all_goals go_roundw
     all_goals first|exact ⟨j+1,Hgo.out,hid (HH.out 1)⟩|exact Hms.out
    |false=>
     rw[hb]at hNe;simp only[Bool.not_false]at hNe;have HH:=hid (fun k=>show allB rulB l l'=false/\∃k',(w.drewN kw).drewN k=w.drewN k' from ⟨aQl hs ht hb,kw+k,aB0 _ _ _⟩);clear hN hall H q1 q2 hs ht hj hjn l1 l2 hb Hat Hn;go_wp2
     go_region_held3 (fun w'=>w'.cell? ⟨b1,o1+j*4,none⟩=some (.string s.path)/\w'.cell? ⟨b1,o1+j*4+1,none⟩=some (.string s.method)/\w'.cell? ⟨b1,o1+j*4+2,none⟩=some (.string s.split)/\w'.cell? ⟨b1,o1+j*4+3,none⟩=some (.bool s.allow)/\w'.cell? ⟨b2,o2+j*4,none⟩=some (.string t.path)/\w'.cell? ⟨b2,o2+j*4+1,none⟩=some (.string t.method)/\w'.cell? ⟨b2,o2+j*4+2,none⟩=some (.string t.split)/\w'.cell? ⟨b2,o2+j*4+3,none⟩=some (.bool t.allow)) (first|exact ⟨c0,c1,c2,c3,d0,d1,d2,d3⟩) (fail)
     all_goals go_wp2
     all_goals refine bodyPost_ret (results_tmp (t:=4) rfl _ _ _) rfl ?_
     all_goals obtain ⟨z1,z2⟩:=HH.out 1
     all_goals exact ⟨by rw[z1];rfl,z2⟩
   ·have tj:decide (j<n)=false:=dF hj;have HE:=hid (show allB rulB l l'=true from aM0 (Hn.out.1.symm.trans Hn.out.2) (fun i a b h1 h2=>hall i a b (by have:=(a7j h1).1;have:=Hn.out.1;omega) h1 h2));clear hN hall H hj hjn Hat Hn;go_wp2;refine bodyPost_ret (results_tmp (t:=4) rfl _ _ _) rfl ?_;exact ⟨by rw[HE.out];rfl,kw,rfl⟩
 ·have t1:((n:Int) != (n':Int))=true:=bne_iff_ne.2 (fun e=>hnn (by omega));have t2:((n:Int)==(n':Int))=false:=beq_eq_false_iff_ne.2 (fun e=>hnn (by omega));have HE:=hid (show allB rulB l l'=false from aMz (by rw[<-hn,<-hn'];exact hnn));clear hat hat' hn hn' hnn hl hl';go_enter Tryz.func75,Tryz.ntmps75
  go_wp2;refine bodyPost_ret (results_tmp (t:=4) rfl _ _ _) rfl ?_;exact ⟨by rw[HE.out];rfl,0,rfl⟩
def sameV (r s:Res):Bool:=
 (r.kind==s.kind)&&(r.name.toList==s.name.toList)&&(r.host.toList==s.host.toList)&&(r.route.toList==s.route.toList)&&(r.del==s.del)&&decide (r.endps=s.endps)&&allB tgtB r.targets s.targets&&allB rulB r.rules s.rules
theorem eeq_c (w:World) (v v':Value) (l l':List ByteArray) (h:SlR w v 1 l aAp) (h':SlR w v' 1 l' aAp):
 Calls Tryz.prog 73 #[v,v'] w fun x w'=>x= .returned (.bool (decide (l=l')))/\∃k,w'=w.drewN k:=by
 obtain ⟨ao,cap,rfl,hl,hat⟩:=h;obtain ⟨ao',cap',rfl,hl',hat'⟩:=h';by_cases hn:l.length=l'.length
 ·by_cases h0:l.length=0
  ·have e1:l=[]:=List.eq_nil_of_length_eq_zero h0;have e2:l'=[]:=List.eq_nil_of_length_eq_zero (hn ▸ h0);subst e1;subst e2;refine (Tryz.slices_Equal_string_empty ao ao' cap 0 cap' w (by decide)).mono ?_;rintro x w' ⟨rfl,rfl⟩;exact ⟨rfl,0,rfl⟩
  ·obtain ⟨b1,o1,rfl,l1,q1⟩:=hat (by omega);obtain ⟨b2,o2,rfl,l2,q2⟩:=hat' (by omega);have hc:∀(L:List ByteArray) (b o:Nat),(∀i x,L[i]? =some x->∀j u,(aAp x)[j]? =some u->w.cell? ⟨b,o+i*1+j,none⟩=some u)->∀j,j<L.length->w.cell? ⟨b,o+j,none⟩=some (.string (L.getD j ByteArray.empty)):=by
    intro L b o q j hj;have:=q j L[j] (a7i hj) 0 _ rfl;rw[Nat.mul_one,Nat.add_zero]at this;rw[this,List.getD_eq_getElem?_getD,a7i hj];rfl
   refine (Tryz.slices_Equal_string b1 o1 l.length cap b2 o2 l'.length cap' l l' w (a7c _) (a7c _) (by omega) (by omega) (hc l b1 o1 q1) (hc l' b2 o2 q2)).mono ?_;rintro x w' ⟨rfl,k,rfl⟩;rw[List.take_length,List.take_length];exact ⟨rfl,k,rfl⟩
 ·refine (Tryz.slices_Equal_string_lens ao ao' l.length cap l'.length cap' w hn).mono ?_;rintro x w' ⟨rfl,rfl⟩;rw[dF (fun e=>hn (by rw[e]))];exact ⟨rfl,0,rfl⟩
theorem a6i (w:World) (r s:Res) (ev tv rv ev' tv' rv':Value) (h:ResL w r ev tv rv) (h':ResL w s ev' tv' rv'):
 Calls Tryz.prog 30 #[.agg (resA r ev tv rv),.agg (resA s ev' tv' rv')] w fun e w'=>e= .returned (.bool (sameV r s))/\Below w.heap.size w w':=by
 obtain ⟨W,hW⟩:∃W,W=(w.alloc (.cells (resA r ev tv rv) 49)).alloc (.cells (resA s ev' tv' rv') 49):=⟨_,rfl⟩;have hbW:Below w.heap.size w W:=by rw[hW];exact aHd _ _ _
 have hblk:W.heap[w.heap.size]? =some (.cells (resA r ev tv rv) 49 (0,0))/\W.heap[w.heap.size+1]? =some (.cells (resA s ev' tv' rv') 49 (0,0)):=by rw[hW];exact blk2 (a7d _ _)
 have HE:=hid (fun k=>eeq_c (W.drewN k) ev ev' r.endps s.endps ((h.e.later hbW).later (bdH (a7d _ _) k)) ((h'.e.later hbW).later (bdH (a7d _ _) k)));have HT:=hid (fun k=>teq_c (W.drewN k) tv tv' r.targets s.targets ((h.t.later hbW).later (bdH (a7d _ _) k)) ((h'.t.later hbW).later (bdH (a7d _ _) k)));have HU:=hid (fun k=>ueq_c (W.drewN k) rv rv' r.rules s.rules ((h.r.later hbW).later (bdH (a7d _ _) k)) ((h'.r.later hbW).later (bdH (a7d _ _) k)))
 obtain ⟨f1,f2⟩:=hblk;unfold resA at hW f1 f2 |-;obtain ⟨y0,y1,y2,y3,y4,y5,y6,y7⟩:=cB8 f1;obtain ⟨z0,z1,z2,z3,z4,z5,z6,z7⟩:=cB8 f2;simp at y0 y1 y2 y3 y4 y5 y6 y7 z0 z1 z2 z3 z4 z5 z6 z7;have HB:=hid (fun k=>bdH hbW k);have hsv:sameV r s=((r.kind==s.kind)&&(r.name.toList==s.name.toList)&&(r.host.toList==s.host.toList)&&(r.route.toList==s.route.toList)&&(r.del==s.del)&&decide (r.endps=s.endps)&&allB tgtB r.targets s.targets&&allB rulB r.rules s.rules):=rfl
 rw[hsv];clear h h' hbW f1 f2 hsv;cases t0:(r.kind==s.kind) with
 |false=>
  simp only[Bool.and_true,Bool.true_and,Bool.and_false,Bool.false_and];clear HE HT HU;go_enter Tryz.func30,Tryz.ntmps30;go_wp2
  try rw[<-hW]
  refine bodyPost_ret (results_tmp (t:=4) rfl _ _ _) rfl ?_;exact ⟨rfl,HB.out 0⟩
 |true=>
  cases t1:(r.name.toList==s.name.toList) with
  |false=>
   simp only[Bool.and_true,Bool.true_and,Bool.and_false,Bool.false_and];clear HE HT HU;go_enter Tryz.func30,Tryz.ntmps30;go_wp2
   try rw[<-hW]
   refine bodyPost_ret (results_tmp (t:=4) rfl _ _ _) rfl ?_;exact ⟨rfl,HB.out 0⟩
  |true=>
   cases t2:(r.host.toList==s.host.toList) with
   |false=>
    simp only[Bool.and_true,Bool.true_and,Bool.and_false,Bool.false_and];clear HE HT HU;go_enter Tryz.func30,Tryz.ntmps30;go_wp2
    try rw[<-hW]
    refine bodyPost_ret (results_tmp (t:=4) rfl _ _ _) rfl ?_;exact ⟨rfl,HB.out 0⟩
   |true=>
    cases t3:(r.route.toList==s.route.toList) with
    |false=>
     simp only[Bool.and_true,Bool.true_and,Bool.and_false,Bool.false_and];clear HE HT HU;go_enter Tryz.func30,Tryz.ntmps30;go_wp2
     try rw[<-hW]
     refine bodyPost_ret (results_tmp (t:=4) rfl _ _ _) rfl ?_;exact ⟨rfl,HB.out 0⟩
    |true=>
     cases t4:(r.del==s.del) with
     |false=>
      simp only[Bool.and_true,Bool.true_and,Bool.and_false,Bool.false_and];clear HE HT HU;go_enter Tryz.func30,Tryz.ntmps30;go_wp2
      try rw[<-hW]
      refine bodyPost_ret (results_tmp (t:=4) rfl _ _ _) rfl ?_;exact ⟨rfl,HB.out 0⟩
     |true=>
      cases t5:decide (r.endps=s.endps) with
      |false=>
       simp only[Bool.and_true,Bool.true_and,Bool.and_false,Bool.false_and];rw[t5]at HE;clear t5;go_enter Tryz.func30,Tryz.ntmps30
       go_wp2_with fail
       rw[<-hW];refine (HE.out 0).mono ?_;rintro x w2 ⟨rfl,k1,rfl⟩;rw[show (W.drewN 0).drewN k1=W.drewN k1 by rw[aB0,Nat.zero_add]];clear hW HE;go_wp2;refine bodyPost_ret (results_tmp (t:=4) rfl _ _ _) rfl ?_;exact ⟨rfl,HB.out k1⟩
      |true=>
       cases t6:allB tgtB r.targets s.targets with
       |false=>
        simp only[Bool.and_true,Bool.true_and,Bool.and_false,Bool.false_and];rw[t5]at HE;rw[t6]at HT;clear t5;clear t6;go_enter Tryz.func30,Tryz.ntmps30
        go_wp2_with fail
        rw[<-hW];refine (HE.out 0).mono ?_;rintro x w2 ⟨rfl,k1,rfl⟩;rw[show (W.drewN 0).drewN k1=W.drewN k1 by rw[aB0,Nat.zero_add]];clear hW HE
        go_wp2_with fail
        refine (HT.out k1).mono ?_;rintro x w2 ⟨rfl,k2,rfl⟩;rw[aB0];clear HT;go_wp2;refine bodyPost_ret (results_tmp (t:=4) rfl _ _ _) rfl ?_;exact ⟨rfl,HB.out (k1+k2)⟩
       |true=>
        cases t7:allB rulB r.rules s.rules with
        |false=>
         simp only[Bool.and_true,Bool.true_and,Bool.and_false,Bool.false_and];rw[t5]at HE;rw[t6]at HT;rw[t7]at HU;clear t5;clear t6;clear t7;go_enter Tryz.func30,Tryz.ntmps30
         go_wp2_with fail
         rw[<-hW];refine (HE.out 0).mono ?_;rintro x w2 ⟨rfl,k1,rfl⟩;rw[show (W.drewN 0).drewN k1=W.drewN k1 by rw[aB0,Nat.zero_add]];clear hW HE
         go_wp2_with fail
         refine (HT.out k1).mono ?_;rintro x w2 ⟨rfl,k2,rfl⟩;rw[aB0];clear HT
         go_wp2_with fail
         refine (HU.out (k1+k2)).mono ?_;rintro x w2 ⟨rfl,k3,rfl⟩;rw[aB0];clear HU;go_wp2;refine bodyPost_ret (results_tmp (t:=4) rfl _ _ _) rfl ?_;exact ⟨rfl,HB.out (k1+k2+k3)⟩
        |true=>
         simp only[Bool.and_true,Bool.true_and,Bool.and_false,Bool.false_and];rw[t5]at HE;rw[t6]at HT;rw[t7]at HU;clear t5;clear t6;clear t7;go_enter Tryz.func30,Tryz.ntmps30
         go_wp2_with fail
         rw[<-hW];refine (HE.out 0).mono ?_;rintro x w2 ⟨rfl,k1,rfl⟩;rw[show (W.drewN 0).drewN k1=W.drewN k1 by rw[aB0,Nat.zero_add]];clear hW HE
         go_wp2_with fail
         refine (HT.out k1).mono ?_;rintro x w2 ⟨rfl,k2,rfl⟩;rw[aB0];clear HT
         go_wp2_with fail
         refine (HU.out (k1+k2)).mono ?_;rintro x w2 ⟨rfl,k3,rfl⟩;rw[aB0];clear HU;go_wp2;refine bodyPost_ret (results_tmp (t:=4) rfl _ _ _) rfl ?_;exact ⟨rfl,HB.out (k1+k2+k3)⟩
noncomputable def treeV (r:Res):List Nd:=
 match docP (treeW wtF r) with
 | .ok b=>if sameV b r=true then treeW wtF r else []
 | .error _=>[]
def STr (w:World) (l:List Nd) (x:Ending) (w':World):Prop:=
 ∃v ms,x= .returned v/\DocP w' w.heap.size ⟨v,ms⟩/\nds ms=l/\Below w.heap.size w w'
theorem aX7 {w w':World} (hb:Below w.heap.size w w'):STr w [] (.returned (.slice none 0 0)) w':=
 ⟨_,[],rfl,⟨World.ownsRow_nil _ _ _ _,nofun,nofun,Nat.zero_le _⟩,rfl,hb⟩
theorem Tree_c (w:World) (r:Res) (ev tv rv:Value) (hz:ResZ r) (hL:ResL w r ev tv rv) (hg:GlobT w):
 Calls Tryz.prog 19 #[.agg (resA r ev tv rv)] w (STr w (treeV r)):=by
 obtain ⟨W,hW⟩:∃W,W=w.alloc (.cells (resA r ev tv rv) 49):=⟨_,rfl⟩;have hbW:Below w.heap.size w W:=by rw[hW];exact (a7d _ _).alloc (a7c _) _
 have hsW:W.heap.size=w.heap.size+1:=by rw[hW];simp
 have hblk:W.heap[w.heap.size]? =some (.cells (resA r ev tv rv) 49 (0,0)):=by rw[hW];exact aAc _
 obtain ⟨ea,en,ec,rfl⟩:=aBk hL.e;obtain ⟨ta,tn,tc,rfl⟩:=aBk hL.t;obtain ⟨ra,rn,rc,rfl⟩:=aBk hL.r;have HT:=hid (a6g W r _ _ _ hz ⟨hL.e.later hbW,hL.t.later hbW,hL.r.later hbW⟩ (hg.later hbW));have HL:=hid (fun w2 (hb:Below w.heap.size w w2)=>show ResL w2 r (.slice ea en ec) (.slice ta tn tc) (.slice ra rn rc) from ⟨hL.e.later hb,hL.t.later hb,hL.r.later hb⟩);have HG:=hid (fun w2 (hb:Below w.heap.size w w2)=>(hg.later hb).gl)
 have HB:=hid (And.intro hbW hsW);have y:=fun w2 (hb:Below W.heap.size W w2)=>show w2.heap[w.heap.size]? =some (.cells (resA r (.slice ea en ec) (.slice ta tn tc) (.slice ra rn rc)) 49 (0,0)) from (hb.block _ (by omega)).trans hblk;have HY:=hid y;have y1:=y W (a7d _ _);clear hz hL hg hbW hsW hblk y;unfold resA at HT hW HY y1 |-;obtain ⟨a0,a1,a2,a3,a4,a5,a6,a7⟩:=cB8 y1
 simp at a0 a1 a2 a3 a4 a5 a6 a7;clear y1;go_enter Tryz.func19,Tryz.ntmps19
 go_wp2_with fail
 rw[<-hW];refine HT.out.mono ?_;rintro x w2 ⟨V,ms,rfl,hD,hn,hb2⟩;clear a0 a1 a2 a3 a4 a5 a6 a7 hW HT;have hbw2:Below w.heap.size w w2:=HB.out.1.trans (hb2.mono HB.out.1.size);obtain ⟨va,vn,vc,hV⟩:∃a n c,V= .slice a n c:=aBk hD.nds.1;have HR:=hid (a3s w2 V ms hD.nds (HG.out w2 hbw2));have HD:=hid hD;have HB2:=hid (And.intro hb2 hbw2);have hn2:=hn;have Hn:=hid hn;rw[hn]at HR;subst hV;clear hD hb2 hbw2 hn
 cases hd:docP (treeW wtF r) with
 |error e=>
  have hnz:=a3t (treeW wtF r) e hd;have hv:treeV r=[]:=by unfold treeV;rw[hd]
  rw[hd]at HR;have HE:=hid (fun w' (hb:Below w.heap.size w w')=>show STr w (treeV r) (.returned (.slice none 0 0)) w' from by rw[hv];exact aX7 hb);have t1:(e.2 != 0)=true:=bne_iff_ne.2 hnz;clear hd hnz hv Hn
  go_wp2_with fail
  refine HR.out.mono ?_;unfold SRead resZ;rintro x w3 ⟨h,hb3⟩;simp only at h;subst h;have Hb:=hid (fun ob=>((HB2.out.2.trans (hb3.mono HB2.out.2.size)).alloc (a7g HB2.out.2.size hb3.size) ob));clear hb3 HR;go_wp2;refine bodyPost_ret (results_tmp (t:=2) rfl _ _ _) rfl (HE.out _ (Hb.out _))
 |ok b=>
  have hv:treeV r=if sameV b r=true then treeW wtF r else []:=by unfold treeV;rw[hd]
  rw[hd]at HR;have HV:=hid hv;clear hd hv
  go_wp2_with fail
  refine HR.out.mono ?_;unfold SRead;rintro x w3 ⟨⟨ev2,tv2,rv2,h,hN⟩,hb3⟩;subst h;obtain ⟨ea2,en2,ec2,rfl⟩:=aBk hN.toL.e;obtain ⟨ta2,tn2,tc2,rfl⟩:=aBk hN.toL.t;obtain ⟨ra2,rn2,rc2,rfl⟩:=aBk hN.toL.r;obtain ⟨w4,hw4⟩:∃w4,w4=w3.alloc (.cells (resA b (.slice ea2 en2 ec2) (.slice ta2 tn2 tc2) (.slice ra2 rn2 rc2)) 49):=⟨_,rfl⟩;have hb4:Below w3.heap.size w3 w4:=by rw[hw4];exact (a7d _ _).alloc (a7c _) _
  have hbw3:Below w.heap.size w w3:=HB2.out.2.trans (hb3.mono HB2.out.2.size);have hbw4:Below w.heap.size w w4:=hbw3.trans (hb4.mono hbw3.size);have hbW4:Below W.heap.size W w4:=(HB2.out.1.trans (hb3.mono HB2.out.1.size)).trans (hb4.mono (a7g HB2.out.1.size hb3.size));have f1:=HY.out w4 hbW4;have f2:w4.heap[w3.heap.size]? =some (.cells (resA b (.slice ea2 en2 ec2) (.slice ta2 tn2 tc2) (.slice ra2 rn2 rc2)) 49 (0,0)):=by rw[hw4];exact aAc _
  have HS:=hid (a6i w4 b r _ _ _ _ _ _ ⟨hN.toL.e.later hb4,hN.toL.t.later hb4,hN.toL.r.later hb4⟩ (HL.out w4 hbw4));have HE:=hid (fun w' (hb:Below w4.heap.size w4 w')=>show STr w (treeV r) (.returned (if sameV b r=true then .slice va vn vc else .slice none 0 0)) w' from by
   have h2:Below w2.heap.size w2 w':=(hb3.trans (hb4.mono hb3.size)).trans (hb.mono (a7g hb3.size hb4.size));rw[HV.out];by_cases hs:sameV b r=true
   ·rw[if_pos hs,if_pos hs];have hP:=DocE.down (x:=(⟨.slice va vn vc,ms⟩:DocV)) HD.out (a7g (Nat.le_succ _) (Nat.le_of_eq HB.out.2.symm));exact ⟨_,ms,rfl,DocE.mod (F:=fun _=>False) hP (aC4 h2) (fun _ _ q=>q),Hn.out,hbw4.trans (hb.mono hbw4.size)⟩
   ·rw[if_neg hs,if_neg hs];exact aX7 (hbw4.trans (hb.mono hbw4.size)))
  unfold resA at hw4 f1 f2 HS |-;obtain ⟨a0,a1,a2,a3,a4,a5,a6,a7⟩:=cB8 f1;obtain ⟨c0,c1,c2,c3,c4,c5,c6,c7⟩:=cB8 f2;simp at a0 a1 a2 a3 a4 a5 a6 a7 c0 c1 c2 c3 c4 c5 c6 c7;clear f1 f2 hb3 HR hN hb4 hbw3 hbw4 hbW4 HB HB2 HL HG HD HV Hn HY;subst hw4
  go_wp2_with fail
  refine HS.out.mono ?_;rintro x w5 ⟨rfl,hb5⟩;have Hb5:=hid hb5;clear hb5 HS a0 a1 a2 a3 a4 a5 a6 a7 c0 c1 c2 c3 c4 c5 c6 c7;cases hs:sameV b r with
  |true=>
   rw[hs]at HE;simp only[if_true]at HE;go_wp2;refine bodyPost_ret (results_tmp (t:=2) rfl _ _ _) rfl (HE.out _ Hb5.out)
  |false=>
   rw[hs]at HE;go_wp2;refine bodyPost_ret (results_tmp (t:=2) rfl _ _ _) rfl (HE.out _ Hb5.out)
def fullT (l:List ByteArray):List ByteArray:=l.filter (fun x=>decide (x≠⟨#[]⟩))
def sepT:ByteArray:=⟨#[45,45,45,10]⟩
def joinV (l:List ByteArray):ByteArray:=⟨(Lib.join ((fullT l).map (·.data.toList)) sepT.data.toList).toArray⟩
theorem a17 {l:List ByteArray} {j:Nat} {x:ByteArray} (h:l[j]? =some x) (hx:x≠⟨#[]⟩):fullT (l.take (j+1))=fullT (l.take j)++[x]:=by
 unfold fullT;rw[List.take_add_one,h,List.filter_append];simp[hx]
theorem a6j {l:List ByteArray} {j:Nat} {x:ByteArray} (h:l[j]? =some x) (hx:x=⟨#[]⟩):fullT (l.take (j+1))=fullT (l.take j):=by
 unfold fullT;rw[List.take_add_one,h,List.filter_append];simp[hx]
theorem a18 (l:List ByteArray):(fullT l).length<=l.length:=List.length_filter_le _ _
theorem aX8 (M:Nat):∀l:List (List UInt8),(∀x∈l,x.length<=M)->Lib.lens l<=l.length*M
 |[],_=>by simp[Lib.lens]
 |x::l,h=>by
  have h1:=h x (List.mem_cons_self ..);have h2:=aX8 M l (fun y hy=>h y (List.mem_cons_of_mem _ hy));unfold Lib.lens at h2 |-;rw[List.map_cons,List.sum_cons,a7f,Nat.succ_mul];omega
theorem a19 (sep:List UInt8) (M:Nat) (l:List (List UInt8)) (h:∀x∈l,x.length<=M):(Lib.join l sep).length<=l.length*M+sep.length*l.length:=by
 cases l with
 |nil=>rw[Lib.join_nil];exact Nat.zero_le _
 |cons x r=>
  rw[Lib.join_length];have:=aX8 M (x::r) h;have h2:sep.length*r.length<=sep.length*(x::r).length:=Nat.mul_le_mul_left _ (by rw[a7f];omega);omega
theorem aX9 {l:List ByteArray} (hn:l.length<=1048576) (h:∀x∈l,x.size<=65536):(Lib.join ((fullT l).map (·.data.toList)) sepT.data.toList).length<=140737488355328:=by
 have h1:=a19 sepT.data.toList 65536 ((fullT l).map (·.data.toList)) (fun x hx=>by
  obtain ⟨y,hy,rfl⟩:=List.mem_map.1 hx
  show y.data.toList.length<=_
  rw[aAf];exact h y (List.mem_filter.1 hy).1)
 rw[List.length_map]at h1;have h2:=a18 l;have h3:sepT.data.toList.length=4:=rfl;rw[h3]at h1;omega
theorem a2a {w:World} {e:TypeId} {n:Nat} {v:Value} {xs:List Value} (h:w.ownsRow 0 e 1 v n xs):∀a m c,v= .slice a m c->m<=c:=by
 intro a m c hv;rcases h.2 with ⟨h1,h2⟩|⟨g,cap,cur,h1,_,_,hc,_⟩
 ·rw[hv]at h1;cases h1;exact a7c _
 ·rw[hv]at h1;cases h1;exact hc
theorem join_c (w:World) (v:Value) (l:List ByteArray) (h:SlR w v 1 l aAp) (hs:∀x∈l,x.size<=65536):
 Calls Tryz.prog 25 #[v] w fun x w'=>x= .returned (.string (joinV l))/\Below w.heap.size w w':=by
 obtain ⟨ao,cap,rfl,hl,hat⟩:=h;obtain ⟨n,hn⟩:∃n,n=l.length:=⟨_,rfl⟩;rw[<-hn]at hl hat |-;have Hn:=hid hn;have Hl:=hid hl;have Hat:=hid hat;have Hjl0:=hid (aX9 (by rw[<-hn];exact hl) hs);have H0:=hid (RO.first w 9 1);clear hn hl hat hs;go_enter Tryz.func25,Tryz.ntmps25;go_wp2
 go_loopw [3,8] (fun vv vi wr=>∃(v2:Value) (j k:Nat),v2=vv/\vi= .int .i64 (j:Int)/\Hid (j<=n/\k=(fullT (l.take j)).length/\k<=j/\RO w wr 9 1 v2 k ((fullT (l.take j)).flatMap aAp))) (fun _ vi _=>n-(intOf vi).toNat)
 case atStart=>exact ⟨_,0,0,rfl,rfl,hid ⟨Nat.zero_le _,rfl,a7c _,H0.out⟩⟩
 case round=>
  clear H0;obtain ⟨v2,j,k,rfl,rfl,H⟩:=hrel;by_cases hj:j<n
  ·have tj:decide (j<n)=true:=dT hj;have bj:(j:Int)<(n:Int):=by omega
   obtain ⟨x,hx⟩:∃x,l[j]? =some x:=aAh (by rw[<-Hn.out];exact hj);obtain ⟨b2,o2,rfl,hb2,hc⟩:=Hat.out (by omega);have x0:=(H.out.2.2.2.below.cell (p:=⟨b2,o2+j*1+0,none⟩) hb2).trans (hc j x hx 0 _ rfl);rw[Nat.mul_one,Nat.add_zero]at x0;obtain ⟨Hms,Hgo⟩:=aA3 (k:=j) (n:=n) hj (by have:=Hl.out;omega);by_cases he:x=⟨#[]⟩
   ·have HE:=hid (show j+1<=n/\k=(fullT (l.take (j+1))).length/\k<=j+1/\RO w wr 9 1 v2 k ((fullT (l.take (j+1))).flatMap aAp) from by
     rw[a6j hx he];exact ⟨hj,H.out.2.1,Nat.le_succ_of_le H.out.2.2.1,H.out.2.2.2⟩)
    subst he;clear hx hc hb2 H Hat hj;go_wp2;go_roundw
    case rel=>exact ⟨_,j+1,k,rfl,Hgo.out,HE⟩
    case measure=>exact Hms.out
   ·have t1:=aGc he;have Hown:=hid (fun o=>H.out.2.2.2.row.alloc o);have Hone:=hid (show ∀u∈[Value.string x],u.oneCell'=true from fun u hu=>by rw[List.mem_singleton.1 hu];rfl);have Hkl:=hid (show k<=2000000 by have:=H.out.2.2.1;have:=Hl.out;omega);have Hd1:=hid (show 0<1 by decide);have Hd2:=hid (show 16<=1000 by decide);have Hend:=hid (fun o v' w2 a1 a2 a3=>show j+1<=n/\k+1=(fullT (l.take (j+1))).length/\k+1<=j+1/\RO w w2 9 1 v' (k+1) ((fullT (l.take (j+1))).flatMap aAp) from by
     rw[a17 hx he,a7e,List.flatMap_append,List.flatMap_singleton];exact ⟨hj,by rw[H.out.2.1];rfl,by have:=H.out.2.2.1;omega,RO.app (w1:=wr.alloc o) (v':=v') (w2:=w2) (m:=k+1) (ys:=(fullT (l.take j)).flatMap aAp++[.string x]) H.out.2.2.2 ((a7d _ wr).alloc (a7c _) o) a1 a2 a3⟩)
    clear hx hc hb2 H Hat hj he
    go_wp2_with (at_builtin;refine aEl 9 45 (.string ⟨#[]⟩) 1 16 Tryz.underlying45 aMh rfl Hd1.out Hd2.out rfl _ _ rfl v2 k ((fullT (l.take j)).flatMap aAp) rfl (Hown.out _) wr.heap.size #[.string x] [.string x] rfl (aAc _) rfl rfl Hone.out Hkl.out (k+1) rfl ?_;intro ao4 c4 w2 own2 gr2 new2;have HE:=hid (Hend.out _ _ _ own2 gr2 new2);clear own2 gr2 new2)
    go_roundw
    case rel=>exact ⟨_,j+1,k+1,rfl,Hgo.out,HE⟩
    case measure=>exact Hms.out
  ·have tj:decide (j<n)=false:=dF hj;obtain ⟨h1,h2,h3,h4⟩:=H.out;have ej:j=n:=by omega
   subst ej;rw[List.take_of_length_le (by rw[Hn.out];exact a7c _)]at h2 h4;have hJ:Calls Tryz.prog 65 #[v2,.string ⟨#[45,45,45,10]⟩] wr fun x w'=>x= .returned (.string (joinV l))/\Below wr.heap.size wr w':=by
    have hsl:=SlR.ofRow (xs:=fullT l) (cells:=aAp) (sz:=1) h4.row h2 (fun _=>rfl) (by have:=Hl.out;omega) (by decide);have hcap:=a2a h4.row;obtain ⟨a0,c0,rfl,hlc,hat0⟩:=hsl;by_cases h0:(fullT l).length=0
    ·have e:fullT l=[]:=List.eq_nil_of_length_eq_zero h0;have ev:joinV l=⟨#[]⟩:=by unfold joinV;rw[e];rfl
     rw[h0,ev];refine (Tryz.strings_Join_none a0 c0 _ wr).mono ?_;rintro x w' ⟨rfl,rfl⟩;exact ⟨rfl,a7d _ _⟩
    ·obtain ⟨bk,o,rfl,hbk,hc⟩:=hat0 (by omega);exact Tryz.strings_Join bk o c0 (fullT l) ⟨#[45,45,45,10]⟩ wr (fun j x hx=>by
      have:=hc j x hx 0 _ rfl
      rwa [Nat.mul_one,Nat.add_zero]at this) hbk (by omega) (hcap _ _ _ rfl) Hjl0.out
   have HJ:=hid hJ;have HB:=hid h4.below;clear H Hat hj h1 h2 h3 h4 hJ
   go_wp2_with fail
   refine HJ.out.mono ?_;rintro x w2 ⟨rfl,hb⟩;have Hb:=hid (HB.out.trans (hb.mono HB.out.size));clear hb HJ;go_wp2;refine bodyPost_ret (results_tmp (t:=2) rfl _ _ _) rfl ⟨rfl,Hb.out⟩
theorem aO5 {w:World} {V:Value} {ms:List RsM} (h:RsL w V ms):∃ao cap,V= .slice ao ms.length cap/\ms.length<=1048576/\(∀i m,ms[i]? =some m->∃b o,ao=some ⟨b,o,none⟩/\b<w.heap.size/\(∀j u,m.cells[j]? =some u->w.cell? ⟨b,o+i*8+j,none⟩=some u)/\ResL w m.r m.ev m.tv m.rv):=by
 obtain ⟨ao,cap,hv,hl,hat⟩:=h.sl;refine ⟨ao,cap,hv,hl,fun i m hm=> ?_⟩;have hi:i<ms.length:=(a7j hm).1;obtain ⟨b,o,ha,hb,hc⟩:=hat (by omega);exact ⟨b,o,ha,hb,hc i m hm,h.each m (List.mem_of_getElem? hm)⟩
theorem ResL.later {w w2:World} {r:Res} {ev tv rv:Value} (h:ResL w r ev tv rv) (hb:Below w.heap.size w w2):ResL w2 r ev tv rv:=⟨h.e.later hb,h.t.later hb,h.r.later hb⟩
