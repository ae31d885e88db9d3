/-
Parts of a proof.
-/
import Derived.Test.YtfenoaeoedobmaaGreatDoorAl33
set_option linter.unusedVariables false
set_option linter.unusedSimpArgs false
set_option maxHeartbeats 4000000
set_option maxRecDepth 20000
namespace Go.Proofs.YtfenoaeoedobmaaGreatDoor
open Go Go.RowKit
theorem aVb {α:Type} {w:World} {v v':Value} {sz:Nat} {xs:List α} {cells:α->List Value} (h:SlR w v sz xs cells) (h':SlR w v' sz xs cells):∃n ao cap ao' cap',n=xs.length/\v= .slice ao n cap/\v'= .slice ao' n cap'/\n<=1048576/\
 (∀i,i<n->∃x b o b' o',xs[i]? =some x/\ao=some ⟨b,o,none⟩/\ao'=some ⟨b',o',none⟩/\b<w.heap.size/\b'<w.heap.size/\(∀j u,(cells x)[j]? =some u->w.cell? ⟨b,o+i*sz+j,none⟩=some u)/\(∀j u,(cells x)[j]? =some u->w.cell? ⟨b',o'+i*sz+j,none⟩=some u)):=by
 obtain ⟨ao,cap,hv,hl,hat⟩:=h;obtain ⟨ao',cap',hv',_,hat'⟩:=h';refine ⟨_,ao,cap,ao',cap',rfl,hv,hv',hl,fun i hi=> ?_⟩;obtain ⟨b,o,ha,hb,hc⟩:=hat (by omega);obtain ⟨b',o',ha',hb',hc'⟩:=hat' (by omega);obtain ⟨x,hx⟩:=aAh hi;exact ⟨x,b,o,b',o',hx,ha,ha',hb,hb',hc i x hx,hc' i x hx⟩
theorem blk2 {w w2:World} {a1 a2:Array Value} {T:TypeId} (hb:Below (w.heap.size+2) ((w.alloc (.cells a1 T)).alloc (.cells a2 T)) w2):w2.heap[w.heap.size]? =some (.cells a1 T (0,0))/\w2.heap[w.heap.size+1]? =some (.cells a2 T (0,0)):=by
 have h1:((w.alloc (.cells a1 T)).alloc (.cells a2 T)).heap[w.heap.size]? =some (.cells a1 T (0,0)):=(aAe _ (by simp)).trans (aAc _);have h2:((w.alloc (.cells a1 T)).alloc (.cells a2 T)).heap[w.heap.size+1]? =some (.cells a2 T (0,0)):=by
  have:=aAc (w:=w.alloc (.cells a1 T)) (.cells a2 T)
  simpa using this
 exact ⟨(hb.block _ (by omega)).trans h1,(hb.block _ (by omega)).trans h2⟩
theorem aGm (w:World) (o1 o2:Obj):Below w.heap.size w ((w.alloc o1).alloc o2):=((a3l _ _).alloc (a3k _) o1).alloc (by simp) o2
theorem key_c' (w:World) (r:Res) (ev tv rv ev' tv' rv':Value) (T:TypeId) (hT:T= 49)
 (he:∃a n c,ev= .slice a n c) (ht:∃a n c,tv= .slice a n c) (hr:∃a n c,rv= .slice a n c) (he':∃a n c,ev'= .slice a n c) (ht':∃a n c,tv'= .slice a n c) (hr':∃a n c,rv'= .slice a n c):
 Calls Tryz.prog 28 #[.agg (resA r ev tv rv),.agg (resA r ev' tv' rv')] w fun e w'=>e= .returned (.bool true)/\Below w.heap.size w w':=by
 obtain ⟨a1,n1,c1,rfl⟩:=he;obtain ⟨a2,n2,c2,rfl⟩:=ht;obtain ⟨a3,n3,c3,rfl⟩:=hr;obtain ⟨a4,n4,c4,rfl⟩:=he';obtain ⟨a5,n5,c5,rfl⟩:=ht';obtain ⟨a6,n6,c6,rfl⟩:=hr';unfold resA;go_enter Tryz.func28,Tryz.ntmps28;go_wp2;go_ret;exact ⟨rfl,aGm _ _ _⟩
theorem aBj {α:Type} {w:World} {v:Value} {sz:Nat} {xs:List α} {cells:α->List Value} (h:SlR w v sz xs cells):∃a n c,v= .slice a n c:=by
 obtain ⟨a,c,e,_⟩:=h;exact ⟨a,_,c,e⟩
theorem _root_.Go.RowKit.Below.keeps {w w':World} {p:Addr} {v:Value} (h:Below w.heap.size w w') (hp:w.cell? p=some v):w'.cell? p=some v:=(h.cell (World.block_lt_of_cell? _ _ hp)).trans hp
theorem aYz (t:Rul) (w:World):(Op.equalIn 10000 60 (.agg #[.string t.path,.string t.method,.string t.split,.bool t.allow]) (.agg #[.string t.path,.string t.method,.string t.split,.bool t.allow])).run Tryz.prog w= .ok true w:=by
 rw[run_equalIn_agg w 9999 _ _ _ (by kernel_rfl) (by kernel_rfl)];have e: Tryz.prog.fieldsOf 60 =(match Tryz.prog.underlying 60 with|some (.struct fs)=>fs|_=>#[]):=rfl;rw[Tryz.underlying60]at e;rw[e];simp[Op.eqFields,part,Tryz.isAgg4,Tryz.isAgg9,run_equalIn_bool' w 9998 _ _ _ Tryz.underlying4,run_equalIn_string w 9998 _ _ _ Tryz.underlying9]
theorem a2l (t:Rul) (w:World):(binOp .neq 60 (.agg #[.string t.path,.string t.method,.string t.split,.bool t.allow]) (.agg #[.string t.path,.string t.method,.string t.split,.bool t.allow])).run Tryz.prog w= .ok (.bool false) w:=by
 rw[run_neq_struct,aYz];rfl
theorem aEq {B:Nat} {a w:World} (h:Below B a w) (n:Nat):Below B a (w.drewN n):=⟨h.os,h.tape,h.output,h.size,h.block⟩
theorem a2m (w:World) (r:Res) (ev tv rv ev' tv' rv':Value) (h:ResL w r ev tv rv) (h':ResL w r ev' tv' rv'):
 Calls Tryz.prog 17 #[.agg (resA r ev tv rv),.agg (resA r ev' tv' rv')] w fun e w'=>e= .returned (.bool true)/\Below w.heap.size w w':=by
 obtain ⟨W,hW⟩:∃W,W=(w.alloc (.cells (resA r ev tv rv) 49)).alloc (.cells (resA r ev' tv' rv') 49):=⟨_,rfl⟩;have hbW:Below w.heap.size w W:=by rw[hW];exact aGm _ _ _
 have hblk:∀w2,Below (w.heap.size+2) W w2->w2.heap[w.heap.size]? =some (.cells (resA r ev tv rv) 49 (0,0))/\w2.heap[w.heap.size+1]? =some (.cells (resA r ev' tv' rv') 49 (0,0)):=fun w2 hb=>by rw[hW]at hb;exact blk2 hb
 have Hkey:=hid (key_c' W r ev tv rv ev' tv' rv' _ rfl (aBj h.e) (aBj h.t) (aBj h.r) (aBj h'.e) (aBj h'.t) (aBj h'.r));obtain ⟨ne,ea,ec,ea',ec',hne,rfl,rfl,hle,he⟩:=aVb (h.e.later hbW) (h'.e.later hbW);obtain ⟨nt,ta,tc,ta',tc',hnt,rfl,rfl,hlt,ht⟩:=aVb (h.t.later hbW) (h'.t.later hbW);obtain ⟨nr,ra,rc,ra',rc',hnr,rfl,rfl,hlr,hr⟩:=aVb (h.r.later hbW) (h'.r.later hbW)
 have hsz:W.heap.size=w.heap.size+2:=by rw[hW];simp
 obtain ⟨b,hb⟩:∃b,b=w.heap.size:=⟨_,rfl⟩;unfold resA at hblk hW Hkey |-;have Hblk:=hid hblk;have HbW:=hid hbW;have He:=hid (And.intro hle he);have Ht:=hid (And.intro hlt ht);have Hr:=hid (And.intro hlr hr);have Hsz:=hid hsz;clear h h' hblk hbW hle he hlt ht hlr hr hne hnt hnr hsz;go_enter Tryz.func17,Tryz.ntmps17
 go_wp2_with fail
 rw[<-hW,<-hb];clear hW;refine Hkey.out.mono ?_;rintro x w1 ⟨rfl,hb1⟩;have Hb1:=hid (hb1.mono (Nat.le_of_eq Hsz.out.symm));obtain ⟨f1,f2⟩:=Hblk.out w1 Hb1.out;rw[<-hb]at f1 f2;obtain ⟨y0,y1,y2,y3,y4,y5,y6,y7⟩:=cB8 f1;obtain ⟨z0,z1,z2,z3,z4,z5,z6,z7⟩:=cB8 f2;simp at y0 y1 y2 y3 y4 y5 y6 y7 z0 z1 z2 z3 z4 z5 z6 z7;have HB:=hid hb;clear f1 f2 hb1 Hkey hb;go_wp2;clear y0 y1 y2 y3 y4 y5 y6 y7 z0 z1 z2 z3 z4 z5 z6 z7
 go_loopw [5] (fun vi wr=>∃j:Nat,vi= .int .i64 (j:Int)/\Hid (j<=ne/\Below (w.heap.size+2) W wr)) (fun vi _=>ne-(intOf vi).toNat)
 case atStart=>exact ⟨0,rfl,hid ⟨Nat.zero_le _,Hb1.out⟩⟩
 case round=>
  clear Hb1;obtain ⟨j,rfl,H⟩:=hrel;obtain ⟨f1,f2⟩:=Hblk.out wr H.out.2;rw[<-HB.out]at f1 f2;by_cases hj:j<ne
  ·have tj:decide (j<ne)=true:=dT hj;have bj:(j:Int)<(ne:Int):=by omega
   have y2:=aAa f1 2;have z2:=aAa f2 2;simp at y2 z2;obtain ⟨s,b1,o1,b2,o2,hs,rfl,rfl,l1,l2,q1,q2⟩:=He.out.2 j hj;have q3:=(H.out.2.cell (p:=⟨b1,_,none⟩) (by rw[<-Hsz.out];exact l1)).trans (q1 0 _ rfl);have q4:=(H.out.2.cell (p:=⟨b2,_,none⟩) (by rw[<-Hsz.out];exact l2)).trans (q2 0 _ rfl);simp only[Nat.mul_one,Nat.add_zero]at q3 q4;have HH:=hid (fun k=>show j+1<=ne/\Below (w.heap.size+2) W (wr.drewN k) from ⟨hj,aEq H.out.2 k⟩)
   obtain ⟨Hms,Hgo⟩:=aAt (k:=j) (n:=ne) hj (by have:=He.out.1;omega);clear f1 f2 q1 q2 hs H hj l1 l2;go_wp2;go_quiet (fail);go_wp2;go_roundw
   case rel=>exact ⟨j+1,Hgo.out,hid (HH.out _)⟩
   case measure=>exact Hms.out
  ·have tj:decide (j<ne)=false:=dF hj;have y2:=aAa f1 2;simp at y2;have Hb1:=hid H.out.2;clear f1 f2 H hj;go_wp2;clear y2
   go_loopw [6,7,8] (fun vi v7 v8 wr=>∃j:Nat,vi= .int .i64 (j:Int)/\Hid (j<=nt/\Below (w.heap.size+2) W wr)) (fun vi _ _ _=>nt-(intOf vi).toNat)
   case atStart=>exact ⟨0,rfl,hid ⟨Nat.zero_le _,Hb1.out⟩⟩
   case round=>
    clear Hb1;obtain ⟨j,rfl,H⟩:=hrel;obtain ⟨f1,f2⟩:=Hblk.out wr H.out.2;rw[<-HB.out]at f1 f2;by_cases hj:j<nt
    ·have tj:decide (j<nt)=true:=dT hj;have bj:(j:Int)<(nt:Int):=by omega
     have y3:=aAa f1 3;have z3:=aAa f2 3;simp at y3 z3;obtain ⟨s,b1,o1,b2,o2,hs,rfl,rfl,l1,l2,q1,q2⟩:=Ht.out.2 j hj;have e1:=fun k=>(H.out.2.cell (p:=⟨b1,o1+j*3+k,none⟩) (by rw[<-Hsz.out];exact l1));have e2:=fun k=>(H.out.2.cell (p:=⟨b2,o2+j*3+k,none⟩) (by rw[<-Hsz.out];exact l2));have c0:=(e1 0).trans (q1 0 _ rfl);have c1:=(e1 1).trans (q1 1 _ rfl);have c2:=(e1 2).trans (q1 2 _ rfl);have d0:=(e2 0).trans (q2 0 _ rfl)
     have d1:=(e2 1).trans (q2 1 _ rfl);have d2:=(e2 2).trans (q2 2 _ rfl);simp only[Nat.add_zero]at c0 d0;obtain ⟨Hms,Hgo⟩:=aAt (k:=j) (n:=nt) hj (by have:=Ht.out.1;omega);have hsf:∀(W:World) (a:Addr) (r:Nat),(store a (.float .f64 r)).run Tryz.prog W=stored Tryz.prog W a (.float .f64 r) .plain:=fun W a r=>run_store _ W a _ _ rfl;have HE:=hid (fun o1' o2'=>show j+1<=nt/\Below (w.heap.size+2) W ((wr.alloc o1').alloc o2').drew from ⟨hj,(H.out.2.trans ((aGm wr o1' o2').mono (a3o (Nat.le_of_eq Hsz.out.symm) H.out.2.size))).drew⟩)
     have hf1:(FloatKind.f64.format.order s.weight s.weight != some .eq)= !(FloatKind.f64.format.order s.weight s.weight==some .eq):=rfl;cases hf2:(FloatKind.f64.format.order s.weight s.weight==some .eq)
     all_goals rw[hf2]at hf1
     all_goals simp only[Bool.not_true,Bool.not_false]at hf1
     clear f1 f2 q1 q2 hs l1 l2 e1 e2 H hj
     all_goals
      have HS:=hid (fun w' (hw:Below wr.heap.size wr w')=>show w'.cell? ⟨b,3,none⟩=some (.slice (some ⟨b1,o1,none⟩) nt tc)/\w'.cell? ⟨b+1,3,none⟩=some (.slice (some ⟨b2,o2,none⟩) nt tc')/\w'.cell? ⟨b1,o1+j*3,none⟩=some (.string s.service)/\w'.cell? ⟨b1,o1+j*3+1,none⟩=some (.string s.split)/\w'.cell? ⟨b1,o1+j*3+2,none⟩=some (.float .f64 s.weight)/\w'.cell? ⟨b2,o2+j*3,none⟩=some (.string s.service)/\w'.cell? ⟨b2,o2+j*3+1,none⟩=some (.string s.split)/\w'.cell? ⟨b2,o2+j*3+2,none⟩=some (.float .f64 s.weight) from
       ⟨hw.keeps y3,hw.keeps z3,hw.keeps c0,hw.keeps c1,hw.keeps c2,hw.keeps d0,hw.keeps d1,hw.keeps d2⟩)
      go_wp2
      go_region_held3 (fun w'=>w'.cell? ⟨b,3,none⟩=some (.slice (some ⟨b1,o1,none⟩) nt tc)/\w'.cell? ⟨b+1,3,none⟩=some (.slice (some ⟨b2,o2,none⟩) nt tc')/\w'.cell? ⟨b1,o1+j*3,none⟩=some (.string s.service)/\w'.cell? ⟨b1,o1+j*3+1,none⟩=some (.string s.split)/\w'.cell? ⟨b1,o1+j*3+2,none⟩=some (.float .f64 s.weight)/\w'.cell? ⟨b2,o2+j*3,none⟩=some (.string s.service)/\w'.cell? ⟨b2,o2+j*3+1,none⟩=some (.string s.split)/\w'.cell? ⟨b2,o2+j*3+2,none⟩=some (.float .f64 s.weight)) (first|exact ⟨y3,z3,c0,c1,c2,d0,d1,d2⟩|(refine HS.out _ ?_;repeat' (first|exact a3l _ _|exact a3k _|refine Below.drew ?_|refine Below.alloc ?_ ?_ _|refine Below.setCell ?_ ?_ _|(simp;done)))) (fail)
     all_goals go_wp2
     all_goals go_roundw
     all_goals first|exact ⟨j+1,Hgo.out,hid (HE.out _ _)⟩|exact Hms.out
    ·have tj:decide (j<nt)=false:=dF hj;have y3:=aAa f1 3;simp at y3;have Hb1:=hid H.out.2;clear f1 f2 H hj;go_wp2;clear y3
     go_loopw [9] (fun vi wr=>∃j:Nat,vi= .int .i64 (j:Int)/\Hid (j<=nr/\Below (w.heap.size+2) W wr)) (fun vi _=>nr-(intOf vi).toNat)
     case atStart=>exact ⟨0,rfl,hid ⟨Nat.zero_le _,Hb1.out⟩⟩
     case round=>
      clear Hb1;obtain ⟨j,rfl,H⟩:=hrel;obtain ⟨f1,f2⟩:=Hblk.out wr H.out.2;rw[<-HB.out]at f1 f2;by_cases hj:j<nr
      ·have tj:decide (j<nr)=true:=dT hj;have bj:(j:Int)<(nr:Int):=by omega
       have y5:=aAa f1 5;have z5:=aAa f2 5;simp at y5 z5;obtain ⟨s,b1,o1,b2,o2,hs,rfl,rfl,l1,l2,q1,q2⟩:=Hr.out.2 j hj;have e1:=fun k=>(H.out.2.cell (p:=⟨b1,o1+j*4+k,none⟩) (by rw[<-Hsz.out];exact l1));have e2:=fun k=>(H.out.2.cell (p:=⟨b2,o2+j*4+k,none⟩) (by rw[<-Hsz.out];exact l2));have c0:=(e1 0).trans (q1 0 _ rfl);have c1:=(e1 1).trans (q1 1 _ rfl);have c2:=(e1 2).trans (q1 2 _ rfl);have c3:=(e1 3).trans (q1 3 _ rfl)
       have d0:=(e2 0).trans (q2 0 _ rfl);have d1:=(e2 1).trans (q2 1 _ rfl);have d2:=(e2 2).trans (q2 2 _ rfl);have d3:=(e2 3).trans (q2 3 _ rfl);simp only[Nat.add_zero]at c0 d0;have k1:=fun w=>a2l s w;have HH:=hid (fun k=>show j+1<=nr/\Below (w.heap.size+2) W (wr.drewN k) from ⟨hj,aEq H.out.2 k⟩);obtain ⟨Hms,Hgo⟩:=aAt (k:=j) (n:=nr) hj (by have:=Hr.out.1;omega);clear f1 f2 q1 q2 hs H hj l1 l2 e1 e2
       go_wp2;go_quiet (fail);go_wp2;go_roundw
       case rel=>exact ⟨j+1,Hgo.out,hid (HH.out _)⟩
       case measure=>exact Hms.out
      ·have tj:decide (j<nr)=false:=dF hj;have y5:=aAa f1 5;simp at y5;have HE:=hid (HbW.out.trans (H.out.2.mono (show w.heap.size<=w.heap.size+2 by omega)));clear f1 f2 H hj;go_wp2;go_ret;exact ⟨rfl,HE.out⟩
def eqW (x y:Nat):Bool:=FloatKind.f64.format.order x y==some .eq
def tgtB (a b:Tgt):Bool:=(a.service.toList==b.service.toList)&&(a.split.toList==b.split.toList)&&eqW a.weight b.weight
def rulB (a b:Rul):Bool:=(a.path.toList==b.path.toList)&&(a.method.toList==b.method.toList)&&(a.split.toList==b.split.toList)&&(a.allow==b.allow)
def allB {α:Type} (f:α->α->Bool):List α->List α->Bool
 |[],[]=>true
 |a::l,b::m=>f a b&&allB f l m
 |_,_=>false
theorem aLm {α:Type} {f:α->α->Bool}:∀{l m:List α},l.length≠m.length->allB f l m=false
 |[],[],h=>absurd rfl h
 |[],_::_,_=>rfl
 |_::_,[],_=>rfl
 |a::l,b::m,h=>by
  unfold allB;rw[aLm (l:=l) (m:=m) (by simpa using h),Bool.and_false]
theorem aOu {α:Type} {f:α->α->Bool}:∀{l m:List α} {j:Nat} {a b:α},l[j]? =some a->m[j]? =some b->f a b=false->allB f l m=false
 |[],_,j,_,_,h,_,_=>by simp at h
 |_::_,[],j,_,_,_,h,_=>by simp at h
 |x::l,y::m,0,a,b,h1,h2,h=>by
  simp at h1 h2;subst h1;subst h2;unfold allB;rw[h,Bool.false_and]
 |x::l,y::m,j+1,a,b,h1,h2,h=>by
  unfold allB;rw[aOu (l:=l) (m:=m) (j:=j) (by simpa using h1) (by simpa using h2) h,Bool.and_false]
theorem aLn {α:Type} {f:α->α->Bool}:∀{l m:List α},l.length=m.length->(∀(j:Nat) (a b:α),l[j]? =some a->m[j]? =some b->f a b=true)->allB f l m=true
 |[],[],_,_=>rfl
 |[],_::_,h,_=>by simp at h
 |_::_,[],h,_=>by simp at h
 |x::l,y::m,h,H=>by
  unfold allB;rw[H 0 x y rfl rfl,aLn (l:=l) (m:=m) (by simpa using h) (fun j a b h1 h2=>H (j+1) a b (by simpa using h1) (by simpa using h2)),Bool.true_and]
theorem aHf {P:Program} (w:World) (d:Nat) (t:TypeId) (a b:Nat) (h:P.underlying t=some (.float .f64)):(Op.equalIn (d+1) t (.float .f64 a) (.float .f64 b)).run P w= .ok (eqW a b) w:=by
 simp[Op.equalIn,run_underlying h,Op.floatEq,eqW]
theorem aVc (s t:Tgt) (w:World):(Op.equalIn 10000 58 (.agg #[.string s.service,.string s.split,.float .f64 s.weight]) (.agg #[.string t.service,.string t.split,.float .f64 t.weight])).run Tryz.prog w= .ok (tgtB s t) w:=by
 rw[run_equalIn_agg w 9999 _ _ _ (by kernel_rfl) (by kernel_rfl)];have e: Tryz.prog.fieldsOf 58 =(match Tryz.prog.underlying 58 with|some (.struct fs)=>fs|_=>#[]):=rfl;rw[Tryz.underlying58]at e;rw[e];unfold tgtB;cases h1:(s.service.toList==t.service.toList)<;>cases h2:(s.split.toList==t.split.toList)<;>cases h3:eqW s.weight t.weight<;>
  simp[Op.eqFields,part,Tryz.isAgg56,Tryz.isAgg9,aHf w 9998 _ _ _ Tryz.underlying56,run_equalIn_string w 9998 _ _ _ Tryz.underlying9,h1,h2,h3]
theorem aY0 (s t:Tgt) (w:World):(binOp .neq 58 (.agg #[.string s.service,.string s.split,.float .f64 s.weight]) (.agg #[.string t.service,.string t.split,.float .f64 t.weight])).run Tryz.prog w= .ok (.bool (!(tgtB s t))) w:=by
 rw[run_neq_struct,aVc];rfl
theorem aVd (s t:Rul) (w:World):(Op.equalIn 10000 60 (.agg #[.string s.path,.string s.method,.string s.split,.bool s.allow]) (.agg #[.string t.path,.string t.method,.string t.split,.bool t.allow])).run Tryz.prog w= .ok (rulB s t) w:=by
 rw[run_equalIn_agg w 9999 _ _ _ (by kernel_rfl) (by kernel_rfl)];have e: Tryz.prog.fieldsOf 60 =(match Tryz.prog.underlying 60 with|some (.struct fs)=>fs|_=>#[]):=rfl;rw[Tryz.underlying60]at e;rw[e];unfold rulB;cases h1:(s.path.toList==t.path.toList)<;>cases h2:(s.method.toList==t.method.toList)<;>cases h3:(s.split.toList==t.split.toList)<;>cases h4:(s.allow==t.allow)<;>
  simp[Op.eqFields,part,Tryz.isAgg4,Tryz.isAgg9,run_equalIn_bool' w 9998 _ _ _ Tryz.underlying4,run_equalIn_string w 9998 _ _ _ Tryz.underlying9,h1,h2,h3,h4]
theorem aY1 (s t:Rul) (w:World):(binOp .neq 60 (.agg #[.string s.path,.string s.method,.string s.split,.bool s.allow]) (.agg #[.string t.path,.string t.method,.string t.split,.bool t.allow])).run Tryz.prog w= .ok (.bool (!(rulB s t))) w:=by
 rw[run_neq_struct,aVd];rfl
theorem teq_c (w:World) (v v':Value) (l l':List Tgt) (h:SlR w v 3 l aA8) (h':SlR w v' 3 l' aA8):
 Calls Tryz.prog 74 #[v,v'] w fun x w'=>x= .returned (.bool (allB tgtB l l'))/\∃k,w'=w.drewN k:=by
 obtain ⟨ao,cap,hv,hl,hat⟩:=h;obtain ⟨ao',cap',hv',hl',hat'⟩:=h';obtain ⟨n,hn⟩:∃n,n=l.length:=⟨_,rfl⟩;obtain ⟨n',hn'⟩:∃n',n'=l'.length:=⟨_,rfl⟩;rw[<-hn]at hv hl hat;rw[<-hn']at hv' hl' hat';subst hv;subst hv';by_cases hnn:n=n'
 ·subst hnn;have Hat:=hid (And.intro hat hat');have Hn:=hid (And.intro hn hn');have Hl:=hid hl;have hN:=fun s t w=>aY0 s t w;clear hat hat' hn hn' hl hl';go_enter Tryz.func74,Tryz.ntmps74;go_wp2
  go_loopw [5,13] (fun v5 vi wr=>∃j:Nat,vi= .int .i64 (j:Int)/\Hid (j<=n/\(∃k,wr=w.drewN k)/\∀(i:Nat) (a b:Tgt),i<j->l[i]? =some a->l'[i]? =some b->tgtB a b=true)) (fun _ vi _=>n-(intOf vi).toNat)
  case atStart=>exact ⟨0,rfl,hid ⟨Nat.zero_le _,⟨0,rfl⟩,fun i a b hi=>absurd hi (Nat.not_lt_zero _)⟩⟩
  case round=>
   obtain ⟨j,rfl,H⟩:=hrel;obtain ⟨hjn,⟨kw,rfl⟩,hall⟩:=H.out;by_cases hj:j<n
   ·have tj:decide (j<n)=true:=dT hj;have bj:(j:Int)<(n:Int):=by omega
    obtain ⟨s,hs⟩:∃s,l[j]? =some s:=aAh (by rw[<-Hn.out.1];exact hj);obtain ⟨t,ht⟩:∃t,l'[j]? =some t:=aAh (by rw[<-Hn.out.2];exact hj);obtain ⟨b1,o1,rfl,l1,q1⟩:=Hat.out.1 (by omega);obtain ⟨b2,o2,rfl,l2,q2⟩:=Hat.out.2 (by omega);have q1:=q1 j s hs;have q2:=q2 j t ht;have c0:(w.drewN kw).cell? ⟨b1,o1+j*3,none⟩=_:=q1 0 _ rfl;have d0:(w.drewN kw).cell? ⟨b2,o2+j*3,none⟩=_:=q2 0 _ rfl;have c1:(w.drewN kw).cell? ⟨b1,o1+j*3+1,none⟩=_:=q1 1 _ rfl
    have d1:(w.drewN kw).cell? ⟨b2,o2+j*3+1,none⟩=_:=q2 1 _ rfl;have c2:(w.drewN kw).cell? ⟨b1,o1+j*3+2,none⟩=_:=q1 2 _ rfl;have d2:(w.drewN kw).cell? ⟨b2,o2+j*3+2,none⟩=_:=q2 2 _ rfl;have hNe:=fun W=>hN s t W;obtain ⟨Hms,Hgo⟩:=aAt (k:=j) (n:=n) hj (by have:=Hl.out;omega);cases hb:tgtB s t with
    |true=>
     rw[hb]at hNe;simp only[Bool.not_true]at hNe;have HH:=hid (fun k=>show j+1<=n/\(∃k',(w.drewN kw).drewN k=w.drewN k')/\∀(i:Nat) (a b:Tgt),i<j+1->l[i]? =some a->l'[i]? =some b->tgtB a b=true from
      ⟨hj,⟨kw+k,aBt _ _ _⟩,fun i a b hi h1 h2=>by
       rcases Nat.lt_succ_iff_lt_or_eq.1 hi with q|rfl
       ·exact hall i a b q h1 h2
       ·rw[hs]at h1;rw[ht]at h2;obtain rfl:=a3p h1;obtain rfl:=a3p h2;exact hb⟩)
     clear hN hall H q1 q2 hs ht hj hjn l1 l2 hb Hat Hn;go_wp2
     go_region_held3 (fun w'=>w'.cell? ⟨b1,o1+j*3,none⟩=some (.string s.service)/\w'.cell? ⟨b1,o1+j*3+1,none⟩=some (.string s.split)/\w'.cell? ⟨b1,o1+j*3+2,none⟩=some (.float .f64 s.weight)/\w'.cell? ⟨b2,o2+j*3,none⟩=some (.string t.service)/\w'.cell? ⟨b2,o2+j*3+1,none⟩=some (.string t.split)/\w'.cell? ⟨b2,o2+j*3+2,none⟩=some (.float .f64 t.weight)) (first|exact ⟨c0,c1,c2,d0,d1,d2⟩) (fail)
     all_goals go_wp2
     all_goals go_roundw
     all_goals first|exact ⟨j+1,Hgo.out,hid (HH.out 1)⟩|exact Hms.out
    |false=>
     rw[hb]at hNe;simp only[Bool.not_false]at hNe;have HH:=hid (fun k=>show allB tgtB l l'=false/\∃k',(w.drewN kw).drewN k=w.drewN k' from ⟨aOu hs ht hb,kw+k,aBt _ _ _⟩);clear hN hall H q1 q2 hs ht hj hjn l1 l2 hb Hat Hn;go_wp2
     go_region_held3 (fun w'=>w'.cell? ⟨b1,o1+j*3,none⟩=some (.string s.service)/\w'.cell? ⟨b1,o1+j*3+1,none⟩=some (.string s.split)/\w'.cell? ⟨b1,o1+j*3+2,none⟩=some (.float .f64 s.weight)/\w'.cell? ⟨b2,o2+j*3,none⟩=some (.string t.service)/\w'.cell? ⟨b2,o2+j*3+1,none⟩=some (.string t.split)/\w'.cell? ⟨b2,o2+j*3+2,none⟩=some (.float .f64 t.weight)) (first|exact ⟨c0,c1,c2,d0,d1,d2⟩) (fail)
     all_goals go_wp2
     all_goals refine bodyPost_ret (results_tmp (t:=4) rfl _ _ _) rfl ?_
     all_goals obtain ⟨z1,z2⟩:=HH.out 1
     all_goals exact ⟨by rw[z1];rfl,z2⟩
   ·have tj:decide (j<n)=false:=dF hj;have HE:=hid (show allB tgtB l l'=true from aLn (Hn.out.1.symm.trans Hn.out.2) (fun i a b h1 h2=>hall i a b (by have:=(a3r h1).1;have:=Hn.out.1;omega) h1 h2));clear hN hall H hj hjn Hat Hn;go_wp2;refine bodyPost_ret (results_tmp (t:=4) rfl _ _ _) rfl ?_;exact ⟨by rw[HE.out];rfl,kw,rfl⟩
 ·have t1:((n:Int) != (n':Int))=true:=bne_iff_ne.2 (fun e=>hnn (by omega));have t2:((n:Int)==(n':Int))=false:=beq_eq_false_iff_ne.2 (fun e=>hnn (by omega));have HE:=hid (show allB tgtB l l'=false from aLm (by rw[<-hn,<-hn'];exact hnn));clear hat hat' hn hn' hnn hl hl';go_enter Tryz.func74,Tryz.ntmps74
  go_wp2;refine bodyPost_ret (results_tmp (t:=4) rfl _ _ _) rfl ?_;exact ⟨by rw[HE.out];rfl,0,rfl⟩
theorem ueq_c (w:World) (v v':Value) (l l':List Rul) (h:SlR w v 4 l aA3) (h':SlR w v' 4 l' aA3):
 Calls Tryz.prog 75 #[v,v'] w fun x w'=>x= .returned (.bool (allB rulB l l'))/\∃k,w'=w.drewN k:=by
 obtain ⟨ao,cap,hv,hl,hat⟩:=h;obtain ⟨ao',cap',hv',hl',hat'⟩:=h';obtain ⟨n,hn⟩:∃n,n=l.length:=⟨_,rfl⟩;obtain ⟨n',hn'⟩:∃n',n'=l'.length:=⟨_,rfl⟩;rw[<-hn]at hv hl hat;rw[<-hn']at hv' hl' hat';subst hv;subst hv';by_cases hnn:n=n'
 ·subst hnn;have Hat:=hid (And.intro hat hat');have Hn:=hid (And.intro hn hn');have Hl:=hid hl;have hN:=fun s t w=>aY1 s t w;clear hat hat' hn hn' hl hl';go_enter Tryz.func75,Tryz.ntmps75;go_wp2
  go_loopw [5,13] (fun v5 vi wr=>∃j:Nat,vi= .int .i64 (j:Int)/\Hid (j<=n/\(∃k,wr=w.drewN k)/\∀(i:Nat) (a b:Rul),i<j->l[i]? =some a->l'[i]? =some b->rulB a b=true)) (fun _ vi _=>n-(intOf vi).toNat)
  case atStart=>exact ⟨0,rfl,hid ⟨Nat.zero_le _,⟨0,rfl⟩,fun i a b hi=>absurd hi (Nat.not_lt_zero _)⟩⟩
  case round=>
   obtain ⟨j,rfl,H⟩:=hrel;obtain ⟨hjn,⟨kw,rfl⟩,hall⟩:=H.out;by_cases hj:j<n
   ·have tj:decide (j<n)=true:=dT hj;have bj:(j:Int)<(n:Int):=by omega
    obtain ⟨s,hs⟩:∃s,l[j]? =some s:=aAh (by rw[<-Hn.out.1];exact hj);obtain ⟨t,ht⟩:∃t,l'[j]? =some t:=aAh (by rw[<-Hn.out.2];exact hj);obtain ⟨b1,o1,rfl,l1,q1⟩:=Hat.out.1 (by omega);obtain ⟨b2,o2,rfl,l2,q2⟩:=Hat.out.2 (by omega);have q1:=q1 j s hs;have q2:=q2 j t ht;have c0:(w.drewN kw).cell? ⟨b1,o1+j*4,none⟩=_:=q1 0 _ rfl;have d0:(w.drewN kw).cell? ⟨b2,o2+j*4,none⟩=_:=q2 0 _ rfl;have c1:(w.drewN kw).cell? ⟨b1,o1+j*4+1,none⟩=_:=q1 1 _ rfl
    have d1:(w.drewN kw).cell? ⟨b2,o2+j*4+1,none⟩=_:=q2 1 _ rfl;have c2:(w.drewN kw).cell? ⟨b1,o1+j*4+2,none⟩=_:=q1 2 _ rfl;have d2:(w.drewN kw).cell? ⟨b2,o2+j*4+2,none⟩=_:=q2 2 _ rfl;have c3:(w.drewN kw).cell? ⟨b1,o1+j*4+3,none⟩=_:=q1 3 _ rfl;have d3:(w.drewN kw).cell? ⟨b2,o2+j*4+3,none⟩=_:=q2 3 _ rfl;have hNe:=fun W=>hN s t W;obtain ⟨Hms,Hgo⟩:=aAt (k:=j) (n:=n) hj (by have:=Hl.out;omega);cases hb:rulB s t with
    |true=>
     rw[hb]at hNe;simp only[Bool.not_true]at hNe;have HH:=hid (fun k=>show j+1<=n/\(∃k',(w.drewN kw).drewN k=w.drewN k')/\∀(i:Nat) (a b:Rul),i<j+1->l[i]? =some a->l'[i]? =some b->rulB a b=true from
      ⟨hj,⟨kw+k,aBt _ _ _⟩,fun i a b hi h1 h2=>by
       rcases Nat.lt_succ_iff_lt_or_eq.1 hi with q|rfl
       ·exact hall i a b q h1 h2
       ·rw[hs]at h1;rw[ht]at h2;obtain rfl:=a3p h1;obtain rfl:=a3p h2;exact hb⟩)
     clear hN hall H q1 q2 hs ht hj hjn l1 l2 hb Hat Hn;go_wp2
     go_region_held3 (fun w'=>w'.cell? ⟨b1,o1+j*4,none⟩=some (.string s.path)/\w'.cell? ⟨b1,o1+j*4+1,none⟩=some (.string s.method)/\w'.cell? ⟨b1,o1+j*4+2,none⟩=some (.string s.split)/\w'.cell? ⟨b1,o1+j*4+3,none⟩=some (.bool s.allow)/\w'.cell? ⟨b2,o2+j*4,none⟩=some (.string t.path)/\w'.cell? ⟨b2,o2+j*4+1,none⟩=some (.string t.method)/\w'.cell? ⟨b2,o2+j*4+2,none⟩=some (.string t.split)/\w'.cell? ⟨b2,o2+j*4+3,none⟩=some (.bool t.allow)) (first|exact ⟨c0,c1,c2,c3,d0,d1,d2,d3⟩) (fail)
     all_goals go_wp2
     all_goals go_roundw
     all_goals first|exact ⟨j+1,Hgo.out,hid (HH.out 1)⟩|exact Hms.out
    |false=>
     rw[hb]at hNe;simp only[Bool.not_false]at hNe;have HH:=hid (fun k=>show allB rulB l l'=false/\∃k',(w.drewN kw).drewN k=w.drewN k' from ⟨aOu hs ht hb,kw+k,aBt _ _ _⟩);clear hN hall H q1 q2 hs ht hj hjn l1 l2 hb Hat Hn;go_wp2
     go_region_held3 (fun w'=>w'.cell? ⟨b1,o1+j*4,none⟩=some (.string s.path)/\w'.cell? ⟨b1,o1+j*4+1,none⟩=some (.string s.method)/\w'.cell? ⟨b1,o1+j*4+2,none⟩=some (.string s.split)/\w'.cell? ⟨b1,o1+j*4+3,none⟩=some (.bool s.allow)/\w'.cell? ⟨b2,o2+j*4,none⟩=some (.string t.path)/\w'.cell? ⟨b2,o2+j*4+1,none⟩=some (.string t.method)/\w'.cell? ⟨b2,o2+j*4+2,none⟩=some (.string t.split)/\w'.cell? ⟨b2,o2+j*4+3,none⟩=some (.bool t.allow)) (first|exact ⟨c0,c1,c2,c3,d0,d1,d2,d3⟩) (fail)
     all_goals go_wp2
     all_goals refine bodyPost_ret (results_tmp (t:=4) rfl _ _ _) rfl ?_
     all_goals obtain ⟨z1,z2⟩:=HH.out 1
     all_goals exact ⟨by rw[z1];rfl,z2⟩
   ·have tj:decide (j<n)=false:=dF hj;have HE:=hid (show allB rulB l l'=true from aLn (Hn.out.1.symm.trans Hn.out.2) (fun i a b h1 h2=>hall i a b (by have:=(a3r h1).1;have:=Hn.out.1;omega) h1 h2));clear hN hall H hj hjn Hat Hn;go_wp2;refine bodyPost_ret (results_tmp (t:=4) rfl _ _ _) rfl ?_;exact ⟨by rw[HE.out];rfl,kw,rfl⟩
 ·have t1:((n:Int) != (n':Int))=true:=bne_iff_ne.2 (fun e=>hnn (by omega));have t2:((n:Int)==(n':Int))=false:=beq_eq_false_iff_ne.2 (fun e=>hnn (by omega));have HE:=hid (show allB rulB l l'=false from aLm (by rw[<-hn,<-hn'];exact hnn));clear hat hat' hn hn' hnn hl hl';go_enter Tryz.func75,Tryz.ntmps75
  go_wp2;refine bodyPost_ret (results_tmp (t:=4) rfl _ _ _) rfl ?_;exact ⟨by rw[HE.out];rfl,0,rfl⟩
def sameV (r s:Res):Bool:=
 (r.kind==s.kind)&&(r.name.toList==s.name.toList)&&(r.host.toList==s.host.toList)&&(r.route.toList==s.route.toList)&&(r.del==s.del)&&decide (r.endps=s.endps)&&allB tgtB r.targets s.targets&&allB rulB r.rules s.rules
theorem eeq_c (w:World) (v v':Value) (l l':List ByteArray) (h:SlR w v 1 l aAp) (h':SlR w v' 1 l' aAp):
 Calls Tryz.prog 73 #[v,v'] w fun x w'=>x= .returned (.bool (decide (l=l')))/\∃k,w'=w.drewN k:=by
 obtain ⟨ao,cap,rfl,hl,hat⟩:=h;obtain ⟨ao',cap',rfl,hl',hat'⟩:=h';by_cases hn:l.length=l'.length
 ·by_cases h0:l.length=0
  ·have e1:l=[]:=List.eq_nil_of_length_eq_zero h0;have e2:l'=[]:=List.eq_nil_of_length_eq_zero (hn ▸ h0);subst e1;subst e2;refine (Tryz.slices_Equal_string_empty ao ao' cap 0 cap' w (by decide)).mono ?_;rintro x w' ⟨rfl,rfl⟩;exact ⟨rfl,0,rfl⟩
  ·obtain ⟨b1,o1,rfl,l1,q1⟩:=hat (by omega);obtain ⟨b2,o2,rfl,l2,q2⟩:=hat' (by omega);have hc:∀(L:List ByteArray) (b o:Nat),(∀i x,L[i]? =some x->∀j u,(aAp x)[j]? =some u->w.cell? ⟨b,o+i*1+j,none⟩=some u)->∀j,j<L.length->w.cell? ⟨b,o+j,none⟩=some (.string (L.getD j ByteArray.empty)):=by
    intro L b o q j hj;have:=q j L[j] (a3q hj) 0 _ rfl;rw[Nat.mul_one,Nat.add_zero]at this;rw[this,List.getD_eq_getElem?_getD,a3q hj];rfl
   refine (Tryz.slices_Equal_string b1 o1 l.length cap b2 o2 l'.length cap' l l' w (a3k _) (a3k _) (by omega) (by omega) (hc l b1 o1 q1) (hc l' b2 o2 q2)).mono ?_;rintro x w' ⟨rfl,k,rfl⟩;rw[List.take_length,List.take_length];exact ⟨rfl,k,rfl⟩
 ·refine (Tryz.slices_Equal_string_lens ao ao' l.length cap l'.length cap' w hn).mono ?_;rintro x w' ⟨rfl,rfl⟩;rw[dF (fun e=>hn (by rw[e]))];exact ⟨rfl,0,rfl⟩
theorem a2n (w:World) (r s:Res) (ev tv rv ev' tv' rv':Value) (h:ResL w r ev tv rv) (h':ResL w s ev' tv' rv'):
 Calls Tryz.prog 30 #[.agg (resA r ev tv rv),.agg (resA s ev' tv' rv')] w fun e w'=>e= .returned (.bool (sameV r s))/\Below w.heap.size w w':=by
 obtain ⟨W,hW⟩:∃W,W=(w.alloc (.cells (resA r ev tv rv) 49)).alloc (.cells (resA s ev' tv' rv') 49):=⟨_,rfl⟩;have hbW:Below w.heap.size w W:=by rw[hW];exact aGm _ _ _
 have hblk:W.heap[w.heap.size]? =some (.cells (resA r ev tv rv) 49 (0,0))/\W.heap[w.heap.size+1]? =some (.cells (resA s ev' tv' rv') 49 (0,0)):=by rw[hW];exact blk2 (a3l _ _)
 have HE:=hid (fun k=>eeq_c (W.drewN k) ev ev' r.endps s.endps ((h.e.later hbW).later (bdH (a3l _ _) k)) ((h'.e.later hbW).later (bdH (a3l _ _) k)));have HT:=hid (fun k=>teq_c (W.drewN k) tv tv' r.targets s.targets ((h.t.later hbW).later (bdH (a3l _ _) k)) ((h'.t.later hbW).later (bdH (a3l _ _) k)));have HU:=hid (fun k=>ueq_c (W.drewN k) rv rv' r.rules s.rules ((h.r.later hbW).later (bdH (a3l _ _) k)) ((h'.r.later hbW).later (bdH (a3l _ _) k)))
 obtain ⟨f1,f2⟩:=hblk;unfold resA at hW f1 f2 |-;obtain ⟨y0,y1,y2,y3,y4,y5,y6,y7⟩:=cB8 f1;obtain ⟨z0,z1,z2,z3,z4,z5,z6,z7⟩:=cB8 f2;simp at y0 y1 y2 y3 y4 y5 y6 y7 z0 z1 z2 z3 z4 z5 z6 z7;have HB:=hid (fun k=>bdH hbW k);have hsv:sameV r s=((r.kind==s.kind)&&(r.name.toList==s.name.toList)&&(r.host.toList==s.host.toList)&&(r.route.toList==s.route.toList)&&(r.del==s.del)&&decide (r.endps=s.endps)&&allB tgtB r.targets s.targets&&allB rulB r.rules s.rules):=rfl
 rw[hsv];clear h h' hbW f1 f2 hsv;cases t0:(r.kind==s.kind) with
 |false=>
  simp only[Bool.and_true,Bool.true_and,Bool.and_false,Bool.false_and];clear HE HT HU;go_enter Tryz.func30,Tryz.ntmps30;go_wp2
  try rw[<-hW]
  refine bodyPost_ret (results_tmp (t:=4) rfl _ _ _) rfl ?_;exact ⟨rfl,HB.out 0⟩
 |true=>
  cases t1:(r.name.toList==s.name.toList) with
  |false=>
   simp only[Bool.and_true,Bool.true_and,Bool.and_false,Bool.false_and];clear HE HT HU;go_enter Tryz.func30,Tryz.ntmps30;go_wp2
   try rw[<-hW]
   refine bodyPost_ret (results_tmp (t:=4) rfl _ _ _) rfl ?_;exact ⟨rfl,HB.out 0⟩
  |true=>
   cases t2:(r.host.toList==s.host.toList) with
   |false=>
    simp only[Bool.and_true,Bool.true_and,Bool.and_false,Bool.false_and];clear HE HT HU;go_enter Tryz.func30,Tryz.ntmps30;go_wp2
    try rw[<-hW]
    refine bodyPost_ret (results_tmp (t:=4) rfl _ _ _) rfl ?_;exact ⟨rfl,HB.out 0⟩
   |true=>
    cases t3:(r.route.toList==s.route.toList) with
    |false=>
     simp only[Bool.and_true,Bool.true_and,Bool.and_false,Bool.false_and];clear HE HT HU;go_enter Tryz.func30,Tryz.ntmps30;go_wp2
     try rw[<-hW]
     refine bodyPost_ret (results_tmp (t:=4) rfl _ _ _) rfl ?_;exact ⟨rfl,HB.out 0⟩
    |true=>
     cases t4:(r.del==s.del) with
     |false=>
      simp only[Bool.and_true,Bool.true_and,Bool.and_false,Bool.false_and];clear HE HT HU;go_enter Tryz.func30,Tryz.ntmps30;go_wp2
      try rw[<-hW]
      refine bodyPost_ret (results_tmp (t:=4) rfl _ _ _) rfl ?_;exact ⟨rfl,HB.out 0⟩
     |true=>
      cases t5:decide (r.endps=s.endps) with
      |false=>
       simp only[Bool.and_true,Bool.true_and,Bool.and_false,Bool.false_and];rw[t5]at HE;clear t5;go_enter Tryz.func30,Tryz.ntmps30
       go_wp2_with fail
       rw[<-hW];refine (HE.out 0).mono ?_;rintro x w2 ⟨rfl,k1,rfl⟩;rw[show (W.drewN 0).drewN k1=W.drewN k1 by rw[aBt,Nat.zero_add]];clear hW HE;go_wp2;refine bodyPost_ret (results_tmp (t:=4) rfl _ _ _) rfl ?_;exact ⟨rfl,HB.out k1⟩
      |true=>
       cases t6:allB tgtB r.targets s.targets with
       |false=>
        simp only[Bool.and_true,Bool.true_and,Bool.and_false,Bool.false_and];rw[t5]at HE;rw[t6]at HT;clear t5;clear t6;go_enter Tryz.func30,Tryz.ntmps30
        go_wp2_with fail
        rw[<-hW];refine (HE.out 0).mono ?_;rintro x w2 ⟨rfl,k1,rfl⟩;rw[show (W.drewN 0).drewN k1=W.drewN k1 by rw[aBt,Nat.zero_add]];clear hW HE
        go_wp2_with fail
        refine (HT.out k1).mono ?_;rintro x w2 ⟨rfl,k2,rfl⟩;rw[aBt];clear HT;go_wp2;refine bodyPost_ret (results_tmp (t:=4) rfl _ _ _) rfl ?_;exact ⟨rfl,HB.out (k1+k2)⟩
       |true=>
        cases t7:allB rulB r.rules s.rules with
        |false=>
         simp only[Bool.and_true,Bool.true_and,Bool.and_false,Bool.false_and];rw[t5]at HE;rw[t6]at HT;rw[t7]at HU;clear t5;clear t6;clear t7;go_enter Tryz.func30,Tryz.ntmps30
         go_wp2_with fail
         rw[<-hW];refine (HE.out 0).mono ?_;rintro x w2 ⟨rfl,k1,rfl⟩;rw[show (W.drewN 0).drewN k1=W.drewN k1 by rw[aBt,Nat.zero_add]];clear hW HE
         go_wp2_with fail
         refine (HT.out k1).mono ?_;rintro x w2 ⟨rfl,k2,rfl⟩;rw[aBt];clear HT
         go_wp2_with fail
         refine (HU.out (k1+k2)).mono ?_;rintro x w2 ⟨rfl,k3,rfl⟩;rw[aBt];clear HU;go_wp2;refine bodyPost_ret (results_tmp (t:=4) rfl _ _ _) rfl ?_;exact ⟨rfl,HB.out (k1+k2+k3)⟩
        |true=>
         simp only[Bool.and_true,Bool.true_and,Bool.and_false,Bool.false_and];rw[t5]at HE;rw[t6]at HT;rw[t7]at HU;clear t5;clear t6;clear t7;go_enter Tryz.func30,Tryz.ntmps30
         go_wp2_with fail
         rw[<-hW];refine (HE.out 0).mono ?_;rintro x w2 ⟨rfl,k1,rfl⟩;rw[show (W.drewN 0).drewN k1=W.drewN k1 by rw[aBt,Nat.zero_add]];clear hW HE
         go_wp2_with fail
         refine (HT.out k1).mono ?_;rintro x w2 ⟨rfl,k2,rfl⟩;rw[aBt];clear HT
         go_wp2_with fail
         refine (HU.out (k1+k2)).mono ?_;rintro x w2 ⟨rfl,k3,rfl⟩;rw[aBt];clear HU;go_wp2;refine bodyPost_ret (results_tmp (t:=4) rfl _ _ _) rfl ?_;exact ⟨rfl,HB.out (k1+k2+k3)⟩
