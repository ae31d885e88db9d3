/-
Parts of a proof.
-/
import Derived.Shelf.Bytes.SlCut
import Derived.Shelf.Bytes.SlIndexAt
import Derived.Test.YtfenoaeoedobmaaGreatDoorOn36
set_option linter.unusedVariables false
set_option linter.unusedSimpArgs false
set_option maxHeartbeats 4000000
set_option maxRecDepth 20000
namespace Go.Proofs.YtfenoaeoedobmaaGreatDoor
open Go Go.RowKit
theorem Cd (v:Value) (w:World):(Instr.typeAssert (.iface 174 v) 20 174 true).run Tryz.prog w= .ok (.tuple #[v,.bool true]) w:=by
 simp[Instr.typeAssert,go_sem,Tryz.underlying174]
theorem S4 (rb lb eb:Nat) (w:World):
 CallsD Tryz.prog 106 #[.pointer (some ⟨rb,0,none⟩),.pointer (some ⟨lb,0,none⟩),.pointer (some ⟨eb,0,none⟩)] .returning w fun e u' w'=>e= .returned (.tuple #[])/\u'= .returning/\w'=w:=by
 refine callsD_of_wpS Tryz.func106 rfl fun c₀ cs hu=> ?_;apply wpS_seq;apply wpS_region;simp[wpOpsS,go_sem,recoverD,hu,Tryz.ntmps106,Exit.thenS];refine wpS_of_wp ?_;go_wp2;cases c₀
 simp_all[bodyPostS,results,Tryz.results106]
theorem PQ {w:World} {x0 lv ev:Value} {T1 T2 T3:TypeId} (n:Nat) (e:Flt) (ob:Obj) (hr:w.heap[n]? =some (.cells #[x0] T1 (0,0))) (hl:w.heap[n+1]? =some (.cells #[lv] T2 (0,0))) (he:w.heap[n+1+1]? =some (.cells #[ev] T3 (0,0))):
 ∀W,W=((((w.alloc ob).setCell ⟨n,0,none⟩ (.slice none 0 0)).setCell ⟨n+1,0,none⟩ (.int .i64 e.1)).setCell ⟨n+1+1,0,none⟩ (.int .i64 e.2)).drew->
  Mod (fun k=>k=n\/k=n+1\/k=n+1+1) w W/\W.heap[n]? =some (.cells #[.slice none 0 0] T1 (0,0))/\W.heap[n+1]? =some (.cells #[.int .i64 e.1] T2 (0,0))/\W.heap[n+1+1]? =some (.cells #[.int .i64 e.2] T3 (0,0)):=by
 rintro W rfl;have ha:=(ai ob (af hr)).trans hr;have hb:=(ai ob (af hl)).trans hl;have hc:=(ai ob (af he)).trans he;have hm:Mod (fun k=>k=n\/k=n+1\/k=n+1+1) w (w.alloc ob):=(Mod.refl _ _).trans' (Mod.ofBelow (F:=fun _=>False) ((aBi w.heap.size w).alloc (aBh _) ob) (fun k hk mQ=>by omega)) (fun _ _ q=>q.elim);generalize w.alloc ob=V at*;have m0:Mod (fun k=>k=n\/k=n+1\/k=n+1+1) w (V.setCell ⟨n,0,none⟩ (.slice none 0 0)):=hm.setCell _ _ (fun _=> .inl rfl)
 have m1:Mod (fun k=>k=n\/k=n+1\/k=n+1+1) w ((V.setCell ⟨n,0,none⟩ (.slice none 0 0)).setCell ⟨n+1,0,none⟩ (.int .i64 e.1)):=m0.setCell _ _ (fun _=> .inr (.inl rfl));have m2:Mod (fun k=>k=n\/k=n+1\/k=n+1+1) w (((V.setCell ⟨n,0,none⟩ (.slice none 0 0)).setCell ⟨n+1,0,none⟩ (.int .i64 e.1)).setCell ⟨n+1+1,0,none⟩ (.int .i64 e.2)):=m1.setCell _ _ (fun _=> .inr (.inr rfl));refine ⟨m2.drew,?_,?_,?_⟩
 ·rw[iD];refine (aW _ _ (by show ¬n=n+1+1;omega)).trans ?_;refine (aW _ _ (by show ¬n=n+1;omega)).trans ?_;exact aI ha 0 _
 ·rw[iD];refine (aW _ _ (by show ¬n+1=n+1+1;omega)).trans (aI (c:=#[lv]) ?_ 0 _);exact (aW _ _ (by show ¬n+1=n;omega)).trans hb
 ·rw[iD];refine aI (c:=#[ev]) ?_ 0 _;refine (aW _ _ (by show ¬n+1+1=n+1;omega)).trans ?_;exact (aW _ _ (by show ¬n+1+1=n;omega)).trans hc
theorem S3 (n:Nat) (e:Flt) (Cw:List PanicEntry) (w:World) (x0 lv ev:Value) (T1 T2 T3:TypeId) (hr:w.heap[n]? =some (.cells #[x0] T1 (0,0))) (hl:w.heap[n+1]? =some (.cells #[lv] T2 (0,0))) (he:w.heap[n+1+1]? =some (.cells #[ev] T3 (0,0))):
 CallsD Tryz.prog 106 #[.pointer (some ⟨n,0,none⟩),.pointer (some ⟨n+1,0,none⟩),.pointer (some ⟨n+1+1,0,none⟩)] (.panicking ({v:= .iface 174 (.agg #[.int .i64 e.1,.int .i64 e.2]),recovered:=false}::Cw)) w fun r u' w'=>r= .returned (.tuple #[])/\u'= .panicking ({v:= .iface 174 (.agg #[.int .i64 e.1,.int .i64 e.2]),recovered:=true}::Cw)/\
  Mod (fun k=>k=n\/k=n+1\/k=n+1+1) w w'/\w'.heap[n]? =some (.cells #[.slice none 0 0] T1 (0,0))/\w'.heap[n+1]? =some (.cells #[.int .i64 e.1] T2 (0,0))/\w'.heap[n+1+1]? =some (.cells #[.int .i64 e.2] T3 (0,0)):=by
 have HE:=hid (fun ob=>PQ (w:=w) n e ob hr hl he);refine callsD_of_wpS Tryz.func106 rfl fun c₀ cs hu=> ?_;apply wpS_seq;apply wpS_region;simp[wpOpsS,go_sem,recoverD,hu,Tryz.ntmps106,Exit.thenS];refine wpS_of_wp ?_
 show Code.wp _ _ _ {tmps:=#[.pointer (some ⟨n,0,none⟩),.pointer (some ⟨n+1,0,none⟩),.pointer (some ⟨n+1+1,0,none⟩),.iface 174 (.agg #[.int .i64 e.1,.int .i64 e.2]),undef,undef,.iface 174 (.agg #[.int .i64 e.1,.int .i64 e.2]),undef,undef,undef,undef,undef,undef,undef,undef,undef,undef,undef,undef,undef,undef],defers:=[]} _
 have hta:∀(v:Value) (w:World),(Instr.typeAssert (.iface 174 v) 20 174 true).run Tryz.prog w= .ok (.tuple #[v,.bool true]) w:=Cd;have f1:=fun ob=>ah ((ai ob (af hr)).trans hr) 0;have f2:=fun ob=>ah ((ai ob (af hl)).trans hl) 0;have f3:=fun ob=>ah ((ai ob (af he)).trans he) 0
 have c1:=fun ob=>aa ((ai ob (af hr)).trans hr) 0;have c2:=fun ob=>aa ((ai ob (af hl)).trans hl) 0;have c3:=fun ob=>aa ((ai ob (af he)).trans he) 0;simp at c1 c2 c3;have hq:=af he;have n1:¬n=w.heap.size:=by omega
 have n2:¬w.heap.size=n:=by omega
 have n3:¬n+1=w.heap.size:=by omega
 have n4:¬w.heap.size=n+1:=by omega
 have n5:¬n+1+1=w.heap.size:=by omega
 have n6:¬w.heap.size=n+1+1:=by omega
 clear hq hr hl he;go_wp2
 go_region
 all_goals go_wp2
 all_goals
  cases c₀;simp only at hu;subst hu;exact ⟨rfl,_,rfl,.tuple #[],results_none rfl _ _ _,rfl,rfl,HE.o _ _ rfl⟩
def dcD (n:Nat):Deferred:={target:= .fn (.func 106) #[.pointer (some ⟨n,0,none⟩),.pointer (some ⟨n+1,0,none⟩),.pointer (some ⟨n+1+1,0,none⟩)],args:=#[]}
def Xo (w0:World) (x:Except Flt (List Nd)) (r:Ending) (w':World):Prop:=
 (match x with
  | .ok ns=>∃v ms,r= .returned (.tuple #[v,.int .i64 0,.int .i64 0])/\DocP w' w0.heap.size ⟨v,ms⟩/\nds ms=ns
  | .error e=>r= .returned (.tuple #[.slice none 0 0,.int .i64 e.1,.int .i64 e.2]))/\Below w0.heap.size w0 w'
theorem tJ {w:World} {n:Nat} {v l e:Value} {tmps:Array Value} (h2:tmps[2]? =some (.pointer (some ⟨n,0,none⟩))) (h3:tmps[3]? =some (.pointer (some ⟨n+1,0,none⟩))) (h4:tmps[4]? =some (.pointer (some ⟨n+1+1,0,none⟩))) (ha:w.heap[n]? =some (.cells #[v] 33 (0,0))) (hb:w.heap[n+1]? =some (.cells #[l] 3 (0,0))) (hc:w.heap[n+1+1]? =some (.cells #[e] 25 (0,0))):
 (results Tryz.f69 tmps).run Tryz.prog w= .ok (.tuple #[v,l,e]) w:=by
 have c0:=aa ha 0;have c1:=aa hb 0;have c2:=aa hc 0;simp at c0 c1 c2;have b0:(loadVar 33 ⟨n,0,none⟩).run Tryz.prog w= .ok v w:=by simp[go_sem,c0]
 have b1:(loadVar 3 ⟨n+1,0,none⟩).run Tryz.prog w= .ok l w:=by simp[go_sem,c1]
 have b2:(loadVar 25 ⟨n+1+1,0,none⟩).run Tryz.prog w= .ok e w:=by simp[go_sem,c2]
 rw[Array.getElem?_eq_some_iff]at h2 h3 h4;obtain ⟨l2,e2⟩:=h2;obtain ⟨l3,e3⟩:=h3;obtain ⟨l4,e4⟩:=h4;simp[results,Tryz.results69,asAddr,Array.getD,l2,e2,l3,e3,l4,e4,b0,b1,b2]
structure DocW (w0 w:World) (n:Nat):Prop where
 below:Below w0.heap.size w0 w
 nod:∃v,w.heap[n]? =some (.cells #[v] 33 (0,0))
 lin:∃v,w.heap[n+1]? =some (.cells #[v] 3 (0,0))
 err:∃v,w.heap[n+1+1]? =some (.cells #[v] 25 (0,0))
 nn:n=w0.heap.size
theorem F7 {w0 w:World} {a:Act} {n:Nat} {x:Except Flt (List Nd)} {e:Flt} (hx:x= .error e) (hd:a.defers=[dcD n]) (s2:a.tmps[2]? =some (.pointer (some ⟨n,0,none⟩))) (s3:a.tmps[3]? =some (.pointer (some ⟨n+1,0,none⟩))) (s4:a.tmps[4]? =some (.pointer (some ⟨n+1+1,0,none⟩))) (h:DocW w0 w n):
 bodyPostD Tryz.prog Tryz.f69 (Xo w0 x) (.panic [{v:= .iface 174 (.agg #[.int .i64 e.1,.int .i64 e.2]),recovered:=false}]) a w:=by
 subst hx
 show Leaves Tryz.prog Tryz.f69 a.tmps _ a.defers (.panicking _) w
 rw[hd];obtain ⟨v,hv⟩:=h.nod;obtain ⟨l,hl⟩:=h.lin;obtain ⟨er,he⟩:=h.err;refine leaves_cons (f:= 106) (args:=#[.pointer (some ⟨n,0,none⟩),.pointer (some ⟨n+1,0,none⟩),.pointer (some ⟨n+1+1,0,none⟩)]) (by simp) (by simp[go_sem]) ?_;refine (S3 n e [] w _ _ _ _ _ _ hv hl he).mono ?_;rintro r2 u' w2 ⟨rfl,rfl,hm,h1,h2,h3⟩;refine ⟨_,tJ s2 s3 s4 h1 h2 h3,rfl,?_⟩;have hn:=h.nn
 exact h.below.trans (hm.below h.below.size fun k hk=>by omega)
theorem PK {w0 w:World} {a:Act} {n:Nat} {x:Except Flt (List Nd)} {ns:List Nd} (hx:x= .ok ns) (hd:a.defers=[dcD n]) (s2:a.tmps[2]? =some (.pointer (some ⟨n,0,none⟩))) (s3:a.tmps[3]? =some (.pointer (some ⟨n+1,0,none⟩))) (s4:a.tmps[4]? =some (.pointer (some ⟨n+1+1,0,none⟩))) (hb:Below w0.heap.size w0 w)
 {v:Value} {ms:List NdM} (h1:w.heap[n]? =some (.cells #[v] 33 (0,0))) (h2:w.heap[n+1]? =some (.cells #[.int .i64 0] 3 (0,0))) (h3:w.heap[n+1+1]? =some (.cells #[.int .i64 0] 25 (0,0))) (hP:DocP w w0.heap.size ⟨v,ms⟩) (hn:nds ms=ns):
 bodyPostD Tryz.prog Tryz.f69 (Xo w0 x) .ret a w:=by
 subst hx
 show Leaves Tryz.prog Tryz.f69 a.tmps _ a.defers .returning w
 rw[hd];refine leaves_cons (f:= 106) (args:=#[.pointer (some ⟨n,0,none⟩),.pointer (some ⟨n+1,0,none⟩),.pointer (some ⟨n+1+1,0,none⟩)]) (by simp) (by simp[go_sem]) ?_;refine (S4 n (n+1) (n+1+1) w).mono ?_;rintro r2 u' w2 ⟨rfl,rfl,rfl⟩;exact ⟨_,tJ s2 s3 s4 h1 h2 h3,⟨v,ms,rfl,hP,hn⟩,hb⟩
def w3T (w:World):World:=((w.alloc (.cells #[.slice none 0 0] 33)).alloc (.cells #[.int .i64 0] 3)).alloc (.cells #[.int .i64 0] 25)
theorem L1 (w:World):(w3T w).heap.size=w.heap.size+1+1+1:=by simp[w3T]
theorem I4 (w:World):Below w.heap.size w (w3T w):=
 (((aBi w.heap.size w).alloc (aBh _) _).alloc (by simp) _).alloc (by simp;omega) _
theorem QM (w:World):(w3T w).heap[w.heap.size]? =some (.cells #[.slice none 0 0] 33 (0,0))/\(w3T w).heap[w.heap.size+1]? =some (.cells #[.int .i64 0] 3 (0,0))/\(w3T w).heap[w.heap.size+1+1]? =some (.cells #[.int .i64 0] 25 (0,0)):=by
 unfold w3T;refine ⟨?_,?_,?_⟩
 ·refine (ai _ (by simp;omega)).trans ((ai _ (by simp)).trans (ag _))
 ·refine (ai _ (by simp)).trans ?_;have h:=ag (w:=w.alloc (.cells #[.slice none 0 0] 33)) (.cells #[.int .i64 0] 3)
  simpa using h
 ·have h:=ag (w:=(w.alloc (.cells #[.slice none 0 0] 33)).alloc (.cells #[.int .i64 0] 3)) (.cells #[.int .i64 0] 25)
  simpa using h
theorem qY {w w3 w2:World} {n:Nat} (hn:n=w.heap.size) (hs:w3.heap.size=n+1+1+1) (hb:Below w.heap.size w w3) (b1:w3.heap[n]? =some (.cells #[.slice none 0 0] 33 (0,0))) (b2:w3.heap[n+1]? =some (.cells #[.int .i64 0] 3 (0,0))) (b3:w3.heap[n+1+1]? =some (.cells #[.int .i64 0] 25 (0,0))) (h:Below w3.heap.size w3 w2):DocW w w2 n:=
 ⟨hb.trans (h.mono (by omega)),⟨_,(h.block _ (by omega)).trans b1⟩,⟨_,(h.block _ (by omega)).trans b2⟩,⟨_,(h.block _ (by omega)).trans b3⟩,hn⟩
def K9 (ts:List Tok):Except Flt (Nat×List Nd):=
 if pL (au ts 0)=true then (match bo ts 16 0 [] ⟨#[]⟩ with| .error e=> .error e| .ok (k,ns,_)=> .ok (k,ns)) else .ok (0,[])
theorem qZ (ts:List Tok):kj ts=match K9 ts with| .error e=> .error e| .ok (k,ns)=>if k<ts.length then .error ((au ts k).line,90) else .ok ns:=rfl
theorem BV (t:Tok):∀w',(Instr.field 121 (.agg #[.int .i64 t.kind,.int .i64 t.line,.int .i64 t.col,.string ⟨t.text.toArray⟩,.bool t.quoted]) 1).run Tryz.prog w'= .ok (.int .i64 t.line) w':=fun _=>by kernel_rfl
theorem Dr {w w2:World} {n:Nat} {nv:Value} {ms:List NdM} (z0:w2.heap[n]? =some (.cells #[.slice none 0 0] 33 (0,0))) (z1:w2.heap[n+1]? =some (.cells #[.int .i64 0] 3 (0,0))) (z2:w2.heap[n+1+1]? =some (.cells #[.int .i64 0] 25 (0,0))) (hb:Below w.heap.size w w2) (hP:DocP w2 (n+1+1+1) ⟨nv,ms⟩) (hn:n=w.heap.size):
 Below w.heap.size w (((w2.setCell ⟨n,0,none⟩ nv).setCell ⟨n+1,0,none⟩ (.int .i64 0)).setCell ⟨n+1+1,0,none⟩ (.int .i64 0))/\
 (((w2.setCell ⟨n,0,none⟩ nv).setCell ⟨n+1,0,none⟩ (.int .i64 0)).setCell ⟨n+1+1,0,none⟩ (.int .i64 0)).heap[n]? =some (.cells #[nv] 33 (0,0))/\
 (((w2.setCell ⟨n,0,none⟩ nv).setCell ⟨n+1,0,none⟩ (.int .i64 0)).setCell ⟨n+1+1,0,none⟩ (.int .i64 0)).heap[n+1]? =some (.cells #[.int .i64 0] 3 (0,0))/\
 (((w2.setCell ⟨n,0,none⟩ nv).setCell ⟨n+1,0,none⟩ (.int .i64 0)).setCell ⟨n+1+1,0,none⟩ (.int .i64 0)).heap[n+1+1]? =some (.cells #[.int .i64 0] 25 (0,0))/\
 DocP (((w2.setCell ⟨n,0,none⟩ nv).setCell ⟨n+1,0,none⟩ (.int .i64 0)).setCell ⟨n+1+1,0,none⟩ (.int .i64 0)) w.heap.size ⟨nv,ms⟩:=by
 have m0:Mod (fun k=>k=n\/k=n+1\/k=n+1+1) w2 (w2.setCell ⟨n,0,none⟩ nv):=(Mod.refl _ _).setCell _ _ (fun _=> .inl rfl);have m1:Mod (fun k=>k=n\/k=n+1\/k=n+1+1) w2 ((w2.setCell ⟨n,0,none⟩ nv).setCell ⟨n+1,0,none⟩ (.int .i64 0)):=m0.setCell _ _ (fun _=> .inr (.inl rfl));have m2:Mod (fun k=>k=n\/k=n+1\/k=n+1+1) w2 (((w2.setCell ⟨n,0,none⟩ nv).setCell ⟨n+1,0,none⟩ (.int .i64 0)).setCell ⟨n+1+1,0,none⟩ (.int .i64 0)):=m1.setCell _ _ (fun _=> .inr (.inr rfl))
 refine ⟨hb.trans (m2.below hb.size fun k hk=>by omega),?_,?_,?_,?_⟩
 ·refine (aW _ _ (by show ¬n=n+1+1;omega)).trans ?_;refine (aW _ _ (by show ¬n=n+1;omega)).trans ?_;exact aI z0 0 _
 ·refine (aW _ _ (by show ¬n+1=n+1+1;omega)).trans (aI (c:=#[.int .i64 0]) ?_ 0 _);exact (aW _ _ (by show ¬n+1=n;omega)).trans z1
 ·refine aI (c:=#[.int .i64 0]) ?_ 0 _;refine (aW _ _ (by show ¬n+1+1=n+1;omega)).trans ?_;exact (aW _ _ (by show ¬n+1+1=n;omega)).trans z2
 ·exact lk.down (lk.mod (x:=⟨nv,ms⟩) hP m2 (fun g hg=>by have:=(lk.lt (x:=⟨nv,ms⟩) hP g hg).1;omega)) (by omega)
theorem Ds {w w3 w2:World} {n rb k:Nat} {lv nv:Value} {ts:List Tok} {ms:List NdM} (hn:n=w.heap.size) (hs:w3.heap.size=n+1+1+1) (hb:Below w.heap.size w w3) (b1:w3.heap[n]? =some (.cells #[.slice none 0 0] 33 (0,0))) (b2:w3.heap[n+1]? =some (.cells #[.int .i64 0] 3 (0,0))) (b3:w3.heap[n+1+1]? =some (.cells #[.int .i64 0] 25 (0,0))) (h:RdS w3 w2 rb lv ts k nv ms):
 (w2.heap[n]? =some (.cells #[.slice none 0 0] 33 (0,0))/\w2.heap[n+1]? =some (.cells #[.int .i64 0] 3 (0,0))/\w2.heap[n+1+1]? =some (.cells #[.int .i64 0] 25 (0,0)))/\Below w.heap.size w w2/\DocP w2 (n+1+1+1) ⟨nv,ms⟩:=by
 refine ⟨⟨(h.below.block _ (by omega)).trans b1,(h.below.block _ (by omega)).trans b2,(h.below.block _ (by omega)).trans b3⟩,hb.trans (h.below.mono (by omega)),h.nr.row,fun g hg=>by have:=(h.nr.new g hg).1;omega,fun m hm=>NdE.down (h.nr.each m hm) (by omega),by have:=h.nr.len;show ms.length<=1048576;omega⟩
theorem F2 (w:World) (lv:Value) (ts:List Tok) (zl:SlR w lv 5 ts Tok.cells) (Zm:∀t∈ts,TokOk t):
 Calls Tryz.prog 69 #[lv] w (Xo w (kj ts)):=by
 obtain ⟨b1,b2,b3⟩:=QM w;have aV:=I4 w;have Qu:=L1 w;have qM:=zl.later aV;obtain ⟨ao,cap,rfl,hl,_⟩:=zl;obtain ⟨n,hn⟩:=ex (ts.length);rw[<-hn]at qM |-;have Hn:=hid hn;obtain ⟨X,hX⟩:=ex (kj ts);rw[<-hX];have HX:=hid hX;have Hwf:=hid Zm;have Ht3:=hid qM;clear Zm hX hn hl qM;refine calls_of_wp_defers Tryz.func69 rfl ?_;simp only[Tryz.ntmps69,List.size_toArray,aBk,List.length_nil,Nat.reduceAdd,Nat.reduceSub,Array.replicate_succ,Array.replicate_zero,List.push_toArray,List.append_toArray,List.nil_append,List.cons_append]
 go_wp2_with fail
 change Calls _ _ _ ((w3T w).alloc _) _;generalize w3T w=w3 at*;obtain ⟨n0,j8⟩:=ex (w.heap.size);rw[<-j8]at b1 b2 b3 aV Qu |-;have Ow:RdS w3 (w3.alloc (.cells #[.slice ao n cap,.int .i64 0,.slice none 0 0] 178)) (n0+1+1+1) (.slice ao n cap) ts 0 (.slice none 0 0) []:=
  ⟨Ht3.o,Hwf.o,(aBi _ _).alloc (aBh _) _,by omega,by rw[<-Qu];exact ag (w:=w3) _,NRow.first _ _ _,Nat.zero_le _⟩
 have Hm:=hid (And.intro j8 (And.intro Qu (And.intro (show Below w.heap.size w w3 by rw[<-j8];exact aV) (And.intro b1 (And.intro b2 b3)))));refine (jc Ow).mono ?_;rintro r w5 ⟨rfl,h5⟩;have Ue:=Ow.later h5;have tr:=hid (fun w5=>O7 w5 (au ts 0));unfold Tok.a at tr |-;clear b1 b2 b3 aV Qu Ow h5 j8 Ht3 Hwf;have HR5:=hid Ue;clear Ue
 go_wp2_with fail
 refine (tr.o _).mono ?_;rintro r w6 ⟨rfl,h6⟩;have hR:=HR5.o.later h6;clear h6 HR5 tr;cases nK:pL (au ts 0) with
 |false=>
  obtain ⟨k,nv,ms,BD,hR⟩:∃k nv ms,K9 ts= .ok (k,nds ms)/\RdS w3 w6 (n0+1+1+1) (.slice ao n cap) ts k nv ms:=⟨0,_,[],by unfold K9;rw[nK];rfl,hR⟩;clear nK;have bg:=hR.blk;unfold rdA at bg;have y1:=aa bg 1;have y2:=aa bg 2;simp at y1 y2;have HR:=hid hR;by_cases lT:k<n
  ·have tk:decide (k<n)=true:=dT lT;have bk:(k:Int)<(n:Int):=by omega
   have KQ:X= .error ((au ts k).line,90):=by rw[HX.o,qZ,BD];simp only;rw[if_pos (by rw[<-Hn.o];exact lT)]
   have Lv:=hid KQ;clear hR bg BD KQ lT
   go_wp2_with fail
   refine (jc HR.o).mono ?_;rintro r w9 ⟨rfl,h9⟩;have HW:=hid (qY Hm.o.1 Hm.o.2.1 Hm.o.2.2.1 Hm.o.2.2.2.1 Hm.o.2.2.2.2.1 Hm.o.2.2.2.2.2 (HR.o.below.trans (h9.mono HR.o.below.size)));clear h9 y1 y2;unfold Tok.a;have hfld:=BV (au ts k);go_wp2;refine F7 Lv.o ?_ ?_ ?_ ?_ HW.o<;>rfl
  ·have tk:decide (k<n)=false:=dF lT;have KQ:X= .ok (nds ms):=by rw[HX.o,qZ,BD];simp only;rw[if_neg (by rw[<-Hn.o];exact lT)]
   have Lv:=hid KQ;have HW:=hid (qY Hm.o.1 Hm.o.2.1 Hm.o.2.2.1 Hm.o.2.2.2.1 Hm.o.2.2.2.2.1 Hm.o.2.2.2.2.2 hR.below);have HE:=hid (Ds Hm.o.1 Hm.o.2.1 Hm.o.2.2.1 Hm.o.2.2.2.1 Hm.o.2.2.2.2.1 Hm.o.2.2.2.2.2 hR);obtain ⟨kp,c2,rfl⟩:=hR.nr.form;have z:=HE.o.1;have z0:=aa z.1 0;have z1:=aa z.2.1 0;have z2:=aa z.2.2 0;have zf0:=ah z.1 0;have zf1:=ah z.2.1 0
   have zf2:=ah z.2.2 0;simp at z0 z1 z2;clear hR bg BD KQ lT z;go_wp2;have HF:=Dr HE.o.1.1 HE.o.1.2.1 HE.o.1.2.2 HE.o.2.1 HE.o.2.2 Hm.o.1;exact PK Lv.o rfl rfl rfl rfl HF.1 HF.2.1 HF.2.2.1 HF.2.2.2.1 HF.2.2.2.2 rfl
 |true=>
  have hB:=IK w3 (n0+1+1+1) (.slice ao n cap) ts 16 (by decide) w6 0 _ [] ⟨#[]⟩ hR nK (by decide);have HB:=hid hB;have Z4:K9 ts=match bo ts 16 0 [] ⟨#[]⟩ with| .error e=> .error e| .ok (k,ns,_)=> .ok (k,ns):=by unfold K9;rw[if_pos nK]
  have XB:=hid Z4;clear hR hB nK Z4;have pJ:nds []=[]:=rfl;rw[pJ]at HB;clear pJ;generalize bo ts 16 0 [] ⟨#[]⟩=V at*
  go_wp2_with fail
  refine HB.o.mono ?_;intro r w7 hh;cases V with
  |error e=>
   obtain ⟨rfl,h1,h2⟩:=hh;have KQ:X= .error e:=by rw[HX.o,qZ,XB.o]
   exact F7 KQ rfl rfl rfl rfl (qY Hm.o.1 Hm.o.2.1 Hm.o.2.2.1 Hm.o.2.2.2.1 Hm.o.2.2.2.2.1 Hm.o.2.2.2.2.2 h1)
  |ok y=>
   obtain ⟨k,ns2,i⟩:=y;obtain ⟨hr,nv,ms,hR,uG,_,_⟩:=hh;subst hr;have BD:K9 ts= .ok (k,nds ms):=by rw[XB.o,uG]
   clear HB XB uG;have bg:=hR.blk;unfold rdA at bg;have y1:=aa bg 1;have y2:=aa bg 2;simp at y1 y2;have HR:=hid hR;by_cases lT:k<n
   ·have tk:decide (k<n)=true:=dT lT;have bk:(k:Int)<(n:Int):=by omega
    have KQ:X= .error ((au ts k).line,90):=by rw[HX.o,qZ,BD];simp only;rw[if_pos (by rw[<-Hn.o];exact lT)]
    have Lv:=hid KQ;clear hR bg BD KQ lT
    go_wp2_with fail
    refine (jc HR.o).mono ?_;rintro r w9 ⟨rfl,h9⟩;have HW:=hid (qY Hm.o.1 Hm.o.2.1 Hm.o.2.2.1 Hm.o.2.2.2.1 Hm.o.2.2.2.2.1 Hm.o.2.2.2.2.2 (HR.o.below.trans (h9.mono HR.o.below.size)));clear h9 y1 y2;unfold Tok.a;have hfld:=BV (au ts k);go_wp2;refine F7 Lv.o ?_ ?_ ?_ ?_ HW.o<;>rfl
   ·have tk:decide (k<n)=false:=dF lT;have KQ:X= .ok (nds ms):=by rw[HX.o,qZ,BD];simp only;rw[if_neg (by rw[<-Hn.o];exact lT)]
    have Lv:=hid KQ;have HW:=hid (qY Hm.o.1 Hm.o.2.1 Hm.o.2.2.1 Hm.o.2.2.2.1 Hm.o.2.2.2.2.1 Hm.o.2.2.2.2.2 hR.below);have HE:=hid (Ds Hm.o.1 Hm.o.2.1 Hm.o.2.2.1 Hm.o.2.2.2.1 Hm.o.2.2.2.2.1 Hm.o.2.2.2.2.2 hR);obtain ⟨kp,c2,rfl⟩:=hR.nr.form;have z:=HE.o.1;have z0:=aa z.1 0;have z1:=aa z.2.1 0;have z2:=aa z.2.2 0;have zf0:=ah z.1 0;have zf1:=ah z.2.1 0
    have zf2:=ah z.2.2 0;simp at z0 z1 z2;clear hR bg BD KQ lT z;go_wp2;have HF:=Dr HE.o.1.1 HE.o.1.2.1 HE.o.1.2.2 HE.o.2.1 HE.o.2.2 Hm.o.1;exact PK Lv.o rfl rfl rfl rfl HF.1 HF.2.1 HF.2.2.1 HF.2.2.2.1 HF.2.2.2.2 rfl
theorem Ia (w:World) (t:Tok) (b:Bool) (hb:(t.kind==1)=b):Calls Tryz.prog 68 #[.agg t.a] w fun r w'=>r= .returned (.bool b)/\Below w.heap.size w w':=by
 unfold Tok.a;cases b
 all_goals
  go_enter Tryz.func68,Tryz.ntmps68;go_wp2;go_ret;exact ⟨rfl,(aBi _ _).alloc (aBh _) _⟩
def pN (ts:List Tok):Int:=if docN ts<ts.length then (docN ts:Int) else -1
theorem S1 {ts:List Tok} {k:Nat} {t:Tok} (h:ts[k]? =some t) (ht:t.kind=1) (hk:docN ts=k+docN (ts.drop k)):pN ts=(k:Int):=by
 have hl:=(aBo h).1;have e:ts.drop k=t::ts.drop (k+1):=iI h;have e2:docN (t::ts.drop (k+1))=0:=by unfold docN;rw[if_pos ht]
 rw[e,e2]at hk;unfold pN;rw[if_pos (by omega),hk];rfl
theorem S0 {ts:List Tok} {k:Nat} {t:Tok} (h:ts[k]? =some t) (ht:¬t.kind=1) (hk:docN ts=k+docN (ts.drop k)):docN ts=(k+1)+docN (ts.drop (k+1)):=by
 have e:ts.drop k=t::ts.drop (k+1):=iI h;have e2:docN (t::ts.drop (k+1))=docN (ts.drop (k+1))+1:=by
  conv=>lhs;unfold docN
  rw[if_neg ht]
 rw[e,e2]at hk;omega
theorem Lb {ts:List Tok} {k:Nat} (h:ts.length<=k) (hk:docN ts=k+docN (ts.drop k)):pN ts= -1:=by
 rw[List.drop_eq_nil_of_le h]at hk;unfold pN;rw[if_neg (by omega)]
theorem W9 (w:World) (v:Value) (ts:List Tok) (hv:SlR w v 5 ts Tok.cells):
 Calls Tryz.prog 67 #[v,.func (.func 68) #[] #[]] w fun r w'=>r= .returned (.int .i64 (pN ts))/\Below w.heap.size w w':=by
 obtain ⟨ao,cap,rfl,hl,bN⟩:=hv;obtain ⟨n,hn⟩:=ex (ts.length);have Hn:=hid hn;have oQ:=hid bN;have Hl:=hid (show n<=1048576 by omega);rw[<-hn];clear hn bN hl;go_enter Tryz.func67,Tryz.ntmps67;go_wp2
 go_loopw [8] (fun v wr=>∃k:Nat,v= .int .i64 (k:Int)/\Hid (k<=n/\Below w.heap.size w wr/\docN ts=k+docN (ts.drop k))) (fun v _=>n-(intOf v).toNat)
 case atStart=>exact ⟨0,rfl,hid ⟨Nat.zero_le _,aBi _ _,by simp⟩⟩
 case round=>
  obtain ⟨k,rfl,H⟩:=hrel;have hn:n=ts.length:=Hn.o;by_cases cg:k<n
  ·obtain ⟨t,ht⟩:∃t,ts[k]? =some t:=⟨ts[k]'(by omega),aBn _⟩;obtain ⟨b,o,rfl,aN,FM⟩:=oQ.o (by omega);have fY:∀j u,(Tok.cells t)[j]? =some u->wr.cell? ⟨b,o+k*5+j,none⟩=some u:=fun j u hu=>(H.o.2.1.cell aN).trans (FM k t ht j u hu);have c0:wr.cell? ⟨b,o+k*5,none⟩=some (.int .i64 t.kind):=fY 0 _ rfl;have c1:wr.cell? ⟨b,o+k*5+1,none⟩=some (.int .i64 t.line):=fY 1 _ rfl
   have c2:wr.cell? ⟨b,o+k*5+2,none⟩=some (.int .i64 t.col):=fY 2 _ rfl;have c3:wr.cell? ⟨b,o+k*5+3,none⟩=some (.string ⟨t.text.toArray⟩):=fY 3 _ rfl;have c4:wr.cell? ⟨b,o+k*5+4,none⟩=some (.bool t.quoted):=fY 4 _ rfl;have bk:(k:Int)<(n:Int):=by omega
   obtain ⟨cY,df⟩:=bL (k:=k) (n:=n) cg (by have:=Hl.o;omega);by_cases hd:t.kind=1
   ·have Hc:=hid (Ia wr t true (beq_iff_eq.2 hd));have Hx:=hid (S1 ht hd H.o.2.2);have Hb:=hid H.o.2.1;unfold Tok.a at Hc;clear FM aN fY hn H cg ht hd
    go_wp2_with fail
    refine Hc.o.mono ?_;rintro r w2 ⟨rfl,h2⟩;have HE:=hid (Hb.o.trans (h2.mono Hb.o.size));clear h2 c0 c1 c2 c3 c4 Hc;go_wp2;exact bodyPost_ret (results_tmp (t:=4) rfl _ _ _) rfl ⟨congrArg (fun z=>Ending.returned (.int .i64 z)) Hx.o.symm,HE.o⟩
   ·have Hc:=hid (Ia wr t false (beq_eq_false_iff_ne.2 hd));have Hx:=hid (S0 ht hd H.o.2.2);have Hb:=hid (And.intro H.o.2.1 cg);unfold Tok.a at Hc;clear FM aN fY hn H cg ht hd
    go_wp2_with fail
    refine Hc.o.mono ?_;rintro r w2 ⟨rfl,h2⟩;have HE:=hid (show k+1<=n/\Below w.heap.size w w2/\docN ts=(k+1)+docN (ts.drop (k+1)) from ⟨Hb.o.2,Hb.o.1.trans (h2.mono Hb.o.1.size),Hx.o⟩);clear h2 c0 c1 c2 c3 c4 Hc;go_wp2;go_roundw
    case rel=>exact ⟨k+1,df.o,HE⟩
    case measure=>exact cY.o
  ·have tk:decide (k<n)=false:=dF cg;have HE:=hid (And.intro (Lb (by omega) H.o.2.2) H.o.2.1);clear H cg hn;go_wp2;exact bodyPost_ret (results_tmp (t:=4) rfl _ _ _) rfl ⟨congrArg (fun z=>Ending.returned (.int .i64 z)) HE.o.1.symm,HE.o.2⟩
theorem z9 {α:Type} {w:World} {ao:Option Addr} {cap sz m n:Nat} {xs:List α} {cells:α->List Value} (h:SlR w (.slice ao n cap) sz xs cells) (hm:m<=n):SlR w (.slice ao m cap) sz (xs.take m) cells:=by
 obtain ⟨fj,mn,e,hl,bN⟩:=h;injection e with e1 e2 e3
 subst e1 e2 e3;have hlen:(xs.take m).length=m:=by rw[List.length_take];omega
 refine ⟨ao,cap,by rw[hlen],by omega,fun h0=> ?_⟩;obtain ⟨b,o,ha,hb,hc⟩:=bN (by omega);refine ⟨b,o,ha,hb,fun i x hx j u hu=>hc i x ?_ j u hu⟩;rw[List.getElem?_take]at hx
 split at hx
 ·exact hx
 ·cases hx
theorem uT {α:Type} {w:World} {ao fj:Option Addr} {cap sz m n:Nat} {xs:List α} {cells:α->List Value} (h:SlR w (.slice ao n cap) sz xs cells) (hm:m<=n) (hn:n<=cap) (ha:fj=(if cap=m then ao else ao.map (·.add (m*sz)))):SlR w (.slice fj (n-m) (cap-m)) sz (xs.drop m) cells:=by
 obtain ⟨kp,cap2,e,hl,bN⟩:=h;injection e with e1 e2 e3
 subst e1 e2 e3;have hlen:(xs.drop m).length=xs.length-m:=List.length_drop ..;refine ⟨fj,cap-m,by rw[hlen],by omega,fun h0=> ?_⟩;obtain ⟨b,o,he,hb,hc⟩:=bN (by omega);rw[if_neg (by omega),he]at ha;refine ⟨b,o+m*sz,by rw[ha];simp[Addr.add],hb,fun i x hx j u hu=> ?_⟩;rw[List.getElem?_drop]at hx;have:=hc (m+i) x hx j u hu;rw[show o+m*sz+i*sz+j=o+(m+i)*sz+j by rw[Nat.add_mul];omega];exact this
def x9 (ds:List (List Nd)) (x:Except (Nat×Flt) (List (List Nd))):Except (Nat×Flt) (List (List Nd)):=match x with| .error e=> .error e| .ok l=> .ok (ds++l)
theorem RI (f k:Nat):ofL f [] k= .ok []:=by
 cases f with
 |zero=>rfl
 |succ f=>unfold ofL;rw[if_pos rfl]
theorem Nq {f k:Nat} {ts:List Tok} (h:ts≠[]) (h0:docN ts=0):ofL (f+1) ts k=ofL f (ts.drop 1) k:=by
 conv=>lhs;unfold ofL
 rw[if_neg h,if_pos h0]
theorem RJ {f k:Nat} {ts:List Tok} {e:Flt} (h:ts≠[]) (h0:¬docN ts=0) (hd:kj (ts.take (docN ts))= .error e):ofL (f+1) ts k= .error (k,e):=by
 conv=>lhs;unfold ofL
 rw[if_neg h,if_neg h0,hd]
theorem VP {f k:Nat} {ts:List Tok} {ns:List Nd} (h:ts≠[]) (h0:¬docN ts=0) (hd:kj (ts.take (docN ts))= .ok ns):ofL (f+1) ts k=x9 [ns] (ofL f (ts.drop (docN ts+1)) (k+1)):=by
 conv=>lhs;unfold ofL
 rw[if_neg h,if_neg h0,hd];simp only;cases ofL f (ts.drop (docN ts+1)) (k+1)<;>rfl
theorem Ng (a b:List (List Nd)) (x:Except (Nat×Flt) (List (List Nd))):x9 a (x9 b x)=x9 (a++b) x:=by
 cases x with
 |error e=>rfl
 |ok l=>simp[x9]
def SOf (w0:World) (x:Except (Nat×Flt) (List (List Nd))) (r:Ending) (w':World):Prop:=
 (match x with
  | .ok L=>∃V n ds,r= .returned (.tuple #[V,.agg #[.int .i64 0,.int .i64 0,.int .i64 0]])/\RowO lk w0 w' 33 1 V n ds/\n=ds.length/\n<=1048576/\fZ ds=L
  | .error e=>r= .returned (.tuple #[.slice none 0 0,.agg #[.int .i64 (e.1:Int),.int .i64 e.2.1,.int .i64 e.2.2]]))/\Below w0.heap.size w0 w'
structure OfS (w1 wr:World) (X:Except (Nat×Flt) (List (List Nd))) (N:Nat) (ao:Option Addr) (n cap:Nat) (v:Value) (k:Nat):Prop where
 lX:∃rest,SlR w1 (.slice ao n cap) 5 rest Tok.cells/\n=rest.length/\(∀t∈rest,TokOk t)/\∃ds,k=ds.length/\RowO lk w1 wr 33 1 v k ds/\∃f,n<=f/\X=x9 (fZ ds) (ofL f rest k)
 ncap:n<=cap
 cnt:k+n<=N
theorem yx:(Tryz.prog.info? 121).map (fun i=>(i.zero,i.size,i.bytes))=some (some (.agg #[.int .i64 0,.int .i64 0,.int .i64 0,.string ⟨#[]⟩,.bool false]),5,48):=by kernel_rfl
def slN:Value->Nat
 | .slice _ n _=>n
 |_=>0
theorem G0 {m n m1:Nat} (h:m<=n) (hn:n<=1048576) (h1:m1=if m<n then m+1 else n):(if (n:Int)<wrap64 ((m:Int)+1) then (n:Int) else wrap64 ((m:Int)+1))=(m1:Int):=by
 have wk:wrap64 ((m:Int)+1)=(m:Int)+1:=by unfold wrap64;omega
 rw[wk,h1];clear wk h1;by_cases ZJ:m<n
 ·have e:¬((n:Int)<(m:Int)+1):=by omega
  rw[if_pos ZJ,if_neg e];rfl
 ·have e:(n:Int)<(m:Int)+1:=by omega
  rw[if_neg ZJ,if_pos e]
theorem PS {m n m1:Nat} (h1:m1=if m<n then m+1 else n):m1<=n:=by
 rw[h1]
 split<;>omega
theorem IE {m n m1:Nat} (hp:0<n) (h1:m1=if m<n then m+1 else n):0<m1:=by
 rw[h1]
 split<;>omega
theorem OfS.skip {w1 wr w2:World} {X:Except (Nat×Flt) (List (List Nd))} {N n cap k:Nat} {ao fj:Option Addr} {v:Value} {rest:List Tok} (hs:SlR w1 (.slice ao n cap) 5 rest Tok.cells) (hn:n=rest.length) (hc:n<=cap) (hk:k+n<=N) (hok:∀t∈rest,TokOk t) {ds:List DocV} (pJ:k=ds.length) (jz:RowO lk w1 wr 33 1 v k ds) {f:Nat} (hf:n<=f) (hX:X=x9 (fZ ds) (ofL f rest k))
 (h0:docN rest=0) (hp:0<n) (hb:Below wr.heap.size wr w2) (ha:fj=(if cap=1 then ao else ao.map (·.add (1*5)))):OfS w1 w2 X N fj (n-1) (cap-1) v k:=by
 refine ⟨⟨rest.drop 1,(uT (by rw[hn]at hs;exact hs) (by omega) (by omega) ha |> fun h=>by rw[<-hn]at h;exact h),by rw[List.length_drop,hn],fun t ht=>hok t (List.mem_of_mem_drop ht),ds,pJ,jz.later hb,?_⟩,by omega,by omega⟩;obtain ⟨f',rfl⟩:∃f',f=f'+1:=⟨f-1,by omega⟩;exact ⟨f',by omega,by rw[hX,Nq (by rintro rfl;simp at hn;omega) h0]⟩
theorem OfS.fall {X:Except (Nat×Flt) (List (List Nd))} {n k:Nat} {rest:List Tok} (hn:n=rest.length) {ds:List DocV} {f:Nat} (hf:n<=f) (hX:X=x9 (fZ ds) (ofL f rest k)) {e:Flt} (hd:kj (rest.take (docN rest))= .error e) (h0:0<docN rest) (hp:0<n):X= .error (k,e):=by
 obtain ⟨f',rfl⟩:∃f',f=f'+1:=⟨f-1,by omega⟩;rw[hX,RJ (by rintro rfl;simp at hn;omega) (by omega) hd];rfl
theorem K8 (ds:List DocV) (d:DocV):fZ (ds++[d])=fZ ds++[nds d.ms]:=by unfold fZ;rw[List.map_append];rfl
theorem OfS.step {w1 w2:World} {X:Except (Nat×Flt) (List (List Nd))} {N n cap k m:Nat} {ao fj:Option Addr} {v':Value} {rest:List Tok} (hs:SlR w1 (.slice ao n cap) 5 rest Tok.cells) (hn:n=rest.length) (hc:n<=cap) (hk:k+n<=N) (hok:∀t∈rest,TokOk t) {ds:List DocV} (pJ:k=ds.length) {f:Nat} (hf:n<=f) (hX:X=x9 (fZ ds) (ofL f rest k))
 {d:DocV} (hd:kj (rest.take (docN rest))= .ok (nds d.ms)) (h0:0<docN rest) (hp:0<n) (hm:m=if docN rest<n then docN rest+1 else n) (jz:RowO lk w1 w2 33 1 v' (k+1) (ds++[d])) (ha:fj=(if cap=m then ao else ao.map (·.add (m*5)))):OfS w1 w2 X N fj (n-m) (cap-m) v' (k+1):=by
 have hle:=Be rest;have ZJ:m<=n:=by rw[hm];split<;>omega
 have kZ:1<=m:=by rw[hm];split<;>omega
 have rT:rest.drop (docN rest+1)=rest.drop m:=by
  rw[hm]
  split
  ·rfl
  ·rw[List.drop_eq_nil_of_le (by omega),List.drop_eq_nil_of_le (by omega)]
 refine ⟨⟨rest.drop m,(uT (by rw[hn]at hs;exact hs) (by omega) (by omega) ha |> fun h=>by rw[<-hn]at h;exact h),by rw[List.length_drop,hn],fun t ht=>hok t (List.mem_of_mem_drop ht),ds++[d],by rw[aBj,pJ];rfl,jz,?_⟩,by omega,by omega⟩;obtain ⟨f',rfl⟩:∃f',f=f'+1:=⟨f-1,by omega⟩;refine ⟨f',by omega,?_⟩;rw[hX,VP (by rintro rfl;simp at hn;omega) (by omega) hd,Ng,K8,rT]
theorem px {w:World} {b:Nat} {V v0 v1 v2:Value} {tmps:Array Value} (h2:tmps[2]? =some V) (h3:tmps[3]? =some (.pointer (some ⟨b,0,none⟩))) (hb:w.heap[b]? =some (.cells #[v0,v1,v2] 27 (0,0))):
 (results Tryz.f27 tmps).run Tryz.prog w= .ok (.tuple #[V,.agg #[v0,v1,v2]]) w:=by
 have h1:=run_loadVar_mid (P:= Tryz.prog) w b 0 27 [v0,v1,v2] _ (jK (l:=[v0,v1,v2]) hb) Tryz.underlying27 rfl (by kernel_rfl);rw[Array.getElem?_eq_some_iff]at h2 h3;obtain ⟨l2,e2⟩:=h2;obtain ⟨l3,e3⟩:=h3;simp[results,Tryz.results27,asAddr,Array.getD,l2,e2,l3,e3,h1]
end Go.Proofs.YtfenoaeoedobmaaGreatDoor
namespace Go.Proofs
open Go.Shelf Go.RowKit Go.Sort Go.Lib
def Tryz.lays185_ren:Go.Shelf.Ren:=⟨fun|185=>139|187=>172|115=>173|253=>174|224=>175|254=>176|255=>195|291=>196|n=>n,fun|37=>42|3=>3|4=>4|0=>0|5=>5|46=>205|9=>9|146=>229|51=>228|n=>n,fun|1=>1|n=>n⟩
theorem Tryz.lays185:Go.Proofs.Lays.n185 Tryz.prog Tryz.lays185_ren:=by repeat' first|kernel_rfl|(intros;kernel_rfl)|exact fun _=>rfl|decide|constructor
theorem Tryz.bytes_Index_one_at (a:Addr) (n c b2 o2 d:Nat) (xs:List Int) (cv:Int) (w:World) (hx:xs.length=n) (hc:∀i,i<n->w.cell? (a.add i)=some (.int .u8 (xs.getD i 0))) (mT:w.cell? ⟨b2,o2,none⟩=some (.int .u8 cv)):
 Calls Tryz.prog 139 #[.slice (some a) n c,.slice (some ⟨b2,o2,none⟩) 1 d] w fun e w'=>e= .returned (.int .i64 (Lib.indexByte (Lib.bytesOf xs) cv.toNat.toUInt8))/\w'=w:=Any.bytes_Index_one_at Tryz.lays185 a n c b2 o2 d xs cv w hx hc mT
def Tryz.laysSlT4_ren:Go.Shelf.Ren:=⟨fun|4=>104|5=>139|6=>172|7=>173|8=>174|9=>175|10=>176|11=>195|12=>196|n=>n,fun|22=>42|4=>4|3=>3|0=>0|5=>5|29=>205|9=>9|31=>229|30=>228|n=>n,fun|0=>1|n=>n⟩
theorem Tryz.laysSlT4:Go.Proofs.SlLaysT.n4 Tryz.prog Tryz.laysSlT4_ren:=by repeat' first|kernel_rfl|(intros;kernel_rfl)|exact fun _=>rfl|decide|constructor
theorem Tryz.bytes_Cut_of (p1 p2:Option Addr) (n c1 k c2:Nat) (i:Int) (w:World) (iQ:n<=c1) (zp: -1<=i) (CR:0<=i->i+k<=n) (hn:n<=4611686018427387904) (ib:Calls Tryz.prog 139 #[.slice p1 n c1,.slice p2 k c2] w fun e w'=>e= .returned (.int .i64 i)/\∃q,w'=w.drewN q):
 Calls Tryz.prog 104 #[.slice p1 n c1,.slice p2 k c2] w fun e w'=>e= .returned (Lib.cutV p1 n c1 k i)/\∃q,w'=w.drewN q:=Any.bytes_Cut_of Tryz.laysSlT4 p1 p2 n c1 k c2 i w iQ zp CR hn ib
