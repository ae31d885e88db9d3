/-
Parts of a proof.
-/
import Derived.Test.YtfenoaeoedobmaaGreatDoorBk42
set_option linter.unusedVariables false
set_option linter.unusedSimpArgs false
set_option maxHeartbeats 4000000
set_option maxRecDepth 20000
namespace Go.Proofs.YtfenoaeoedobmaaGreatDoor
open Go Go.RowKit
theorem aQn (v:Value) (w:World):(Instr.typeAssert (.iface 174 v) 20 174 true).run Tryz.prog w= .ok (.tuple #[v,.bool true]) w:=by
 simp[Instr.typeAssert,go_sem,Tryz.underlying174]
theorem a6n (rb lb eb:Nat) (w:World):
 CallsD Tryz.prog 106 #[.pointer (some ⟨rb,0,none⟩),.pointer (some ⟨lb,0,none⟩),.pointer (some ⟨eb,0,none⟩)] .returning w fun e u' w'=>e= .returned (.tuple #[])/\u'= .returning/\w'=w:=by
 refine callsD_of_wpS Tryz.func106 rfl fun c₀ cs hu=> ?_;apply wpS_seq;apply wpS_region;simp[wpOpsS,go_sem,recoverD,hu,Tryz.ntmps106,Exit.thenS];refine wpS_of_wp ?_;go_wp2;cases c₀
 simp_all[bodyPostS,results,Tryz.results106]
theorem a2h {w:World} {x0 lv ev:Value} {T1 T2 T3:TypeId} (n:Nat) (e:Flt) (ob:Obj) (hr:w.heap[n]? =some (.cells #[x0] T1 (0,0))) (hl:w.heap[n+1]? =some (.cells #[lv] T2 (0,0))) (he:w.heap[n+1+1]? =some (.cells #[ev] T3 (0,0))):
 ∀W,W=((((w.alloc ob).setCell ⟨n,0,none⟩ (.slice none 0 0)).setCell ⟨n+1,0,none⟩ (.int .i64 e.1)).setCell ⟨n+1+1,0,none⟩ (.int .i64 e.2)).drew->
  Mod (fun k=>k=n\/k=n+1\/k=n+1+1) w W/\W.heap[n]? =some (.cells #[.slice none 0 0] T1 (0,0))/\W.heap[n+1]? =some (.cells #[.int .i64 e.1] T2 (0,0))/\W.heap[n+1+1]? =some (.cells #[.int .i64 e.2] T3 (0,0)):=by
 rintro W rfl;have ha:=(aAe ob (aAb hr)).trans hr;have hb:=(aAe ob (aAb hl)).trans hl;have hc:=(aAe ob (aAb he)).trans he;have hm:Mod (fun k=>k=n\/k=n+1\/k=n+1+1) w (w.alloc ob):=(Mod.refl _ _).trans' (Mod.ofBelow (F:=fun _=>False) ((a7d w.heap.size w).alloc (a7c _) ob) (fun k hk hge=>by omega)) (fun _ _ q=>q.elim);generalize w.alloc ob=V at*;have m0:Mod (fun k=>k=n\/k=n+1\/k=n+1+1) w (V.setCell ⟨n,0,none⟩ (.slice none 0 0)):=hm.setCell _ _ (fun _=> .inl rfl)
 have m1:Mod (fun k=>k=n\/k=n+1\/k=n+1+1) w ((V.setCell ⟨n,0,none⟩ (.slice none 0 0)).setCell ⟨n+1,0,none⟩ (.int .i64 e.1)):=m0.setCell _ _ (fun _=> .inr (.inl rfl));have m2:Mod (fun k=>k=n\/k=n+1\/k=n+1+1) w (((V.setCell ⟨n,0,none⟩ (.slice none 0 0)).setCell ⟨n+1,0,none⟩ (.int .i64 e.1)).setCell ⟨n+1+1,0,none⟩ (.int .i64 e.2)):=m1.setCell _ _ (fun _=> .inr (.inr rfl));refine ⟨m2.drew,?_,?_,?_⟩
 ·rw[aDq];refine (aAl _ _ (by show ¬n=n+1+1;omega)).trans ?_;refine (aAl _ _ (by show ¬n=n+1;omega)).trans ?_;exact aAk ha 0 _
 ·rw[aDq];refine (aAl _ _ (by show ¬n+1=n+1+1;omega)).trans (aAk (c:=#[lv]) ?_ 0 _);exact (aAl _ _ (by show ¬n+1=n;omega)).trans hb
 ·rw[aDq];refine aAk (c:=#[ev]) ?_ 0 _;refine (aAl _ _ (by show ¬n+1+1=n+1;omega)).trans ?_;exact (aAl _ _ (by show ¬n+1+1=n;omega)).trans hc
theorem a6o (n:Nat) (e:Flt) (older:List PanicEntry) (w:World) (x0 lv ev:Value) (T1 T2 T3:TypeId) (hr:w.heap[n]? =some (.cells #[x0] T1 (0,0))) (hl:w.heap[n+1]? =some (.cells #[lv] T2 (0,0))) (he:w.heap[n+1+1]? =some (.cells #[ev] T3 (0,0))):
 CallsD Tryz.prog 106 #[.pointer (some ⟨n,0,none⟩),.pointer (some ⟨n+1,0,none⟩),.pointer (some ⟨n+1+1,0,none⟩)] (.panicking ({v:= .iface 174 (.agg #[.int .i64 e.1,.int .i64 e.2]),recovered:=false}::older)) w fun r u' w'=>r= .returned (.tuple #[])/\u'= .panicking ({v:= .iface 174 (.agg #[.int .i64 e.1,.int .i64 e.2]),recovered:=true}::older)/\
  Mod (fun k=>k=n\/k=n+1\/k=n+1+1) w w'/\w'.heap[n]? =some (.cells #[.slice none 0 0] T1 (0,0))/\w'.heap[n+1]? =some (.cells #[.int .i64 e.1] T2 (0,0))/\w'.heap[n+1+1]? =some (.cells #[.int .i64 e.2] T3 (0,0)):=by
 have HE:=hid (fun ob=>a2h (w:=w) n e ob hr hl he);refine callsD_of_wpS Tryz.func106 rfl fun c₀ cs hu=> ?_;apply wpS_seq;apply wpS_region;simp[wpOpsS,go_sem,recoverD,hu,Tryz.ntmps106,Exit.thenS];refine wpS_of_wp ?_
 show Code.wp _ _ _ {tmps:=#[.pointer (some ⟨n,0,none⟩),.pointer (some ⟨n+1,0,none⟩),.pointer (some ⟨n+1+1,0,none⟩),.iface 174 (.agg #[.int .i64 e.1,.int .i64 e.2]),undef,undef,.iface 174 (.agg #[.int .i64 e.1,.int .i64 e.2]),undef,undef,undef,undef,undef,undef,undef,undef,undef,undef,undef,undef,undef,undef],defers:=[]} _
 have hta:∀(v:Value) (w:World),(Instr.typeAssert (.iface 174 v) 20 174 true).run Tryz.prog w= .ok (.tuple #[v,.bool true]) w:=aQn;have f1:=fun ob=>aAd ((aAe ob (aAb hr)).trans hr) 0;have f2:=fun ob=>aAd ((aAe ob (aAb hl)).trans hl) 0;have f3:=fun ob=>aAd ((aAe ob (aAb he)).trans he) 0
 have c1:=fun ob=>aAa ((aAe ob (aAb hr)).trans hr) 0;have c2:=fun ob=>aAa ((aAe ob (aAb hl)).trans hl) 0;have c3:=fun ob=>aAa ((aAe ob (aAb he)).trans he) 0;simp at c1 c2 c3;have hq:=aAb he;have n1:¬n=w.heap.size:=by omega
 have n2:¬w.heap.size=n:=by omega
 have n3:¬n+1=w.heap.size:=by omega
 have n4:¬w.heap.size=n+1:=by omega
 have n5:¬n+1+1=w.heap.size:=by omega
 have n6:¬w.heap.size=n+1+1:=by omega
 clear hq hr hl he;go_wp2
 go_region
 all_goals go_wp2
 all_goals
  cases c₀;simp only at hu;subst hu;exact ⟨rfl,_,rfl,.tuple #[],results_none rfl _ _ _,rfl,rfl,HE.out _ _ rfl⟩
def dcD (n:Nat):Deferred:={target:= .fn (.func 106) #[.pointer (some ⟨n,0,none⟩),.pointer (some ⟨n+1,0,none⟩),.pointer (some ⟨n+1+1,0,none⟩)],args:=#[]}
def SDoc (w0:World) (x:Except Flt (List Nd)) (r:Ending) (w':World):Prop:=
 (match x with
  | .ok ns=>∃v ms,r= .returned (.tuple #[v,.int .i64 0,.int .i64 0])/\DocP w' w0.heap.size ⟨v,ms⟩/\nds ms=ns
  | .error e=>r= .returned (.tuple #[.slice none 0 0,.int .i64 e.1,.int .i64 e.2]))/\Below w0.heap.size w0 w'
theorem aKd {w:World} {n:Nat} {v l e:Value} {tmps:Array Value} (h2:tmps[2]? =some (.pointer (some ⟨n,0,none⟩))) (h3:tmps[3]? =some (.pointer (some ⟨n+1,0,none⟩))) (h4:tmps[4]? =some (.pointer (some ⟨n+1+1,0,none⟩))) (ha:w.heap[n]? =some (.cells #[v] 33 (0,0))) (hb:w.heap[n+1]? =some (.cells #[l] 3 (0,0))) (hc:w.heap[n+1+1]? =some (.cells #[e] 25 (0,0))):
 (results Tryz.f69 tmps).run Tryz.prog w= .ok (.tuple #[v,l,e]) w:=by
 have c0:=aAa ha 0;have c1:=aAa hb 0;have c2:=aAa hc 0;simp at c0 c1 c2;have b0:(loadVar 33 ⟨n,0,none⟩).run Tryz.prog w= .ok v w:=by simp[go_sem,c0]
 have b1:(loadVar 3 ⟨n+1,0,none⟩).run Tryz.prog w= .ok l w:=by simp[go_sem,c1]
 have b2:(loadVar 25 ⟨n+1+1,0,none⟩).run Tryz.prog w= .ok e w:=by simp[go_sem,c2]
 rw[Array.getElem?_eq_some_iff]at h2 h3 h4;obtain ⟨l2,e2⟩:=h2;obtain ⟨l3,e3⟩:=h3;obtain ⟨l4,e4⟩:=h4;simp[results,Tryz.results69,asAddr,Array.getD,l2,e2,l3,e3,l4,e4,b0,b1,b2]
structure DocW (w0 w:World) (n:Nat):Prop where
 below:Below w0.heap.size w0 w
 nod:∃v,w.heap[n]? =some (.cells #[v] 33 (0,0))
 lin:∃v,w.heap[n+1]? =some (.cells #[v] 3 (0,0))
 err:∃v,w.heap[n+1+1]? =some (.cells #[v] 25 (0,0))
 nn:n=w0.heap.size
theorem aYe {w0 w:World} {a:Act} {n:Nat} {x:Except Flt (List Nd)} {e:Flt} (hx:x= .error e) (hd:a.defers=[dcD n]) (s2:a.tmps[2]? =some (.pointer (some ⟨n,0,none⟩))) (s3:a.tmps[3]? =some (.pointer (some ⟨n+1,0,none⟩))) (s4:a.tmps[4]? =some (.pointer (some ⟨n+1+1,0,none⟩))) (h:DocW w0 w n):
 bodyPostD Tryz.prog Tryz.f69 (SDoc w0 x) (.panic [{v:= .iface 174 (.agg #[.int .i64 e.1,.int .i64 e.2]),recovered:=false}]) a w:=by
 subst hx
 show Leaves Tryz.prog Tryz.f69 a.tmps _ a.defers (.panicking _) w
 rw[hd];obtain ⟨v,hv⟩:=h.nod;obtain ⟨l,hl⟩:=h.lin;obtain ⟨er,he⟩:=h.err;refine leaves_cons (f:= 106) (args:=#[.pointer (some ⟨n,0,none⟩),.pointer (some ⟨n+1,0,none⟩),.pointer (some ⟨n+1+1,0,none⟩)]) (by simp) (by simp[go_sem]) ?_;refine (a6o n e [] w _ _ _ _ _ _ hv hl he).mono ?_;rintro r2 u' w2 ⟨rfl,rfl,hm,h1,h2,h3⟩;refine ⟨_,aKd s2 s3 s4 h1 h2 h3,rfl,?_⟩;have hn:=h.nn
 exact h.below.trans (hm.below h.below.size fun k hk=>by omega)
theorem a36 {w0 w:World} {a:Act} {n:Nat} {x:Except Flt (List Nd)} {ns:List Nd} (hx:x= .ok ns) (hd:a.defers=[dcD n]) (s2:a.tmps[2]? =some (.pointer (some ⟨n,0,none⟩))) (s3:a.tmps[3]? =some (.pointer (some ⟨n+1,0,none⟩))) (s4:a.tmps[4]? =some (.pointer (some ⟨n+1+1,0,none⟩))) (hb:Below w0.heap.size w0 w)
 {v:Value} {ms:List NdM} (h1:w.heap[n]? =some (.cells #[v] 33 (0,0))) (h2:w.heap[n+1]? =some (.cells #[.int .i64 0] 3 (0,0))) (h3:w.heap[n+1+1]? =some (.cells #[.int .i64 0] 25 (0,0))) (hP:DocP w w0.heap.size ⟨v,ms⟩) (hn:nds ms=ns):
 bodyPostD Tryz.prog Tryz.f69 (SDoc w0 x) .ret a w:=by
 subst hx
 show Leaves Tryz.prog Tryz.f69 a.tmps _ a.defers .returning w
 rw[hd];refine leaves_cons (f:= 106) (args:=#[.pointer (some ⟨n,0,none⟩),.pointer (some ⟨n+1,0,none⟩),.pointer (some ⟨n+1+1,0,none⟩)]) (by simp) (by simp[go_sem]) ?_;refine (a6n n (n+1) (n+1+1) w).mono ?_;rintro r2 u' w2 ⟨rfl,rfl,rfl⟩;exact ⟨_,aKd s2 s3 s4 h1 h2 h3,⟨v,ms,rfl,hP,hn⟩,hb⟩
def w3T (w:World):World:=((w.alloc (.cells #[.slice none 0 0] 33)).alloc (.cells #[.int .i64 0] 3)).alloc (.cells #[.int .i64 0] 25)
theorem a2i (w:World):(w3T w).heap.size=w.heap.size+1+1+1:=by simp[w3T]
theorem aYf (w:World):Below w.heap.size w (w3T w):=
 (((a7d w.heap.size w).alloc (a7c _) _).alloc (by simp) _).alloc (by simp;omega) _
theorem a6p (w:World):(w3T w).heap[w.heap.size]? =some (.cells #[.slice none 0 0] 33 (0,0))/\(w3T w).heap[w.heap.size+1]? =some (.cells #[.int .i64 0] 3 (0,0))/\(w3T w).heap[w.heap.size+1+1]? =some (.cells #[.int .i64 0] 25 (0,0)):=by
 unfold w3T;refine ⟨?_,?_,?_⟩
 ·refine (aAe _ (by simp;omega)).trans ((aAe _ (by simp)).trans (aAc _))
 ·refine (aAe _ (by simp)).trans ?_;have h:=aAc (w:=w.alloc (.cells #[.slice none 0 0] 33)) (.cells #[.int .i64 0] 3)
  simpa using h
 ·have h:=aAc (w:=(w.alloc (.cells #[.slice none 0 0] 33)).alloc (.cells #[.int .i64 0] 3)) (.cells #[.int .i64 0] 25)
  simpa using h
theorem aKe {w w3 w2:World} {n:Nat} (hn:n=w.heap.size) (hs:w3.heap.size=n+1+1+1) (hb:Below w.heap.size w w3) (b1:w3.heap[n]? =some (.cells #[.slice none 0 0] 33 (0,0))) (b2:w3.heap[n+1]? =some (.cells #[.int .i64 0] 3 (0,0))) (b3:w3.heap[n+1+1]? =some (.cells #[.int .i64 0] 25 (0,0))) (h:Below w3.heap.size w3 w2):DocW w w2 n:=
 ⟨hb.trans (h.mono (by omega)),⟨_,(h.block _ (by omega)).trans b1⟩,⟨_,(h.block _ (by omega)).trans b2⟩,⟨_,(h.block _ (by omega)).trans b3⟩,hn⟩
def docX (ts:List Tok):Except Flt (Nat×List Nd):=
 if hasB (nextT ts 0)=true then (match aA0 ts 16 0 [] ⟨#[]⟩ with| .error e=> .error e| .ok (k,ns,_)=> .ok (k,ns)) else .ok (0,[])
theorem aKf (ts:List Tok):docTP ts=match docX ts with| .error e=> .error e| .ok (k,ns)=>if k<ts.length then .error ((nextT ts k).line,90) else .ok ns:=rfl
theorem aSp (t:Tok):∀w',(Instr.field 121 (.agg #[.int .i64 t.kind,.int .i64 t.line,.int .i64 t.col,.string ⟨t.text.toArray⟩,.bool t.quoted]) 1).run Tryz.prog w'= .ok (.int .i64 t.line) w':=fun _=>by kernel_rfl
theorem aSq {w w2:World} {n:Nat} {nv:Value} {ms:List NdM} (z0:w2.heap[n]? =some (.cells #[.slice none 0 0] 33 (0,0))) (z1:w2.heap[n+1]? =some (.cells #[.int .i64 0] 3 (0,0))) (z2:w2.heap[n+1+1]? =some (.cells #[.int .i64 0] 25 (0,0))) (hb:Below w.heap.size w w2) (hP:DocP w2 (n+1+1+1) ⟨nv,ms⟩) (hn:n=w.heap.size):
 Below w.heap.size w (((w2.setCell ⟨n,0,none⟩ nv).setCell ⟨n+1,0,none⟩ (.int .i64 0)).setCell ⟨n+1+1,0,none⟩ (.int .i64 0))/\
 (((w2.setCell ⟨n,0,none⟩ nv).setCell ⟨n+1,0,none⟩ (.int .i64 0)).setCell ⟨n+1+1,0,none⟩ (.int .i64 0)).heap[n]? =some (.cells #[nv] 33 (0,0))/\
 (((w2.setCell ⟨n,0,none⟩ nv).setCell ⟨n+1,0,none⟩ (.int .i64 0)).setCell ⟨n+1+1,0,none⟩ (.int .i64 0)).heap[n+1]? =some (.cells #[.int .i64 0] 3 (0,0))/\
 (((w2.setCell ⟨n,0,none⟩ nv).setCell ⟨n+1,0,none⟩ (.int .i64 0)).setCell ⟨n+1+1,0,none⟩ (.int .i64 0)).heap[n+1+1]? =some (.cells #[.int .i64 0] 25 (0,0))/\
 DocP (((w2.setCell ⟨n,0,none⟩ nv).setCell ⟨n+1,0,none⟩ (.int .i64 0)).setCell ⟨n+1+1,0,none⟩ (.int .i64 0)) w.heap.size ⟨nv,ms⟩:=by
 have m0:Mod (fun k=>k=n\/k=n+1\/k=n+1+1) w2 (w2.setCell ⟨n,0,none⟩ nv):=(Mod.refl _ _).setCell _ _ (fun _=> .inl rfl);have m1:Mod (fun k=>k=n\/k=n+1\/k=n+1+1) w2 ((w2.setCell ⟨n,0,none⟩ nv).setCell ⟨n+1,0,none⟩ (.int .i64 0)):=m0.setCell _ _ (fun _=> .inr (.inl rfl));have m2:Mod (fun k=>k=n\/k=n+1\/k=n+1+1) w2 (((w2.setCell ⟨n,0,none⟩ nv).setCell ⟨n+1,0,none⟩ (.int .i64 0)).setCell ⟨n+1+1,0,none⟩ (.int .i64 0)):=m1.setCell _ _ (fun _=> .inr (.inr rfl))
 refine ⟨hb.trans (m2.below hb.size fun k hk=>by omega),?_,?_,?_,?_⟩
 ·refine (aAl _ _ (by show ¬n=n+1+1;omega)).trans ?_;refine (aAl _ _ (by show ¬n=n+1;omega)).trans ?_;exact aAk z0 0 _
 ·refine (aAl _ _ (by show ¬n+1=n+1+1;omega)).trans (aAk (c:=#[.int .i64 0]) ?_ 0 _);exact (aAl _ _ (by show ¬n+1=n;omega)).trans z1
 ·refine aAk (c:=#[.int .i64 0]) ?_ 0 _;refine (aAl _ _ (by show ¬n+1+1=n+1;omega)).trans ?_;exact (aAl _ _ (by show ¬n+1+1=n;omega)).trans z2
 ·exact DocE.down (DocE.mod (x:=⟨nv,ms⟩) hP m2 (fun g hg=>by have:=(DocE.lt (x:=⟨nv,ms⟩) hP g hg).1;omega)) (by omega)
theorem aSr {w w3 w2:World} {n rb k:Nat} {lv nv:Value} {ts:List Tok} {ms:List NdM} (hn:n=w.heap.size) (hs:w3.heap.size=n+1+1+1) (hb:Below w.heap.size w w3) (b1:w3.heap[n]? =some (.cells #[.slice none 0 0] 33 (0,0))) (b2:w3.heap[n+1]? =some (.cells #[.int .i64 0] 3 (0,0))) (b3:w3.heap[n+1+1]? =some (.cells #[.int .i64 0] 25 (0,0))) (h:RdS w3 w2 rb lv ts k nv ms):
 (w2.heap[n]? =some (.cells #[.slice none 0 0] 33 (0,0))/\w2.heap[n+1]? =some (.cells #[.int .i64 0] 3 (0,0))/\w2.heap[n+1+1]? =some (.cells #[.int .i64 0] 25 (0,0)))/\Below w.heap.size w w2/\DocP w2 (n+1+1+1) ⟨nv,ms⟩:=by
 refine ⟨⟨(h.below.block _ (by omega)).trans b1,(h.below.block _ (by omega)).trans b2,(h.below.block _ (by omega)).trans b3⟩,hb.trans (h.below.mono (by omega)),h.nr.row,fun g hg=>by have:=(h.nr.new g hg).1;omega,fun m hm=>NdE.down (h.nr.each m hm) (by omega),by have:=h.nr.len;show ms.length<=1048576;omega⟩
theorem aUb (w:World) (lv:Value) (ts:List Tok) (htoks:SlR w lv 5 ts Tok.cells) (hwf:∀t∈ts,TokOk t):
 Calls Tryz.prog 69 #[lv] w (SDoc w (docTP ts)):=by
 obtain ⟨b1,b2,b3⟩:=a6p w;have hb3:=aYf w;have hs3:=a2i w;have ht3:=htoks.later hb3;obtain ⟨ao,cap,rfl,hl,_⟩:=htoks;obtain ⟨n,hn⟩:∃n,n=ts.length:=⟨_,rfl⟩;rw[<-hn]at ht3 |-;have Hn:=hid hn;obtain ⟨X,hX⟩:∃X,X=docTP ts:=⟨_,rfl⟩;rw[<-hX];have HX:=hid hX;have Hwf:=hid hwf;have Ht3:=hid ht3;clear hwf hX hn hl ht3;refine calls_of_wp_defers Tryz.func69 rfl ?_;simp only[Tryz.ntmps69,List.size_toArray,a7f,List.length_nil,Nat.reduceAdd,Nat.reduceSub,Array.replicate_succ,Array.replicate_zero,List.push_toArray,List.append_toArray,List.nil_append,List.cons_append]
 go_wp2_with fail
 change Calls _ _ _ ((w3T w).alloc _) _;generalize w3T w=w3 at*;obtain ⟨n0,hn0⟩:∃n0,n0=w.heap.size:=⟨_,rfl⟩;rw[<-hn0]at b1 b2 b3 hb3 hs3 |-;have hr0:RdS w3 (w3.alloc (.cells #[.slice ao n cap,.int .i64 0,.slice none 0 0] 178)) (n0+1+1+1) (.slice ao n cap) ts 0 (.slice none 0 0) []:=
  ⟨Ht3.out,Hwf.out,(a7d _ _).alloc (a7c _) _,by omega,by rw[<-hs3];exact aAc (w:=w3) _,NRow.first _ _ _,Nat.zero_le _⟩
 have Hm:=hid (And.intro hn0 (And.intro hs3 (And.intro (show Below w.heap.size w w3 by rw[<-hn0];exact hb3) (And.intro b1 (And.intro b2 b3)))));refine (aFg hr0).mono ?_;rintro r w5 ⟨rfl,h5⟩;have hR5:=hr0.later h5;have Hhas:=hid (fun w5=>has_c w5 (nextT ts 0));unfold Tok.a at Hhas |-;clear b1 b2 b3 hb3 hs3 hr0 h5 hn0 Ht3 Hwf;have HR5:=hid hR5;clear hR5
 go_wp2_with fail
 refine (Hhas.out _).mono ?_;rintro r w6 ⟨rfl,h6⟩;have hR:=HR5.out.later h6;clear h6 HR5 Hhas;cases hhas:hasB (nextT ts 0) with
 |false=>
  obtain ⟨k,nv,ms,hdx,hR⟩:∃k nv ms,docX ts= .ok (k,nds ms)/\RdS w3 w6 (n0+1+1+1) (.slice ao n cap) ts k nv ms:=⟨0,_,[],by unfold docX;rw[hhas];rfl,hR⟩;clear hhas;have hblk:=hR.blk;unfold rdA at hblk;have y1:=aAa hblk 1;have y2:=aAa hblk 2;simp at y1 y2;have HR:=hid hR;by_cases hkl:k<n
  ·have tk:decide (k<n)=true:=dT hkl;have bk:(k:Int)<(n:Int):=by omega
   have hXe:X= .error ((nextT ts k).line,90):=by rw[HX.out,aKf,hdx];simp only;rw[if_pos (by rw[<-Hn.out];exact hkl)]
   have HXe:=hid hXe;clear hR hblk hdx hXe hkl
   go_wp2_with fail
   refine (aFg HR.out).mono ?_;rintro r w9 ⟨rfl,h9⟩;have HW:=hid (aKe Hm.out.1 Hm.out.2.1 Hm.out.2.2.1 Hm.out.2.2.2.1 Hm.out.2.2.2.2.1 Hm.out.2.2.2.2.2 (HR.out.below.trans (h9.mono HR.out.below.size)));clear h9 y1 y2;unfold Tok.a;have hfld:=aSp (nextT ts k);go_wp2;refine aYe HXe.out ?_ ?_ ?_ ?_ HW.out<;>rfl
  ·have tk:decide (k<n)=false:=dF hkl;have hXe:X= .ok (nds ms):=by rw[HX.out,aKf,hdx];simp only;rw[if_neg (by rw[<-Hn.out];exact hkl)]
   have HXe:=hid hXe;have HW:=hid (aKe Hm.out.1 Hm.out.2.1 Hm.out.2.2.1 Hm.out.2.2.2.1 Hm.out.2.2.2.2.1 Hm.out.2.2.2.2.2 hR.below);have HE:=hid (aSr Hm.out.1 Hm.out.2.1 Hm.out.2.2.1 Hm.out.2.2.2.1 Hm.out.2.2.2.2.1 Hm.out.2.2.2.2.2 hR);obtain ⟨ao2,c2,rfl⟩:=hR.nr.form;have z:=HE.out.1;have z0:=aAa z.1 0;have z1:=aAa z.2.1 0;have z2:=aAa z.2.2 0;have zf0:=aAd z.1 0;have zf1:=aAd z.2.1 0
   have zf2:=aAd z.2.2 0;simp at z0 z1 z2;clear hR hblk hdx hXe hkl z;go_wp2;have HF:=aSq HE.out.1.1 HE.out.1.2.1 HE.out.1.2.2 HE.out.2.1 HE.out.2.2 Hm.out.1;exact a36 HXe.out rfl rfl rfl rfl HF.1 HF.2.1 HF.2.2.1 HF.2.2.2.1 HF.2.2.2.2 rfl
 |true=>
  have hB:=aYd w3 (n0+1+1+1) (.slice ao n cap) ts 16 (by decide) w6 0 _ [] ⟨#[]⟩ hR hhas (by decide);have HB:=hid hB;have hdx0:docX ts=match aA0 ts 16 0 [] ⟨#[]⟩ with| .error e=> .error e| .ok (k,ns,_)=> .ok (k,ns):=by unfold docX;rw[if_pos hhas]
  have Hdx0:=hid hdx0;clear hR hB hhas hdx0;have hds:nds []=[]:=rfl;rw[hds]at HB;clear hds;generalize aA0 ts 16 0 [] ⟨#[]⟩=V at*
  go_wp2_with fail
  refine HB.out.mono ?_;intro r w7 hh;cases V with
  |error e=>
   obtain ⟨rfl,h1,h2⟩:=hh;have hXe:X= .error e:=by rw[HX.out,aKf,Hdx0.out]
   exact aYe hXe rfl rfl rfl rfl (aKe Hm.out.1 Hm.out.2.1 Hm.out.2.2.1 Hm.out.2.2.2.1 Hm.out.2.2.2.2.1 Hm.out.2.2.2.2.2 h1)
  |ok y=>
   obtain ⟨k,ns2,i⟩:=y;obtain ⟨hr,nv,ms,hR,hn2,_,_⟩:=hh;subst hr;have hdx:docX ts= .ok (k,nds ms):=by rw[Hdx0.out,hn2]
   clear HB Hdx0 hn2;have hblk:=hR.blk;unfold rdA at hblk;have y1:=aAa hblk 1;have y2:=aAa hblk 2;simp at y1 y2;have HR:=hid hR;by_cases hkl:k<n
   ·have tk:decide (k<n)=true:=dT hkl;have bk:(k:Int)<(n:Int):=by omega
    have hXe:X= .error ((nextT ts k).line,90):=by rw[HX.out,aKf,hdx];simp only;rw[if_pos (by rw[<-Hn.out];exact hkl)]
    have HXe:=hid hXe;clear hR hblk hdx hXe hkl
    go_wp2_with fail
    refine (aFg HR.out).mono ?_;rintro r w9 ⟨rfl,h9⟩;have HW:=hid (aKe Hm.out.1 Hm.out.2.1 Hm.out.2.2.1 Hm.out.2.2.2.1 Hm.out.2.2.2.2.1 Hm.out.2.2.2.2.2 (HR.out.below.trans (h9.mono HR.out.below.size)));clear h9 y1 y2;unfold Tok.a;have hfld:=aSp (nextT ts k);go_wp2;refine aYe HXe.out ?_ ?_ ?_ ?_ HW.out<;>rfl
   ·have tk:decide (k<n)=false:=dF hkl;have hXe:X= .ok (nds ms):=by rw[HX.out,aKf,hdx];simp only;rw[if_neg (by rw[<-Hn.out];exact hkl)]
    have HXe:=hid hXe;have HW:=hid (aKe Hm.out.1 Hm.out.2.1 Hm.out.2.2.1 Hm.out.2.2.2.1 Hm.out.2.2.2.2.1 Hm.out.2.2.2.2.2 hR.below);have HE:=hid (aSr Hm.out.1 Hm.out.2.1 Hm.out.2.2.1 Hm.out.2.2.2.1 Hm.out.2.2.2.2.1 Hm.out.2.2.2.2.2 hR);obtain ⟨ao2,c2,rfl⟩:=hR.nr.form;have z:=HE.out.1;have z0:=aAa z.1 0;have z1:=aAa z.2.1 0;have z2:=aAa z.2.2 0;have zf0:=aAd z.1 0;have zf1:=aAd z.2.1 0
    have zf2:=aAd z.2.2 0;simp at z0 z1 z2;clear hR hblk hdx hXe hkl z;go_wp2;have HF:=aSq HE.out.1.1 HE.out.1.2.1 HE.out.1.2.2 HE.out.2.1 HE.out.2.2 Hm.out.1;exact a36 HXe.out rfl rfl rfl rfl HF.1 HF.2.1 HF.2.2.1 HF.2.2.2.1 HF.2.2.2.2 rfl
theorem aYg (w:World) (t:Tok) (b:Bool) (hb:(t.kind==1)=b):Calls Tryz.prog 68 #[.agg t.a] w fun r w'=>r= .returned (.bool b)/\Below w.heap.size w w':=by
 unfold Tok.a;cases b
 all_goals
  go_enter Tryz.func68,Tryz.ntmps68;go_wp2;go_ret;exact ⟨rfl,(a7d _ _).alloc (a7c _) _⟩
def docI (ts:List Tok):Int:=if docN ts<ts.length then (docN ts:Int) else -1
theorem a6q {ts:List Tok} {k:Nat} {t:Tok} (h:ts[k]? =some t) (ht:t.kind=1) (hk:docN ts=k+docN (ts.drop k)):docI ts=(k:Int):=by
 have hl:=(a7j h).1;have e:ts.drop k=t::ts.drop (k+1):=aEc h;have e2:docN (t::ts.drop (k+1))=0:=by unfold docN;rw[if_pos ht]
 rw[e,e2]at hk;unfold docI;rw[if_pos (by omega),hk];rfl
theorem a6r {ts:List Tok} {k:Nat} {t:Tok} (h:ts[k]? =some t) (ht:¬t.kind=1) (hk:docN ts=k+docN (ts.drop k)):docN ts=(k+1)+docN (ts.drop (k+1)):=by
 have e:ts.drop k=t::ts.drop (k+1):=aEc h;have e2:docN (t::ts.drop (k+1))=docN (ts.drop (k+1))+1:=by
  conv=>lhs;unfold docN
  rw[if_neg ht]
 rw[e,e2]at hk;omega
theorem aYh {ts:List Tok} {k:Nat} (h:ts.length<=k) (hk:docN ts=k+docN (ts.drop k)):docI ts= -1:=by
 rw[List.drop_eq_nil_of_le h]at hk;unfold docI;rw[if_neg (by omega)]
theorem docI_c (w:World) (v:Value) (ts:List Tok) (hv:SlR w v 5 ts Tok.cells):
 Calls Tryz.prog 67 #[v,.func (.func 68) #[] #[]] w fun r w'=>r= .returned (.int .i64 (docI ts))/\Below w.heap.size w w':=by
 obtain ⟨ao,cap,rfl,hl,hat⟩:=hv;obtain ⟨n,hn⟩:∃n,n=ts.length:=⟨_,rfl⟩;have Hn:=hid hn;have Hat:=hid hat;have Hl:=hid (show n<=1048576 by omega);rw[<-hn];clear hn hat hl;go_enter Tryz.func67,Tryz.ntmps67;go_wp2
 go_loopw [8] (fun v wr=>∃k:Nat,v= .int .i64 (k:Int)/\Hid (k<=n/\Below w.heap.size w wr/\docN ts=k+docN (ts.drop k))) (fun v _=>n-(intOf v).toNat)
 case atStart=>exact ⟨0,rfl,hid ⟨Nat.zero_le _,a7d _ _,by simp⟩⟩
 case round=>
  obtain ⟨k,rfl,H⟩:=hrel;have hn:n=ts.length:=Hn.out;by_cases hkn:k<n
  ·obtain ⟨t,ht⟩:∃t,ts[k]? =some t:=⟨ts[k]'(by omega),a7i _⟩;obtain ⟨b,o,rfl,hlt,hcell0⟩:=Hat.out (by omega);have hcell:∀j u,(Tok.cells t)[j]? =some u->wr.cell? ⟨b,o+k*5+j,none⟩=some u:=fun j u hu=>(H.out.2.1.cell hlt).trans (hcell0 k t ht j u hu);have c0:wr.cell? ⟨b,o+k*5,none⟩=some (.int .i64 t.kind):=hcell 0 _ rfl;have c1:wr.cell? ⟨b,o+k*5+1,none⟩=some (.int .i64 t.line):=hcell 1 _ rfl
   have c2:wr.cell? ⟨b,o+k*5+2,none⟩=some (.int .i64 t.col):=hcell 2 _ rfl;have c3:wr.cell? ⟨b,o+k*5+3,none⟩=some (.string ⟨t.text.toArray⟩):=hcell 3 _ rfl;have c4:wr.cell? ⟨b,o+k*5+4,none⟩=some (.bool t.quoted):=hcell 4 _ rfl;have bk:(k:Int)<(n:Int):=by omega
   obtain ⟨Hms,Hgo⟩:=aA3 (k:=k) (n:=n) hkn (by have:=Hl.out;omega);by_cases hd:t.kind=1
   ·have Hc:=hid (aYg wr t true (beq_iff_eq.2 hd));have Hx:=hid (a6q ht hd H.out.2.2);have Hb:=hid H.out.2.1;unfold Tok.a at Hc;clear hcell0 hlt hcell hn H hkn ht hd
    go_wp2_with fail
    refine Hc.out.mono ?_;rintro r w2 ⟨rfl,h2⟩;have HE:=hid (Hb.out.trans (h2.mono Hb.out.size));clear h2 c0 c1 c2 c3 c4 Hc;go_wp2;exact bodyPost_ret (results_tmp (t:=4) rfl _ _ _) rfl ⟨congrArg (fun z=>Ending.returned (.int .i64 z)) Hx.out.symm,HE.out⟩
   ·have Hc:=hid (aYg wr t false (beq_eq_false_iff_ne.2 hd));have Hx:=hid (a6r ht hd H.out.2.2);have Hb:=hid (And.intro H.out.2.1 hkn);unfold Tok.a at Hc;clear hcell0 hlt hcell hn H hkn ht hd
    go_wp2_with fail
    refine Hc.out.mono ?_;rintro r w2 ⟨rfl,h2⟩;have HE:=hid (show k+1<=n/\Below w.heap.size w w2/\docN ts=(k+1)+docN (ts.drop (k+1)) from ⟨Hb.out.2,Hb.out.1.trans (h2.mono Hb.out.1.size),Hx.out⟩);clear h2 c0 c1 c2 c3 c4 Hc;go_wp2;go_roundw
    case rel=>exact ⟨k+1,Hgo.out,HE⟩
    case measure=>exact Hms.out
  ·have tk:decide (k<n)=false:=dF hkn;have HE:=hid (And.intro (aYh (by omega) H.out.2.2) H.out.2.1);clear H hkn hn;go_wp2;exact bodyPost_ret (results_tmp (t:=4) rfl _ _ _) rfl ⟨congrArg (fun z=>Ending.returned (.int .i64 z)) HE.out.1.symm,HE.out.2⟩
theorem aQo {α:Type} {w:World} {ao:Option Addr} {cap sz m n:Nat} {xs:List α} {cells:α->List Value} (h:SlR w (.slice ao n cap) sz xs cells) (hm:m<=n):SlR w (.slice ao m cap) sz (xs.take m) cells:=by
 obtain ⟨ao',cap',e,hl,hat⟩:=h;injection e with e1 e2 e3
 subst e1 e2 e3;have hlen:(xs.take m).length=m:=by rw[List.length_take];omega
 refine ⟨ao,cap,by rw[hlen],by omega,fun h0=> ?_⟩;obtain ⟨b,o,ha,hb,hc⟩:=hat (by omega);refine ⟨b,o,ha,hb,fun i x hx j u hu=>hc i x ?_ j u hu⟩;rw[List.getElem?_take]at hx
 split at hx
 ·exact hx
 ·cases hx
theorem aM4 {α:Type} {w:World} {ao ao':Option Addr} {cap sz m n:Nat} {xs:List α} {cells:α->List Value} (h:SlR w (.slice ao n cap) sz xs cells) (hm:m<=n) (hn:n<=cap) (ha:ao'=(if cap=m then ao else ao.map (·.add (m*sz)))):SlR w (.slice ao' (n-m) (cap-m)) sz (xs.drop m) cells:=by
 obtain ⟨ao2,cap2,e,hl,hat⟩:=h;injection e with e1 e2 e3
 subst e1 e2 e3;have hlen:(xs.drop m).length=xs.length-m:=List.length_drop ..;refine ⟨ao',cap-m,by rw[hlen],by omega,fun h0=> ?_⟩;obtain ⟨b,o,he,hb,hc⟩:=hat (by omega);rw[if_neg (by omega),he]at ha;refine ⟨b,o+m*sz,by rw[ha];simp[Addr.add],hb,fun i x hx j u hu=> ?_⟩;rw[List.getElem?_drop]at hx;have:=hc (m+i) x hx j u hu;rw[show o+m*sz+i*sz+j=o+(m+i)*sz+j by rw[Nat.add_mul];omega];exact this
def preO (ds:List (List Nd)) (x:Except (Nat×Flt) (List (List Nd))):Except (Nat×Flt) (List (List Nd)):=match x with| .error e=> .error e| .ok l=> .ok (ds++l)
theorem a6s (f k:Nat):ofL f [] k= .ok []:=by
 cases f with
 |zero=>rfl
 |succ f=>unfold ofL;rw[if_pos rfl]
theorem a2j {f k:Nat} {ts:List Tok} (h:ts≠[]) (h0:docN ts=0):ofL (f+1) ts k=ofL f (ts.drop 1) k:=by
 conv=>lhs;unfold ofL
 rw[if_neg h,if_pos h0]
theorem a6t {f k:Nat} {ts:List Tok} {e:Flt} (h:ts≠[]) (h0:¬docN ts=0) (hd:docTP (ts.take (docN ts))= .error e):ofL (f+1) ts k= .error (k,e):=by
 conv=>lhs;unfold ofL
 rw[if_neg h,if_neg h0,hd]
theorem ofL_ok {f k:Nat} {ts:List Tok} {ns:List Nd} (h:ts≠[]) (h0:¬docN ts=0) (hd:docTP (ts.take (docN ts))= .ok ns):ofL (f+1) ts k=preO [ns] (ofL f (ts.drop (docN ts+1)) (k+1)):=by
 conv=>lhs;unfold ofL
 rw[if_neg h,if_neg h0,hd];simp only;cases ofL f (ts.drop (docN ts+1)) (k+1)<;>rfl
theorem a2k (a b:List (List Nd)) (x:Except (Nat×Flt) (List (List Nd))):preO a (preO b x)=preO (a++b) x:=by
 cases x with
 |error e=>rfl
 |ok l=>simp[preO]
def SOf (w0:World) (x:Except (Nat×Flt) (List (List Nd))) (r:Ending) (w':World):Prop:=
 (match x with
  | .ok L=>∃V n ds,r= .returned (.tuple #[V,.agg #[.int .i64 0,.int .i64 0,.int .i64 0]])/\RowO DocE w0 w' 33 1 V n ds/\n=ds.length/\n<=1048576/\docsN ds=L
  | .error e=>r= .returned (.tuple #[.slice none 0 0,.agg #[.int .i64 (e.1:Int),.int .i64 e.2.1,.int .i64 e.2.2]]))/\Below w0.heap.size w0 w'
structure OfS (w1 wr:World) (X:Except (Nat×Flt) (List (List Nd))) (N:Nat) (ao:Option Addr) (n cap:Nat) (v:Value) (k:Nat):Prop where
 toks:∃rest,SlR w1 (.slice ao n cap) 5 rest Tok.cells/\n=rest.length/\(∀t∈rest,TokOk t)/\∃ds,k=ds.length/\RowO DocE w1 wr 33 1 v k ds/\∃f,n<=f/\X=preO (docsN ds) (ofL f rest k)
 ncap:n<=cap
 cnt:k+n<=N
theorem aO7:(Tryz.prog.info? 121).map (fun i=>(i.zero,i.size,i.bytes))=some (some (.agg #[.int .i64 0,.int .i64 0,.int .i64 0,.string ⟨#[]⟩,.bool false]),5,48):=by kernel_rfl
def slN:Value->Nat
 | .slice _ n _=>n
 |_=>0
theorem aYi {m n m1:Nat} (h:m<=n) (hn:n<=1048576) (h1:m1=if m<n then m+1 else n):(if (n:Int)<wrap64 ((m:Int)+1) then (n:Int) else wrap64 ((m:Int)+1))=(m1:Int):=by
 have wk:wrap64 ((m:Int)+1)=(m:Int)+1:=by unfold wrap64;omega
 rw[wk,h1];clear wk h1;by_cases hmn:m<n
 ·have e:¬((n:Int)<(m:Int)+1):=by omega
  rw[if_pos hmn,if_neg e];rfl
 ·have e:(n:Int)<(m:Int)+1:=by omega
  rw[if_neg hmn,if_pos e]
theorem a38 {m n m1:Nat} (h1:m1=if m<n then m+1 else n):m1<=n:=by
 rw[h1]
 split<;>omega
theorem aYj {m n m1:Nat} (hp:0<n) (h1:m1=if m<n then m+1 else n):0<m1:=by
 rw[h1]
 split<;>omega
theorem OfS.skip {w1 wr w2:World} {X:Except (Nat×Flt) (List (List Nd))} {N n cap k:Nat} {ao ao':Option Addr} {v:Value} {rest:List Tok} (hs:SlR w1 (.slice ao n cap) 5 rest Tok.cells) (hn:n=rest.length) (hc:n<=cap) (hk:k+n<=N) (hok:∀t∈rest,TokOk t) {ds:List DocV} (hds:k=ds.length) (hro:RowO DocE w1 wr 33 1 v k ds) {f:Nat} (hf:n<=f) (hX:X=preO (docsN ds) (ofL f rest k))
 (h0:docN rest=0) (hp:0<n) (hb:Below wr.heap.size wr w2) (ha:ao'=(if cap=1 then ao else ao.map (·.add (1*5)))):OfS w1 w2 X N ao' (n-1) (cap-1) v k:=by
 refine ⟨⟨rest.drop 1,(aM4 (by rw[hn]at hs;exact hs) (by omega) (by omega) ha |> fun h=>by rw[<-hn]at h;exact h),by rw[List.length_drop,hn],fun t ht=>hok t (List.mem_of_mem_drop ht),ds,hds,hro.later hb,?_⟩,by omega,by omega⟩;obtain ⟨f',rfl⟩:∃f',f=f'+1:=⟨f-1,by omega⟩;exact ⟨f',by omega,by rw[hX,a2j (by rintro rfl;simp at hn;omega) h0]⟩
theorem OfS.fall {X:Except (Nat×Flt) (List (List Nd))} {n k:Nat} {rest:List Tok} (hn:n=rest.length) {ds:List DocV} {f:Nat} (hf:n<=f) (hX:X=preO (docsN ds) (ofL f rest k)) {e:Flt} (hd:docTP (rest.take (docN rest))= .error e) (h0:0<docN rest) (hp:0<n):X= .error (k,e):=by
 obtain ⟨f',rfl⟩:∃f',f=f'+1:=⟨f-1,by omega⟩;rw[hX,a6t (by rintro rfl;simp at hn;omega) (by omega) hd];rfl
theorem aYk (ds:List DocV) (d:DocV):docsN (ds++[d])=docsN ds++[nds d.ms]:=by unfold docsN;rw[List.map_append];rfl
theorem OfS.step {w1 w2:World} {X:Except (Nat×Flt) (List (List Nd))} {N n cap k m:Nat} {ao ao':Option Addr} {v':Value} {rest:List Tok} (hs:SlR w1 (.slice ao n cap) 5 rest Tok.cells) (hn:n=rest.length) (hc:n<=cap) (hk:k+n<=N) (hok:∀t∈rest,TokOk t) {ds:List DocV} (hds:k=ds.length) {f:Nat} (hf:n<=f) (hX:X=preO (docsN ds) (ofL f rest k))
 {d:DocV} (hd:docTP (rest.take (docN rest))= .ok (nds d.ms)) (h0:0<docN rest) (hp:0<n) (hm:m=if docN rest<n then docN rest+1 else n) (hro:RowO DocE w1 w2 33 1 v' (k+1) (ds++[d])) (ha:ao'=(if cap=m then ao else ao.map (·.add (m*5)))):OfS w1 w2 X N ao' (n-m) (cap-m) v' (k+1):=by
 have hle:=aP8 rest;have hmn:m<=n:=by rw[hm];split<;>omega
 have hm1:1<=m:=by rw[hm];split<;>omega
 have hdr:rest.drop (docN rest+1)=rest.drop m:=by
  rw[hm]
  split
  ·rfl
  ·rw[List.drop_eq_nil_of_le (by omega),List.drop_eq_nil_of_le (by omega)]
 refine ⟨⟨rest.drop m,(aM4 (by rw[hn]at hs;exact hs) (by omega) (by omega) ha |> fun h=>by rw[<-hn]at h;exact h),by rw[List.length_drop,hn],fun t ht=>hok t (List.mem_of_mem_drop ht),ds++[d],by rw[a7e,hds];rfl,hro,?_⟩,by omega,by omega⟩;obtain ⟨f',rfl⟩:∃f',f=f'+1:=⟨f-1,by omega⟩;refine ⟨f',by omega,?_⟩;rw[hX,ofL_ok (by rintro rfl;simp at hn;omega) (by omega) hd,a2k,aYk,hdr]
theorem aH9 {w:World} {b:Nat} {V v0 v1 v2:Value} {tmps:Array Value} (h2:tmps[2]? =some V) (h3:tmps[3]? =some (.pointer (some ⟨b,0,none⟩))) (hb:w.heap[b]? =some (.cells #[v0,v1,v2] 27 (0,0))):
 (results Tryz.f27 tmps).run Tryz.prog w= .ok (.tuple #[V,.agg #[v0,v1,v2]]) w:=by
 have h1:=run_loadVar_mid (P:= Tryz.prog) w b 0 27 [v0,v1,v2] _ (aEh (l:=[v0,v1,v2]) hb) Tryz.underlying27 rfl (by kernel_rfl);rw[Array.getElem?_eq_some_iff]at h2 h3;obtain ⟨l2,e2⟩:=h2;obtain ⟨l3,e3⟩:=h3;simp[results,Tryz.results27,asAddr,Array.getD,l2,e2,l3,e3,h1]
