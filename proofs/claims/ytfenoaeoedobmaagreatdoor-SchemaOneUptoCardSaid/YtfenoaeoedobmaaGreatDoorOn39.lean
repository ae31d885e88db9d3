/-
Parts of a proof.
-/
import Derived.Test.YtfenoaeoedobmaaGreatDoorOn38
set_option linter.unusedVariables false
set_option linter.unusedSimpArgs false
set_option maxHeartbeats 8000000
set_option maxRecDepth 100000
namespace Go.Proofs.YtfenoaeoedobmaaGreatDoor
open Go Go.RowKit
attribute [local go_sem] Oper.semAt_some
theorem pc {F:Fence} {fn:Nat} {P:Program} (w:World) {ops:Array Oper} {rest:List Oper} {o:Oper} {a:Act} {Q:Exit->Act->World->Prop} (ln:o.guard=none) (s x:Operand) (t:TypeId)
 (ho:o.op= .call {callee:= .builtin .append,args:=#[s,x],argTypes:=#[t,t]})
 (e:TypeId) (i:TypeInfo) (z:Value) (size nb:Nat) (ht:P.underlying t=some (.slice e)) (hi:P.info? e=some i) (hz:i.zero=some z)
 (js:i.size=size) (FP:i.bytes=nb) (xR:z.cells.size=size) (gQ:0<size)
 (v:Value) (n:Nat) (xs:List Value) (hs:a.eval s=v) (dh:w.ownsRow 0 e size v n xs)
 (ao:Option Addr) (m c:Nat) (news:List Value) (hx:a.eval x= .slice ao m c) (hl:news.length=m*size) (qO:ao=none->m=0/\c=0)
 (qP:∀ad,ao=some ad->∀j u,news[j]? =some u->w.cell? (ad.add j)=some u) (h1:∀u∈news,u.oneCell'=true)
 (KU:n+m<=maxLen) (k9:(n+m)*nb<=140737488355328)
 (h:∀v' w',w'.ownsRow 0 e size v' (n+m) (xs++news)->w.grownBy w' v.ownBlock->(∀g,v'.ownBlock=some g->v.ownBlock=some g\/w.heap.size<=g)->
  wpListIn F fn P ops Q rest (a.put o.dst v') w'):wpListIn F fn P ops Q (o::rest) a w:=by
 refine wpListIn_plain ln fun K hK=> ?_;obtain ⟨v',w',hr,h2,h3,h4⟩:=kR (P:=P) w t o.type e i z size nb ht hi hz js FP xR gQ v n xs dh ao m c news hl qO qP h1 KU k9;unfold Oper.wpIn;refine ⟨?_,?_⟩
 ·simp[Oper.about,ho,resolve,Target.leads,Sem.run_pure]
 ·rw[Oper.semAt_plain F _ _ (by rw[ho];intro c FO;cases FO)];simp[execOp,ho,resolve,invoke,builtin,hs,hx,hr,Result.andThen];exact hK _ _ (h v' w' h2 h3 h4)
theorem BW {F:Fence} {fn:Nat} {w:World} {ops:Array Oper} {rest:List Oper} {o:Oper} {a:Act} {Q:Exit->Act->World->Prop} (ln:o.guard=none) (s x:Operand) (ST T:TypeId)
 (ho:o.op= .call {callee:= .builtin .append,args:=#[s,x],argTypes:=#[ST,ST]}) (cw: Tryz.prog.underlying ST=some (.slice T))
 (oN:(Tryz.prog.info? T).map (fun i=>(i.zero,i.size,i.bytes))=some (some (.agg #[.int .i64 0,.int .i64 0,.int .i64 0,.string ⟨#[]⟩,.bool false]),5,48))
 (v:Value) (ts:List Tok) (hs:a.eval s=v) (dh:w.ownsRow 0 T 5 v ts.length (lX ts)) (g:Nat) (t:Tok) (hx:a.eval x= .slice (some ⟨g,0,none⟩) 1 1)
 (ku:w.heap[g]? =some (.cells t.cells.toArray T (0,0))) (hlen:ts.length<=1000000000)
 (h:∀v' w',w'.ownsRow 0 T 5 v' (ts.length+1) (lX ts++t.cells)->w.grownBy w' v.ownBlock->(∀g,v'.ownBlock=some g->v.ownBlock=some g\/w.heap.size<=g)->
  wpListIn F fn Tryz.prog ops Q rest (a.put o.dst v') w'):wpListIn F fn Tryz.prog ops Q (o::rest) a w:=by
 obtain ⟨i0,ug,qL,uD,uC⟩:=info_parts oN;refine pc w ln s x ST ho T i0 _ 5 48 cw ug qL uD uC rfl (by decide) v ts.length (lX ts) hs dh (some ⟨g,0,none⟩) 1 1 t.cells hx rfl
  (fun hn=>by cases hn) (fun ad had=> ?_) (fun u hu=> ?_) (by unfold maxLen;omega) (by omega) h
 ·obtain rfl:=aBm had;intro j u hj;rw[Addr.add_lit,Nat.zero_add,aa ku];rw[List.getElem?_toArray];exact hj
 ·simp only[Tok.cells,List.mem_cons,List.not_mem_nil,or_false]at hu;rcases hu with rfl|rfl|rfl|rfl|rfl<;>rfl
theorem W6 (w:World) (ao:Option Addr) (n cap:Nat):Calls Tryz.prog 66 #[.slice ao n cap] w fun e w'=>e= .returned (.func (.func 103) #[] #[.pointer (some ⟨w.heap.size,0,none⟩)])/\w'=w.alloc (.cells #[.slice ao n cap] 42):=by
 go_enter Tryz.func66,Tryz.ntmps66;go_wp2;go_ret;exact ⟨rfl,rfl⟩
def SScn (w0:World) (x:Except (Nat×Nat×Int) (List Tok)) (r:Ending) (w':World):Prop:=
 (match x with
  | .ok ts=>∃v,r= .returned (.tuple #[v,.agg #[.int .i64 0,.int .i64 0,.int .i64 0]])/\RT w0 w' 121 v ts
  | .error e=>r= .returned (.tuple #[.slice none 0 0,.agg #[.int .i64 (e.1:Int),.int .i64 (e.2.1:Int),.int .i64 e.2.2]]))/\Below w0.heap.size w0 w'
theorem fo {W W':World} {row:Option Nat} {B k:Nat} {c:Array Value} {e:TypeId} {m:Nat×Nat} (h:W.heap[k]? =some (.cells c e m)) (hg:W.grownBy W' row) (hr:∀r,row=some r->B<=r/\∃o:Obj,W.heap[r]? =some o/\o.isCells=false):W'.heap[k]? =some (.cells c e m):=by
 refine (hg.block k (af h) (fun q=> ?_)).trans h;obtain ⟨-,o,ho,hc⟩:=hr k q.symm;rw[h]at ho;cases ho;cases hc
theorem MK {w0 W W':World} {row:Option Nat} {B:Nat} {T:TypeId} {v:Value} {ts:List Tok} (hB:w0.heap.size<=B) (h:RT w0 W T v ts) (hg:W.grownBy W' row) (hr:∀r,row=some r->B<=r/\∃o:Obj,W.heap[r]? =some o/\o.isCells=false):RT w0 W' T v ts:=by
 refine ⟨h.below.grown hg h.below.size (fun k e=>aBl hB (hr k e).1),dE h.row (fun g ZX=>hg.block g (h.row.lt g ZX).2 (fun q=> ?_)),h.new⟩;obtain ⟨-,o,ho,hc⟩:=hr g q.symm;rcases h.row.2 with ⟨hv,-⟩|⟨g',cap,cur,hv,-,hh,-⟩
 ·rw[hv]at ZX;cases ZX
 ·rw[hv]at ZX;obtain rfl:g'=g:=by simpa[Value.ownBlock] using ZX
  rw[hh]at ho;cases ho;cases hc
structure ScnI (w0:World) (pre:List Yl) (W:World):Prop where
 box:∃v,W.heap[w0.heap.size]? =some (.cells #[v] 67 (0,0))/\RT w0 W 121 v (pre.map (·.1))
 flt:W.heap[w0.heap.size+1]? =some (.cells #[.int .i64 0,.int .i64 0,.int .i64 0] 27 (0,0))
 zero:∀x∈pre,x.2.2.2=0
structure ScnX (w0:World) (c:Code) (pre:List Yl) (W:World):Prop where
 ret:c= .ret
 box:W.heap[w0.heap.size]? =some (.cells #[.slice none 0 0] 67 (0,0))
 flt:∃p x,pre=p++[x]/\x.2.2.2≠0/\W.heap[w0.heap.size+1]? =some (.cells #[.int .i64 x.2.1,.int .i64 x.2.2.1,.int .i64 x.2.2.2] 27 (0,0))
 below:Below w0.heap.size w0 W
theorem Mw (w0:World) {B:Nat} (hB:w0.heap.size<=B):OwnFrom B (ScnI w0):=by
 rintro pre W W' row ⟨⟨v,h1,h2⟩,h3,h4⟩ hg hr;exact ⟨⟨v,fo h1 hg hr,MK hB h2 hg hr⟩,fo h3 hg hr,h4⟩
theorem Mv (w0:World) {B:Nat} (hB:w0.heap.size<=B) (c:Code):OwnFrom B (ScnX w0 c):=by
 rintro pre W W' row ⟨h0,h1,⟨p,x,h2,h3,h4⟩,h5⟩ hg hr;exact ⟨h0,fo h1 hg hr,⟨p,x,h2,h3,fo h4 hg hr⟩,h5.grown hg h5.size (fun k e=>aBl hB (hr k e).1)⟩
theorem ScnI.later {w0 W W2:World} {pre:List Yl} (h:ScnI w0 pre W) (hb:Below W.heap.size W W2):ScnI w0 pre W2:=by
 obtain ⟨⟨v,h1,h2⟩,h3,h4⟩:=h;exact ⟨⟨v,(hb.block _ (af h1)).trans h1,RO.later h2 hb⟩,(hb.block _ (af h3)).trans h3,h4⟩
theorem Mu {w W w1:World} {ob:Obj} {v v':Value} {pre:List Yl} {x:Yl} (B0:Nat) (h7:W.heap[w.heap.size]? =some (.cells #[v] 67 (0,0))) (hR:RT w W 121 v (pre.map (·.1))) (h8:W.heap[w.heap.size+1]? =some (.cells #[.int .i64 0,.int .i64 0,.int .i64 0] 27 (0,0))) (hz:∀x∈pre,x.2.2.2=0) (hx:x.2.2.2=0)
 (aB:w1.ownsRow 0 121 5 v' ((pre.map (·.1)).length+1) (lX (pre.map (·.1))++x.1.cells)) (bC:(W.alloc ob).grownBy w1 v.ownBlock) (aA:∀g,v'.ownBlock=some g->v.ownBlock=some g\/(W.alloc ob).heap.size<=g)
 (k7:w1.heap[w.heap.size]? =some (.cells #[v] 67 (0,0))) (So:v.ownBlock≠some w.heap.size) (hon3:v.ownBlock≠some (w.heap.size+1)):
 KeepsFrom B0 W (w1.setCell ⟨w.heap.size,0,none⟩ v')/\ScK w.heap.size W (w1.setCell ⟨w.heap.size,0,none⟩ v')/\ScnI w (pre++[x]) (w1.setCell ⟨w.heap.size,0,none⟩ v'):=by
 have l7:=af h7;have l8:=af h8;have LH:=RT.app hR aB bC aA;have lG:v'.ownBlock≠some w.heap.size:=fun e=>by
  rcases aA _ e with q|q
  ·exact So q
  ·rw[World.size_alloc]at q;omega
 have hc7:W.cell? ⟨w.heap.size,0,none⟩=some v:=aa h7 0;have s7:(w1.setCell ⟨w.heap.size,0,none⟩ v').heap[w.heap.size]? =some (.cells #[v'] 67 (0,0)):=aI k7 0 v';have hwl:w.heap.size<=W.heap.size:=hR.below.size;refine ⟨?_,⟨?_,fun k hk h=> ?_,fun ho v1 k h1 h2=> ?_⟩,⟨⟨v',s7,?_⟩,?_,fun y hy=> ?_⟩⟩
 ·refine (((KeepsOthers.alloc W ob).trans (KeepsOthers.of_grownBy bC fun j o ej hj=> ?_)).trans (KeepsOthers.setCell _ _ _)).from _;rcases hR.row.2 with ⟨hv,-⟩|⟨g,mn,cur,hv,-,hh,-⟩
  ·rw[hv]at ej;cases ej
  ·rw[hv]at ej;obtain rfl:g=j:=by simpa[Value.ownBlock] using ej
   rw[ai _ (af hh),hh]at hj;cases hj;rfl
 ·exact (((Mod.refl _ W).alloc ob).grown bC (fun k e _=> .inr (.inl ⟨v,hc7,e⟩))).setCell _ _ (fun _=> .inl rfl)
 ·rcases h with h|⟨v1,h1,h2⟩|⟨o,h1,h2⟩
  ·exact .inl h
  ·rw[aa s7 0]at h1;cases h1;rcases aA k h2 with q|q
   ·exact .inr (.inl ⟨v,hc7,q⟩)
   ·rw[World.size_alloc]at q;omega
  ·by_cases e:k=w.heap.size
   ·exact .inl e
   ·rw[aW _ _ (show k≠(⟨w.heap.size,0,none⟩:Addr).block from e)]at h1;by_cases e2:v.ownBlock=some k
    ·exact .inr (.inl ⟨v,hc7,e2⟩)
    ·rw[bC.block k (by rw[World.size_alloc];omega) (fun q=>e2 q.symm),ai _ hk]at h1;exact .inr (.inr ⟨o,h1,h2⟩)
 ·rw[aa s7 0]at h1;cases h1;have:=(aB.lt k h2).2
  simpa using this
 ·rw[List.map_append];refine ⟨LH.below.setCell (aBh _) _,dE LH.row (fun g hg=>aW _ _ (fun e=>lG (by rw[hg,e]))),LH.new⟩
 ·rw[aW _ _ (show w.heap.size+1≠(⟨w.heap.size,0,none⟩:Addr).block by show w.heap.size+1≠w.heap.size;omega),bC.block _ (by rw[World.size_alloc];omega) (fun q=>hon3 q.symm),ai _ l8];exact h8
 ·rcases List.mem_append.1 hy with hy|hy
  ·exact hz y hy
  ·obtain rfl:=List.mem_singleton.1 hy;exact hx
theorem tI {W:World} {b2 b3:Nat} {V v0 v1 v2:Value} {tmps:Array Value} (h2:tmps[2]? =some (.pointer (some ⟨b2,0,none⟩))) (h3:tmps[3]? =some (.pointer (some ⟨b3,0,none⟩))) (bI:W.heap[b2]? =some (.cells #[V] 67 (0,0))) (aV:W.heap[b3]? =some (.cells #[v0,v1,v2] 27 (0,0))):
 (results Tryz.f26 tmps).run Tryz.prog W= .ok (.tuple #[V,.agg #[v0,v1,v2]]) W:=by
 have hc:=aa bI 0;obtain ⟨c0,c1,c2⟩:=cB3 aV;simp at hc c0 c1 c2;rw[Array.getElem?_eq_some_iff]at h2 h3;obtain ⟨l2,e2⟩:=h2;obtain ⟨l3,e3⟩:=h3;simp[results,Tryz.results26,asAddr,Array.getD,l2,e2,l3,e3,hc,c0,c1,c2,go_sem]
def ScnA (w0:World) (v:Value) (B0:Nat) (x:Yl) (a:Act) (W:World):Prop:=
 ∃bx bf,B0<=bx/\W.heap[bx]? =some (.cells #[.int .i64 x.1.kind,.int .i64 x.1.line,.int .i64 x.1.col,.string ⟨x.1.text.toArray⟩,.bool x.1.quoted] 121 (0,0))/\B0<=bf/\W.heap[bf]? =some (.cells #[.int .i64 x.2.1,.int .i64 x.2.2.1,.int .i64 x.2.2.2] 27 (0,0))/\
  a={tmps:=#[v,undef,.pointer (some ⟨w0.heap.size,0,none⟩),.pointer (some ⟨w0.heap.size+1,0,none⟩),.pointer (some ⟨bx,0,none⟩),.pointer (some ⟨bf,0,none⟩),v,.func (.func 103) #[] #[.pointer (some ⟨w0.heap.size+1+1,0,none⟩)],.agg #[.int .i64 x.1.kind,.int .i64 x.1.line,.int .i64 x.1.col,.string ⟨x.1.text.toArray⟩,.bool x.1.quoted],.agg #[.int .i64 x.2.1,.int .i64 x.2.2.1,.int .i64 x.2.2.2],undef,undef,undef,undef,undef,undef,undef,undef,undef,undef],defers:=[]}
theorem Mx (w0:World) (v:Value) (B0:Nat) (x:Yl) (a:Act) {B:Nat}:OwnFrom B (fun (_:Unit) W=>ScnA w0 v B0 x a W):=by
 rintro _ W W' row ⟨bx,bf,h1,h2,h3,h4,h5⟩ hg hr;exact ⟨bx,bf,h1,fo h2 hg hr,h3,fo h4 hg hr,h5⟩
theorem Vj (w:World) (bs:List UInt8) (ao:Option Addr) (cap:Nat) (hT:SlR w (.slice ao bs.length cap) 1 bs dz) (iQ:bs.length<=cap) (hg:Glob w):
 Calls Tryz.prog 26 #[.slice ao bs.length cap] w (SScn w (jn bs)):=by
 refine (callsIn_wide (n:=6)).1 ?_;refine callsIn_of_wp_marks Tryz.func26 rfl trivial ?_ rfl;simp only[Tryz.ntmps26,List.size_toArray,aBk,List.length_nil,Nat.reduceAdd,Nat.reduceSub,Array.replicate_succ,Array.replicate_zero,List.push_toArray,List.append_toArray,List.nil_append,List.cons_append]
 gi_wp2_with (refine ⟨trivial,?_⟩;gi_at_call 66;refine (callsIn_wide.2 (W6 _ _ _ _)).mono ?_;rintro e w' ⟨rfl,rfl⟩)
 obtain ⟨W0,WI⟩:=ex (((w.alloc (.cells #[.slice none 0 0] 67)).alloc (.cells #[.int .i64 0,.int .i64 0,.int .i64 0] 27)).alloc (.cells #[.slice ao bs.length cap] 42));have gQ:W0.heap.size=w.heap.size+3:=by rw[WI];simp
 have mU:Below w.heap.size w W0:=by rw[WI];exact (((aBi _ w).alloc (aBh _) _).alloc (by simp) _).alloc (by simp;omega) _
 have h2:W0.heap[w.heap.size]? =some (.cells #[.slice none 0 0] 67 (0,0)):=by
  rw[WI,ai _ (by simp;omega),ai _ (by simp)];exact ag _
 have h3:W0.heap[w.heap.size+1]? =some (.cells #[.int .i64 0,.int .i64 0,.int .i64 0] 27 (0,0)):=by
  rw[WI,ai _ (by simp)];have:=ag (w:=w.alloc (.cells #[.slice none 0 0] 67)) (.cells #[.int .i64 0,.int .i64 0,.int .i64 0] 27)
  rwa [World.size_alloc]at this
 have h4:W0.heap[w.heap.size+1+1]? =some (.cells #[.slice ao bs.length cap] 42 (0,0)):=by
  rw[WI];have:=ag (w:=(w.alloc (.cells #[.slice none 0 0] 67)).alloc (.cells #[.int .i64 0,.int .i64 0,.int .i64 0] 27)) (.cells #[.slice ao bs.length cap] 42)
  rwa [World.size_alloc,World.size_alloc]at this
 rw[<-WI];clear WI;have aN:w.heap.size<W0.heap.size:=by omega
 have hO:ScO w.heap.size W0:=fun v k h1 h5=>by
  rw[aa h2 0]at h1;cases h1;cases h5
 have Wk:∀b o v,w.cell? ⟨b,o,none⟩=some v->¬ScF w.heap.size W0 b:=fun b o v hv=>by
  have hb:b<w.heap.size:=World.block_lt_of_cell? _ _ hv;rintro (q|⟨v',q1,q2⟩|⟨o',q1,q2⟩)
  ·omega
  ·rw[aa h2 0]at q1;cases q1;cases q2
  ·rw[mU.block b hb]at q1;have hc:=cells_of_cell hv;obtain ⟨o2,q3,q4⟩:=hc;rw[q1]at q3;cases q3;rw[q2]at q4;cases q4
 obtain ⟨⟨m0,c0⟩,⟨ev,c1,c2⟩⟩:=hg;have hI:ScI w.heap.size W0:=⟨aN,hO,Glob.later ⟨⟨m0,c0⟩,⟨ev,c1,c2⟩⟩ mU,Wk _ _ _ c0,Wk _ _ _ c1⟩;have hN:SlN w.heap.size W0 (.slice ao bs.length cap) 1 bs dz:=⟨hT.later mU,fun b o n c e h0=>by
  cases e;obtain ⟨fj,mn,e1,-,bN⟩:=hT;injection e1 with e1 _ _
  subst e1;obtain ⟨b',o',e2,-,hc⟩:=bN h0;cases e2;have:=hc 0 bs[0] (aBn h0) 0 _ rfl;exact Wk _ _ _ this⟩
 have Oo:SeqStopsK Fence.wide (6-1) Tryz.prog 103 #[.pointer (some ⟨w.heap.size+1+1,0,none⟩)] WZ (ScK w.heap.size) (fun ys=>ys=iK bs) (fun pre=>pre <+:iK bs) (iK bs).length W0:=by
  intro l J Jx W hW hJ LI hY h0;refine callsIn_wide.2 (SS l (w.heap.size+1+1) w.heap.size bs ao cap J Jx W (6-1-1) (hI.later hW) ((hW.cell (p:=⟨w.heap.size+1+1,0,none⟩) (by show w.heap.size+1+1<_;omega)).trans (aa h4 0)) (hN.to (ScK.below aN hW)) iQ ?_ hY h0);intro pre w1 w2 h1 h2;exact hJ pre w1 w2 none h1 ⟨h2.os,h2.tape,h2.output,h2.size,fun k hk _=>h2.block k hk⟩ (fun r e=>by cases e)
 refine wpIn_rangeFunc_ownH (F:=Fence.wide) rfl (by decide) (gf:= 103) (lb:=#[.pointer (some ⟨w.heap.size+1+1,0,none⟩)]) rfl trivial (jO Tryz.func103 (by kernel_rfl) rfl) Oo
  (fun h k=>ScK.trans h k) (fun W l o o' hl ho hc _=> ?kb) (aBi _ _) (fun _=>rfl) (ScnI w) (ScnX w) (Mw w (by omega)) (Mv w (by omega)) ?zero (ScnA w (.slice ao bs.length cap) (w.heap.size+2)) (fun x a'=>Mx w _ _ x a') ?assign ?body ?done ?stop
 case kb=>
  refine ScK.put o' ?_ (by omega) ho hc;have:=af ho;omega
 case zero=>exact ⟨⟨_,h2,mU,World.ownsRow_nil _ _ _ _,nofun⟩,h3,nofun⟩
 case assign=>
  clear Oo hN hI Wk hO;rintro l pre x W K hi hK;have HK:=hid hK;have Hi:=hid hi;unfold WZ;clear hK hi
  gi_wp2
  obtain ⟨W2,O9⟩:=ex ((W.alloc (.cells #[.int .i64 x.1.kind,.int .i64 x.1.line,.int .i64 x.1.col,.string ⟨x.1.text.toArray⟩,.bool x.1.quoted] 121)).alloc (.cells #[.int .i64 x.2.1,.int .i64 x.2.2.1,.int .i64 x.2.2.2] 27));have hb:Below W.heap.size W W2:=by rw[O9];exact ((aBi _ W).alloc (aBh _) _).alloc (by simp) _
  have l3:=af Hi.o.flt;have q1:W2.heap[W.heap.size]? =some (.cells #[.int .i64 x.1.kind,.int .i64 x.1.line,.int .i64 x.1.col,.string ⟨x.1.text.toArray⟩,.bool x.1.quoted] 121 (0,0)):=by
   rw[O9,ai _ (by simp)];exact ag _
  have q2:W2.heap[W.heap.size+1]? =some (.cells #[.int .i64 x.2.1,.int .i64 x.2.2.1,.int .i64 x.2.2.2] 27 (0,0)):=by
   rw[O9];have:=ag (w:=W.alloc (.cells #[.int .i64 x.1.kind,.int .i64 x.1.line,.int .i64 x.1.col,.string ⟨x.1.text.toArray⟩,.bool x.1.quoted] 121)) (.cells #[.int .i64 x.2.1,.int .i64 x.2.2.1,.int .i64 x.2.2.2] 27)
   rwa [World.size_alloc]at this
  have Sw:KeepsFrom W0.heap.size W W2:=by rw[O9];exact ((KeepsOthers.alloc _ _).trans (KeepsOthers.alloc _ _)).from _
  rw[<-O9];exact HK.o _ _ Sw (ScK.below (by omega) hb) (Hi.o.later hb) ⟨W.heap.size,W.heap.size+1,by omega,q1,by omega,q2,rfl⟩
 case body=>
  clear Oo hN hI Wk hO;rintro l pre x a' W hl ⟨r,hr⟩ hi ⟨bx,bf,hx1,h5,Ib,h6,rfl⟩ hlen;obtain ⟨⟨v,h7,hR⟩,h8,hz⟩:=hi;have l3:=af h8;obtain ⟨e0,e1,e2⟩:=cB3 h6;simp at e0 e1 e2;have o0:=aa h7 0;have of:=ah h7 0;simp at o0;have mixed: Tryz.prog.follows .mixedOrders=true:=by kernel_rfl
  have HzL:=hid hz;have H7:=hid h7;have H8:=hid h8;have HR:=hid hR;by_cases hx:x.2.2.2=0
  ·have tx:(x.2.2.2 != 0)=false:=by rw[hx];rfl
   have hne:v.ownBlock≠some w.heap.size:=by
    intro e;rcases hR.row.2 with ⟨hv,-⟩|⟨g,mn,cur,hv,-,hh,-⟩
    ·rw[hv]at e;cases e
    ·rw[hv]at e;obtain rfl:g=w.heap.size:=by simpa[Value.ownBlock] using e
     rw[h7]at hh;cases hh
   have ZF:v.ownBlock≠some (w.heap.size+1):=by
    intro e;rcases hR.row.2 with ⟨hv,-⟩|⟨g,mn,cur,hv,-,hh,-⟩
    ·rw[hv]at e;cases e
    ·rw[hv]at e;obtain rfl:g=w.heap.size+1:=by simpa[Value.ownBlock] using e
     rw[h8]at hh;cases hh
   obtain ⟨g0,g1,g2,g3,g4⟩:=cB5 h5;simp at g0 g1 g2 g3 g4;have FE:∀t y m,dZ t=some (y,m)->y.length<=t.length:=fun t y m h=>by have:=np h;omega
   have pW:=hid (show (pre.map (·.1)).length<=1000000000 by have:=LU FE bs;rw[List.length_map];omega);have nX:=hid hne;have Hon3:=hid ZF;have Hl3:=hid l3;have Hx:=hid hx;clear hz h5 h6 h7 h8 hR hx hne ZF FE hlen mixed hr hl
   gi_wp2_with (gi_at_builtin;refine BW rfl _ _ 67 121 rfl Tryz.underlying67 gw v (pre.map (·.1)) rfl (HR.o.row.alloc _) _ x.1 rfl (ag _) pW.o ?_;intro v' w1 aB bC aA;obtain ⟨va,vc,rfl⟩:∃a c,v'= .slice a ((pre.map (·.1)).length+1) c:=eI aB;have k7:=(bC.block w.heap.size (by simp;omega) (fun q=>nX.o q.symm)).trans ((ai _ (by omega)).trans H7.o);have o1:=aa k7 0;have of1:=ah k7 0;simp at o1)
   have cw:=Mu (w.heap.size+3) H7.o HR.o H8.o HzL.o Hx.o aB bC aA k7 nX.o Hon3.o;rw[List.length_map]at cw;exact cw
  ·have tx:(x.2.2.2 != 0)=true:=by rw[bne_iff_ne];exact hx
   obtain ⟨f0,f1,f2⟩:=cB3 h8;have ff:=fun j=>ah h8 j;simp at f0 f1 f2;have nb:bf≠w.heap.size:=by omega
   have nb2:bf≠w.heap.size+1:=by omega
   have Hx:=hid hx;clear hz h5 h6 h7 h8 hR hx hr hl
   gi_wp2
   gi_region_with_o (fail)
   all_goals gi_wp2
   all_goals
    have k8:(W.setCell ⟨w.heap.size,0,none⟩ (.slice none 0 0)).heap[w.heap.size+1]? =some (.cells #[.int .i64 0,.int .i64 0,.int .i64 0] 27 (0,0)):=(aW _ _ (show w.heap.size+1≠(⟨w.heap.size,0,none⟩:Addr).block by show w.heap.size+1≠w.heap.size;omega)).trans H8.o;have k7:(W.setCell ⟨w.heap.size,0,none⟩ (.slice none 0 0)).heap[w.heap.size]? =some (.cells #[.slice none 0 0] 67 (0,0)):=aI H7.o 0 _
    obtain ⟨m3,k3⟩:=ld k8 (.int .i64 x.2.1) (.int .i64 x.2.2.1) (.int .i64 x.2.2.2);refine ⟨?_,rfl,?_,⟨pre,x,rfl,Hx.o,k3⟩,?_⟩
    ·exact (((((KeepsOthers.setCell _ _ _).trans (KeepsOthers.setCell _ _ _)).trans (KeepsOthers.setCell _ _ _)).trans (KeepsOthers.setCell _ _ _)).trans (KeepsOthers.drew _)).from _
    ·exact (m3.block _ (af k7) (by show ¬w.heap.size=w.heap.size+1;omega)).trans k7
    ·exact ((HR.o.below.setCell (p:=⟨w.heap.size,0,none⟩) (aBh _) _).trans (m3.below (by have:=HR.o.below.size;simpa using this) (fun k hk=>by omega))).drew
 case done=>
  clear Oo hN hI Wk hO;rintro D ys W hD rfl ⟨⟨v,h7,hR⟩,h8,hz⟩ hK;have hs:=P7 hz;obtain ⟨va,n,vc,rfl⟩:∃a n c,v= .slice a n c:=by obtain ⟨a,c,h⟩:=(eI hR.row:∃a c,v= .slice a ((iK bs).map (·.1)).length c);exact ⟨a,_,c,h⟩
  have o0:=aa h7 0;have of:=ah h7 0;obtain ⟨f0,f1,f2⟩:=cB3 h8;have ff:=fun j=>ah h8 j;simp at o0 f0 f1 f2;have k8:(W.setCell ⟨w.heap.size,0,none⟩ (.slice va n vc)).heap[w.heap.size+1]? =some (.cells #[.int .i64 0,.int .i64 0,.int .i64 0] 27 (0,0)):=(aW _ _ (show w.heap.size+1≠(⟨w.heap.size,0,none⟩:Addr).block by show w.heap.size+1≠w.heap.size;omega)).trans h8
  have k7:(W.setCell ⟨w.heap.size,0,none⟩ (.slice va n vc)).heap[w.heap.size]? =some (.cells #[.slice va n vc] 67 (0,0)):=aI h7 0 _;obtain ⟨m3,k3⟩:=ld k8 (.int .i64 0) (.int .i64 0) (.int .i64 0);have hKO:=(((KeepsOthers.setCell W ⟨w.heap.size,0,none⟩ (.slice va n vc)).trans (KeepsOthers.setCell _ ⟨w.heap.size+1,0,none⟩ (.int .i64 0))).trans (KeepsOthers.setCell _ ⟨w.heap.size+1,1,none⟩ (.int .i64 0))).trans (KeepsOthers.setCell _ ⟨w.heap.size+1,2,none⟩ (.int .i64 0))
  have hK2:=hKO.same D _ hK rfl;have k7':=(m3.block _ (af k7) (by show ¬w.heap.size=w.heap.size+1;omega)).trans k7;have aV:Below w.heap.size w ((((W.setCell ⟨w.heap.size,0,none⟩ (.slice va n vc)).setCell ⟨w.heap.size+1,0,none⟩ (.int .i64 0)).setCell ⟨w.heap.size+1,1,none⟩ (.int .i64 0)).setCell ⟨w.heap.size+1,2,none⟩ (.int .i64 0)):=(hR.below.setCell (p:=⟨w.heap.size,0,none⟩) (aBh _) _).trans (m3.below (by have:=hR.below.size;simpa using this) (fun k hk=>by omega))
  have AN:∀g,(Value.slice va n vc).ownBlock=some g->g≠w.heap.size/\g≠w.heap.size+1:=fun g hg=>by
   rcases hR.row.2 with ⟨hv,-⟩|⟨g',mn,cur,hv,-,hh,-⟩
   ·rw[hv]at hg;cases hg
   ·rw[hv]at hg;obtain rfl:g'=g:=by simpa[Value.ownBlock] using hg
    refine ⟨fun e=> ?_,fun e=> ?_⟩
    ·rw[e,h7]at hh;cases hh
    ·rw[e,h8]at hh;cases hh
  have QE:RT w ((((W.setCell ⟨w.heap.size,0,none⟩ (.slice va n vc)).setCell ⟨w.heap.size+1,0,none⟩ (.int .i64 0)).setCell ⟨w.heap.size+1,1,none⟩ (.int .i64 0)).setCell ⟨w.heap.size+1,2,none⟩ (.int .i64 0)) 121 (.slice va n vc) ((iK bs).map (·.1)):=by
   refine ⟨aV,dE hR.row (fun g hg=> ?_),hR.new⟩;have h1:=(hR.row.lt g hg).2;exact (m3.block g (by simpa using h1) (AN g hg).2).trans (aW _ _ (show g≠(⟨w.heap.size,0,none⟩:Addr).block from (AN g hg).1))
  have hRP:=MK (B:=w.heap.size) (aBh _) QE (grownBy_putObj' _ D (.deferred none)) (fun r e=>by cases e;exact ⟨by omega,_,hK2,rfl⟩);have k7P:=fo (B:=w.heap.size) k7' (grownBy_putObj' _ D (.deferred none)) (fun r e=>by cases e;exact ⟨by omega,_,hK2,rfl⟩);have k3P:=fo (B:=w.heap.size) k3 (grownBy_putObj' _ D (.deferred none)) (fun r e=>by cases e;exact ⟨by omega,_,hK2,rfl⟩)
  have HF:=hid (And.intro hK2 (And.intro hRP (And.intro k7P k3P)));have Hs:=hid hs;clear hs h7 hR h8 hz hK k8 k7 m3 k3 hKO hK2 k7' aV AN QE hRP k7P k3P
  gi_wp2
  refine ⟨by simp,.inl ⟨_,_,rfl,run_takeDeferred HF.o.1,?_⟩⟩;refine ⟨_,tI rfl rfl HF.o.2.2.1 HF.o.2.2.2,?_⟩;rw[Hs.o];exact ⟨⟨_,rfl,HF.o.2.1⟩,HF.o.2.1.below⟩
 case stop=>
  clear Oo hN hI Wk hO;rintro D c pre W hD mO ⟨rfl,h7,⟨p,x,rfl,hx,h8⟩,hb⟩ hK;obtain ⟨e,he,hxe⟩:=My (List.IsPrefix.subset mO (List.mem_append_right _ (List.mem_singleton.2 rfl))) hx
  gi_wp2
  refine ⟨by simp,.inl ⟨_,_,rfl,run_takeDeferred hK,?_⟩⟩;have k7P:=fo (B:=w.heap.size) h7 (grownBy_putObj' _ D (.deferred none)) (fun r e=>by cases e;exact ⟨by omega,_,hK,rfl⟩);have k3P:=fo (B:=w.heap.size) h8 (grownBy_putObj' _ D (.deferred none)) (fun r e=>by cases e;exact ⟨by omega,_,hK,rfl⟩);refine ⟨_,tI rfl rfl k7P k3P,?_⟩;rw[he,hxe];exact ⟨rfl,hb.trans (belowK_b (w:=w) (aBh _) W D _ _ (by omega) hK rfl rfl)⟩
theorem u5 {ns:List Nd} {d:Nat} {kind:Int} {key:ByteArray} {t:Tok} {e:Flt} (h:j4 ns d kind key t= .error e):e.2≠0:=by
 unfold j4 at h
 split at h
 ·cases h;exact (by decide:(92:Int)≠0)
 ·cases h
theorem Gy {blk:Blk} (hb:∀k ns key e,blk k ns key= .error e->e.2≠0) {ts:List Tok} {d:Nat} {is:Bool} {t:Tok} {k:Nat} {ns:List Nd} {key:ByteArray} {e:Flt} (h:iL blk ts d is t k ns key= .error e):e.2≠0:=by
 unfold iL at h
 split at h
 ·exact hb _ _ _ _ h
 ·split at h
  ·rename_i e2 he;cases h;exact u5 he
  ·cases h
theorem Dy {blk:Blk} (hb:∀k ns key e,blk k ns key= .error e->e.2≠0) {ts:List Tok} {d:Nat} {col:Int} {i:Nat} {e:Flt}:∀(f:Nat) (seen:List (List UInt8)) (k:Nat) (ns:List Nd),c9 blk ts d col i f seen k ns= .error e->e.2≠0
 |0,_,_,_,h=>by unfold c9 at h;cases h
 |f+1,seen,k,ns,h=>by
  unfold c9 at h;simp only at h
  split at h
  ·split at h
   ·cases h;exact (by decide:(91:Int)≠0)
   ·split at h
    ·rename_i e2 he;cases h;exact Gy hb he
    ·exact Dy hb f _ _ _ h
  ·cases h
theorem CG {blk:Blk} (hb:∀k ns key e,blk k ns key= .error e->e.2≠0) {ts:List Tok} {d:Nat} {col:Int} {i:Nat} {e:Flt}:∀(f:Nat) (k:Nat) (ns:List Nd),dv blk ts d col i f k ns= .error e->e.2≠0
 |0,_,_,h=>by unfold dv at h;cases h
 |f+1,k,ns,h=>by
  unfold dv at h;simp only at h
  split at h
  ·split at h
   ·rename_i e2 he;cases h;exact Gy hb he
   ·exact CG hb f _ _ h
  ·cases h
theorem sW {ts:List Tok}:∀(d:Nat) (k:Nat) (ns:List Nd) (key:ByteArray) (e:Flt),bo ts d k ns key= .error e->e.2≠0
 |0,_,_,_,e,h=>by unfold bo at h;cases h;exact (by decide:(92:Int)≠0)
 |d+1,k,ns,key,e,h=>by
  unfold bo at h;simp only at h
  split at h
  ·split at h
   ·rename_i e2 he;cases h;exact u5 he
   ·split at h
    ·rename_i e2 he;cases h;exact Dy (sW d) _ _ _ _ he
    ·cases h
  ·split at h
   ·split at h
    ·rename_i e2 he;cases h;exact u5 he
    ·split at h
     ·rename_i e2 he;cases h;exact CG (sW d) _ _ _ he
     ·cases h
   ·split at h
    ·rename_i e2 he;cases h;exact u5 he
    ·cases h
theorem Dt {ts:List Tok} {e:Flt} (h:kj ts= .error e):e.2≠0:=by
 unfold kj at h
 split at h
 ·rename_i e2 he
  cases h
  split at he
  ·split at he
   ·rename_i e3 he3;cases he;exact sW _ _ _ _ _ he3
   ·cases he
  ·cases he
 ·split at h
  ·cases h;exact (by decide:(90:Int)≠0)
  ·cases h
