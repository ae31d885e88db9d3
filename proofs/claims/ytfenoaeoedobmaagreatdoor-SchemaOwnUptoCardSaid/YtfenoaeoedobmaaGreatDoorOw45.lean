/-
Parts of a proof.
-/
import Derived.Test.YtfenoaeoedobmaaGreatDoorOw44
set_option linter.unusedVariables false
set_option linter.unusedSimpArgs false
set_option maxHeartbeats 8000000
set_option maxRecDepth 100000
namespace Go.Proofs.YtfenoaeoedobmaaGreatDoor
open Go Go.RowKit
attribute [local go_sem] Oper.semAt_some
theorem kq {F:Fence} {fn:Nat} {P:Program} (w:World) {ops:Array Oper} {rest:List Oper} {o:Oper} {a:Act} {Q:Exit->Act->World->Prop} (hgd:o.guard=none) (s x:Operand) (t:TypeId)
 (ho:o.op= .call {callee:= .builtin .append,args:=#[s,x],argTypes:=#[t,t]})
 (e:TypeId) (i:TypeInfo) (z:Value) (size nb:Nat) (ht:P.underlying t=some (.slice e)) (hi:P.info? e=some i) (hz:i.zero=some z)
 (hsize:i.size=size) (hby:i.bytes=nb) (hzs:z.cells.size=size) (hsz:0<size)
 (v:Value) (n:Nat) (xs:List Value) (hs:a.eval s=v) (hown:w.ownsRow 0 e size v n xs)
 (ao:Option Addr) (m c:Nat) (news:List Value) (hx:a.eval x= .slice ao m c) (hl:news.length=m*size) (hnone:ao=none->m=0/\c=0)
 (hnews:∀ad,ao=some ad->∀j u,news[j]? =some u->w.cell? (ad.add j)=some u) (h1:∀u∈news,u.oneCell'=true)
 (h63:n+m<=maxLen) (hbytes:(n+m)*nb<=140737488355328)
 (h:∀v' w',w'.ownsRow 0 e size v' (n+m) (xs++news)->w.grownBy w' v.ownBlock->(∀g,v'.ownBlock=some g->v.ownBlock=some g\/w.heap.size<=g)->
  wpListIn F fn P ops Q rest (a.put o.dst v') w'):wpListIn F fn P ops Q (o::rest) a w:=by
 refine wpListIn_plain hgd fun K hK=> ?_;obtain ⟨v',w',hr,h2,h3,h4⟩:=ic (P:=P) w t o.type e i z size nb ht hi hz hsize hby hzs hsz v n xs hown ao m c news hl hnone hnews h1 h63 hbytes;unfold Oper.wpIn;refine ⟨?_,?_⟩
 ·simp[Oper.about,ho,resolve,Target.leads,Sem.run_pure]
 ·rw[Oper.semAt_plain F _ _ (by rw[ho];intro c hc';cases hc')];simp[execOp,ho,resolve,invoke,builtin,hs,hx,hr,Result.andThen];exact hK _ _ (h v' w' h2 h3 h4)
theorem sP {F:Fence} {fn:Nat} {w:World} {ops:Array Oper} {rest:List Oper} {o:Oper} {a:Act} {Q:Exit->Act->World->Prop} (hgd:o.guard=none) (s x:Operand) (ST T:TypeId)
 (ho:o.op= .call {callee:= .builtin .append,args:=#[s,x],argTypes:=#[ST,ST]}) (hst: Tryz.prog.underlying ST=some (.slice T))
 (hinf:(Tryz.prog.info? T).map (fun i=>(i.zero,i.size,i.bytes))=some (some (.agg #[.int .i64 0,.int .i64 0,.int .i64 0,.string ⟨#[]⟩,.bool false]),5,48))
 (v:Value) (ts:List Tok) (hs:a.eval s=v) (hown:w.ownsRow 0 T 5 v ts.length (toks ts)) (g:Nat) (t:Tok) (hx:a.eval x= .slice (some ⟨g,0,none⟩) 1 1)
 (hnew:w.heap[g]? =some (.cells t.cells.toArray T (0,0))) (hlen:ts.length<=1000000000)
 (h:∀v' w',w'.ownsRow 0 T 5 v' (ts.length+1) (toks ts++t.cells)->w.grownBy w' v.ownBlock->(∀g,v'.ownBlock=some g->v.ownBlock=some g\/w.heap.size<=g)->
  wpListIn F fn Tryz.prog ops Q rest (a.put o.dst v') w'):wpListIn F fn Tryz.prog ops Q (o::rest) a w:=by
 obtain ⟨i0,hi5,hz0,hz1,hz2⟩:=info_parts hinf;refine kq w hgd s x ST ho T i0 _ 5 48 hst hi5 hz0 hz1 hz2 rfl (by decide) v ts.length (toks ts) hs hown (some ⟨g,0,none⟩) 1 1 t.cells hx rfl
  (fun hn=>by cases hn) (fun ad had=> ?_) (fun u hu=> ?_) (by unfold maxLen;omega) (by omega) h
 ·obtain rfl:=aAf had;intro j u hj;rw[Addr.add_lit,Nat.zero_add,af hnew];rw[List.getElem?_toArray];exact hj
 ·simp only[Tok.cells,List.mem_cons,List.not_mem_nil,or_false]at hu;rcases hu with rfl|rfl|rfl|rfl|rfl<;>rfl
theorem Jq (w:World) (ao:Option Addr) (n cap:Nat):Calls Tryz.prog 66 #[.slice ao n cap] w fun e w'=>e= .returned (.func (.func 103) #[] #[.pointer (some ⟨w.heap.size,0,none⟩)])/\w'=w.alloc (.cells #[.slice ao n cap] 42):=by
 go_enter Tryz.func66,Tryz.ntmps66;go_wp2;go_ret;exact ⟨rfl,rfl⟩
def SScn (w0:World) (x:Except (Nat×Nat×Int) (List Tok)) (r:Ending) (w':World):Prop:=
 (match x with
  | .ok ts=>∃v,r= .returned (.tuple #[v,.agg #[.int .i64 0,.int .i64 0,.int .i64 0]])/\RT w0 w' 121 v ts
  | .error e=>r= .returned (.tuple #[.slice none 0 0,.agg #[.int .i64 (e.1:Int),.int .i64 (e.2.1:Int),.int .i64 e.2.2]]))/\Below w0.heap.size w0 w'
theorem dO {W W':World} {row:Option Nat} {B k:Nat} {c:Array Value} {e:TypeId} {m:Nat×Nat} (h:W.heap[k]? =some (.cells c e m)) (hg:W.grownBy W' row) (hr:∀r,row=some r->B<=r/\∃o:Obj,W.heap[r]? =some o/\o.isCells=false):W'.heap[k]? =some (.cells c e m):=by
 refine (hg.block k (ag h) (fun q=> ?_)).trans h;obtain ⟨-,o,ho,hc⟩:=hr k q.symm;rw[h]at ho;cases ho;cases hc
theorem BA {w0 W W':World} {row:Option Nat} {B:Nat} {T:TypeId} {v:Value} {ts:List Tok} (hB:w0.heap.size<=B) (h:RT w0 W T v ts) (hg:W.grownBy W' row) (hr:∀r,row=some r->B<=r/\∃o:Obj,W.heap[r]? =some o/\o.isCells=false):RT w0 W' T v ts:=by
 refine ⟨h.below.grown hg h.below.size (fun k e=>aAe hB (hr k e).1),cL h.row (fun g hgo=>hg.block g (h.row.lt g hgo).2 (fun q=> ?_)),h.new⟩;obtain ⟨-,o,ho,hc⟩:=hr g q.symm;rcases h.row.2 with ⟨hv,-⟩|⟨g',cap,cur,hv,-,hh,-⟩
 ·rw[hv]at hgo;cases hgo
 ·rw[hv]at hgo;obtain rfl:g'=g:=by simpa[Value.ownBlock] using hgo
  rw[hh]at ho;cases ho;cases hc
structure ScnI (w0:World) (pre:List Yl) (W:World):Prop where
 box:∃v,W.heap[w0.heap.size]? =some (.cells #[v] 67 (0,0))/\RT w0 W 121 v (pre.map (·.1))
 flt:W.heap[w0.heap.size+1]? =some (.cells #[.int .i64 0,.int .i64 0,.int .i64 0] 27 (0,0))
 zero:∀x∈pre,x.2.2.2=0
structure ScnX (w0:World) (c:Code) (pre:List Yl) (W:World):Prop where
 ret:c= .ret
 box:W.heap[w0.heap.size]? =some (.cells #[.slice none 0 0] 67 (0,0))
 flt:∃p x,pre=p++[x]/\x.2.2.2≠0/\W.heap[w0.heap.size+1]? =some (.cells #[.int .i64 x.2.1,.int .i64 x.2.2.1,.int .i64 x.2.2.2] 27 (0,0))
 below:Below w0.heap.size w0 W
theorem Bo (w0:World) {B:Nat} (hB:w0.heap.size<=B):OwnFrom B (ScnI w0):=by
 rintro pre W W' row ⟨⟨v,h1,h2⟩,h3,h4⟩ hg hr;exact ⟨⟨v,dO h1 hg hr,BA hB h2 hg hr⟩,dO h3 hg hr,h4⟩
theorem Bm (w0:World) {B:Nat} (hB:w0.heap.size<=B) (c:Code):OwnFrom B (ScnX w0 c):=by
 rintro pre W W' row ⟨h0,h1,⟨p,x,h2,h3,h4⟩,h5⟩ hg hr;exact ⟨h0,dO h1 hg hr,⟨p,x,h2,h3,dO h4 hg hr⟩,h5.grown hg h5.size (fun k e=>aAe hB (hr k e).1)⟩
theorem ScnI.later {w0 W W2:World} {pre:List Yl} (h:ScnI w0 pre W) (hb:Below W.heap.size W W2):ScnI w0 pre W2:=by
 obtain ⟨⟨v,h1,h2⟩,h3,h4⟩:=h;exact ⟨⟨v,(hb.block _ (ag h1)).trans h1,RO.later h2 hb⟩,(hb.block _ (ag h3)).trans h3,h4⟩
theorem Bl {w W w1:World} {ob:Obj} {v v':Value} {pre:List Yl} {x:Yl} (B0:Nat) (h7:W.heap[w.heap.size]? =some (.cells #[v] 67 (0,0))) (hR:RT w W 121 v (pre.map (·.1))) (h8:W.heap[w.heap.size+1]? =some (.cells #[.int .i64 0,.int .i64 0,.int .i64 0] 27 (0,0))) (hz:∀x∈pre,x.2.2.2=0) (hx:x.2.2.2=0)
 (own2:w1.ownsRow 0 121 5 v' ((pre.map (·.1)).length+1) (toks (pre.map (·.1))++x.1.cells)) (gr2:(W.alloc ob).grownBy w1 v.ownBlock) (new2:∀g,v'.ownBlock=some g->v.ownBlock=some g\/(W.alloc ob).heap.size<=g)
 (k7:w1.heap[w.heap.size]? =some (.cells #[v] 67 (0,0))) (hone:v.ownBlock≠some w.heap.size) (hon3:v.ownBlock≠some (w.heap.size+1)):
 KeepsFrom B0 W (w1.setCell ⟨w.heap.size,0,none⟩ v')/\ScK w.heap.size W (w1.setCell ⟨w.heap.size,0,none⟩ v')/\ScnI w (pre++[x]) (w1.setCell ⟨w.heap.size,0,none⟩ v'):=by
 have l7:=ag h7;have l8:=ag h8;have hR2:=RT.app hR own2 gr2 new2;have hno:v'.ownBlock≠some w.heap.size:=fun e=>by
  rcases new2 _ e with q|q
  ·exact hone q
  ·rw[World.size_alloc]at q;omega
 have hc7:W.cell? ⟨w.heap.size,0,none⟩=some v:=af h7 0;have s7:(w1.setCell ⟨w.heap.size,0,none⟩ v').heap[w.heap.size]? =some (.cells #[v'] 67 (0,0)):=aE k7 0 v';have hwl:w.heap.size<=W.heap.size:=hR.below.size;refine ⟨?_,⟨?_,fun k hk h=> ?_,fun ho v1 k h1 h2=> ?_⟩,⟨⟨v',s7,?_⟩,?_,fun y hy=> ?_⟩⟩
 ·refine (((KeepsOthers.alloc W ob).trans (KeepsOthers.of_grownBy gr2 fun j o ej hj=> ?_)).trans (KeepsOthers.setCell _ _ _)).from _;rcases hR.row.2 with ⟨hv,-⟩|⟨g,cap',cur,hv,-,hh,-⟩
  ·rw[hv]at ej;cases ej
  ·rw[hv]at ej;obtain rfl:g=j:=by simpa[Value.ownBlock] using ej
   rw[aj _ (ag hh),hh]at hj;cases hj;rfl
 ·exact (((Mod.refl _ W).alloc ob).grown gr2 (fun k e _=> .inr (.inl ⟨v,hc7,e⟩))).setCell _ _ (fun _=> .inl rfl)
 ·rcases h with h|⟨v1,h1,h2⟩|⟨o,h1,h2⟩
  ·exact .inl h
  ·rw[af s7 0]at h1;cases h1;rcases new2 k h2 with q|q
   ·exact .inr (.inl ⟨v,hc7,q⟩)
   ·rw[World.size_alloc]at q;omega
  ·by_cases e:k=w.heap.size
   ·exact .inl e
   ·rw[aO _ _ (show k≠(⟨w.heap.size,0,none⟩:Addr).block from e)]at h1;by_cases e2:v.ownBlock=some k
    ·exact .inr (.inl ⟨v,hc7,e2⟩)
    ·rw[gr2.block k (by rw[World.size_alloc];omega) (fun q=>e2 q.symm),aj _ hk]at h1;exact .inr (.inr ⟨o,h1,h2⟩)
 ·rw[af s7 0]at h1;cases h1;have:=(own2.lt k h2).2
  simpa using this
 ·rw[List.map_append];refine ⟨hR2.below.setCell (aAa _) _,cL hR2.row (fun g hg=>aO _ _ (fun e=>hno (by rw[hg,e]))),hR2.new⟩
 ·rw[aO _ _ (show w.heap.size+1≠(⟨w.heap.size,0,none⟩:Addr).block by show w.heap.size+1≠w.heap.size;omega),gr2.block _ (by rw[World.size_alloc];omega) (fun q=>hon3 q.symm),aj _ l8];exact h8
 ·rcases List.mem_append.1 hy with hy|hy
  ·exact hz y hy
  ·obtain rfl:=List.mem_singleton.1 hy;exact hx
theorem mV {W:World} {b2 b3:Nat} {V v0 v1 v2:Value} {tmps:Array Value} (h2:tmps[2]? =some (.pointer (some ⟨b2,0,none⟩))) (h3:tmps[3]? =some (.pointer (some ⟨b3,0,none⟩))) (hb2:W.heap[b2]? =some (.cells #[V] 67 (0,0))) (hb3:W.heap[b3]? =some (.cells #[v0,v1,v2] 27 (0,0))):
 (results Tryz.f26 tmps).run Tryz.prog W= .ok (.tuple #[V,.agg #[v0,v1,v2]]) W:=by
 have hc:=af hb2 0;obtain ⟨c0,c1,c2⟩:=cB3 hb3;simp at hc c0 c1 c2;rw[Array.getElem?_eq_some_iff]at h2 h3;obtain ⟨l2,e2⟩:=h2;obtain ⟨l3,e3⟩:=h3;simp[results,Tryz.results26,asAddr,Array.getD,l2,e2,l3,e3,hc,c0,c1,c2,go_sem]
def Lj (w0:World) (v:Value) (B0:Nat) (x:Yl) (a:Act) (W:World):Prop:=
 ∃bx bf,B0<=bx/\W.heap[bx]? =some (.cells #[.int .i64 x.1.kind,.int .i64 x.1.line,.int .i64 x.1.col,.string ⟨x.1.text.toArray⟩,.bool x.1.quoted] 121 (0,0))/\B0<=bf/\W.heap[bf]? =some (.cells #[.int .i64 x.2.1,.int .i64 x.2.2.1,.int .i64 x.2.2.2] 27 (0,0))/\
  a={tmps:=#[v,undef,.pointer (some ⟨w0.heap.size,0,none⟩),.pointer (some ⟨w0.heap.size+1,0,none⟩),.pointer (some ⟨bx,0,none⟩),.pointer (some ⟨bf,0,none⟩),v,.func (.func 103) #[] #[.pointer (some ⟨w0.heap.size+1+1,0,none⟩)],.agg #[.int .i64 x.1.kind,.int .i64 x.1.line,.int .i64 x.1.col,.string ⟨x.1.text.toArray⟩,.bool x.1.quoted],.agg #[.int .i64 x.2.1,.int .i64 x.2.2.1,.int .i64 x.2.2.2],undef,undef,undef,undef,undef,undef,undef,undef,undef,undef],defers:=[]}
theorem Bp (w0:World) (v:Value) (B0:Nat) (x:Yl) (a:Act) {B:Nat}:OwnFrom B (fun (_:Unit) W=>Lj w0 v B0 x a W):=by
 rintro _ W W' row ⟨bx,bf,h1,h2,h3,h4,h5⟩ hg hr;exact ⟨bx,bf,h1,dO h2 hg hr,h3,dO h4 hg hr,h5⟩
theorem Ij (w:World) (bs:List UInt8) (ao:Option Addr) (cap:Nat) (hT:SlR w (.slice ao bs.length cap) 1 bs gm) (hcap:bs.length<=cap) (hg:Glob w):
 Calls Tryz.prog 26 #[.slice ao bs.length cap] w (SScn w (iB bs)):=by
 refine (callsIn_wide (n:=6)).1 ?_;refine callsIn_of_wp_marks Tryz.func26 rfl trivial ?_ rfl;simp only[Tryz.ntmps26,List.size_toArray,aAd,List.length_nil,Nat.reduceAdd,Nat.reduceSub,Array.replicate_succ,Array.replicate_zero,List.push_toArray,List.append_toArray,List.nil_append,List.cons_append]
 gi_wp2_with (refine ⟨trivial,?_⟩;gi_at_call 66;refine (callsIn_wide.2 (Jq _ _ _ _)).mono ?_;rintro e w' ⟨rfl,rfl⟩)
 obtain ⟨W0,hW0⟩:=ex (((w.alloc (.cells #[.slice none 0 0] 67)).alloc (.cells #[.int .i64 0,.int .i64 0,.int .i64 0] 27)).alloc (.cells #[.slice ao bs.length cap] 42));have hsz:W0.heap.size=w.heap.size+3:=by rw[hW0];simp
 have hbW:Below w.heap.size w W0:=by rw[hW0];exact (((aAb _ w).alloc (aAa _) _).alloc (by simp) _).alloc (by simp;omega) _
 have h2:W0.heap[w.heap.size]? =some (.cells #[.slice none 0 0] 67 (0,0)):=by
  rw[hW0,aj _ (by simp;omega),aj _ (by simp)];exact ah _
 have h3:W0.heap[w.heap.size+1]? =some (.cells #[.int .i64 0,.int .i64 0,.int .i64 0] 27 (0,0)):=by
  rw[hW0,aj _ (by simp)];have:=ah (w:=w.alloc (.cells #[.slice none 0 0] 67)) (.cells #[.int .i64 0,.int .i64 0,.int .i64 0] 27)
  rwa [World.size_alloc]at this
 have h4:W0.heap[w.heap.size+1+1]? =some (.cells #[.slice ao bs.length cap] 42 (0,0)):=by
  rw[hW0];have:=ah (w:=(w.alloc (.cells #[.slice none 0 0] 67)).alloc (.cells #[.int .i64 0,.int .i64 0,.int .i64 0] 27)) (.cells #[.slice ao bs.length cap] 42)
  rwa [World.size_alloc,World.size_alloc]at this
 rw[<-hW0];clear hW0;have hlt:w.heap.size<W0.heap.size:=by omega
 have hO:ScO w.heap.size W0:=fun v k h1 h5=>by
  rw[af h2 0]at h1;cases h1;cases h5
 have hnF:∀b o v,w.cell? ⟨b,o,none⟩=some v->¬ScF w.heap.size W0 b:=fun b o v hv=>by
  have hb:b<w.heap.size:=World.block_lt_of_cell? _ _ hv;rintro (q|⟨v',q1,q2⟩|⟨o',q1,q2⟩)
  ·omega
  ·rw[af h2 0]at q1;cases q1;cases q2
  ·rw[hbW.block b hb]at q1;have hc:=cells_of_cell hv;obtain ⟨o2,q3,q4⟩:=hc;rw[q1]at q3;cases q3;rw[q2]at q4;cases q4
 obtain ⟨⟨m0,c0⟩,⟨ev,c1,c2⟩⟩:=hg;have hI:ScI w.heap.size W0:=⟨hlt,hO,Glob.later ⟨⟨m0,c0⟩,⟨ev,c1,c2⟩⟩ hbW,hnF _ _ _ c0,hnF _ _ _ c1⟩;have hN:SlN w.heap.size W0 (.slice ao bs.length cap) 1 bs gm:=⟨hT.later hbW,fun b o n c e h0=>by
  cases e;obtain ⟨ao',cap',e1,-,hat⟩:=hT;injection e1 with e1 _ _
  subst e1;obtain ⟨b',o',e2,-,hc⟩:=hat h0;cases e2;have:=hc 0 bs[0] (aAg h0) 0 _ rfl;exact hnF _ _ _ this⟩
 have hseq:SeqStopsK Fence.wide (6-1) Tryz.prog 103 #[.pointer (some ⟨w.heap.size+1+1,0,none⟩)] Jo (ScK w.heap.size) (fun ys=>ys=fF bs) (fun pre=>pre <+:fF bs) (fF bs).length W0:=by
  intro l J Jx W hW hJ hJx hY h0;refine callsIn_wide.2 (FM l (w.heap.size+1+1) w.heap.size bs ao cap J Jx W (6-1-1) (hI.later hW) ((hW.cell (p:=⟨w.heap.size+1+1,0,none⟩) (by show w.heap.size+1+1<_;omega)).trans (af h4 0)) (hN.to (ScK.below hlt hW)) hcap ?_ hY h0);intro pre w1 w2 h1 h2;exact hJ pre w1 w2 none h1 ⟨h2.os,h2.tape,h2.output,h2.size,fun k hk _=>h2.block k hk⟩ (fun r e=>by cases e)
 refine wpIn_rangeFunc_ownH (F:=Fence.wide) rfl (by decide) (gf:= 103) (lb:=#[.pointer (some ⟨w.heap.size+1+1,0,none⟩)]) rfl trivial (gC Tryz.func103 (by kernel_rfl) rfl) hseq
  (fun h k=>ScK.trans h k) (fun W l o o' hl ho hc _=> ?kb) (aAb _ _) (fun _=>rfl) (ScnI w) (ScnX w) (Bo w (by omega)) (Bm w (by omega)) ?zero (Lj w (.slice ao bs.length cap) (w.heap.size+2)) (fun x a'=>Bp w _ _ x a') ?assign ?body ?done ?stop
 case kb=>
  refine ScK.put o' ?_ (by omega) ho hc;have:=ag ho;omega
 case zero=>exact ⟨⟨_,h2,hbW,World.ownsRow_nil _ _ _ _,nofun⟩,h3,nofun⟩
 case assign=>
  clear hseq hN hI hnF hO;rintro l pre x W K hi hK;have HK:=hid hK;have Hi:=hid hi;unfold Jo;clear hK hi
  gi_wp2
  obtain ⟨W2,hW2⟩:=ex ((W.alloc (.cells #[.int .i64 x.1.kind,.int .i64 x.1.line,.int .i64 x.1.col,.string ⟨x.1.text.toArray⟩,.bool x.1.quoted] 121)).alloc (.cells #[.int .i64 x.2.1,.int .i64 x.2.2.1,.int .i64 x.2.2.2] 27));have hb:Below W.heap.size W W2:=by rw[hW2];exact ((aAb _ W).alloc (aAa _) _).alloc (by simp) _
  have l3:=ag Hi.o.flt;have q1:W2.heap[W.heap.size]? =some (.cells #[.int .i64 x.1.kind,.int .i64 x.1.line,.int .i64 x.1.col,.string ⟨x.1.text.toArray⟩,.bool x.1.quoted] 121 (0,0)):=by
   rw[hW2,aj _ (by simp)];exact ah _
  have q2:W2.heap[W.heap.size+1]? =some (.cells #[.int .i64 x.2.1,.int .i64 x.2.2.1,.int .i64 x.2.2.2] 27 (0,0)):=by
   rw[hW2];have:=ah (w:=W.alloc (.cells #[.int .i64 x.1.kind,.int .i64 x.1.line,.int .i64 x.1.col,.string ⟨x.1.text.toArray⟩,.bool x.1.quoted] 121)) (.cells #[.int .i64 x.2.1,.int .i64 x.2.2.1,.int .i64 x.2.2.2] 27)
   rwa [World.size_alloc]at this
  have hkf:KeepsFrom W0.heap.size W W2:=by rw[hW2];exact ((KeepsOthers.alloc _ _).trans (KeepsOthers.alloc _ _)).from _
  rw[<-hW2];exact HK.o _ _ hkf (ScK.below (by omega) hb) (Hi.o.later hb) ⟨W.heap.size,W.heap.size+1,by omega,q1,by omega,q2,rfl⟩
 case body=>
  clear hseq hN hI hnF hO;rintro l pre x a' W hl ⟨r,hr⟩ hi ⟨bx,bf,hx1,h5,hx2,h6,rfl⟩ hlen;obtain ⟨⟨v,h7,hR⟩,h8,hz⟩:=hi;have l3:=ag h8;obtain ⟨e0,e1,e2⟩:=cB3 h6;simp at e0 e1 e2;have o0:=af h7 0;have of:=ai h7 0;simp at o0;have mixed: Tryz.prog.follows .mixedOrders=true:=by kernel_rfl
  have HzL:=hid hz;have H7:=hid h7;have H8:=hid h8;have HR:=hid hR;by_cases hx:x.2.2.2=0
  ·have tx:(x.2.2.2 != 0)=false:=by rw[hx];rfl
   have hne:v.ownBlock≠some w.heap.size:=by
    intro e;rcases hR.row.2 with ⟨hv,-⟩|⟨g,cap',cur,hv,-,hh,-⟩
    ·rw[hv]at e;cases e
    ·rw[hv]at e;obtain rfl:g=w.heap.size:=by simpa[Value.ownBlock] using e
     rw[h7]at hh;cases hh
   have hne3:v.ownBlock≠some (w.heap.size+1):=by
    intro e;rcases hR.row.2 with ⟨hv,-⟩|⟨g,cap',cur,hv,-,hh,-⟩
    ·rw[hv]at e;cases e
    ·rw[hv]at e;obtain rfl:g=w.heap.size+1:=by simpa[Value.ownBlock] using e
     rw[h8]at hh;cases hh
   obtain ⟨g0,g1,g2,g3,g4⟩:=cB5 h5;simp at g0 g1 g2 g3 g4;have hq0:∀t y m,de t=some (y,m)->y.length<=t.length:=fun t y m h=>by have:=jv h;omega
   have Hlen:=hid (show (pre.map (·.1)).length<=1000000000 by have:=AP hq0 bs;rw[List.length_map];omega);have Hone:=hid hne;have Hon3:=hid hne3;have Hl3:=hid l3;have Hx:=hid hx;clear hz h5 h6 h7 h8 hR hx hne hne3 hq0 hlen mixed hr hl
   gi_wp2_with (gi_at_builtin;refine sP rfl _ _ 67 121 rfl Tryz.underlying67 eI v (pre.map (·.1)) rfl (HR.o.row.alloc _) _ x.1 rfl (ah _) Hlen.o ?_;intro v' w1 own2 gr2 new2;obtain ⟨va,vc,rfl⟩:∃a c,v'= .slice a ((pre.map (·.1)).length+1) c:=cR own2;have k7:=(gr2.block w.heap.size (by simp;omega) (fun q=>Hone.o q.symm)).trans ((aj _ (by omega)).trans H7.o);have o1:=af k7 0;have of1:=ai k7 0;simp at o1)
   have hst:=Bl (w.heap.size+3) H7.o HR.o H8.o HzL.o Hx.o own2 gr2 new2 k7 Hone.o Hon3.o;rw[List.length_map]at hst;exact hst
  ·have tx:(x.2.2.2 != 0)=true:=by rw[bne_iff_ne];exact hx
   obtain ⟨f0,f1,f2⟩:=cB3 h8;have ff:=fun j=>ai h8 j;simp at f0 f1 f2;have nb:bf≠w.heap.size:=by omega
   have nb2:bf≠w.heap.size+1:=by omega
   have Hx:=hid hx;clear hz h5 h6 h7 h8 hR hx hr hl
   gi_wp2
   gi_region_with_o (fail)
   all_goals gi_wp2
   all_goals
    have k8:(W.setCell ⟨w.heap.size,0,none⟩ (.slice none 0 0)).heap[w.heap.size+1]? =some (.cells #[.int .i64 0,.int .i64 0,.int .i64 0] 27 (0,0)):=(aO _ _ (show w.heap.size+1≠(⟨w.heap.size,0,none⟩:Addr).block by show w.heap.size+1≠w.heap.size;omega)).trans H8.o;have k7:(W.setCell ⟨w.heap.size,0,none⟩ (.slice none 0 0)).heap[w.heap.size]? =some (.cells #[.slice none 0 0] 67 (0,0)):=aE H7.o 0 _
    obtain ⟨m3,k3⟩:=ir k8 (.int .i64 x.2.1) (.int .i64 x.2.2.1) (.int .i64 x.2.2.2);refine ⟨?_,rfl,?_,⟨pre,x,rfl,Hx.o,k3⟩,?_⟩
    ·exact (((((KeepsOthers.setCell _ _ _).trans (KeepsOthers.setCell _ _ _)).trans (KeepsOthers.setCell _ _ _)).trans (KeepsOthers.setCell _ _ _)).trans (KeepsOthers.drew _)).from _
    ·exact (m3.block _ (ag k7) (by show ¬w.heap.size=w.heap.size+1;omega)).trans k7
    ·exact ((HR.o.below.setCell (p:=⟨w.heap.size,0,none⟩) (aAa _) _).trans (m3.below (by have:=HR.o.below.size;simpa using this) (fun k hk=>by omega))).drew
 case done=>
  clear hseq hN hI hnF hO;rintro D ys W hD rfl ⟨⟨v,h7,hR⟩,h8,hz⟩ hK;have hs:=all_zero hz;obtain ⟨va,n,vc,rfl⟩:∃a n c,v= .slice a n c:=by obtain ⟨a,c,h⟩:=(cR hR.row:∃a c,v= .slice a ((fF bs).map (·.1)).length c);exact ⟨a,_,c,h⟩
  have o0:=af h7 0;have of:=ai h7 0;obtain ⟨f0,f1,f2⟩:=cB3 h8;have ff:=fun j=>ai h8 j;simp at o0 f0 f1 f2;have k8:(W.setCell ⟨w.heap.size,0,none⟩ (.slice va n vc)).heap[w.heap.size+1]? =some (.cells #[.int .i64 0,.int .i64 0,.int .i64 0] 27 (0,0)):=(aO _ _ (show w.heap.size+1≠(⟨w.heap.size,0,none⟩:Addr).block by show w.heap.size+1≠w.heap.size;omega)).trans h8
  have k7:(W.setCell ⟨w.heap.size,0,none⟩ (.slice va n vc)).heap[w.heap.size]? =some (.cells #[.slice va n vc] 67 (0,0)):=aE h7 0 _;obtain ⟨m3,k3⟩:=ir k8 (.int .i64 0) (.int .i64 0) (.int .i64 0);have hKO:=(((KeepsOthers.setCell W ⟨w.heap.size,0,none⟩ (.slice va n vc)).trans (KeepsOthers.setCell _ ⟨w.heap.size+1,0,none⟩ (.int .i64 0))).trans (KeepsOthers.setCell _ ⟨w.heap.size+1,1,none⟩ (.int .i64 0))).trans (KeepsOthers.setCell _ ⟨w.heap.size+1,2,none⟩ (.int .i64 0))
  have hK2:=hKO.same D _ hK rfl;have k7':=(m3.block _ (ag k7) (by show ¬w.heap.size=w.heap.size+1;omega)).trans k7;have hb3:Below w.heap.size w ((((W.setCell ⟨w.heap.size,0,none⟩ (.slice va n vc)).setCell ⟨w.heap.size+1,0,none⟩ (.int .i64 0)).setCell ⟨w.heap.size+1,1,none⟩ (.int .i64 0)).setCell ⟨w.heap.size+1,2,none⟩ (.int .i64 0)):=(hR.below.setCell (p:=⟨w.heap.size,0,none⟩) (aAa _) _).trans (m3.below (by have:=hR.below.size;simpa using this) (fun k hk=>by omega))
  have hrow:∀g,(Value.slice va n vc).ownBlock=some g->g≠w.heap.size/\g≠w.heap.size+1:=fun g hg=>by
   rcases hR.row.2 with ⟨hv,-⟩|⟨g',cap',cur,hv,-,hh,-⟩
   ·rw[hv]at hg;cases hg
   ·rw[hv]at hg;obtain rfl:g'=g:=by simpa[Value.ownBlock] using hg
    refine ⟨fun e=> ?_,fun e=> ?_⟩
    ·rw[e,h7]at hh;cases hh
    ·rw[e,h8]at hh;cases hh
  have hR3:RT w ((((W.setCell ⟨w.heap.size,0,none⟩ (.slice va n vc)).setCell ⟨w.heap.size+1,0,none⟩ (.int .i64 0)).setCell ⟨w.heap.size+1,1,none⟩ (.int .i64 0)).setCell ⟨w.heap.size+1,2,none⟩ (.int .i64 0)) 121 (.slice va n vc) ((fF bs).map (·.1)):=by
   refine ⟨hb3,cL hR.row (fun g hg=> ?_),hR.new⟩;have h1:=(hR.row.lt g hg).2;exact (m3.block g (by simpa using h1) (hrow g hg).2).trans (aO _ _ (show g≠(⟨w.heap.size,0,none⟩:Addr).block from (hrow g hg).1))
  have hRP:=BA (B:=w.heap.size) (aAa _) hR3 (grownBy_putObj' _ D (.deferred none)) (fun r e=>by cases e;exact ⟨by omega,_,hK2,rfl⟩);have k7P:=dO (B:=w.heap.size) k7' (grownBy_putObj' _ D (.deferred none)) (fun r e=>by cases e;exact ⟨by omega,_,hK2,rfl⟩);have k3P:=dO (B:=w.heap.size) k3 (grownBy_putObj' _ D (.deferred none)) (fun r e=>by cases e;exact ⟨by omega,_,hK2,rfl⟩)
  have HF:=hid (And.intro hK2 (And.intro hRP (And.intro k7P k3P)));have Hs:=hid hs;clear hs h7 hR h8 hz hK k8 k7 m3 k3 hKO hK2 k7' hb3 hrow hR3 hRP k7P k3P
  gi_wp2
  refine ⟨by simp,.inl ⟨_,_,rfl,run_takeDeferred HF.o.1,?_⟩⟩;refine ⟨_,mV rfl rfl HF.o.2.2.1 HF.o.2.2.2,?_⟩;rw[Hs.o];exact ⟨⟨_,rfl,HF.o.2.1⟩,HF.o.2.1.below⟩
 case stop=>
  clear hseq hN hI hnF hO;rintro D c pre W hD hpre ⟨rfl,h7,⟨p,x,rfl,hx,h8⟩,hb⟩ hK;obtain ⟨e,he,hxe⟩:=Bq (List.IsPrefix.subset hpre (List.mem_append_right _ (List.mem_singleton.2 rfl))) hx
  gi_wp2
  refine ⟨by simp,.inl ⟨_,_,rfl,run_takeDeferred hK,?_⟩⟩;have k7P:=dO (B:=w.heap.size) h7 (grownBy_putObj' _ D (.deferred none)) (fun r e=>by cases e;exact ⟨by omega,_,hK,rfl⟩);have k3P:=dO (B:=w.heap.size) h8 (grownBy_putObj' _ D (.deferred none)) (fun r e=>by cases e;exact ⟨by omega,_,hK,rfl⟩);refine ⟨_,mV rfl rfl k7P k3P,?_⟩;rw[he,hxe];exact ⟨rfl,hb.trans (belowK_b (w:=w) (aAa _) W D _ _ (by omega) hK rfl rfl)⟩
theorem nT {ns:List Nd} {d:Nat} {kind:Int} {key:ByteArray} {t:Tok} {e:Flt} (h:iX ns d kind key t= .error e):e.2≠0:=by
 unfold iX at h
 split at h
 ·cases h;exact (by decide:(92:Int)≠0)
 ·cases h
theorem xt {blk:Blk} (hb:∀k ns key e,blk k ns key= .error e->e.2≠0) {ts:List Tok} {d:Nat} {is:Bool} {t:Tok} {k:Nat} {ns:List Nd} {key:ByteArray} {e:Flt} (h:iy blk ts d is t k ns key= .error e):e.2≠0:=by
 unfold iy at h
 split at h
 ·exact hb _ _ _ _ h
 ·split at h
  ·rename_i e2 he;cases h;exact nT he
  ·cases h
theorem uJ {blk:Blk} (hb:∀k ns key e,blk k ns key= .error e->e.2≠0) {ts:List Tok} {d:Nat} {col:Int} {i:Nat} {e:Flt}:∀(f:Nat) (seen:List (List UInt8)) (k:Nat) (ns:List Nd),cU blk ts d col i f seen k ns= .error e->e.2≠0
 |0,_,_,_,h=>by unfold cU at h;cases h
 |f+1,seen,k,ns,h=>by
  unfold cU at h;simp only at h
  split at h
  ·split at h
   ·cases h;exact (by decide:(91:Int)≠0)
   ·split at h
    ·rename_i e2 he;cases h;exact xt hb he
    ·exact uJ hb f _ _ _ h
  ·cases h
theorem tX {blk:Blk} (hb:∀k ns key e,blk k ns key= .error e->e.2≠0) {ts:List Tok} {d:Nat} {col:Int} {i:Nat} {e:Flt}:∀(f:Nat) (k:Nat) (ns:List Nd),dg blk ts d col i f k ns= .error e->e.2≠0
 |0,_,_,h=>by unfold dg at h;cases h
 |f+1,k,ns,h=>by
  unfold dg at h;simp only at h
  split at h
  ·split at h
   ·rename_i e2 he;cases h;exact xt hb he
   ·exact tX hb f _ _ h
  ·cases h
theorem mH {ts:List Tok}:∀(d:Nat) (k:Nat) (ns:List Nd) (key:ByteArray) (e:Flt),bM ts d k ns key= .error e->e.2≠0
 |0,_,_,_,e,h=>by unfold bM at h;cases h;exact (by decide:(92:Int)≠0)
 |d+1,k,ns,key,e,h=>by
  unfold bM at h;simp only at h
  split at h
  ·split at h
   ·rename_i e2 he;cases h;exact nT he
   ·split at h
    ·rename_i e2 he;cases h;exact uJ (mH d) _ _ _ _ he
    ·cases h
  ·split at h
   ·split at h
    ·rename_i e2 he;cases h;exact nT he
    ·split at h
     ·rename_i e2 he;cases h;exact tX (mH d) _ _ _ he
     ·cases h
   ·split at h
    ·rename_i e2 he;cases h;exact nT he
    ·cases h
theorem Dx {ts:List Tok} {e:Flt} (h:jF ts= .error e):e.2≠0:=by
 unfold jF at h
 split at h
 ·rename_i e2 he
  cases h
  split at he
  ·split at he
   ·rename_i e3 he3;cases he;exact mH _ _ _ _ _ he3
   ·cases he
  ·cases he
 ·split at h
  ·cases h;exact (by decide:(90:Int)≠0)
  ·cases h
