/-
Parts of a proof.
-/
import Derived.StillTail
import Derived.Test.YtfenoaeoedobmaaGreatDoorOw27
set_option linter.unusedVariables false
set_option linter.unusedSimpArgs false
namespace Go.Proofs.YtfenoaeoedobmaaGreatDoor
open Go
section
variable {P:Program} {ops:Array Oper} {Q:Exit->Act->World->Prop} {md:Region.Mode} {S:World->Prop} {F:Nat->Bool}
def eY (P:Program) (md:Region.Mode) (ops:Array Oper) (Q:Exit->Act->World->Prop) (S:World->Prop) (F:Nat->Bool):Nat->Array Bool->Act->World->Prop
 |0,listed,a,w=>Region.ready md ops listed=[]/\Q .normal a w
 |fuel+1,listed,a,w=>
  (Region.ready md ops listed=[]->Q .normal a w)/\
  ∀i∈Region.ready md ops listed,wpOp P ops Q i (fun a' w'=>(F i=true->S w')/\eY P md ops Q S F fuel (listed.setIfInBounds i true) a' w') a w
theorem n9:∀(fuel:Nat) (listed:Array Bool) (a:Act) (w:World),eY P md ops Q S F fuel listed a w->wpAny P md ops Q fuel listed a w
 |0,_,_,_,h=>h
 |fuel+1,_,_,_,h=>⟨h.1,fun i hi=>wpOp_mono (fun a' w' h'=>n9 fuel _ a' w' h'.2) (h.2 i hi)⟩
def lI (md:Region.Mode) (ops:Array Oper) (listed:Array Bool):Bool:=
 (List.range ops.size).all fun j=> !listed.getD j false||match ops[j]? with|some oj=>oj.after.all fun e=> !Region.binds md e||listed.getD e.on false|none=>true
def sE (md:Region.Mode) (ops:Array Oper) (listed:Array Bool):Prop:=
 ∀(j:Nat) oj,ops[j]? =some oj->listed.getD j false=true->∀e∈oj.after,Region.binds md e=true->listed.getD e.on false=true
theorem sk {listed:Array Bool} (h:lI md ops listed=true):sE md ops listed:=fun j oj hj hl e he hb=>by
 unfold lI at h;rw[List.all_eq_true]at h;have h1:=h j (List.mem_range.2 (Array.getElem?_eq_some_iff.1 hj).1);simp only[hl,hj,Bool.not_true,Bool.false_or]at h1;have h2:=(Array.all_eq_true_iff_forall_mem.1 h1) e he
 simpa[hb] using h2
def kD (md:Region.Mode) (ops:Array Oper) (i:Nat):Nat->Nat->Bool
 |0,_=>false
 |n+1,j=>match ops[j]? with|some oj=>oj.after.any fun e=>Region.binds md e&&(e.on==i||kD md ops i n e.on)|none=>false
theorem lg {i:Nat} {listed:Array Bool} (hc:sE md ops listed):∀(n j:Nat) (oj:Oper),ops[j]? =some oj->(∀e∈oj.after,Region.binds md e=true->listed.getD e.on false=true)->kD md ops i n j=true->listed.getD i false=true
 |0,j,oj,_,_,h=>by cases h
 |n+1,j,oj,hj,hall,h=>by
  unfold kD at h;rw[hj]at h;obtain ⟨e,he,hb⟩:=Array.any_eq_true'.1 h;simp only[Bool.and_eq_true,Bool.or_eq_true,beq_iff_eq]at hb;have hl:=hall e he hb.1;rcases hb.2 with e2|e2
  ·rw[<-e2];exact hl
  ·cases ho:ops[e.on]? with
   |none=>cases n with
    |zero=>cases e2
    |succ n=>unfold kD at e2;rw[ho]at e2;cases e2
   |some o2=>exact lg hc n e.on o2 ho (fun e3 h3 h4=>hc e.on o2 ho hl e3 h3 h4) e2
theorem re {i:Nat} {oi:Oper} {v:Value} (hi:ops[i]? =some oi) (hsel:∀(j:Nat) (o:Oper) cs b,ops[j]? =some o->o.op≠ .select cs b)
 (hQ:∀c a w,Q (.panic c) (a.put oi.dst v) w->Q (.panic c) a w) (hF:∀j oj,ops[j]? =some oj->j≠i->F j=false->kD md ops i ops.size j=true):
 ∀(fuel:Nat) (listed:Array Bool) (a:Act) (w:World),sE md ops listed->listed.size=ops.size->
  (∀j oj,ops[j]? =some oj->j≠i->listed.getD j true=false->(∀e∈oj.after,Region.binds md e=true->e.on≠i)->oi.apart ops oj=true)->
  i∈Region.ready md ops listed->YieldsIf P ops S oi v a->S w->
  eY P md ops Q S F fuel (listed.setIfInBounds i true) (a.put oi.dst v) w->eY P md ops Q S F (fuel+1) listed a w:=by
 intro fuel
 induction fuel with
 |zero=>
  intro listed a w _ _ _ hr hy hS H;refine ⟨fun h=>(by rw[h]at hr;cases hr),fun j hj=> ?_⟩;by_cases hji:j=i
  ·subst hji;exact hy.wpOp hi hS ⟨fun _=>hS,H⟩
  ·have:=ready_mono hj hji;rw[H.1]at this;cases this
 |succ fuel ih=>
  intro listed a w hcl hsz hfree hr hy hS H;refine ⟨fun h=>(by rw[h]at hr;cases hr),fun j hj=> ?_⟩;by_cases hji:j=i
  ·subst hji;exact hy.wpOp hi hS ⟨fun _=>hS,H⟩
  ·have h1:=H.2 j (ready_mono hj hji);obtain ⟨hjun,oj,hoj,hall⟩:=mem_ready.1 hj;have hiun:listed.getD i false=false:=getD_both (mem_ready.1 hr).1;have hnot:∀e∈oj.after,Region.binds md e=true->e.on≠i:=fun e he hb heq=>by
    have h1:=hall e he hb;rw[heq,hiun]at h1;cases h1
   have hFj:F j=true:=by
    cases hf:F j with
    |true=>rfl
    |false=>
     have h2:=lg hcl _ j oj hoj (fun e he hb=>hall e he hb) (hF j oj hoj hji hf);rw[hiun]at h2;cases h2
   have h2:=wpOp_putIf hoj (hfree j oj hoj hji hjun hnot) (fun cs b=>hsel i oi cs b hi) (fun cs b=>hsel j oj cs b hoj) hQ hy h1;have hfree':∀k ok,ops[k]? =some ok->k≠i->(listed.setIfInBounds j true).getD k true=false->
    (∀e∈ok.after,Region.binds md e=true->e.on≠i)->oi.apart ops ok=true:=fun k ok hk hki hun hno=>by
    refine hfree k ok hk hki ?_ hno;by_cases hjk:j=k
    ·subst hjk;exact hjun
    ·rw[getD_set_ne true hjk]at hun;exact hun
   have hcl':sE md ops (listed.setIfInBounds j true):=fun k ok hk hl e he hb=>by
    by_cases hjk:j=k
    ·subst hjk;obtain rfl:=aAf (hk.symm.trans hoj);exact getD_set_true (hall e he hb)
    ·rw[getD_set_ne false hjk]at hl;exact getD_set_true (hcl k ok hk hl e he hb)
   refine wpOp_mono (fun a' w' h3=>⟨h3.2.1,ih (listed.setIfInBounds j true) a' w' hcl' (by simpa using hsz) hfree' (ready_mono hr (Ne.symm hji)) h3.1 (h3.2.1 hFj) ?_⟩) h2;rw[Array.setIfInBounds_comm _ _ hji];exact h3.2.2
def oe (md:Region.Mode) (ops:Array Oper) (F:Nat->Bool) (i:Nat):Bool:=
 (List.range ops.size).all fun j=>j==i||F j||kD md ops i ops.size j
theorem sJ {i:Nat} (h:oe md ops F i=true):∀j oj,ops[j]? =some oj->j≠i->F j=false->kD md ops i ops.size j=true:=fun j oj hj hji hF=>by
 unfold oe at h;rw[List.all_eq_true]at h;have h1:=h j (List.mem_range.2 (Array.getElem?_eq_some_iff.1 hj).1)
 simpa[hF,hji] using h1
theorem sG {i:Nat} {oi:Oper} {v:Value} {fuel:Nat} {listed:Array Bool} {a:Act} {w:World} (hi:ops[i]? =some oi)
 (hs:Region.noSelect ops=true) (hf:Region.free md ops listed i=true) (hr:(Region.ready md ops listed).contains i=true) (hF:(oe md ops F i&&lI md ops listed&&(listed.size==ops.size))=true)
 (hQ:∀c a w,Q (.panic c) (a.put oi.dst v) w->Q (.panic c) a w) (hy:YieldsIf P ops S oi v a) (hS:S w)
 (h:eY P md ops Q S F fuel (listed.setIfInBounds i true) (a.put oi.dst v) w):eY P md ops Q S F (fuel+1) listed a w:=by
 simp only[Bool.and_eq_true,beq_iff_eq]at hF;exact re hi (Region.noSelect_spec hs) hQ (sJ hF.1.1) fuel listed a w (sk hF.1.2) hF.2 (Region.free_spec hi hf) (by simpa using hr) hy hS h
theorem wK {i:Nat} {oi:Oper} {v:Value} {fuel:Nat} {listed:Array Bool} {a:Act} {w:World} (hi:ops[i]? =some oi)
 (hb:(Region.noSelect ops&&Region.free md ops listed i&&(Region.ready md ops listed).contains i&&(oe md ops F i&&lI md ops listed&&(listed.size==ops.size)))=true)
 (hQ:∀c a w,Q (.panic c) (a.put oi.dst v) w->Q (.panic c) a w) (hw:Region.wanted oi (yielded ops a.tmps)=true) (hy:∀w,S w->(execOp a.eval oi).run P w= .ok (.value v) w) (hS:S w)
 (h:eY P md ops Q S F fuel (listed.setIfInBounds i true) (a.put oi.dst v) w):eY P md ops Q S F (fuel+1) listed a w:=by
 simp only[Bool.and_eq_true]at hb;exact sG hi hb.1.1.1 hb.1.1.2 hb.1.2 (by simp only[Bool.and_eq_true];exact hb.2) hQ (Or.inl ⟨hw,hy⟩) hS h
theorem wL {i:Nat} {oi:Oper} {v:Value} {fuel:Nat} {listed:Array Bool} {a:Act} {w:World} (hi:ops[i]? =some oi) (hy:∀w,S w->(execOp a.eval oi).run P w= .ok (.value v) w) (hS:S w)
 (h:eY P md ops Q S F fuel (listed.setIfInBounds i true) (a.put oi.dst v) w)
 (hb:(Region.noSelect ops&&Region.free md ops listed i&&(Region.ready md ops listed).contains i&&(oe md ops F i&&lI md ops listed&&(listed.size==ops.size)))=true:=by kernel_rfl)
 (hQ:∀c a w,Q (.panic c) (a.put oi.dst v) w->Q (.panic c) a w:=by exact fun _ _ _ h=>h) (hw:Region.wanted oi (yielded ops a.tmps)=true:=by rfl):eY P md ops Q S F (fuel+1) listed a w:=
 wK hi hb hQ hw hy hS h
theorem aK {i:Nat} {o:Oper} {fuel:Nat} {listed:Array Bool} {a:Act} {w:World} (hr:Region.ready md ops listed=[i]) (ho:ops[i]? =some o)
 (h:∀K':Act->World->Prop,Shut (∀a w,(F i=true->S w)->eY P md ops Q S F fuel (listed.setIfInBounds i true) a w->K' a w)->if Region.wanted o (yielded ops a.tmps)=true then Oper.wp P o a w K' Q else K' (a.put o.dst undef) w):
 eY P md ops Q S F (fuel+1) listed a w:=by
 refine ⟨fun h0=>(by rw[hr]at h0;cases h0),fun j hj=> ?_⟩;rw[hr]at hj;obtain rfl:=List.mem_singleton.1 hj;exact wpOp_step ho (fun K' hK=>h K' (fun a w hS hW=>hK a w ⟨hS,hW⟩))
theorem dX {listed:Array Bool} {a:Act} {w:World} (hr:Region.ready md ops listed=[]) (h:Q .normal a w):
 ∀fuel,eY P md ops Q S F fuel listed a w
 |0=>⟨hr,h⟩
 |_+1=>⟨fun _=>h,by rw[hr];simp⟩
theorem dW {id:Nat} {a:Act} {w:World} (S:World->Prop) (F:Nat->Bool) (hm:P.follows .mixedOrders=true)
 (h:eY P .any ops Q S F ops.size (Array.replicate ops.size false) a w.drew):(Code.region id ops true).wp P Q a w:=
 wp_region_any hm (n9 _ _ _ _ h)
end
end Go.Proofs.YtfenoaeoedobmaaGreatDoor
namespace Go.Proofs.YtfenoaeoedobmaaGreatDoor
open Go Go.RowKit
theorem jU {id:Nat} {Q:Exit->Act->World->Prop} {a:Act} {w:World} (h:Q .normal a w):Exit.inBlock id Q (.exit id) a w:=by
 show (if id=id then Q .normal a w else _)
 rw[if_pos rfl];exact h
theorem CN (nd:Nd):kindN nd<=4:=by
 unfold kindN
 repeat' split
 all_goals omega
structure Elt (α:Type) where
 cells:α->List Value
 own:α->Nat->Prop
 P:World->Nat->α->Prop
 mod:∀{w w2:World} {lo:Nat} {x:α} {F:Nat->Prop},P w lo x->Mod F w w2->(∀g,own x g->¬F g)->P w2 lo x
 down:∀{w:World} {lo lo':Nat} {x:α},P w lo x->lo'<=lo->P w lo' x
 lt:∀{w:World} {lo:Nat} {x:α},P w lo x->∀g,own x g->lo<=g/\g<w.heap.size
structure RowO {α:Type} (E:Elt α) (w wr:World) (e:TypeId) (sz:Nat) (v:Value) (n:Nat) (xs:List α):Prop where
 row:RO w wr e sz v n (xs.flatMap E.cells)
 each:∀x∈xs,E.P wr w.heap.size x
 apart:∀x∈xs,∀g,E.own x g->v.ownBlock≠some g
theorem RowO.first {α:Type} {E:Elt α} {w w1:World} {e:TypeId} {sz:Nat} (hb:Below w.heap.size w w1):RowO E w w1 e sz (.slice none 0 0) 0 []:=⟨RO.start hb,nofun,nofun⟩
theorem RowO.later {α:Type} {E:Elt α} {w wr w2:World} {e:TypeId} {sz:Nat} {v:Value} {n:Nat} {xs:List α} (h:RowO E w wr e sz v n xs) (hb:Below wr.heap.size wr w2):RowO E w w2 e sz v n xs:=
 ⟨h.row.later hb,fun m hm=>E.mod (h.each m hm) (bh hb) (fun _ _ q=>q),h.apart⟩
theorem RowO.app {α:Type} {E:Elt α} {w wr w1 w2:World} {e:TypeId} {sz:Nat} {v v':Value} {n q:Nat} {xs:List α} {m:α} (h:RowO E w wr e sz v n xs) (hb1:Below wr.heap.size wr w1) (hm:E.P w1 wr.heap.size m) (own2:w2.ownsRow 0 e sz v' q (xs.flatMap E.cells++E.cells m)) (gr2:w1.grownBy w2 v.ownBlock)
 (new2:∀g,v'.ownBlock=some g->v.ownBlock=some g\/w1.heap.size<=g):RowO E w w2 e sz v' q (xs++[m]):=by
 have hr2:=RO.app h.row hb1 own2 gr2 new2;have h1:=h.later hb1;have hM:Mod (fun k=>v.ownBlock=some k) w1 w2:=(Mod.refl _ _).grown gr2 (fun k e _=>e);have hlo:=h.row.below.size;have hap:∀y∈xs++[m],(∀g,E.own y g->v.ownBlock≠some g)/\E.P w1 w.heap.size y:=by
  intro y hy;rcases List.mem_append.1 hy with hy|hy
  ·exact ⟨h.apart y hy,h1.each y hy⟩
  ·obtain rfl:=List.mem_singleton.1 hy;refine ⟨fun g hg e=> ?_,E.down hm hlo⟩;have h3:=(E.lt hm g hg).1;have h4:=(h.row.row.lt g e).2;omega
 refine ⟨?_,fun y hy=> ?_,fun y hy g hg e=> ?_⟩
 ·rw[List.flatMap_append,List.flatMap_singleton];exact hr2
 ·exact E.mod (hap y hy).2 hM (fun g hg q=>(hap y hy).1 g hg q)
 ·rcases new2 g e with q|q
  ·exact (hap y hy).1 g hg q
  ·have:=(E.lt (hap y hy).2 g hg).2;omega
structure NdP (w:World) (lo:Nat) (m:NdM):Prop where
 row:w.ownsRow 0 3 1 m.kv m.nd.kids.length (m.nd.kids.flatMap aP)
 fresh:∀g,m.kv.ownBlock=some g->lo<=g
 kind:I64 m.nd.kind
 line:I64 m.nd.line
 text:m.nd.text.size<=1048576
 key:m.nd.key.size<=1048576
 len:m.nd.kids.length<=1048576
def NdE:Elt NdM where
 cells:=NdM.cells
 own m g:=m.kv.ownBlock=some g
 P:=NdP
 mod h hm hF:=⟨aG h.row hm hF,h.fresh,h.kind,h.line,h.text,h.key,h.len⟩
 down h hl:=⟨h.row,fun g hg=>aAe hl (h.fresh g hg),h.kind,h.line,h.text,h.key,h.len⟩
 lt h g hg:=⟨h.fresh g hg,(h.row.lt g hg).2⟩
theorem NdP.ok {w:World} {lo:Nat} {m:NdM} (h:NdP w lo m):m.Ok w:=
 ⟨h.kind,h.line,h.key,h.text,SlR.ofRow h.row rfl (fun _=>rfl) h.len (by decide)⟩
structure DocP (w:World) (lo:Nat) (d:DocV):Prop where
 row:w.ownsRow 0 55 6 d.v d.ms.length (d.ms.flatMap NdM.cells)
 fresh:∀g,d.v.ownBlock=some g->lo<=g
 each:∀m∈d.ms,NdP w lo m
 len:d.ms.length<=1048576
def fx:Elt DocV where
 cells:=DocV.cells
 own d g:=d.v.ownBlock=some g\/∃m∈d.ms,m.kv.ownBlock=some g
 P:=DocP
 mod h hm hF:=⟨aG h.row hm (fun g hg=>hF g (.inl hg)),h.fresh,fun m hm'=>NdE.mod (h.each m hm') hm (fun g hg=>hF g (.inr ⟨m,hm',hg⟩)),h.len⟩
 down h hl:=⟨h.row,fun g hg=>aAe hl (h.fresh g hg),fun m hm=>NdE.down (h.each m hm) hl,h.len⟩
 lt h g hg:=by
  rcases hg with hg|⟨m,hm,hg⟩
  ·exact ⟨h.fresh g hg,(h.row.lt g hg).2⟩
  ·exact NdE.lt (h.each m hm) g hg
theorem DocP.nds {w:World} {lo:Nat} {d:DocV} (h:DocP w lo d):Nds w d.v d.ms:=
 ⟨SlR.ofRow h.row rfl (fun _=>rfl) h.len (by decide),fun m hm=>(h.each m hm).ok⟩
theorem RowO.docs {w wr:World} {v:Value} {n:Nat} {ds:List DocV} (h:RowO fx w wr 33 1 v n ds) (hn:n=ds.length) (hb:n<=1048576):DocsR wr v ds:=
 ⟨SlR.ofRow h.row.row hn (fun _=>rfl) hb (by decide),fun d hd=>(h.each d hd).nds⟩
theorem RowO.doc {w wr:World} {v:Value} {n:Nat} {ms:List NdM} (h:RowO NdE w wr 55 6 v n ms) (hn:n=ms.length) (hb:n<=1048576):DocP wr w.heap.size ⟨v,ms⟩:=
 ⟨by rw[<-hn];exact h.row.row,h.row.new,h.each,by rw[<-hn];exact hb⟩
end Go.Proofs.YtfenoaeoedobmaaGreatDoor
namespace Go.Proofs.YtfenoaeoedobmaaGreatDoor
open Go Go.RowKit
theorem row_set {w:World} {B:Nat} {e:TypeId} {sz:Nat} {v:Value} {n:Nat} {xs:List Value} (h:w.ownsRow B e sz v n xs) {g j:Nat} (hg:v.ownBlock=some g) (u:Value) (hj:j<n*sz):
 (w.setCell ⟨g,j,none⟩ u).ownsRow B e sz v n (xs.set j u):=by
 obtain ⟨hl,h⟩:=h;refine ⟨by rw[List.length_set];exact hl,?_⟩;rcases h with ⟨rfl,_⟩|⟨g',cap,cur,rfl,hb,hh,hc,hm,hs,ht⟩
 ·cases hg
 ·obtain rfl:g'=g:=by simpa[Value.ownBlock] using hg
  refine .inr ⟨g',cap,cur.setIfInBounds j u,rfl,hb,aE hh j u,hc,hm,by simpa using hs,?_⟩;rw[Array.toList_setIfInBounds,List.take_set,ht]
structure NRowM (M:Nat) (w0 w:World) (rb:Nat) (nv:Value) (ms:List NdM):Prop where
 row:w.ownsRow 0 55 6 nv ms.length (ms.flatMap NdM.cells)
 new:∀g,nv.ownBlock=some g->w0.heap.size<=g/\g≠rb
 each:∀m∈ms,NdP w w0.heap.size m
 kid:∀m∈ms,∀g,m.kv.ownBlock=some g->nv.ownBlock≠some g/\g≠rb
 pair:∀(i j:Nat) (m m':NdM) (g:Nat),ms[i]? =some m->ms[j]? =some m'->m.kv.ownBlock=some g->m'.kv.ownBlock=some g->i=j
 len:ms.length<=M
abbrev NRow:=NRowM 4096
variable {M:Nat}
def nOwn (nv:Value) (ms:List NdM) (g:Nat):Prop:=nv.ownBlock=some g\/∃m∈ms,m.kv.ownBlock=some g
theorem NRowM.first (w0 w:World) (rb:Nat):NRowM M w0 w rb (.slice none 0 0) []:=
 ⟨World.ownsRow_nil _ _ _ _,nofun,nofun,nofun,fun i j m m' g h=>by simp at h,Nat.zero_le _⟩
theorem NRowM.mod {w0 w w2:World} {rb:Nat} {nv:Value} {ms:List NdM} {F:Nat->Prop} (h:NRowM M w0 w rb nv ms) (hm:Mod F w w2) (hF:∀g,nOwn nv ms g->¬F g):NRowM M w0 w2 rb nv ms:=
 ⟨aG h.row hm (fun g hg=>hF g (.inl hg)),h.new,fun m hmm=>NdE.mod (h.each m hmm) hm (fun g hg=>hF g (.inr ⟨m,hmm,hg⟩)),h.kid,h.pair,h.len⟩
theorem NRowM.later {w0 w w2:World} {rb:Nat} {nv:Value} {ms:List NdM} (h:NRowM M w0 w rb nv ms) (hb:Below w.heap.size w w2):NRowM M w0 w2 rb nv ms:=
 h.mod (bh hb) (fun _ _ q=>q)
theorem NRowM.own_lt {w0 w:World} {rb:Nat} {nv:Value} {ms:List NdM} (h:NRowM M w0 w rb nv ms) {g:Nat} (hg:nOwn nv ms g):w0.heap.size<=g/\g<w.heap.size/\g≠rb:=by
 rcases hg with hg|⟨m,hm,hg⟩
 ·exact ⟨(h.new g hg).1,(h.row.lt g hg).2,(h.new g hg).2⟩
 ·have:=NdE.lt (h.each m hm) g hg;exact ⟨this.1,this.2,(h.kid m hm g hg).2⟩
theorem NRowM.form {w0 w:World} {rb:Nat} {nv:Value} {ms:List NdM} (h:NRowM M w0 w rb nv ms):∃ao c,nv= .slice ao ms.length c:=by
 rcases h.row.2 with ⟨hv,hn⟩|⟨g,cap,cur,hv,_⟩
 ·rw[hv,hn];exact ⟨none,0,rfl⟩
 ·exact ⟨_,_,hv⟩
theorem NRowM.app {w0 w w1 w2:World} {rb:Nat} {nv nv':Value} {ms:List NdM} {x:Nd} (h:NRowM M w0 w rb nv ms) (hw:w0.heap.size<=w.heap.size) (hb1:Below w.heap.size w w1) (hrb:rb<w.heap.size) (hx:x.kids=[]) (hk:I64 x.kind) (hl:I64 x.line) (ht:x.text.size<=1048576) (hke:x.key.size<=1048576) (hlen:ms.length<M)
 (own2:w2.ownsRow 0 55 6 nv' (ms.length+1) (ms.flatMap NdM.cells++NdM.cells ⟨x,.slice none 0 0⟩)) (gr2:w1.grownBy w2 nv.ownBlock) (new2:∀g,nv'.ownBlock=some g->nv.ownBlock=some g\/w1.heap.size<=g):
 NRowM M w0 w2 rb nv' (ms++[⟨x,.slice none 0 0⟩])/\∀g,nOwn nv' (ms++[⟨x,.slice none 0 0⟩]) g->nOwn nv ms g\/w1.heap.size<=g:=by
 have h1:=h.later hb1;have hM:Mod (fun k=>nv.ownBlock=some k) w1 w2:=(Mod.refl _ _).grown gr2 (fun k e _=>e);refine ⟨⟨?_,fun g hg=> ?_,fun m hm=> ?_,fun m hm g hg=> ?_,fun i j m m' g hi hj hgi hgj=> ?_,by rw[aAc];simp;omega⟩,fun g hg=> ?_⟩
 ·rw[List.flatMap_append,List.flatMap_singleton,aAc];exact own2
 ·rcases new2 g hg with q|q
  ·exact h.new g q
  ·have:=hb1.size;omega
 ·rcases List.mem_append.1 hm with hm|hm
  ·exact NdE.mod (h1.each m hm) hM (fun g hg q=>(h.kid m hm g hg).1 q)
  ·obtain rfl:=List.mem_singleton.1 hm;refine ⟨?_,nofun,hk,hl,ht,hke,by rw[hx];decide⟩
   show w2.ownsRow 0 _ 1 (.slice none 0 0) x.kids.length (x.kids.flatMap aP)
   rw[hx];exact World.ownsRow_nil _ _ _ _
 ·rcases List.mem_append.1 hm with hm|hm
  ·have hlt:=NdE.lt (h1.each m hm) g hg;refine ⟨fun e=> ?_,(h.kid m hm g hg).2⟩;rcases new2 g e with q|q
   ·exact (h.kid m hm g hg).1 q
   ·omega
  ·obtain rfl:=List.mem_singleton.1 hm;cases hg
 ·have hlast:∀(i:Nat) (m:NdM),(ms++[(⟨x,.slice none 0 0⟩:NdM)])[i]? =some m->m.kv.ownBlock=some g->ms[i]? =some m:=by
   intro i m hi hgi;rcases Nat.lt_or_ge i ms.length with hlt|hge
   ·rwa [List.getElem?_append_left hlt]at hi
   ·rw[List.getElem?_append_right hge]at hi;rcases Nat.eq_zero_or_pos (i-ms.length) with e|e
    ·rw[e]at hi;obtain rfl:=aAf hi;cases hgi
    ·rw[List.getElem?_eq_none (by simp;omega)]at hi;cases hi
  exact h.pair i j m m' g (hlast i m hi hgi) (hlast j m' hj hgj) hgi hgj
 ·rcases hg with hg|⟨m,hm,hg⟩
  ·rcases new2 g hg with q|q
   ·exact .inl (.inl q)
   ·exact .inr q
  ·rcases List.mem_append.1 hm with hm|hm
   ·exact .inl (.inr ⟨m,hm,hg⟩)
   ·obtain rfl:=List.mem_singleton.1 hm;cases hg
theorem NRowM.at {w0 w:World} {rb:Nat} {nv:Value} {ms:List NdM} (h:NRowM M w0 w rb nv ms) {i:Nat} {m:NdM} (hi:ms[i]? =some m):∃g c,nv= .slice (some ⟨g,0,none⟩) ms.length c/\nv.ownBlock=some g/\NdAt w g (i*6) m/\(∀j,w.frozen? ⟨g,j,none⟩=false):=by
 have hlt:=(aAh hi).1;rcases h.row.2 with ⟨_,hn⟩|⟨g,cap,cur,rfl,_,hh,_,_,_,_⟩
 ·omega
 ·refine ⟨g,cap,rfl,rfl,?_,fun j=>ai hh j⟩;have hc:∀k u,(NdM.cells m)[k]? =some u->k<6->w.cell? ⟨g,i*6+k,none⟩=some u:=fun k u hu hk=>by
   rw[h.row.cellAt _ (by omega)];exact gV (cells:=NdM.cells) (sz:=6) (fun _=>rfl) ms i m hi k u hu
  exact ⟨hc 0 _ rfl (by decide),hc 1 _ rfl (by decide),hc 2 _ rfl (by decide),hc 3 _ rfl (by decide),hc 4 _ rfl (by decide),hc 5 _ rfl (by decide)⟩
theorem flat_set {α:Type} {sz:Nat} {cells:α->List Value} (hl:∀x,(cells x).length=sz):∀(xs:List α) (i:Nat) (x y:α) (k:Nat) (u:Value),xs[i]? =some x->k<sz->cells y=(cells x).set k u->(xs.set i y).flatMap cells=(xs.flatMap cells).set (i*sz+k) u
 |[],i,x,y,k,u,h,_,_=>by simp at h
 |z::r,0,x,y,k,u,h,hk,hy=>by
  simp only[List.getElem?_cons_zero,Option.some.injEq]at h;subst h;rw[List.set_cons_zero,List.flatMap_cons,List.flatMap_cons,Nat.zero_mul,Nat.zero_add,hy,List.set_append_left _ _ (by rw[hl];exact hk)]
 |z::r,i+1,x,y,k,u,h,hk,hy=>by
  rw[List.getElem?_cons_succ]at h;rw[List.set_cons_succ,List.flatMap_cons,List.flatMap_cons,flat_set hl r i x y k u h hk hy,List.set_append_right _ _ (by rw[hl,Nat.add_mul];omega),hl];congr 2;rw[Nat.add_mul];omega
theorem nrow_put {w0 w:World} {rb:Nat} {nv:Value} {ms:List NdM} {i k g:Nat} {m m':NdM} {u:Value} (hrow:w.ownsRow 0 55 6 nv ms.length (ms.flatMap NdM.cells)) (hnew:∀g,nv.ownBlock=some g->w0.heap.size<=g/\g≠rb)
 (heach:∀(j:Nat) (x:NdM),j≠i->ms[j]? =some x->NdP w w0.heap.size x) (hkids:∀m∈ms,∀g,m.kv.ownBlock=some g->nv.ownBlock≠some g/\g≠rb)
 (hpair:∀(i j:Nat) (m m':NdM) (g:Nat),ms[i]? =some m->ms[j]? =some m'->m.kv.ownBlock=some g->m'.kv.ownBlock=some g->i=j) (hlen:ms.length<=M)
 (hi:ms[i]? =some m) (hg:nv.ownBlock=some g) (hk:k<6) (hc:NdM.cells m'=(NdM.cells m).set k u)
 (hP:NdP w w0.heap.size m') (hkid:∀b,m'.kv.ownBlock=some b->b≠g/\b≠rb/\∀(j:Nat) x,j≠i->ms[j]? =some x->x.kv.ownBlock≠some b):
 NRowM M w0 (w.setCell ⟨g,i*6+k,none⟩ u) rb nv (ms.set i m'):=by
 have hlt:=(aAh hi).1;have hM:Mod (fun b=>b=g) w (w.setCell ⟨g,i*6+k,none⟩ u):=(Mod.refl _ _).setCell _ _ (fun _=>rfl);have hmem:∀x∈ms.set i m',(x∈ms/\∃j,j≠i/\ms[j]? =some x)\/x=m':=by
  intro x hx;obtain ⟨j,hj,e⟩:=List.getElem_of_mem hx;by_cases hji:j=i
  ·subst hji;right;rw[<-e];simp
  ·left
   have e2:ms[j]? =some x:=by
    have e3:(ms.set i m')[j]? =some x:=by rw[aAg hj,e]
    rwa [List.getElem?_set_ne (Ne.symm hji)]at e3
   exact ⟨List.mem_of_getElem? e2,j,hji,e2⟩
 refine ⟨?_,hnew,fun x hx=> ?_,fun x hx b hb=> ?_,fun a b x y c ha hb hx hy=> ?_,by rw[List.length_set];exact hlen⟩
 ·rw[List.length_set,flat_set (cells:=NdM.cells) (sz:=6) (fun _=>rfl) ms i m m' k u hi hk hc];exact row_set hrow hg u (by omega)
 ·rcases hmem x hx with ⟨hx,j,hj,e⟩|rfl
  ·exact NdE.mod (heach j x hj e) hM (fun b hb e=>(hkids x hx b hb).1 (by rw[hg,e]))
  ·exact NdE.mod hP hM (fun b hb e=>(hkid b hb).1 e)
 ·rcases hmem x hx with ⟨hx,_⟩|rfl
  ·exact hkids x hx b hb
  ·exact ⟨fun e=>(hkid b hb).1 (by rw[hg]at e;exact (aAf e).symm),(hkid b hb).2.1⟩
 ·have hat:∀(j:Nat) (z:NdM),(ms.set i m')[j]? =some z->(j=i/\z=m')\/(j≠i/\ms[j]? =some z):=by
   intro j z hz;by_cases hji:j=i
   ·subst hji;rw[List.getElem?_set_self hlt]at hz;exact .inl ⟨rfl,(aAf hz).symm⟩
   ·rw[List.getElem?_set_ne (Ne.symm hji)]at hz;exact .inr ⟨hji,hz⟩
  rcases hat a x ha with ⟨rfl,rfl⟩|⟨hai,ha2⟩<;>rcases hat b y hb with ⟨rfl,rfl⟩|⟨hbi,hb2⟩
  ·rfl
  ·exact absurd hy ((hkid c hx).2.2 b y hbi hb2)
  ·exact absurd hx ((hkid c hy).2.2 a x hai ha2)
  ·exact hpair a b x y c ha2 hb2 hx hy
theorem NRowM.put {w0 w:World} {rb:Nat} {nv:Value} {ms:List NdM} {i k g:Nat} {m m':NdM} {u:Value} (h:NRowM M w0 w rb nv ms) (hi:ms[i]? =some m) (hg:nv.ownBlock=some g) (hk:k<6) (hc:NdM.cells m'=(NdM.cells m).set k u)
 (hP:NdP w w0.heap.size m') (hkid:m'.kv=m.kv):
 NRowM M w0 (w.setCell ⟨g,i*6+k,none⟩ u) rb nv (ms.set i m'):=
 nrow_put h.row h.new (fun j x _ hx=>h.each x (List.mem_of_getElem? hx)) h.kid h.pair h.len hi hg hk hc hP (fun b hb=>by
  rw[hkid]at hb;have hk2:=h.kid m (List.mem_of_getElem? hi) b hb;exact ⟨fun e=>hk2.1 (by rw[hg,e]),hk2.2,fun j x hj hx e=>hj (h.pair j i x m b hx hi e hb)⟩)
theorem NRowM.kids {w0 w1 w5:World} {rb:Nat} {nv:Value} {ms:List NdM} {i g:Nat} {m m':NdM} (h:NRowM M w0 w1 rb nv ms) (hw:w0.heap.size<=w1.heap.size) (hrb:rb<w1.heap.size) (hi:ms[i]? =some m) (hg:nv.ownBlock=some g) (hM:Mod (fun b=>m.kv.ownBlock=some b) w1 w5)
 (hc:NdM.cells m'=(NdM.cells m).set 5 m'.kv) (hP:NdP w5 w0.heap.size m') (hkid:∀b,m'.kv.ownBlock=some b->m.kv.ownBlock=some b\/w1.heap.size<=b):
 NRowM M w0 (w5.setCell ⟨g,i*6+5,none⟩ m'.kv) rb nv (ms.set i m'):=by
 have hmm:=List.mem_of_getElem? hi;have hgl:=(h.row.lt g hg).2;refine nrow_put (aG h.row hM (fun b hb e=>(h.kid m hmm b e).1 hb)) h.new (fun j x hj hx=>NdE.mod (h.each x (List.mem_of_getElem? hx)) hM (fun b hb e=>hj (h.pair j i x m b hx hi hb e))) h.kid h.pair h.len hi hg (by decide) hc hP (fun b hb=> ?_);rcases hkid b hb with q|q
 ·have hk2:=h.kid m hmm b q;exact ⟨fun e=>hk2.1 (by rw[hg,e]),hk2.2,fun j x hj hx e=>hj (h.pair j i x m b hx hi e q)⟩
 ·refine ⟨by omega,by omega,fun j x hj hx e=> ?_⟩;have:=(NdE.lt (h.each x (List.mem_of_getElem? hx)) b e).2;omega
theorem NRow.first (w0 w:World) (rb:Nat):NRow w0 w rb (.slice none 0 0) []:=NRowM.first w0 w rb
end Go.Proofs.YtfenoaeoedobmaaGreatDoor
namespace Go.Proofs.YtfenoaeoedobmaaGreatDoor
open Go Go.RowKit
def Eh:Tok:=⟨0,0,0,[],false⟩
def aq (ts:List Tok) (k:Nat):Tok:=ts[k]?.getD Eh
def hasB (t:Tok):Bool:=t.kind==2||t.kind==3||t.kind==4
abbrev Flt:=Int×Int
def iX (ns:List Nd) (d:Nat) (kind:Int) (key:ByteArray) (t:Tok):Except Flt (List Nd):=
 if d=0\/ns.length=4096 then .error (t.line,92) else .ok (ns++[⟨kind,key,⟨#[]⟩,false,t.line,[]⟩])
def dh (ns:List Nd) (i kid:Nat):List Nd:=match ns[i]? with|some x=>ns.set i {x with kids:=x.kids++[(kid:Int)]}|none=>ns
abbrev Blk:=Nat->List Nd->ByteArray->Except Flt (Nat×List Nd×Nat)
def iy (blk:Blk) (ts:List Tok) (d:Nat) (is:Bool) (t:Tok) (k:Nat) (ns:List Nd) (key:ByteArray):Except Flt (Nat×List Nd×Nat):=
 if (is&&hasB (aq ts k))=true then blk k ns key
 else match iX ns d 1 key t with
  | .error e=> .error e
  | .ok ns2=> .ok (k,ns2,ns.length)
def dC (n t:Tok):Bool:=(n.line==t.line&&n.kind==4)||(n.line != t.line&&(decide (t.col<n.col)||(n.kind==2&&n.col==t.col)))
def mn (n t:Tok):Bool:=n.line==t.line||decide (t.col<n.col)
def cU (blk:Blk) (ts:List Tok) (d:Nat) (col:Int) (i:Nat):Nat->List (List UInt8)->Nat->List Nd->Except Flt (Nat×List Nd)
 |0,_,k,ns=> .ok (k,ns)
 |f+1,seen,k,ns=>
  let t:=aq ts k
  if t.kind=3/\t.col=col then
   if t.text∈seen then .error (t.line,91)
   else match iy blk ts d (dC (aq ts (k+1)) t) t (k+1) ns ⟨t.text.toArray⟩ with
    | .error e=> .error e
    | .ok (k2,ns2,kid)=>cU blk ts d col i f (t.text::seen) k2 (dh ns2 i kid)
  else .ok (k,ns)
def dg (blk:Blk) (ts:List Tok) (d:Nat) (col:Int) (i:Nat):Nat->Nat->List Nd->Except Flt (Nat×List Nd)
 |0,k,ns=> .ok (k,ns)
 |f+1,k,ns=>
  let t:=aq ts k
  if t.kind=2/\t.col=col then
   match iy blk ts d (mn (aq ts (k+1)) t) t (k+1) ns ⟨#[]⟩ with
    | .error e=> .error e
    | .ok (k2,ns2,kid)=>dg blk ts d col i f k2 (dh ns2 i kid)
  else .ok (k,ns)
def bM (ts:List Tok):Nat->Blk
 |0,k,ns,key=> .error ((aq ts k).line,92)
 |d+1,k,ns,key=>
  let t:=aq ts k
  if t.kind=3 then match iX ns (d+1) 2 key t with
   | .error e=> .error e
   | .ok ns1=>match cU (bM ts d) ts d t.col ns.length (ts.length-k) [] k ns1 with
    | .error e=> .error e
    | .ok (k2,ns2)=> .ok (k2,ns2,ns.length)
  else if t.kind=2 then match iX ns (d+1) 3 key t with
   | .error e=> .error e
   | .ok ns1=>match dg (bM ts d) ts d t.col ns.length (ts.length-k) k ns1 with
    | .error e=> .error e
    | .ok (k2,ns2)=> .ok (k2,ns2,ns.length)
  else match iX ns (d+1) 1 key t with
   | .error e=> .error e
   | .ok _=> .ok (k+1,ns++[⟨1,key,⟨t.text.toArray⟩,t.quoted,t.line,[]⟩],ns.length)
def jF (ts:List Tok):Except Flt (List Nd):=
 match (if hasB (aq ts 0)=true then (match bM ts 16 0 [] ⟨#[]⟩ with| .error e=> .error e| .ok (k,ns,_)=> .ok (k,ns)) else .ok (0,[]):Except Flt (Nat×List Nd)) with
 | .error e=> .error e
 | .ok (k,ns)=>if k<ts.length then .error ((aq ts k).line,90) else .ok ns
def docN:List Tok->Nat
 |[]=>0
 |t::r=>if t.kind=1 then 0 else docN r+1
def ofL:Nat->List Tok->Nat->Except (Nat×Flt) (List (List Nd))
 |0,_,_=> .ok []
 |f+1,ts,k=>
  if ts=[] then .ok []
  else if docN ts=0 then ofL f (ts.drop 1) k
  else match jF (ts.take (docN ts)) with
   | .error e=> .error (k,e)
   | .ok ns=>match ofL f (ts.drop (docN ts+1)) (k+1) with
    | .error e=> .error e
    | .ok l=> .ok (ns::l)
theorem sh:∀ts:List Tok,docN ts<=ts.length
 |[]=>aAa _
 |t::r=>by
  unfold docN
  split
  ·omega
  ·have:=sh r;rw[aAd];omega
def vh (ts:List Tok) (blk:Blk):Prop:=∀k ns key k2 ns2 i,blk k ns key= .ok (k2,ns2,i)->k<ts.length->k<k2/\k2<=ts.length
theorem gB {ts:List Tok} {k:Nat} (h:ts.length<=k):aq ts k=Eh:=by
 unfold aq;rw[List.getElem?_eq_none h];rfl
theorem Cm {ts:List Tok} {k:Nat} {t:Tok} (h:ts[k]? =some t):aq ts k=t:=by
 unfold aq;rw[h];rfl
theorem eO {ts:List Tok} {k:Nat} (h:(aq ts k).kind≠0):k<ts.length:=by
 rcases Nat.lt_or_ge k ts.length with q|q
 ·exact q
 ·rw[gB q]at h;exact absurd rfl h
theorem C4 {ts:List Tok} {k:Nat} (h:hasB (aq ts k)=true):k<ts.length:=eO (fun e=>by
 unfold hasB at h;rw[e]at h;cases h)
theorem gy {ts:List Tok} {blk:Blk} (hb:vh ts blk) {d:Nat} {is:Bool} {t:Tok} {k:Nat} {ns:List Nd} {key:ByteArray} {k2:Nat} {ns2:List Nd} {i:Nat} (h:iy blk ts d is t k ns key= .ok (k2,ns2,i)) (hk:k<=ts.length):k<=k2/\k2<=ts.length:=by
 unfold iy at h
 split at h
 ·rename_i hh
  simp only[Bool.and_eq_true]at hh;have:=hb _ _ _ _ _ _ h (C4 hh.2);omega
 ·split at h
  ·cases h
  ·injection h with h
   injection h with h1 h2
   omega
theorem po {ts:List Tok} {blk:Blk} (hb:vh ts blk) {d:Nat} {col:Int} {i:Nat}:∀(f:Nat) (seen:List (List UInt8)) (k:Nat) (ns:List Nd) (k2:Nat) (ns2:List Nd),cU blk ts d col i f seen k ns= .ok (k2,ns2)->k<=ts.length->k<=k2/\k2<=ts.length/\((aq ts k).kind=3/\(aq ts k).col=col->0<f->k<k2)
 |0,seen,k,ns,k2,ns2,h,hk=>by
  unfold cU at h;injection h with h
  injection h with h1 h2
  exact ⟨by omega,by omega,fun _ h=>absurd h (by omega)⟩
 |f+1,seen,k,ns,k2,ns2,h,hk=>by
  unfold cU at h;simp only at h
  split at h
  ·rename_i hc
   split at h
   ·cases h
   ·have hkl:=eO (ts:=ts) (k:=k) (by rw[hc.1];decide)
    split at h
    ·cases h
    ·rename_i k3 ns3 kid hv
     have h1:=gy hb hv (by omega);have h2:=po hb f _ _ _ _ _ h h1.2;exact ⟨by omega,h2.2.1,fun _ _=>by omega⟩
  ·rename_i hc
   injection h with h
   injection h with h1 h2
   exact ⟨by omega,by omega,fun q _=>absurd q hc⟩
theorem oS {ts:List Tok} {blk:Blk} (hb:vh ts blk) {d:Nat} {col:Int} {i:Nat}:∀(f:Nat) (k:Nat) (ns:List Nd) (k2:Nat) (ns2:List Nd),dg blk ts d col i f k ns= .ok (k2,ns2)->k<=ts.length->k<=k2/\k2<=ts.length/\((aq ts k).kind=2/\(aq ts k).col=col->0<f->k<k2)
 |0,k,ns,k2,ns2,h,hk=>by
  unfold dg at h;injection h with h
  injection h with h1 h2
  exact ⟨by omega,by omega,fun _ h=>absurd h (by omega)⟩
 |f+1,k,ns,k2,ns2,h,hk=>by
  unfold dg at h;simp only at h
  split at h
  ·rename_i hc
   have hkl:=eO (ts:=ts) (k:=k) (by rw[hc.1];decide)
   split at h
   ·cases h
   ·rename_i k3 ns3 kid hv
    have h1:=gy hb hv (by omega);have h2:=oS hb f _ _ _ _ h h1.2;exact ⟨by omega,h2.2.1,fun _ _=>by omega⟩
  ·rename_i hc
   injection h with h
   injection h with h1 h2
   exact ⟨by omega,by omega,fun q _=>absurd q hc⟩
theorem jI (ts:List Tok):∀d,vh ts (bM ts d)
 |0=>fun k ns key k2 ns2 i h _=>by unfold bM at h;cases h
 |d+1=>fun k ns key k2 ns2 i h hk=>by
  have ih:=jI ts d;unfold bM at h;simp only at h
  split at h
  ·rename_i hc
   split at h
   ·cases h
   ·split at h
    ·cases h
    ·rename_i k3 ns3 hd
     injection h with h
     injection h with h1 h2
     have:=po ih _ _ _ _ _ _ hd (by omega);have h3:=this.2.2 ⟨hc,rfl⟩ (by omega);omega
  ·split at h
   ·rename_i hc
    split at h
    ·cases h
    ·split at h
     ·cases h
     ·rename_i k3 ns3 hd
      injection h with h
      injection h with h1 h2
      have:=oS ih _ _ _ _ _ hd (by omega);have h3:=this.2.2 ⟨hc,rfl⟩ (by omega);omega
   ·split at h
    ·cases h
    ·injection h with h
     injection h with h1 h2
     omega
theorem pq {ts:List Tok} {blk:Blk} (hb:vh ts blk) {d:Nat} {col:Int} {i:Nat}:∀(f g:Nat) (seen:List (List UInt8)) (k:Nat) (ns:List Nd),ts.length<=f+k->ts.length<=g+k->k<=ts.length->cU blk ts d col i f seen k ns=cU blk ts d col i g seen k ns
 |0,0,_,_,_,_,_,_=>rfl
 |0,g+1,seen,k,ns,hf,_,hk=>by
  unfold cU;rw[if_neg (fun h=>by rw[gB (by omega)]at h;exact absurd h.1 (by decide))]
 |f+1,0,seen,k,ns,_,hg,hk=>by
  unfold cU;rw[if_neg (fun h=>by rw[gB (by omega)]at h;exact absurd h.1 (by decide))]
 |f+1,g+1,seen,k,ns,hf,hg,hk=>by
  unfold cU;simp only
  split
  ·rename_i hc
   split
   ·rfl
   ·have hkl:=eO (ts:=ts) (k:=k) (by rw[hc.1];decide)
    split
    ·rename_i e hv
     rfl
    ·rename_i k3 ns3 kid hv
     have h1:=gy hb hv (by omega);exact pq hb f g _ _ _ (by omega) (by omega) h1.2
  ·rfl
theorem oT {ts:List Tok} {blk:Blk} (hb:vh ts blk) {d:Nat} {col:Int} {i:Nat}:∀(f g:Nat) (k:Nat) (ns:List Nd),ts.length<=f+k->ts.length<=g+k->k<=ts.length->dg blk ts d col i f k ns=dg blk ts d col i g k ns
 |0,0,_,_,_,_,_=>rfl
 |0,g+1,k,ns,hf,_,hk=>by
  unfold dg;rw[if_neg (fun h=>by rw[gB (by omega)]at h;exact absurd h.1 (by decide))]
 |f+1,0,k,ns,_,hg,hk=>by
  unfold dg;rw[if_neg (fun h=>by rw[gB (by omega)]at h;exact absurd h.1 (by decide))]
 |f+1,g+1,k,ns,hf,hg,hk=>by
  unfold dg;simp only
  split
  ·rename_i hc
   have hkl:=eO (ts:=ts) (k:=k) (by rw[hc.1];decide)
   split
   ·rename_i e hv
    rfl
   ·rename_i k3 ns3 kid hv
    have h1:=gy hb hv (by omega);exact oT hb f g _ _ (by omega) (by omega) h1.2
  ·rfl
theorem nz {P:Program} {w:World} (base:Nat) (t ty e:TypeId) (i:TypeInfo) (size:Nat) (ht:P.underlying t=some (.slice e)) (hi:P.info? e=some i)
 (v:Value) (n:Nat) (xs:List Value) (c:Nat) (hown:w.ownsRow base e size v n xs):
 (Builtin.append_ #[t,t] ty #[v,.slice none 0 c]).run P w= .ok v w:=by
 rcases hown.2 with ⟨rfl,rfl⟩|⟨g,cap,cur,rfl,_,_,hnc,_⟩
 ·simp[Builtin.append_,run_underlying ht,sizeOf,typeInfo,hi,Builtin.lenOf,Builtin.firstCells]
 ·simp[Builtin.append_,run_underlying ht,sizeOf,typeInfo,hi,Builtin.lenOf,Builtin.firstCells,hnc,storeCells]
theorem kx:(Tryz.prog.info? 33).map (fun i=>(i.zero,i.size,i.bytes))=some (some (.slice none 0 0),1,24):=by kernel_rfl
theorem CW (ks:List Int):∀u∈ks.flatMap aP,u.oneCell'=true:=by
 intro u hu;obtain ⟨x,_,hx⟩:=List.mem_flatMap.1 hu;unfold aP at hx;rw[List.mem_singleton]at hx;subst hx;rfl
theorem wQ {w:World} {ops:Array Oper} {rest:List Oper} {o:Oper} {a:Act} {Q:Exit->Act->World->Prop} (hgd:o.guard=none) (s x:Operand)
 (ho:o.op= .call {callee:= .builtin .append,args:=#[s,x],argTypes:=#[53,53]})
 (v:Value) (hs:a.eval s=v) (hown:w.ownsRow 0 3 1 v 0 []) (ao:Option Addr) (m c:Nat) (ks:List Int) (hx:a.eval x= .slice ao m c) (hsl:SlR w (.slice ao m c) 1 ks aP)
 (h:∀ao' c' w',w'.ownsRow 0 3 1 (.slice ao' m c') m (ks.flatMap aP)->w.grownBy w' v.ownBlock->(∀g,(Value.slice ao' m c').ownBlock=some g->v.ownBlock=some g\/w.heap.size<=g)->
  wpList Tryz.prog ops Q rest (a.put o.dst (.slice ao' m c')) w'):wpList Tryz.prog ops Q (o::rest) a w:=by
 obtain ⟨ao1,c1,hv,hl,hat⟩:=aF hsl;injection hv with e1 e2 e3
 subst e1;subst e2;subst e3;cases ao with
 |none=>
  have h0:ks=[]:=by
   refine List.eq_nil_of_length_eq_zero ?_;rcases Nat.eq_zero_or_pos ks.length with q|q
   ·exact q
   ·obtain ⟨b,o,e,_⟩:=hat q;cases e
  subst h0;have hf:∃ao' c',v= .slice ao' 0 c':=by
   rcases hown.2 with ⟨hv,_⟩|⟨g,cap,cur,hv,_⟩
   ·exact ⟨none,0,hv⟩
   ·exact ⟨_,_,hv⟩
  obtain ⟨ao',c',rfl⟩:=hf;obtain ⟨i,hi,hz,hsize,hby⟩:=info_parts gR;refine wpList_plain hgd fun K hK=> ?_;have hr:=nz (P:= Tryz.prog) (w:=w) 0 53 o.type 3 i 1 Tryz.underlying53 hi _ 0 [] c hown;unfold Oper.wp execOp;simp only[ho,resolve,invoke,builtin,Sem.run_bind,Sem.run_pure,Result.andThen_ok,List.map_toArray,List.map_cons,List.map_nil,hs,hx,List.length_nil,hr]
  exact hK _ _ (h _ _ w hown ⟨rfl,rfl,rfl,aAa _,fun _ _ _=>rfl⟩ fun g hg=> .inl hg)
 |some ad=>
  refine dH hgd s x 53 ho 3 (.int .i64 0) 1 8 Tryz.underlying53 gR rfl (by decide) v 0 [] hs hown (some ad) ks.length c (ks.flatMap aP) hx (flat_len (sz:=1) (cells:=aP) (fun _=>rfl) ks) nofun (fun ad' had j u hj=> ?_) (CW ks) (by unfold maxLen;omega) (by omega) ks.length (by omega) h;obtain rfl:=aAf had;have hj2:=(aAh hj).1
  rw[flat_len (sz:=1) (cells:=aP) (fun _=>rfl) ks,Nat.mul_one]at hj2;obtain ⟨y,hy⟩:=au hj2;obtain ⟨b,o,e,_,hc⟩:=hat (by omega);obtain rfl:=aAf e;have h3:=gV (sz:=1) (cells:=aP) (fun _=>rfl) ks j y hy 0 (.int .i64 y) rfl;rw[Nat.mul_one,Nat.add_zero]at h3;rw[h3]at hj;obtain rfl:=aAf hj;have e2:Addr.add ⟨b,o,none⟩ j=⟨b,o+j,none⟩:=by simp[Addr.add]
  rw[e2];exact hc j y hy
