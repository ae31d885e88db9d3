/-
Parts of a proof.
-/
import Derived.StillTail
import Derived.Test.YtfenoaeoedobmaaGreatDoorOn32
set_option linter.unusedVariables false
set_option linter.unusedSimpArgs false
set_option maxHeartbeats 4000000
set_option maxRecDepth 20000
namespace Go.Proofs.YtfenoaeoedobmaaGreatDoor
open Go
section
variable {P:Program} {ops:Array Oper} {Q:Exit->Act->World->Prop} {md:Region.Mode} {S:World->Prop} {F:Nat->Bool}
def gR (P:Program) (md:Region.Mode) (ops:Array Oper) (Q:Exit->Act->World->Prop) (S:World->Prop) (F:Nat->Bool):Nat->Array Bool->Act->World->Prop
 |0,listed,a,w=>Region.ready md ops listed=[]/\Q .normal a w
 |fuel+1,listed,a,w=>
  (Region.ready md ops listed=[]->Q .normal a w)/\
  ∀i∈Region.ready md ops listed,wpOp P ops Q i (fun a' w'=>(F i=true->S w')/\gR P md ops Q S F fuel (listed.setIfInBounds i true) a' w') a w
theorem vC:∀(fuel:Nat) (listed:Array Bool) (a:Act) (w:World),gR P md ops Q S F fuel listed a w->wpAny P md ops Q fuel listed a w
 |0,_,_,_,h=>h
 |fuel+1,_,_,_,h=>⟨h.1,fun i hi=>wpOp_mono (fun a' w' h'=>vC fuel _ a' w' h'.2) (h.2 i hi)⟩
def rk (md:Region.Mode) (ops:Array Oper) (listed:Array Bool):Bool:=
 (List.range ops.size).all fun j=> !listed.getD j false||match ops[j]? with|some oj=>oj.after.all fun e=> !Region.binds md e||listed.getD e.on false|none=>true
def Bz (md:Region.Mode) (ops:Array Oper) (listed:Array Bool):Prop:=
 ∀(j:Nat) oj,ops[j]? =some oj->listed.getD j false=true->∀e∈oj.after,Region.binds md e=true->listed.getD e.on false=true
theorem Bj {listed:Array Bool} (h:rk md ops listed=true):Bz md ops listed:=fun j oj hj hl e he hb=>by
 unfold rk at h;rw[List.all_eq_true]at h;have h1:=h j (List.mem_range.2 (Array.getElem?_eq_some_iff.1 hj).1);simp only[hl,hj,Bool.not_true,Bool.false_or]at h1;have h2:=(Array.all_eq_true_iff_forall_mem.1 h1) e he
 simpa[hb] using h2
def py (md:Region.Mode) (ops:Array Oper) (i:Nat):Nat->Nat->Bool
 |0,_=>false
 |n+1,j=>match ops[j]? with|some oj=>oj.after.any fun e=>Region.binds md e&&(e.on==i||py md ops i n e.on)|none=>false
theorem qp {i:Nat} {listed:Array Bool} (hc:Bz md ops listed):∀(n j:Nat) (oj:Oper),ops[j]? =some oj->(∀e∈oj.after,Region.binds md e=true->listed.getD e.on false=true)->py md ops i n j=true->listed.getD i false=true
 |0,j,oj,_,_,h=>by cases h
 |n+1,j,oj,hj,hall,h=>by
  unfold py at h;rw[hj]at h;obtain ⟨e,he,hb⟩:=Array.any_eq_true'.1 h;simp only[Bool.and_eq_true,Bool.or_eq_true,beq_iff_eq]at hb;have hl:=hall e he hb.1;rcases hb.2 with e2|e2
  ·rw[<-e2];exact hl
  ·cases ho:ops[e.on]? with
   |none=>cases n with
    |zero=>cases e2
    |succ n=>unfold py at e2;rw[ho]at e2;cases e2
   |some o2=>exact qp hc n e.on o2 ho (fun e3 h3 h4=>hc e.on o2 ho hl e3 h3 h4) e2
theorem zR {i:Nat} {oi:Oper} {v:Value} (hi:ops[i]? =some oi) (Zt:∀(j:Nat) (o:Oper) cs b,ops[j]? =some o->o.op≠ .select cs b)
 (hQ:∀c a w,Q (.panic c) (a.put oi.dst v) w->Q (.panic c) a w) (hF:∀j oj,ops[j]? =some oj->j≠i->F j=false->py md ops i ops.size j=true):
 ∀(fuel:Nat) (listed:Array Bool) (a:Act) (w:World),Bz md ops listed->listed.size=ops.size->
  (∀j oj,ops[j]? =some oj->j≠i->listed.getD j true=false->(∀e∈oj.after,Region.binds md e=true->e.on≠i)->oi.apart ops oj=true)->
  i∈Region.ready md ops listed->YieldsIf P ops S oi v a->S w->
  gR P md ops Q S F fuel (listed.setIfInBounds i true) (a.put oi.dst v) w->gR P md ops Q S F (fuel+1) listed a w:=by
 intro fuel
 induction fuel with
 |zero=>
  intro listed a w _ _ _ hr hy hS H;refine ⟨fun h=>(by rw[h]at hr;cases hr),fun j hj=> ?_⟩;by_cases pH:j=i
  ·subst pH;exact hy.wpOp hi hS ⟨fun _=>hS,H⟩
  ·have:=ready_mono hj pH;rw[H.1]at this;cases this
 |succ fuel ih=>
  intro listed a w kr gQ T7 hr hy hS H;refine ⟨fun h=>(by rw[h]at hr;cases hr),fun j hj=> ?_⟩;by_cases pH:j=i
  ·subst pH;exact hy.wpOp hi hS ⟨fun _=>hS,H⟩
  ·have h1:=H.2 j (ready_mono hj pH);obtain ⟨ZQ,oj,X8,hall⟩:=mem_ready.1 hj;have ZS:listed.getD i false=false:=getD_both (mem_ready.1 hr).1;have hnot:∀e∈oj.after,Region.binds md e=true->e.on≠i:=fun e he hb heq=>by
    have h1:=hall e he hb;rw[heq,ZS]at h1;cases h1
   have hFj:F j=true:=by
    cases hf:F j with
    |true=>rfl
    |false=>
     have h2:=qp kr _ j oj X8 (fun e he hb=>hall e he hb) (hF j oj X8 pH hf);rw[ZS]at h2;cases h2
   have h2:=wpOp_putIf X8 (T7 j oj X8 pH ZQ hnot) (fun cs b=>Zt i oi cs b hi) (fun cs b=>Zt j oj cs b X8) hQ hy h1;have Wu:∀k ok,ops[k]? =some ok->k≠i->(listed.setIfInBounds j true).getD k true=false->
    (∀e∈ok.after,Region.binds md e=true->e.on≠i)->oi.apart ops ok=true:=fun k ok hk hki hun lG=>by
    refine T7 k ok hk hki ?_ lG;by_cases Sz:j=k
    ·subst Sz;exact ZQ
    ·rw[getD_set_ne true Sz]at hun;exact hun
   have hcl':Bz md ops (listed.setIfInBounds j true):=fun k ok hk hl e he hb=>by
    by_cases Sz:j=k
    ·subst Sz;obtain rfl:=aBm (hk.symm.trans X8);exact getD_set_true (hall e he hb)
    ·rw[getD_set_ne false Sz]at hl;exact getD_set_true (kr k ok hk hl e he hb)
   refine wpOp_mono (fun a' w' h3=>⟨h3.2.1,ih (listed.setIfInBounds j true) a' w' hcl' (by simpa using gQ) Wu (ready_mono hr (Ne.symm pH)) h3.1 (h3.2.1 hFj) ?_⟩) h2;rw[Array.setIfInBounds_comm _ _ pH];exact h3.2.2
def vF (md:Region.Mode) (ops:Array Oper) (F:Nat->Bool) (i:Nat):Bool:=
 (List.range ops.size).all fun j=>j==i||F j||py md ops i ops.size j
theorem BO {i:Nat} (h:vF md ops F i=true):∀j oj,ops[j]? =some oj->j≠i->F j=false->py md ops i ops.size j=true:=fun j oj hj pH hF=>by
 unfold vF at h;rw[List.all_eq_true]at h;have h1:=h j (List.mem_range.2 (Array.getElem?_eq_some_iff.1 hj).1)
 simpa[hF,pH] using h1
theorem BK {i:Nat} {oi:Oper} {v:Value} {fuel:Nat} {listed:Array Bool} {a:Act} {w:World} (hi:ops[i]? =some oi)
 (hs:Region.noSelect ops=true) (hf:Region.free md ops listed i=true) (hr:(Region.ready md ops listed).contains i=true) (hF:(vF md ops F i&&rk md ops listed&&(listed.size==ops.size))=true)
 (hQ:∀c a w,Q (.panic c) (a.put oi.dst v) w->Q (.panic c) a w) (hy:YieldsIf P ops S oi v a) (hS:S w)
 (h:gR P md ops Q S F fuel (listed.setIfInBounds i true) (a.put oi.dst v) w):gR P md ops Q S F (fuel+1) listed a w:=by
 simp only[Bool.and_eq_true,beq_iff_eq]at hF;exact zR hi (Region.noSelect_spec hs) hQ (BO hF.1.1) fuel listed a w (Bj hF.1.2) hF.2 (Region.free_spec hi hf) (by simpa using hr) hy hS h
theorem wK {i:Nat} {oi:Oper} {v:Value} {fuel:Nat} {listed:Array Bool} {a:Act} {w:World} (hi:ops[i]? =some oi)
 (hb:(Region.noSelect ops&&Region.free md ops listed i&&(Region.ready md ops listed).contains i&&(vF md ops F i&&rk md ops listed&&(listed.size==ops.size)))=true)
 (hQ:∀c a w,Q (.panic c) (a.put oi.dst v) w->Q (.panic c) a w) (hw:Region.wanted oi (yielded ops a.tmps)=true) (hy:∀w,S w->(execOp a.eval oi).run P w= .ok (.value v) w) (hS:S w)
 (h:gR P md ops Q S F fuel (listed.setIfInBounds i true) (a.put oi.dst v) w):gR P md ops Q S F (fuel+1) listed a w:=by
 simp only[Bool.and_eq_true]at hb;exact BK hi hb.1.1.1 hb.1.1.2 hb.1.2 (by simp only[Bool.and_eq_true];exact hb.2) hQ (Or.inl ⟨hw,hy⟩) hS h
theorem wL {i:Nat} {oi:Oper} {v:Value} {fuel:Nat} {listed:Array Bool} {a:Act} {w:World} (hi:ops[i]? =some oi) (hy:∀w,S w->(execOp a.eval oi).run P w= .ok (.value v) w) (hS:S w)
 (h:gR P md ops Q S F fuel (listed.setIfInBounds i true) (a.put oi.dst v) w)
 (hb:(Region.noSelect ops&&Region.free md ops listed i&&(Region.ready md ops listed).contains i&&(vF md ops F i&&rk md ops listed&&(listed.size==ops.size)))=true:=by kernel_rfl)
 (hQ:∀c a w,Q (.panic c) (a.put oi.dst v) w->Q (.panic c) a w:=by exact fun _ _ _ h=>h) (hw:Region.wanted oi (yielded ops a.tmps)=true:=by rfl):gR P md ops Q S F (fuel+1) listed a w:=
 wK hi hb hQ hw hy hS h
theorem aM {i:Nat} {o:Oper} {fuel:Nat} {listed:Array Bool} {a:Act} {w:World} (hr:Region.ready md ops listed=[i]) (ho:ops[i]? =some o)
 (h:∀K':Act->World->Prop,Shut (∀a w,(F i=true->S w)->gR P md ops Q S F fuel (listed.setIfInBounds i true) a w->K' a w)->if Region.wanted o (yielded ops a.tmps)=true then Oper.wp P o a w K' Q else K' (a.put o.dst undef) w):
 gR P md ops Q S F (fuel+1) listed a w:=by
 refine ⟨fun h0=>(by rw[hr]at h0;cases h0),fun j hj=> ?_⟩;rw[hr]at hj;obtain rfl:=List.mem_singleton.1 hj;exact wpOp_step ho (fun K' hK=>h K' (fun a w hS hW=>hK a w ⟨hS,hW⟩))
theorem fG {listed:Array Bool} {a:Act} {w:World} (hr:Region.ready md ops listed=[]) (h:Q .normal a w):
 ∀fuel,gR P md ops Q S F fuel listed a w
 |0=>⟨hr,h⟩
 |_+1=>⟨fun _=>h,by rw[hr];simp⟩
theorem fF {id:Nat} {a:Act} {w:World} (S:World->Prop) (F:Nat->Bool) (hm:P.follows .mixedOrders=true)
 (h:gR P .any ops Q S F ops.size (Array.replicate ops.size false) a w.drew):(Code.region id ops true).wp P Q a w:=
 wp_region_any hm (vC _ _ _ _ h)
end
end Go.Proofs.YtfenoaeoedobmaaGreatDoor
namespace Go.Proofs.YtfenoaeoedobmaaGreatDoor
open Go Go.RowKit
theorem uY {id:Nat} {Q:Exit->Act->World->Prop} {a:Act} {w:World} (h:Q .normal a w):Exit.inBlock id Q (.exit id) a w:=by
 show (if id=id then Q .normal a w else _)
 rw[if_pos rfl];exact h
structure Elt (α:Type) where
 cells:α->List Value
 own:α->Nat->Prop
 P:World->Nat->α->Prop
 mod:∀{w w2:World} {lo:Nat} {x:α} {F:Nat->Prop},P w lo x->Mod F w w2->(∀g,own x g->¬F g)->P w2 lo x
 down:∀{w:World} {lo lo':Nat} {x:α},P w lo x->lo'<=lo->P w lo' x
 lt:∀{w:World} {lo:Nat} {x:α},P w lo x->∀g,own x g->lo<=g/\g<w.heap.size
structure RowO {α:Type} (E:Elt α) (w wr:World) (e:TypeId) (sz:Nat) (v:Value) (n:Nat) (xs:List α):Prop where
 row:RO w wr e sz v n (xs.flatMap E.cells)
 each:∀x∈xs,E.P wr w.heap.size x
 apart:∀x∈xs,∀g,E.own x g->v.ownBlock≠some g
theorem RowO.first {α:Type} {E:Elt α} {w w1:World} {e:TypeId} {sz:Nat} (hb:Below w.heap.size w w1):RowO E w w1 e sz (.slice none 0 0) 0 []:=⟨RO.start hb,nofun,nofun⟩
theorem RowO.later {α:Type} {E:Elt α} {w wr w2:World} {e:TypeId} {sz:Nat} {v:Value} {n:Nat} {xs:List α} (h:RowO E w wr e sz v n xs) (hb:Below wr.heap.size wr w2):RowO E w w2 e sz v n xs:=
 ⟨h.row.later hb,fun m hm=>E.mod (h.each m hm) (fS hb) (fun _ _ q=>q),h.apart⟩
theorem RowO.app {α:Type} {E:Elt α} {w wr w1 w2:World} {e:TypeId} {sz:Nat} {v v':Value} {n q:Nat} {xs:List α} {m:α} (h:RowO E w wr e sz v n xs) (bG:Below wr.heap.size wr w1) (hm:E.P w1 wr.heap.size m) (aB:w2.ownsRow 0 e sz v' q (xs.flatMap E.cells++E.cells m)) (bC:w1.grownBy w2 v.ownBlock)
 (aA:∀g,v'.ownBlock=some g->v.ownBlock=some g\/w1.heap.size<=g):RowO E w w2 e sz v' q (xs++[m]):=by
 have xT:=RO.app h.row bG aB bC aA;have h1:=h.later bG;have hM:Mod (fun k=>v.ownBlock=some k) w1 w2:=(Mod.refl _ _).grown bC (fun k e _=>e);have zp:=h.row.below.size;have SG:∀y∈xs++[m],(∀g,E.own y g->v.ownBlock≠some g)/\E.P w1 w.heap.size y:=by
  intro y hy;rcases List.mem_append.1 hy with hy|hy
  ·exact ⟨h.apart y hy,h1.each y hy⟩
  ·obtain rfl:=List.mem_singleton.1 hy;refine ⟨fun g hg e=> ?_,E.down hm zp⟩;have h3:=(E.lt hm g hg).1;have h4:=(h.row.row.lt g e).2;omega
 refine ⟨?_,fun y hy=> ?_,fun y hy g hg e=> ?_⟩
 ·rw[List.flatMap_append,List.flatMap_singleton];exact xT
 ·exact E.mod (SG y hy).2 hM (fun g hg q=>(SG y hy).1 g hg q)
 ·rcases aA g e with q|q
  ·exact (SG y hy).1 g hg q
  ·have:=(E.lt (SG y hy).2 g hg).2;omega
structure NdP (w:World) (lo:Nat) (m:NdM):Prop where
 row:w.ownsRow 0 3 1 m.kv m.nd.kids.length (m.nd.kids.flatMap dM)
 fresh:∀g,m.kv.ownBlock=some g->lo<=g
 kind:I64 m.nd.kind
 line:I64 m.nd.line
 text:m.nd.text.size<=1048576
 key:m.nd.key.size<=1048576
 len:m.nd.kids.length<=1048576
def NdE:Elt NdM where
 cells:=NdM.cells
 own m g:=m.kv.ownBlock=some g
 P:=NdP
 mod h hm hF:=⟨dD h.row hm hF,h.fresh,h.kind,h.line,h.text,h.key,h.len⟩
 down h hl:=⟨h.row,fun g hg=>aBl hl (h.fresh g hg),h.kind,h.line,h.text,h.key,h.len⟩
 lt h g hg:=⟨h.fresh g hg,(h.row.lt g hg).2⟩
theorem NdP.ok {w:World} {lo:Nat} {m:NdM} (h:NdP w lo m):m.Ok w:=
 ⟨h.kind,h.line,h.key,h.text,SlR.ofRow h.row rfl (fun _=>rfl) h.len (by decide)⟩
structure DocP (w:World) (lo:Nat) (d:DocV):Prop where
 row:w.ownsRow 0 55 6 d.v d.ms.length (d.ms.flatMap NdM.cells)
 fresh:∀g,d.v.ownBlock=some g->lo<=g
 each:∀m∈d.ms,NdP w lo m
 len:d.ms.length<=1048576
def lk:Elt DocV where
 cells:=DocV.cells
 own d g:=d.v.ownBlock=some g\/∃m∈d.ms,m.kv.ownBlock=some g
 P:=DocP
 mod h hm hF:=⟨dD h.row hm (fun g hg=>hF g (.inl hg)),h.fresh,fun m CZ=>NdE.mod (h.each m CZ) hm (fun g hg=>hF g (.inr ⟨m,CZ,hg⟩)),h.len⟩
 down h hl:=⟨h.row,fun g hg=>aBl hl (h.fresh g hg),fun m hm=>NdE.down (h.each m hm) hl,h.len⟩
 lt h g hg:=by
  rcases hg with hg|⟨m,hm,hg⟩
  ·exact ⟨h.fresh g hg,(h.row.lt g hg).2⟩
  ·exact NdE.lt (h.each m hm) g hg
theorem DocP.nds {w:World} {lo:Nat} {d:DocV} (h:DocP w lo d):Nds w d.v d.ms:=
 ⟨SlR.ofRow h.row rfl (fun _=>rfl) h.len (by decide),fun m hm=>(h.each m hm).ok⟩
theorem RowO.docs {w wr:World} {v:Value} {n:Nat} {ds:List DocV} (h:RowO lk w wr 33 1 v n ds) (hn:n=ds.length) (hb:n<=1048576):DocsR wr v ds:=
 ⟨SlR.ofRow h.row.row hn (fun _=>rfl) hb (by decide),fun d hd=>(h.each d hd).nds⟩
theorem RowO.doc {w wr:World} {v:Value} {n:Nat} {ms:List NdM} (h:RowO NdE w wr 55 6 v n ms) (hn:n=ms.length) (hb:n<=1048576):DocP wr w.heap.size ⟨v,ms⟩:=
 ⟨by rw[<-hn];exact h.row.row,h.row.new,h.each,by rw[<-hn];exact hb⟩
end Go.Proofs.YtfenoaeoedobmaaGreatDoor
namespace Go.Proofs.YtfenoaeoedobmaaGreatDoor
open Go Go.RowKit
theorem row_set {w:World} {B:Nat} {e:TypeId} {sz:Nat} {v:Value} {n:Nat} {xs:List Value} (h:w.ownsRow B e sz v n xs) {g j:Nat} (hg:v.ownBlock=some g) (u:Value) (hj:j<n*sz):
 (w.setCell ⟨g,j,none⟩ u).ownsRow B e sz v n (xs.set j u):=by
 obtain ⟨hl,h⟩:=h;refine ⟨by rw[List.length_set];exact hl,?_⟩;rcases h with ⟨rfl,_⟩|⟨g',cap,cur,rfl,hb,hh,hc,hm,hs,ht⟩
 ·cases hg
 ·obtain rfl:g'=g:=by simpa[Value.ownBlock] using hg
  refine .inr ⟨g',cap,cur.setIfInBounds j u,rfl,hb,aI hh j u,hc,hm,by simpa using hs,?_⟩;rw[Array.toList_setIfInBounds,List.take_set,ht]
structure NRowM (M:Nat) (w0 w:World) (rb:Nat) (nv:Value) (ms:List NdM):Prop where
 row:w.ownsRow 0 55 6 nv ms.length (ms.flatMap NdM.cells)
 new:∀g,nv.ownBlock=some g->w0.heap.size<=g/\g≠rb
 each:∀m∈ms,NdP w w0.heap.size m
 kid:∀m∈ms,∀g,m.kv.ownBlock=some g->nv.ownBlock≠some g/\g≠rb
 pair:∀(i j:Nat) (m m':NdM) (g:Nat),ms[i]? =some m->ms[j]? =some m'->m.kv.ownBlock=some g->m'.kv.ownBlock=some g->i=j
 len:ms.length<=M
abbrev NRow:=NRowM 4096
variable {M:Nat}
def nOwn (nv:Value) (ms:List NdM) (g:Nat):Prop:=nv.ownBlock=some g\/∃m∈ms,m.kv.ownBlock=some g
theorem NRowM.first (w0 w:World) (rb:Nat):NRowM M w0 w rb (.slice none 0 0) []:=
 ⟨World.ownsRow_nil _ _ _ _,nofun,nofun,nofun,fun i j m m' g h=>by simp at h,Nat.zero_le _⟩
theorem NRowM.mod {w0 w w2:World} {rb:Nat} {nv:Value} {ms:List NdM} {F:Nat->Prop} (h:NRowM M w0 w rb nv ms) (hm:Mod F w w2) (hF:∀g,nOwn nv ms g->¬F g):NRowM M w0 w2 rb nv ms:=
 ⟨dD h.row hm (fun g hg=>hF g (.inl hg)),h.new,fun m pG=>NdE.mod (h.each m pG) hm (fun g hg=>hF g (.inr ⟨m,pG,hg⟩)),h.kid,h.pair,h.len⟩
theorem NRowM.later {w0 w w2:World} {rb:Nat} {nv:Value} {ms:List NdM} (h:NRowM M w0 w rb nv ms) (hb:Below w.heap.size w w2):NRowM M w0 w2 rb nv ms:=
 h.mod (fS hb) (fun _ _ q=>q)
theorem NRowM.own_lt {w0 w:World} {rb:Nat} {nv:Value} {ms:List NdM} (h:NRowM M w0 w rb nv ms) {g:Nat} (hg:nOwn nv ms g):w0.heap.size<=g/\g<w.heap.size/\g≠rb:=by
 rcases hg with hg|⟨m,hm,hg⟩
 ·exact ⟨(h.new g hg).1,(h.row.lt g hg).2,(h.new g hg).2⟩
 ·have:=NdE.lt (h.each m hm) g hg;exact ⟨this.1,this.2,(h.kid m hm g hg).2⟩
theorem NRowM.form {w0 w:World} {rb:Nat} {nv:Value} {ms:List NdM} (h:NRowM M w0 w rb nv ms):∃ao c,nv= .slice ao ms.length c:=by
 rcases h.row.2 with ⟨hv,hn⟩|⟨g,cap,cur,hv,_⟩
 ·rw[hv,hn];exact ⟨none,0,rfl⟩
 ·exact ⟨_,_,hv⟩
theorem NRowM.app {w0 w w1 w2:World} {rb:Nat} {nv nv':Value} {ms:List NdM} {x:Nd} (h:NRowM M w0 w rb nv ms) (hw:w0.heap.size<=w.heap.size) (bG:Below w.heap.size w w1) (hrb:rb<w.heap.size) (hx:x.kids=[]) (hk:I64 x.kind) (hl:I64 x.line) (ht:x.text.size<=1048576) (hke:x.key.size<=1048576) (hlen:ms.length<M)
 (aB:w2.ownsRow 0 55 6 nv' (ms.length+1) (ms.flatMap NdM.cells++NdM.cells ⟨x,.slice none 0 0⟩)) (bC:w1.grownBy w2 nv.ownBlock) (aA:∀g,nv'.ownBlock=some g->nv.ownBlock=some g\/w1.heap.size<=g):
 NRowM M w0 w2 rb nv' (ms++[⟨x,.slice none 0 0⟩])/\∀g,nOwn nv' (ms++[⟨x,.slice none 0 0⟩]) g->nOwn nv ms g\/w1.heap.size<=g:=by
 have h1:=h.later bG;have hM:Mod (fun k=>nv.ownBlock=some k) w1 w2:=(Mod.refl _ _).grown bC (fun k e _=>e);refine ⟨⟨?_,fun g hg=> ?_,fun m hm=> ?_,fun m hm g hg=> ?_,fun i j m m' g hi hj hgi hgj=> ?_,by rw[aBj];simp;omega⟩,fun g hg=> ?_⟩
 ·rw[List.flatMap_append,List.flatMap_singleton,aBj];exact aB
 ·rcases aA g hg with q|q
  ·exact h.new g q
  ·have:=bG.size;omega
 ·rcases List.mem_append.1 hm with hm|hm
  ·exact NdE.mod (h1.each m hm) hM (fun g hg q=>(h.kid m hm g hg).1 q)
  ·obtain rfl:=List.mem_singleton.1 hm;refine ⟨?_,nofun,hk,hl,ht,hke,by rw[hx];decide⟩
   show w2.ownsRow 0 _ 1 (.slice none 0 0) x.kids.length (x.kids.flatMap dM)
   rw[hx];exact World.ownsRow_nil _ _ _ _
 ·rcases List.mem_append.1 hm with hm|hm
  ·have aN:=NdE.lt (h1.each m hm) g hg;refine ⟨fun e=> ?_,(h.kid m hm g hg).2⟩;rcases aA g e with q|q
   ·exact (h.kid m hm g hg).1 q
   ·omega
  ·obtain rfl:=List.mem_singleton.1 hm;cases hg
 ·have j9:∀(i:Nat) (m:NdM),(ms++[(⟨x,.slice none 0 0⟩:NdM)])[i]? =some m->m.kv.ownBlock=some g->ms[i]? =some m:=by
   intro i m hi hgi;rcases Nat.lt_or_ge i ms.length with aN|mQ
   ·rwa [List.getElem?_append_left aN]at hi
   ·rw[List.getElem?_append_right mQ]at hi;rcases Nat.eq_zero_or_pos (i-ms.length) with e|e
    ·rw[e]at hi;obtain rfl:=aBm hi;cases hgi
    ·rw[List.getElem?_eq_none (by simp;omega)]at hi;cases hi
  exact h.pair i j m m' g (j9 i m hi hgi) (j9 j m' hj hgj) hgi hgj
 ·rcases hg with hg|⟨m,hm,hg⟩
  ·rcases aA g hg with q|q
   ·exact .inl (.inl q)
   ·exact .inr q
  ·rcases List.mem_append.1 hm with hm|hm
   ·exact .inl (.inr ⟨m,hm,hg⟩)
   ·obtain rfl:=List.mem_singleton.1 hm;cases hg
theorem NRowM.at {w0 w:World} {rb:Nat} {nv:Value} {ms:List NdM} (h:NRowM M w0 w rb nv ms) {i:Nat} {m:NdM} (hi:ms[i]? =some m):∃g c,nv= .slice (some ⟨g,0,none⟩) ms.length c/\nv.ownBlock=some g/\NdAt w g (i*6) m/\(∀j,w.frozen? ⟨g,j,none⟩=false):=by
 have aN:=(aBo hi).1;rcases h.row.2 with ⟨_,hn⟩|⟨g,cap,cur,rfl,_,hh,_,_,_,_⟩
 ·omega
 ·refine ⟨g,cap,rfl,rfl,?_,fun j=>ah hh j⟩;have hc:∀k u,(NdM.cells m)[k]? =some u->k<6->w.cell? ⟨g,i*6+k,none⟩=some u:=fun k u hu hk=>by
   rw[h.row.cellAt _ (by omega)];exact qT (cells:=NdM.cells) (sz:=6) (fun _=>rfl) ms i m hi k u hu
  exact ⟨hc 0 _ rfl (by decide),hc 1 _ rfl (by decide),hc 2 _ rfl (by decide),hc 3 _ rfl (by decide),hc 4 _ rfl (by decide),hc 5 _ rfl (by decide)⟩
theorem flat_set {α:Type} {sz:Nat} {cells:α->List Value} (hl:∀x,(cells x).length=sz):∀(xs:List α) (i:Nat) (x y:α) (k:Nat) (u:Value),xs[i]? =some x->k<sz->cells y=(cells x).set k u->(xs.set i y).flatMap cells=(xs.flatMap cells).set (i*sz+k) u
 |[],i,x,y,k,u,h,_,_=>by simp at h
 |z::r,0,x,y,k,u,h,hk,hy=>by
  simp only[List.getElem?_cons_zero,Option.some.injEq]at h;subst h;rw[List.set_cons_zero,List.flatMap_cons,List.flatMap_cons,Nat.zero_mul,Nat.zero_add,hy,List.set_append_left _ _ (by rw[hl];exact hk)]
 |z::r,i+1,x,y,k,u,h,hk,hy=>by
  rw[List.getElem?_cons_succ]at h;rw[List.set_cons_succ,List.flatMap_cons,List.flatMap_cons,flat_set hl r i x y k u h hk hy,List.set_append_right _ _ (by rw[hl,Nat.add_mul];omega),hl];congr 2;rw[Nat.add_mul];omega
theorem nrow_put {w0 w:World} {rb:Nat} {nv:Value} {ms:List NdM} {i k g:Nat} {m m':NdM} {u:Value} (AN:w.ownsRow 0 55 6 nv ms.length (ms.flatMap NdM.cells)) (ku:∀g,nv.ownBlock=some g->w0.heap.size<=g/\g≠rb)
 (Z3:∀(j:Nat) (x:NdM),j≠i->ms[j]? =some x->NdP w w0.heap.size x) (nJ:∀m∈ms,∀g,m.kv.ownBlock=some g->nv.ownBlock≠some g/\g≠rb)
 (ZB:∀(i j:Nat) (m m':NdM) (g:Nat),ms[i]? =some m->ms[j]? =some m'->m.kv.ownBlock=some g->m'.kv.ownBlock=some g->i=j) (hlen:ms.length<=M)
 (hi:ms[i]? =some m) (hg:nv.ownBlock=some g) (hk:k<6) (hc:NdM.cells m'=(NdM.cells m).set k u)
 (hP:NdP w w0.heap.size m') (xh:∀b,m'.kv.ownBlock=some b->b≠g/\b≠rb/\∀(j:Nat) x,j≠i->ms[j]? =some x->x.kv.ownBlock≠some b):
 NRowM M w0 (w.setCell ⟨g,i*6+k,none⟩ u) rb nv (ms.set i m'):=by
 have aN:=(aBo hi).1;have hM:Mod (fun b=>b=g) w (w.setCell ⟨g,i*6+k,none⟩ u):=(Mod.refl _ _).setCell _ _ (fun _=>rfl);have ed:∀x∈ms.set i m',(x∈ms/\∃j,j≠i/\ms[j]? =some x)\/x=m':=by
  intro x hx;obtain ⟨j,hj,e⟩:=List.getElem_of_mem hx;by_cases pH:j=i
  ·subst pH;right;rw[<-e];simp
  ·left
   have e2:ms[j]? =some x:=by
    have e3:(ms.set i m')[j]? =some x:=by rw[aBn hj,e]
    rwa [List.getElem?_set_ne (Ne.symm pH)]at e3
   exact ⟨List.mem_of_getElem? e2,j,pH,e2⟩
 refine ⟨?_,ku,fun x hx=> ?_,fun x hx b hb=> ?_,fun a b x y c ha hb hx hy=> ?_,by rw[List.length_set];exact hlen⟩
 ·rw[List.length_set,flat_set (cells:=NdM.cells) (sz:=6) (fun _=>rfl) ms i m m' k u hi hk hc];exact row_set AN hg u (by omega)
 ·rcases ed x hx with ⟨hx,j,hj,e⟩|rfl
  ·exact NdE.mod (Z3 j x hj e) hM (fun b hb e=>(nJ x hx b hb).1 (by rw[hg,e]))
  ·exact NdE.mod hP hM (fun b hb e=>(xh b hb).1 e)
 ·rcases ed x hx with ⟨hx,_⟩|rfl
  ·exact nJ x hx b hb
  ·exact ⟨fun e=>(xh b hb).1 (by rw[hg]at e;exact (aBm e).symm),(xh b hb).2.1⟩
 ·have bN:∀(j:Nat) (z:NdM),(ms.set i m')[j]? =some z->(j=i/\z=m')\/(j≠i/\ms[j]? =some z):=by
   intro j z hz;by_cases pH:j=i
   ·subst pH;rw[List.getElem?_set_self aN]at hz;exact .inl ⟨rfl,(aBm hz).symm⟩
   ·rw[List.getElem?_set_ne (Ne.symm pH)]at hz;exact .inr ⟨pH,hz⟩
  rcases bN a x ha with ⟨rfl,rfl⟩|⟨hai,ha2⟩<;>rcases bN b y hb with ⟨rfl,rfl⟩|⟨hbi,bI⟩
  ·rfl
  ·exact absurd hy ((xh c hx).2.2 b y hbi bI)
  ·exact absurd hx ((xh c hy).2.2 a x hai ha2)
  ·exact ZB a b x y c ha2 bI hx hy
theorem NRowM.put {w0 w:World} {rb:Nat} {nv:Value} {ms:List NdM} {i k g:Nat} {m m':NdM} {u:Value} (h:NRowM M w0 w rb nv ms) (hi:ms[i]? =some m) (hg:nv.ownBlock=some g) (hk:k<6) (hc:NdM.cells m'=(NdM.cells m).set k u)
 (hP:NdP w w0.heap.size m') (xh:m'.kv=m.kv):
 NRowM M w0 (w.setCell ⟨g,i*6+k,none⟩ u) rb nv (ms.set i m'):=
 nrow_put h.row h.new (fun j x _ hx=>h.each x (List.mem_of_getElem? hx)) h.kid h.pair h.len hi hg hk hc hP (fun b hb=>by
  rw[xh]at hb;have eZ:=h.kid m (List.mem_of_getElem? hi) b hb;exact ⟨fun e=>eZ.1 (by rw[hg,e]),eZ.2,fun j x hj hx e=>hj (h.pair j i x m b hx hi e hb)⟩)
theorem NRowM.kids {w0 w1 w5:World} {rb:Nat} {nv:Value} {ms:List NdM} {i g:Nat} {m m':NdM} (h:NRowM M w0 w1 rb nv ms) (hw:w0.heap.size<=w1.heap.size) (hrb:rb<w1.heap.size) (hi:ms[i]? =some m) (hg:nv.ownBlock=some g) (hM:Mod (fun b=>m.kv.ownBlock=some b) w1 w5)
 (hc:NdM.cells m'=(NdM.cells m).set 5 m'.kv) (hP:NdP w5 w0.heap.size m') (xh:∀b,m'.kv.ownBlock=some b->m.kv.ownBlock=some b\/w1.heap.size<=b):
 NRowM M w0 (w5.setCell ⟨g,i*6+5,none⟩ m'.kv) rb nv (ms.set i m'):=by
 have pG:=List.mem_of_getElem? hi;have hgl:=(h.row.lt g hg).2;refine nrow_put (dD h.row hM (fun b hb e=>(h.kid m pG b e).1 hb)) h.new (fun j x hj hx=>NdE.mod (h.each x (List.mem_of_getElem? hx)) hM (fun b hb e=>hj (h.pair j i x m b hx hi hb e))) h.kid h.pair h.len hi hg (by decide) hc hP (fun b hb=> ?_);rcases xh b hb with q|q
 ·have eZ:=h.kid m pG b q;exact ⟨fun e=>eZ.1 (by rw[hg,e]),eZ.2,fun j x hj hx e=>hj (h.pair j i x m b hx hi e q)⟩
 ·refine ⟨by omega,by omega,fun j x hj hx e=> ?_⟩;have:=(NdE.lt (h.each x (List.mem_of_getElem? hx)) b e).2;omega
theorem NRow.first (w0 w:World) (rb:Nat):NRow w0 w rb (.slice none 0 0) []:=NRowM.first w0 w rb
end Go.Proofs.YtfenoaeoedobmaaGreatDoor
namespace Go.Proofs.YtfenoaeoedobmaaGreatDoor
open Go Go.RowKit
theorem uy {P:Program} {w:World} (base:Nat) (t ty e:TypeId) (i:TypeInfo) (size:Nat) (ht:P.underlying t=some (.slice e)) (hi:P.info? e=some i)
 (v:Value) (n:Nat) (xs:List Value) (c:Nat) (dh:w.ownsRow base e size v n xs):
 (Builtin.append_ #[t,t] ty #[v,.slice none 0 c]).run P w= .ok v w:=by
 rcases dh.2 with ⟨rfl,rfl⟩|⟨g,cap,cur,rfl,_,_,hnc,_⟩
 ·simp[Builtin.append_,run_underlying ht,sizeOf,typeInfo,hi,Builtin.lenOf,Builtin.firstCells]
 ·simp[Builtin.append_,run_underlying ht,sizeOf,typeInfo,hi,Builtin.lenOf,Builtin.firstCells,hnc,storeCells]
theorem vO:(Tryz.prog.info? 33).map (fun i=>(i.zero,i.size,i.bytes))=some (some (.slice none 0 0),1,24):=by kernel_rfl
theorem dG (w:World) (i j:Nat):(w.drewN i).drewN j=w.drewN (i+j):=by simp[World.drewN,Nat.add_assoc]
def Tok.a (t:Tok):Array Value:=#[.int .i64 t.kind,.int .i64 t.line,.int .i64 t.col,.string ⟨t.text.toArray⟩,.bool t.quoted]
def PanF (e:Flt):Ending:= .panicked [{v:= .iface 174 (.agg #[.int .i64 e.1,.int .i64 e.2]),recovered:=false}]
structure TokOk (t:Tok):Prop where
 kind:I64 t.kind
 line:I64 t.line
 col:0<=t.col/\t.col<=1048576
 text:t.text.length<=1048576
theorem Q3:TokOk Me:=⟨by decide,by decide,by decide,by decide⟩
def rdA (lv:Value) (k:Nat) (nv:Value):Array Value:=#[lv,.int .i64 (k:Int),nv]
structure RdS (w0 w:World) (rb:Nat) (lv:Value) (ts:List Tok) (k:Nat) (nv:Value) (ms:List NdM):Prop where
 lX:SlR w0 lv 5 ts Tok.cells
 wf:∀t∈ts,TokOk t
 below:Below w0.heap.size w0 w
 rge:w0.heap.size<=rb
 blk:w.heap[rb]? =some (.cells (rdA lv k nv) 178 (0,0))
 nr:NRow w0 w rb nv ms
 kle:k<=ts.length
theorem RdS.later {w0 w w2:World} {rb:Nat} {lv:Value} {ts:List Tok} {k:Nat} {nv:Value} {ms:List NdM} (h:RdS w0 w rb lv ts k nv ms) (hb:Below w.heap.size w w2):RdS w0 w2 rb lv ts k nv ms:=
 ⟨h.lX,h.wf,h.below.trans (hb.mono h.below.size),h.rge,(hb.block _ (af h.blk)).trans h.blk,h.nr.later hb,h.kle⟩
theorem RdS.ok {w0 w:World} {rb:Nat} {lv:Value} {ts:List Tok} {k:Nat} {nv:Value} {ms:List NdM} (h:RdS w0 w rb lv ts k nv ms) (j:Nat):TokOk (au ts j):=by
 unfold au;cases hj:ts[j]? with
 |none=>exact Q3
 |some t=>exact h.wf t (List.mem_of_getElem? hj)
theorem RdS.move {w0 w:World} {rb:Nat} {lv:Value} {ts:List Tok} {k k2:Nat} {nv:Value} {ms:List NdM} (h:RdS w0 w rb lv ts k nv ms) (hk:k2<=ts.length):RdS w0 (w.setCell ⟨rb,1,none⟩ (.int .i64 (k2:Int))) rb lv ts k2 nv ms:=by
 have hM:Mod (fun b=>b=rb) w (w.setCell ⟨rb,1,none⟩ (.int .i64 (k2:Int))):=(Mod.refl _ _).setCell _ _ (fun _=>rfl);exact ⟨h.lX,h.wf,h.below.trans (hM.below h.below.size (fun b hb=>by rw[hb];exact h.rge)),h.rge,aI h.blk 1 _,h.nr.mod hM (fun g hg e=>(h.nr.own_lt hg).2.2 e),hk⟩
def RdF (rb:Nat) (nv:Value) (ms:List NdM) (g:Nat):Prop:=g=rb\/nOwn nv ms g
theorem RdS.rd_lt {w0 w:World} {rb:Nat} {lv:Value} {ts:List Tok} {k:Nat} {nv:Value} {ms:List NdM} (h:RdS w0 w rb lv ts k nv ms) {g:Nat} (hg:RdF rb nv ms g):w0.heap.size<=g/\g<w.heap.size:=by
 rcases hg with rfl|hg
 ·exact ⟨h.rge,af h.blk⟩
 ·have:=h.nr.own_lt hg;exact ⟨this.1,this.2.1⟩
def dB (w0 w:World) (rb:Nat) (lv:Value) (ts:List Tok) (nv:Value) (ms:List NdM) (x:Except Flt (Nat×List Nd×Nat)) (r:Ending) (w':World):Prop:=
 match x with
 | .error e=>r=PanF e/\Below w0.heap.size w0 w'/\w.heap.size<=w'.heap.size
 | .ok (k2,ns2,i)=>r= .returned (.int .i64 (i:Int))/\∃l9 ij,RdS w0 w' rb lv ts k2 l9 ij/\nds ij=ns2/\Mod (RdF rb nv ms) w w'/\∀g,nOwn l9 ij g->nOwn nv ms g\/w.heap.size<=g
theorem sh {w0 w w1 w2:World} {rb:Nat} {nv ya:Value} {ms mM:List NdM} (h1:Mod (RdF rb nv ms) w w1) (o1:∀g,nOwn ya mM g->nOwn nv ms g\/w.heap.size<=g) (h2:Mod (RdF rb ya mM) w1 w2):Mod (RdF rb nv ms) w w2:=
 h1.trans' h2 fun i hi q=>by
  rcases q with q|q
  ·exact .inl q
  ·rcases o1 i q with q|q
   ·exact .inr q
   ·omega
theorem yU {w w1:World} {nv ya l9:Value} {ms mM ij:List NdM} (hs:w.heap.size<=w1.heap.size) (o1:∀g,nOwn ya mM g->nOwn nv ms g\/w.heap.size<=g) (o2:∀g,nOwn l9 ij g->nOwn ya mM g\/w1.heap.size<=g):∀g,nOwn l9 ij g->nOwn nv ms g\/w.heap.size<=g:=fun g hg=>by
 rcases o2 g hg with q|q
 ·exact o1 g q
 ·exact .inr (by omega)
theorem RdS.tok_at {w0 w:World} {rb:Nat} {lv:Value} {ts:List Tok} {k:Nat} {nv:Value} {ms:List NdM} (h:RdS w0 w rb lv ts k nv ms):∃ao cap,lv= .slice ao ts.length cap/\ts.length<=1048576/\(k<ts.length->∃b o,ao=some ⟨b,o,none⟩/\
 w.cell? ⟨b,o+k*5,none⟩=some (.int .i64 (au ts k).kind)/\w.cell? ⟨b,o+k*5+1,none⟩=some (.int .i64 (au ts k).line)/\w.cell? ⟨b,o+k*5+2,none⟩=some (.int .i64 (au ts k).col)/\w.cell? ⟨b,o+k*5+3,none⟩=some (.string ⟨(au ts k).text.toArray⟩)/\w.cell? ⟨b,o+k*5+4,none⟩=some (.bool (au ts k).quoted)):=by
 obtain ⟨ao,cap,hv,hl,bN⟩:=h.lX.later h.below;refine ⟨ao,cap,hv,hl,fun hk=> ?_⟩;obtain ⟨b,o,ha,_,hc⟩:=bN (by omega);obtain ⟨t,ht⟩:=aF hk;rw[Cz ht];exact ⟨b,o,ha,hc k t ht 0 _ rfl,hc k t ht 1 _ rfl,hc k t ht 2 _ rfl,hc k t ht 3 _ rfl,hc k t ht 4 _ rfl⟩
theorem cA {w w':World} {p:Addr} {v:Value} (h:Below w.heap.size w w') (hp:w.cell? p=some v):w'.cell? p=some v:=(h.cell (World.block_lt_of_cell? _ _ hp)).trans hp
theorem Rk {w:World} {b:Nat} {T:TypeId} {z0 z1 z2 z3 z4:Value} (h:w.heap[b]? =some (.cells #[z0,z1,z2,z3,z4] T (0,0))) (u0 u1 u2 u3 u4:Value):
 Mod (fun k=>k=b) w (((((w.setCell ⟨b,0,none⟩ u0).setCell ⟨b,1,none⟩ u1).setCell ⟨b,2,none⟩ u2).setCell ⟨b,3,none⟩ u3).setCell ⟨b,4,none⟩ u4)/\
 (((((w.setCell ⟨b,0,none⟩ u0).setCell ⟨b,1,none⟩ u1).setCell ⟨b,2,none⟩ u2).setCell ⟨b,3,none⟩ u3).setCell ⟨b,4,none⟩ u4).heap[b]? =some (.cells #[u0,u1,u2,u3,u4] T (0,0)):=by
 have m0:Mod (fun k=>k=b) w (w.setCell ⟨b,0,none⟩ u0):=(Mod.refl _ _).setCell _ _ (fun _=>rfl);have m1:Mod (fun k=>k=b) w ((w.setCell ⟨b,0,none⟩ u0).setCell ⟨b,1,none⟩ u1):=m0.setCell _ _ (fun _=>rfl);have m2:Mod (fun k=>k=b) w (((w.setCell ⟨b,0,none⟩ u0).setCell ⟨b,1,none⟩ u1).setCell ⟨b,2,none⟩ u2):=m1.setCell _ _ (fun _=>rfl);have m3:Mod (fun k=>k=b) w ((((w.setCell ⟨b,0,none⟩ u0).setCell ⟨b,1,none⟩ u1).setCell ⟨b,2,none⟩ u2).setCell ⟨b,3,none⟩ u3):=m2.setCell _ _ (fun _=>rfl)
 have m4:Mod (fun k=>k=b) w (((((w.setCell ⟨b,0,none⟩ u0).setCell ⟨b,1,none⟩ u1).setCell ⟨b,2,none⟩ u2).setCell ⟨b,3,none⟩ u3).setCell ⟨b,4,none⟩ u4):=m3.setCell _ _ (fun _=>rfl);have s0:=aI h 0 u0;have s1:=aI s0 1 u1;have s2:=aI s1 2 u2;have s3:=aI s2 3 u3;exact ⟨m4,aI s3 4 u4⟩
theorem qo {w:World} {b:Nat} {v0 v1 v2 v3 v4:Value} {tmps:Array Value} (h2:tmps[2]? =some (.pointer (some ⟨b,0,none⟩))) (hb:w.heap[b]? =some (.cells #[v0,v1,v2,v3,v4] 121 (0,0))):
 (results Tryz.f108 tmps).run Tryz.prog w= .ok (.agg #[v0,v1,v2,v3,v4]) w:=by
 have h1:=run_loadVar_mid (P:= Tryz.prog) w b 0 121 [v0,v1,v2,v3,v4] _ (jK (l:=[v0,v1,v2,v3,v4]) hb) Tryz.underlying121 rfl (by kernel_rfl);rw[Array.getElem?_eq_some_iff]at h2;obtain ⟨l2,e2⟩:=h2;simp[results,Tryz.results108,asAddr,Array.getD,l2,e2,h1]
theorem jc {w0 w:World} {rb:Nat} {lv:Value} {ts:List Tok} {k:Nat} {nv:Value} {ms:List NdM} (h:RdS w0 w rb lv ts k nv ms):
 Calls Tryz.prog 108 #[.pointer (some ⟨rb,0,none⟩)] w fun r w'=>r= .returned (.agg (au ts k).a)/\Below w.heap.size w w':=by
 obtain ⟨ao,cap,rfl,hl,bN⟩:=h.tok_at;obtain ⟨n,hn⟩:=ex (ts.length);rw[<-hn]at hl bN;have bg:=h.blk;rw[<-hn]at bg;unfold rdA at bg;have f0:=fun ob=>(ai (w:=w) ob (af bg)).trans bg;have y0:=fun ob=>aa (f0 ob) 0;have y1:=fun ob=>aa (f0 ob) 1;simp at y0 y1;unfold Tok.a;by_cases hk:k<n
 ·have tk:decide (k<n)=true:=dT hk;have bk:(k:Int)<(n:Int):=by omega
  obtain ⟨b,o,rfl,c0,c1,c2,c3,c4⟩:=bN hk;have e:=fun ob j (v:Value) (hc:w.cell? ⟨b,j,none⟩=some v)=>cA ((aBi w.heap.size w).alloc (aBh _) ob) hc;have d0:=fun ob=>e ob _ _ c0;have d1:=fun ob=>e ob _ _ c1;have d2:=fun ob=>e ob _ _ c2;have d3:=fun ob=>e ob _ _ c3;have d4:=fun ob=>e ob _ _ c4;generalize au ts k=t at*;clear h hl bN hn bg f0 c0 c1 c2 c3 c4 e hk;go_enter Tryz.func108,Tryz.ntmps108
  go_wp2;go_quiet (fail);go_wp2;obtain ⟨W,hW⟩:=ex ((w.alloc (.cells #[.int .i64 0,.int .i64 0,.int .i64 0,.string ⟨#[]⟩,.bool false] 121)).drewN nq);have hb:Below w.heap.size w W:=by rw[hW];exact bdH ((aBi _ _).alloc (aBh _) _) nq
  have hn:W.heap[w.heap.size]? =some (.cells #[.int .i64 0,.int .i64 0,.int .i64 0,.string ⟨#[]⟩,.bool false] 121 (0,0)):=by rw[hW];exact ag (w:=w) _
  rw[<-hW];have y0':W.cell? ⟨rb,0,none⟩=some (.slice (some ⟨b,o,none⟩) n cap):=by rw[hW];exact y0 _
  have y1':W.cell? ⟨rb,1,none⟩=some (.int .i64 (k:Int)):=by rw[hW];exact y1 _
  have d0':W.cell? ⟨b,o+k*5,none⟩=some (.int .i64 t.kind):=by rw[hW];exact d0 _
  have d1':W.cell? ⟨b,o+k*5+1,none⟩=some (.int .i64 t.line):=by rw[hW];exact d1 _
  have d2':W.cell? ⟨b,o+k*5+2,none⟩=some (.int .i64 t.col):=by rw[hW];exact d2 _
  have d3':W.cell? ⟨b,o+k*5+3,none⟩=some (.string ⟨t.text.toArray⟩):=by rw[hW];exact d3 _
  have d4':W.cell? ⟨b,o+k*5+4,none⟩=some (.bool t.quoted):=by rw[hW];exact d4 _
  have HE:=hid (Rk (w:=W.drew) (b:=w.heap.size) hn (.int .i64 t.kind) (.int .i64 t.line) (.int .i64 t.col) (.string ⟨t.text.toArray⟩) (.bool t.quoted));have Hb:=hid hb;obtain ⟨q0,q1,q2,q3,q4⟩:=cB5 hn;have qf:=fun j=>ah hn j;simp at q0 q1 q2 q3 q4;clear y0 y1 d0 d1 d2 d3 d4 hW hb hn
  go_still_tail 10,(by kernel_rfl)
  repeat still_step
  change wpList _ _ _ _ _ W.drew;go_wp2;refine bodyPost_ret (qo rfl HE.o.2) rfl ⟨rfl,?_⟩;exact Hb.o.drew.trans (HE.o.1.below Hb.o.size (fun k hk=>by omega))
 ·have tk:decide (k<n)=false:=dF hk;rw[iw (by omega)];unfold Me;clear h hl bN hn bg f0 hk;go_enter Tryz.func108,Tryz.ntmps108;go_wp2;go_quiet (fail);go_wp2;have HE:=hid (fun n=>Rk (w:=(w.alloc (.cells #[.int .i64 0,.int .i64 0,.int .i64 0,.string ⟨#[]⟩,.bool false] 121)).drewN n) (b:=w.heap.size) (ag (w:=w) (.cells #[.int .i64 0,.int .i64 0,.int .i64 0,.string ⟨#[]⟩,.bool false] 121)) (.int .i64 0) (.int .i64 0) (.int .i64 0) (.string ⟨#[]⟩) (.bool false))
  refine bodyPost_ret (qo rfl (HE.o nq).2) rfl ⟨rfl,?_⟩;exact ((bdH ((aBi _ _).alloc (aBh _) _) nq).trans ((HE.o nq).1.below (by simp) (fun k hk=>by omega)))
