/-
Parts of a proof.
-/
import Derived.Test.YtfenoaeoedobmaaGreatDoorChecked
import Derived.Laws.AppendOwnNone
import Derived.Deep.RegionLaw
import Derived.ScopeJumps
import Derived.WalkSpells
import Derived.Deep.DeepFit
import Derived.Deep.DeepCutAuto
import Derived.Deep.LoopGhost
import Derived.Shelf.Strings.Search1
import Derived.Shelf.Strings.Search2
import Derived.Shelf.Strings.Search3
import Derived.Shelf.Small.Strs
import Derived.Shelf.Small.Wraps
import Derived.Shelf.Strings.Repeat
import Derived.Shelf.Slices.Turned
import Derived.Shelf.Slices.Equal
import Derived.Shelf.Slices.Empties2
import Derived.Shelf.LaysM
import Derived.Outline
import Derived.Deep.RegionHeld3
import Derived.Test.YtfenoaeoedobmaaGreatDoorOn03
import Derived.Test.YtfenoaeoedobmaaGreatDoorOn06
set_option linter.unusedVariables false
set_option linter.unusedSimpArgs false
namespace Go.Proofs.YtfenoaeoedobmaaGreatDoor
open Go Go.RowKit
structure Mod (F:Nat->Prop) (w w':World):Prop where
 os:w'.os=w.os
 tape:w'.tape=w.tape
 output:w'.output=w.output
 size:w.heap.size<=w'.heap.size
 block:∀k,k<w.heap.size->¬F k->w'.heap[k]? =w.heap[k]?
namespace Mod
variable {F G:Nat->Prop} {a b c:World}
theorem refl (F:Nat->Prop) (w:World):Mod F w w:=⟨rfl,rfl,rfl,aBh _,fun _ _ _=>rfl⟩
theorem trans (h:Mod F a b) (k:Mod F b c):Mod F a c:=
 ⟨k.os.trans h.os,k.tape.trans h.tape,k.output.trans h.output,aBl h.size k.size,
  fun i hi hF=>(k.block i (Nat.lt_of_lt_of_le hi h.size) hF).trans (h.block i hi hF)⟩
theorem trans' (h:Mod F a b) (k:Mod G b c) (hG:∀i,i<a.heap.size->G i->F i):Mod F a c:=
 ⟨k.os.trans h.os,k.tape.trans h.tape,k.output.trans h.output,aBl h.size k.size,
  fun i hi hF=>(k.block i (Nat.lt_of_lt_of_le hi h.size) (fun g=>hF (hG i hi g))).trans (h.block i hi hF)⟩
theorem mono (h:Mod F a b) (hF:∀i,i<a.heap.size->F i->G i):Mod G a b:=
 ⟨h.os,h.tape,h.output,h.size,fun i hi hG=>h.block i hi (fun f=>hG (hF i hi f))⟩
theorem alloc (h:Mod F a b) (o:Obj):Mod F a (b.alloc o):=
 h.trans' (G:=fun _=>False) ⟨rfl,rfl,rfl,by simp,fun k hk _=>Below.heap_alloc _ _ _ hk⟩ (fun _ _ f=>f.elim)
theorem drew (h:Mod F a b):Mod F a b.drew:=⟨h.os,h.tape,h.output,h.size,h.block⟩
theorem setCell (h:Mod F a b) (p:Addr) (u:Value) (hp:p.block<a.heap.size->F p.block):Mod F a (b.setCell p u):=
 h.trans' (G:=fun k=>k=p.block) ⟨rfl,rfl,rfl,by simp,fun k hk hne=>Below.heap_setCell _ _ _ _ hne⟩
  (fun i hi e=>by subst e;exact hp hi)
theorem grown {row:Option Nat} (h:Mod F a b) (hg:b.grownBy c row) (hr:∀k,row=some k->k<a.heap.size->F k):Mod F a c:=
 h.trans' (G:=fun k=>some k=row) ⟨hg.os,hg.tape,hg.output,hg.size,fun k hk hne=>hg.block k hk hne⟩
  (fun i hi e=>hr i e.symm hi)
theorem ofBelow {B:Nat} (h:Below B a b) (hB:∀k,k<a.heap.size->B<=k->F k):Mod F a b:=
 ⟨h.os,h.tape,h.output,h.size,fun k hk hF=>h.block k (by
  rcases Nat.lt_or_ge k B with g|g
  ·exact g
  ·exact (hF (hB k hk g)).elim)⟩
theorem below {B:Nat} (h:Mod F a b) (hB:B<=a.heap.size) (hF:∀k,F k->B<=k):Below B a b:=
 ⟨h.os,h.tape,h.output,h.size,fun k hk=>h.block k (by omega) (fun f=>by have:=hF k f;omega)⟩
theorem heap (h:Mod F a b) {k:Nat} {o:Obj} (hk:a.heap[k]? =some o) (hF:¬F k):b.heap[k]? =some o:=
 (h.block k (Array.getElem?_eq_some_iff.1 hk).1 hF).trans hk
theorem cell (h:Mod F a b) {p:Addr} {v:Value} (hp:a.cell? p=some v) (hF:¬F p.block):b.cell? p=some v:=
 (World.cell?_of_block (h.block p.block (World.block_lt_of_cell? a p hp) hF)).trans hp
end Mod
theorem af {w:World} {b:Nat} {o:Obj} (h:w.heap[b]? =some o):b<w.heap.size:=
 (Array.getElem?_eq_some_iff.1 h).1
section
variable {w:World} {b:Nat} {c:Array Value} {e:TypeId}
theorem aa (h:w.heap[b]? =some (.cells c e (0,0))) (j:Nat):w.cell? ⟨b,j,none⟩=c[j]? :=by
 simp[World.cell?,h]
theorem ah (h:w.heap[b]? =some (.cells c e (0,0))) (j:Nat):w.frozen? ⟨b,j,none⟩=false:=by
 simp[World.frozen?,h]
theorem aI (h:w.heap[b]? =some (.cells c e (0,0))) (j:Nat) (v:Value):
 (w.setCell ⟨b,j,none⟩ v).heap[b]? =some (.cells (c.setIfInBounds j v) e (0,0)):=
 heap_setCell_same w b j c e v h
theorem aW {k:Nat} (p:Addr) (v:Value) (h:k≠p.block):(w.setCell p v).heap[k]? =w.heap[k]? :=
 Below.heap_setCell w p v k h
theorem ag (o:Obj):(w.alloc o).heap[w.heap.size]? =some o:=heap_alloc_new w o
theorem ai {k:Nat} (o:Obj) (h:k<w.heap.size):(w.alloc o).heap[k]? =w.heap[k]? :=Below.heap_alloc w o k h
end
theorem jv {w:World} {base e size n:Nat} {v:Value} {xs:List Value} (h:w.ownsRow base e size v n xs) (Uh:Nat) (hb:Uh<=base):w.ownsRow Uh e size v n xs:=by
 refine ⟨h.1,?_⟩;rcases h.2 with hn|⟨g,cap,cur,hv,hg,r⟩
 ·exact .inl hn
 ·exact .inr ⟨g,cap,cur,hv,aBl hb hg,r⟩
theorem kR {P:Program} (w:World) (t ty e:TypeId) (i:TypeInfo) (z:Value) (size nb:Nat) (ht:P.underlying t=some (.slice e)) (hi:P.info? e=some i) (hz:i.zero=some z)
 (js:i.size=size) (FP:i.bytes=nb) (xR:z.cells.size=size) (gQ:0<size)
 (v:Value) (n:Nat) (xs:List Value) (dh:w.ownsRow 0 e size v n xs)
 (ao:Option Addr) (m c:Nat) (news:List Value) (hl:news.length=m*size) (qO:ao=none->m=0/\c=0)
 (qP:∀ad,ao=some ad->∀j u,news[j]? =some u->w.cell? (ad.add j)=some u) (h1:∀u∈news,u.oneCell'=true)
 (KU:n+m<=maxLen) (k9:(n+m)*nb<=140737488355328):
 ∃v' w',(Builtin.append_ #[t,t] ty #[v,.slice ao m c]).run P w= .ok v' w'/\w'.ownsRow 0 e size v' (n+m) (xs++news)/\w.grownBy w' v.ownBlock/\
  (∀g,v'.ownBlock=some g->v.ownBlock=some g\/w.heap.size<=g):=by
 cases ao with
 |none=>
  obtain ⟨rfl,rfl⟩:=qO rfl;obtain rfl:news=[]:=List.eq_nil_of_length_eq_zero (by simpa using hl);exact ⟨v,w,run_append_owned_none (P:=P) w 0 t ty e i size ht hi v n xs dh,by simpa using dh,⟨rfl,rfl,rfl,aBh _,fun _ _ _=>rfl⟩,fun g hg=> .inl hg⟩
 |some a=>
  have hn:=qP a rfl;rcases dh.2 with ⟨hv,j8⟩|⟨g,cap,cur,hv,hbg,hg,hnc,hcm,Ub,Zp⟩
  ·subst hv;subst j8;obtain ⟨v',w',hr,ho,xU,_⟩:=run_append_own (P:=P) w w.heap.size t ty e i z size nb ht hi hz js FP xR gQ (.slice none 0 0) 0 xs ⟨dh.1,.inl ⟨rfl,rfl⟩⟩ a m c news hl hn h1 KU k9 (aBh _);exact ⟨v',w',hr,jv ho 0 (Nat.zero_le _),xU,fun g hg=> .inr (ho.lt g hg).1⟩
  ·subst hv;by_cases CR:n+m<=cap
   ·obtain ⟨w',hr,ho,xU⟩:=run_append_fits (P:=P) w 0 t ty e i size ht hi js g n cap xs dh a m c news hl hn h1 CR;exact ⟨_,w',hr,ho,by simpa[Value.ownBlock] using xU,fun g' LD=> .inl LD⟩
   ·obtain ⟨v',w',hr,ho,xU⟩:=run_append_arg_grows (P:=P) w t ty e i z size nb ht hi hz js FP xR gQ ⟨g,0,none⟩ n cap xs dh.1 (dh.cells (g:=g) rfl) a m c news hl hn (by omega) KU k9;exact ⟨v',w',hr,jv ho 0 (Nat.zero_le _),⟨xU.os,xU.tape,xU.output,xU.size,fun k hk _=>xU.block k hk (by simp)⟩,fun g' LD=> .inr (ho.lt g' LD).1⟩
theorem fP {P:Program} (w:World) {ops:Array Oper} {rest:List Oper} {o:Oper} {a:Act} {Q:Exit->Act->World->Prop} (ln:o.guard=none) (s x:Operand) (t:TypeId)
 (ho:o.op= .call {callee:= .builtin .append,args:=#[s,x],argTypes:=#[t,t]})
 (e:TypeId) (i:TypeInfo) (z:Value) (size nb:Nat) (ht:P.underlying t=some (.slice e)) (hi:P.info? e=some i) (hz:i.zero=some z)
 (js:i.size=size) (FP:i.bytes=nb) (xR:z.cells.size=size) (gQ:0<size)
 (v:Value) (n:Nat) (xs:List Value) (hs:a.eval s=v) (dh:w.ownsRow 0 e size v n xs)
 (ao:Option Addr) (m c:Nat) (news:List Value) (hx:a.eval x= .slice ao m c) (hl:news.length=m*size) (qO:ao=none->m=0/\c=0)
 (qP:∀ad,ao=some ad->∀j u,news[j]? =some u->w.cell? (ad.add j)=some u) (h1:∀u∈news,u.oneCell'=true)
 (KU:n+m<=maxLen) (k9:(n+m)*nb<=140737488355328)
 (h:∀v' w',w'.ownsRow 0 e size v' (n+m) (xs++news)->w.grownBy w' v.ownBlock->(∀g,v'.ownBlock=some g->v.ownBlock=some g\/w.heap.size<=g)->
  wpList P ops Q rest (a.put o.dst v') w'):wpList P ops Q (o::rest) a w:=by
 refine wpList_plain ln fun K hK=> ?_;obtain ⟨v',w',hr,h2,h3,h4⟩:=kR (P:=P) w t o.type e i z size nb ht hi hz js FP xR gQ v n xs dh ao m c news hl qO qP h1 KU k9;unfold Oper.wp execOp;simp only[ho,resolve,invoke,builtin,Sem.run_bind,Sem.run_pure,Result.andThen_ok,List.map_toArray,List.map_cons,List.map_nil,hs,hx,hr];exact hK _ _ (h v' w' h2 h3 h4)
theorem iY {P:Program} {w:World} {ops:Array Oper} {rest:List Oper} {o:Oper} {a:Act} {Q:Exit->Act->World->Prop} (ln:o.guard=none) (s x:Operand) (t:TypeId)
 (ho:o.op= .call {callee:= .builtin .append,args:=#[s,x],argTypes:=#[t,t]})
 (e:TypeId) (z:Value) (size nb:Nat) (ht:P.underlying t=some (.slice e)) (oN:(P.info? e).map (fun i=>(i.zero,i.size,i.bytes))=some (some z,size,nb)) (xR:z.cells.size=size) (gQ:0<size)
 (v:Value) (n:Nat) (xs:List Value) (hs:a.eval s=v) (dh:w.ownsRow 0 e size v n xs)
 (ao:Option Addr) (m c:Nat) (news:List Value) (hx:a.eval x= .slice ao m c) (hl:news.length=m*size) (qO:ao=none->m=0/\c=0)
 (qP:∀ad,ao=some ad->∀j u,news[j]? =some u->w.cell? (ad.add j)=some u) (h1:∀u∈news,u.oneCell'=true)
 (KU:n+m<=maxLen) (k9:(n+m)*nb<=140737488355328) (q:Nat) (hq:q=n+m)
 (h:∀fj c' w',w'.ownsRow 0 e size (.slice fj q c') q (xs++news)->w.grownBy w' v.ownBlock->(∀g,(Value.slice fj q c').ownBlock=some g->v.ownBlock=some g\/w.heap.size<=g)->
  wpList P ops Q rest (a.put o.dst (.slice fj q c')) w'):wpList P ops Q (o::rest) a w:=by
 obtain ⟨i,hi,hz,js,FP⟩:=info_parts oN;subst hq;refine fP w ln s x t ho e i z size nb ht hi hz js FP xR gQ v n xs hs dh ao m c news hx hl qO qP h1 KU k9 ?_;intro v' w' h1 h2 h3;have hf:∃fj c',v'= .slice fj (n+m) c':=by
  rcases h1.2 with ⟨hv,hn⟩|⟨g,cap,cur,hv,_⟩
  ·rw[hv,hn];exact ⟨none,0,rfl⟩
  ·exact ⟨_,_,hv⟩
 obtain ⟨fj,c',rfl⟩:=hf;exact h fj c' w' h1 h2 h3
theorem jU {P:Program} (w:World) {ops:Array Oper} {o:Oper} {a:Act} {K:Act->World->Prop} {Q:Exit->Act->World->Prop} {E:Prop} (ln:o.guard=none) (s x:Operand) (t:TypeId)
 (ho:o.op= .call {callee:= .builtin .append,args:=#[s,x],argTypes:=#[t,t]})
 (e:TypeId) (i:TypeInfo) (z:Value) (size nb:Nat) (ht:P.underlying t=some (.slice e)) (hi:P.info? e=some i) (hz:i.zero=some z)
 (js:i.size=size) (FP:i.bytes=nb) (xR:z.cells.size=size) (gQ:0<size)
 (v:Value) (n:Nat) (xs:List Value) (hs:a.eval s=v) (dh:w.ownsRow 0 e size v n xs)
 (ao:Option Addr) (m c:Nat) (news:List Value) (hx:a.eval x= .slice ao m c) (hl:news.length=m*size) (qO:ao=none->m=0/\c=0)
 (qP:∀ad,ao=some ad->∀j u,news[j]? =some u->w.cell? (ad.add j)=some u) (h1:∀u∈news,u.oneCell'=true)
 (KU:n+m<=maxLen) (k9:(n+m)*nb<=140737488355328)
 (h:∀v' w',w'.ownsRow 0 e size v' (n+m) (xs++news)->w.grownBy w' v.ownBlock->(∀g,v'.ownBlock=some g->v.ownBlock=some g\/w.heap.size<=g)->
  K (a.put o.dst v') w'):if Region.wanted o (yielded ops a.tmps)=true then Oper.wp P o a w K Q else E:=by
 have hw:Region.wanted o (yielded ops a.tmps)=true:=by simp[Region.wanted,ln]
 rw[if_pos hw];obtain ⟨v',w',hr,h2,h3,h4⟩:=kR (P:=P) w t o.type e i z size nb ht hi hz js FP xR gQ v n xs dh ao m c news hl qO qP h1 KU k9;unfold Oper.wp execOp;simp only[ho,resolve,invoke,builtin,Sem.run_bind,Sem.run_pure,Result.andThen_ok,List.map_toArray,List.map_cons,List.map_nil,hs,hx,hr];exact h v' w' h2 h3 h4
theorem iX {P:Program} {w:World} {ops:Array Oper} {rest:List Oper} {o:Oper} {a:Act} {Q:Exit->Act->World->Prop} (ln:o.guard=none) (x l:Operand) (t e:TypeId)
 (kY:o.op=Op.slice t x (some l) none none) (ht:P.underlying t=some (.slice e)) (i:TypeInfo) (hi:P.info? e=some i) (size:Nat) (gQ:i.size=size)
 (ao:Option Addr) (n cap:Nat) (hx:a.eval x= .slice ao n cap) (kl:IntKind) (m:Nat) (hl:a.eval l= .int kl (m:Int)) (hm:m<=n)
 (h:∀fj,fj=(if cap=m then ao else ao.map (·.add (m*size)))->wpList P ops Q rest (a.put o.dst (.slice fj (n-m) (cap-m))) w):wpList P ops Q (o::rest) a w:=by
 have he:P.elem t=e:=by simp[Program.elem,ht]
 refine wpList_plain ln fun K hK=> ?_;unfold Oper.wp;have h1:(0:Int)<=(m:Int):=by omega
 have h2:(m:Int)<=(n:Int):=by omega
 have hr:=run_slice_l (P:=P) w t ao n cap (by rw[he];exact ht) kl (m:Int) h1 h2;have ha:=run_sliceAt_slice (P:=P) w t (.slice ao n cap) (some (.int kl (m:Int))) none none (by rw[he];exact ht);have hs:(sizeOf (P.elem t)).run P w= .ok size w:=by rw[he];simp[sizeOf,typeInfo,hi,gQ]
 simp only[execOp,kY,hx,hl,Option.map_some,Option.map_none,ha,hr,hs,Sem.run_bind,Result.andThen_ok,Sem.run_pure,Sem.run_map];exact hK _ _ (h _ rfl)
theorem gC {P:Program} {w:World} {ops:Array Oper} {rest:List Oper} {o:Oper} {a:Act} {Q:Exit->Act->World->Prop} (ln:o.guard=none) (x l:Operand) (t e:TypeId)
 (kY:o.op=Op.slice t x none (some l) none) (ht:P.underlying t=some (.slice e)) (hi:∃i,P.info? e=some i)
 (ao:Option Addr) (n cap:Nat) (hx:a.eval x= .slice ao n cap) (kl:IntKind) (m:Nat) (mi:Int) (hl:a.eval l= .int kl mi) (TZ:mi=(m:Int)) (hm:m<=cap)
 (h:wpList P ops Q rest (a.put o.dst (.slice ao m cap)) w):wpList P ops Q (o::rest) a w:=by
 subst TZ;obtain ⟨i,hi⟩:=hi;have he:P.elem t=e:=by simp[Program.elem,ht]
 refine wpList_plain ln fun K hK=> ?_;unfold Oper.wp;have h1:(0:Int)<=(m:Int):=by omega
 have h2:(m:Int)<=(cap:Int):=by omega
 have hr:=run_slice_h (P:=P) w t ao n cap (by rw[he];exact ht) kl (m:Int) h1 h2;have ha:=run_sliceAt_slice (P:=P) w t (.slice ao n cap) none (some (.int kl (m:Int))) none (by rw[he];exact ht);have hs:(sizeOf (P.elem t)).run P w= .ok i.size w:=by rw[he];simp[sizeOf,typeInfo,hi]
 have hv:sliced ao 0 (m:Int).toNat cap i.size= .slice ao m cap:=by
  cases ao<;>simp[sliced,Addr.add]
 simp only[execOp,kY,hx,hl,Option.map_some,Option.map_none,ha,hr,hs,Sem.run_bind,Result.andThen_ok,Sem.run_pure,Sem.run_map,hv];exact hK _ _ h
theorem o9 {P:Program} {w:World} {ops:Array Oper} {rest:List Oper} {o:Oper} {a:Act} {Q:Exit->Act->World->Prop} (ln:o.guard=none) (x y:Operand) (ts:Array TypeId)
 (ho:o.op= .call {callee:= .builtin .min,args:=#[x,y],argTypes:=ts}) (k k':IntKind) (p q r:Int) (hx:a.eval x= .int k p) (hy:a.eval y= .int k' q) (hr:(if q<p then q else p)=r)
 (h:wpList P ops Q rest (a.put o.dst (.int k r)) w):wpList P ops Q (o::rest) a w:=by
 refine wpList_plain ln fun K hK=> ?_;have Wd:(Builtin.min_ ts o.type #[.int k p,.int k' q]).run P w= .ok (.int k r) w:=by
  subst hr;simp[Builtin.min_,Builtin.min2]
 unfold Oper.wp execOp;simp only[ho,resolve,invoke,builtin,Sem.run_bind,Sem.run_pure,Result.andThen_ok,List.map_toArray,List.map_cons,List.map_nil,hx,hy,Wd];exact hK _ _ h
theorem cB2 {w:World} {b:Nat} {c:Array Value} {e:TypeId} (h:w.heap[b]? =some (.cells c e (0,0))):w.cell? ⟨b,0,none⟩=c[0]? /\w.cell? ⟨b,1,none⟩=c[1]? :=⟨aa h 0,aa h 1⟩
theorem cB3 {w:World} {b:Nat} {c:Array Value} {e:TypeId} (h:w.heap[b]? =some (.cells c e (0,0))):w.cell? ⟨b,0,none⟩=c[0]? /\w.cell? ⟨b,1,none⟩=c[1]? /\w.cell? ⟨b,2,none⟩=c[2]? :=⟨aa h 0,aa h 1,aa h 2⟩
theorem cB5 {w:World} {b:Nat} {c:Array Value} {e:TypeId} (h:w.heap[b]? =some (.cells c e (0,0))):w.cell? ⟨b,0,none⟩=c[0]? /\w.cell? ⟨b,1,none⟩=c[1]? /\w.cell? ⟨b,2,none⟩=c[2]? /\w.cell? ⟨b,3,none⟩=c[3]? /\w.cell? ⟨b,4,none⟩=c[4]? :=⟨aa h 0,aa h 1,aa h 2,aa h 3,aa h 4⟩
theorem cB6 {w:World} {b:Nat} {c:Array Value} {e:TypeId} (h:w.heap[b]? =some (.cells c e (0,0))):w.cell? ⟨b,0,none⟩=c[0]? /\w.cell? ⟨b,1,none⟩=c[1]? /\w.cell? ⟨b,2,none⟩=c[2]? /\w.cell? ⟨b,3,none⟩=c[3]? /\w.cell? ⟨b,4,none⟩=c[4]? /\w.cell? ⟨b,5,none⟩=c[5]? :=⟨aa h 0,aa h 1,aa h 2,aa h 3,aa h 4,aa h 5⟩
theorem cB7 {w:World} {b:Nat} {c:Array Value} {e:TypeId} (h:w.heap[b]? =some (.cells c e (0,0))):w.cell? ⟨b,0,none⟩=c[0]? /\w.cell? ⟨b,1,none⟩=c[1]? /\w.cell? ⟨b,2,none⟩=c[2]? /\w.cell? ⟨b,3,none⟩=c[3]? /\w.cell? ⟨b,4,none⟩=c[4]? /\w.cell? ⟨b,5,none⟩=c[5]? /\w.cell? ⟨b,6,none⟩=c[6]? :=⟨aa h 0,aa h 1,aa h 2,aa h 3,aa h 4,aa h 5,aa h 6⟩
theorem cB8 {w:World} {b:Nat} {c:Array Value} {e:TypeId} (h:w.heap[b]? =some (.cells c e (0,0))):w.cell? ⟨b,0,none⟩=c[0]? /\w.cell? ⟨b,1,none⟩=c[1]? /\w.cell? ⟨b,2,none⟩=c[2]? /\w.cell? ⟨b,3,none⟩=c[3]? /\w.cell? ⟨b,4,none⟩=c[4]? /\w.cell? ⟨b,5,none⟩=c[5]? /\w.cell? ⟨b,6,none⟩=c[6]? /\w.cell? ⟨b,7,none⟩=c[7]? :=⟨aa h 0,aa h 1,aa h 2,aa h 3,aa h 4,aa h 5,aa h 6,aa h 7⟩
def SlR {α:Type} (w:World) (v:Value) (sz:Nat) (xs:List α) (cells:α->List Value):Prop:=
 ∃ao cap,v= .slice ao xs.length cap/\xs.length<=1048576/\(0<xs.length->∃b o,ao=some ⟨b,o,none⟩/\b<w.heap.size/\∀i x,xs[i]? =some x->∀j u,(cells x)[j]? =some u->w.cell? ⟨b,o+i*sz+j,none⟩=some u)
theorem SlR.later {α:Type} {w w2:World} {v:Value} {sz:Nat} {xs:List α} {cells:α->List Value} (h:SlR w v sz xs cells) (hb:Below w.heap.size w w2):SlR w2 v sz xs cells:=by
 obtain ⟨ao,cap,hv,hl,h⟩:=h;refine ⟨ao,cap,hv,hl,fun h0=> ?_⟩;obtain ⟨b,o,ha,aN,hc⟩:=h h0;exact ⟨b,o,ha,Nat.lt_of_lt_of_le aN hb.size,fun i x hi j u hu=>(hb.cell aN).trans (hc i x hi j u hu)⟩
theorem SlR.below {α:Type} {w w2:World} {v:Value} {sz:Nat} {xs:List α} {cells:α->List Value} {B:Nat} (h:SlR w v sz xs cells) (hb:Below B w w2) (hB:w.heap.size<=B):SlR w2 v sz xs cells:=h.later (hb.mono hB)
theorem qT {α:Type} {sz:Nat} {cells:α->List Value} (hl:∀x,(cells x).length=sz):∀(xs:List α) (i:Nat) (x:α),xs[i]? =some x->∀j u,(cells x)[j]? =some u->(xs.flatMap cells)[i*sz+j]? =some u
 |[],i,x,h,j,u,hu=>by simp at h
 |y::r,0,x,h,j,u,hu=>by
  simp only[List.getElem?_cons_zero,Option.some.injEq]at h;subst h;have hj:j<(cells y).length:=(aBo hu).1;rw[List.flatMap_cons,Nat.zero_mul,Nat.zero_add,List.getElem?_append_left hj];exact hu
 |y::r,i+1,x,h,j,u,hu=>by
  rw[List.getElem?_cons_succ]at h;rw[List.flatMap_cons,List.getElem?_append_right (by rw[hl];rw[Nat.add_mul];omega),hl,<-qT hl r i x h j u hu];congr 1;rw[Nat.add_mul];omega
theorem flat_len {α:Type} {sz:Nat} {cells:α->List Value} (hl:∀x,(cells x).length=sz) (xs:List α):(xs.flatMap cells).length=xs.length*sz:=by
 induction xs with
 |nil=>simp
 |cons y r ih=>rw[List.flatMap_cons,aBj,hl,ih,aBk,Nat.add_mul];omega
theorem SlR.ofRow {α:Type} {w:World} {v:Value} {B:Nat} {e:TypeId} {sz n:Nat} {xs:List α} {cells:α->List Value} (h:w.ownsRow B e sz v n (xs.flatMap cells)) (hn:n=xs.length) (hl:∀x,(cells x).length=sz) (hb:n<=1048576) (gQ:0<sz):SlR w v sz xs cells:=by
 subst hn;rcases h.2 with ⟨hv,h0⟩|⟨g,cap,cur,hv,_⟩
 ·exact ⟨none,0,by rw[hv,h0],hb,fun hh=>by omega⟩
 ·subst hv;have aN:=(h.lt g rfl).2;refine ⟨some ⟨g,0,none⟩,cap,rfl,hb,fun h0=>⟨g,0,rfl,aN,fun i x hi j u hu=> ?_⟩⟩;have hj:j<sz:=by rw[<-hl x];exact (aBo hu).1
  have vl:=(aBo hi).1;have hm:i*sz+j<xs.length*sz:=by
   have:(i+1)*sz<=xs.length*sz:=Nat.mul_le_mul_right sz vl;rw[Nat.add_mul]at this;omega
  rw[Nat.zero_add,h.cellAt _ hm];exact qT hl xs i x hi j u hu
abbrev I64 (n:Int):Prop:= -9223372036854775808<=n/\n<=9223372036854775807
def dM (x:Int):List Value:=[.int .i64 x]
structure NdM where
 nd:Nd
 kv:Value
instance:Inhabited NdM:=⟨⟨default,.slice none 0 0⟩⟩
def NdM.cells (m:NdM):List Value:=[.int .i64 m.nd.kind,.string m.nd.key,.string m.nd.text,.bool m.nd.quoted,.int .i64 m.nd.line,m.kv]
def NdM.v (m:NdM):Value:= .agg #[.int .i64 m.nd.kind,.string m.nd.key,.string m.nd.text,.bool m.nd.quoted,.int .i64 m.nd.line,m.kv]
structure NdM.Ok (w:World) (m:NdM):Prop where
 kind:I64 m.nd.kind
 line:I64 m.nd.line
 key:m.nd.key.size<=1048576
 text:m.nd.text.size<=1048576
 kids:SlR w m.kv 1 m.nd.kids dM
theorem NdM.Ok.later {w w2:World} {m:NdM} (h:m.Ok w) (hb:Below w.heap.size w w2):m.Ok w2:=⟨h.kind,h.line,h.key,h.text,h.kids.later hb⟩
structure Nds (w:World) (v:Value) (ms:List NdM):Prop where
 sl:SlR w v 6 ms NdM.cells
 each:∀m∈ms,m.Ok w
theorem Nds.later {w w2:World} {v:Value} {ms:List NdM} (h:Nds w v ms) (hb:Below w.heap.size w w2):Nds w2 v ms:=⟨h.sl.later hb,fun m hm=>(h.each m hm).later hb⟩
def nds (ms:List NdM):List Nd:=ms.map (·.nd)
theorem gI {ms:List NdM} {k:Nat} {m:NdM} (h:ms[k]? =some m):(nds ms)[k]! =m.nd:=by
 unfold nds;rw[List.getElem!_eq_getElem?_getD,List.getElem?_map,h];rfl
theorem bP (ms:List NdM):(nds ms).length=ms.length:=List.length_map ..
theorem aF {α:Type} {l:List α} {k:Nat} (h:k<l.length):∃x,l[k]? =some x:=⟨l[k],aBn h⟩
theorem cG {l:List UInt8} {k:Nat} {c:UInt8} (h:l[k]? =some c):l.drop k=c::l.drop (k+1):=by
 obtain ⟨hk,he⟩:=aBo h;rw[List.drop_eq_getElem_cons hk,he]
theorem fC {l:List UInt8} {k:Nat} (h:l.length<=k):l.drop k=[]:=List.drop_eq_nil_iff.2 h
theorem Ri {l:List UInt8} {k:Nat} {c:UInt8} (h:l[k]? =some c) (hc:c.toNat=32):aP (l.drop k)=aP (l.drop (k+1))+1:=by
 rw[cG h,kB hc]
theorem Rh {l:List UInt8} {k:Nat} {c:UInt8} (h:l[k]? =some c) (hc:¬c.toNat=32):aP (l.drop k)=0:=by
 rw[cG h,fH hc]
theorem Mr {l:List UInt8} {k:Nat} (h:l.length<=k):aP (l.drop k)=0:=by
 rw[fC h];rfl
theorem jX {l:List UInt8} {k:Nat} (h:k<=l.length):k+aP (l.drop k)<=l.length:=by
 have:=vP (l.drop k);rw[List.length_drop]at this;omega
theorem RV {l:List UInt8} {k:Nat} {c:UInt8} (h:l[k]? =some c) (hc:bB c=true):cZ (l.drop k)=cZ (l.drop (k+1))+1:=by
 rw[cG h,wI hc]
theorem RU {l:List UInt8} {k:Nat} {c:UInt8} (h:l[k]? =some c) (hc:¬bB c=true):cZ (l.drop k)=0:=by
 rw[cG h,tO hc]
theorem NG {l:List UInt8} {k:Nat} (h:l.length<=k):cZ (l.drop k)=0:=by
 rw[fC h];rfl
theorem NF {l:List UInt8} {k:Nat} (h:k<=l.length):k+cZ (l.drop k)<=l.length:=by
 have:=NI (l.drop k);rw[List.length_drop]at this;omega
theorem uX {l:List UInt8} {k:Nat} {c:UInt8} (h:l[k]? =some c):bW (l.drop k)=decide (c.toNat=35):=by
 rw[cG h];rfl
theorem nw {l:List UInt8} {k:Nat} (h:l.length<=k):bW (l.drop k)=true:=by
 rw[fC h];rfl
def cH (q:UInt8) (l:List UInt8):Option (List UInt8×Nat):=if q.toNat=34 then dqL l else sqL l
theorem Cp {l:List UInt8} {k:Nat} {q:UInt8} (h:l[k]? =some q):dZ (l.drop k)=(cH q (l.drop (k+1))).map fun p=>(p.1,p.2+1):=by
 rw[cG h];rfl
theorem yR (q:UInt8):cH q []=none:=by
 unfold cH
 split<;>rfl
theorem qh {l:List UInt8} {c:UInt8} (hc:c.toNat=39) (h:∀d,l.head? =some d->¬d.toNat=39):sqL (c::l)=some ([],1):=by
 unfold sqL;rw[if_pos hc];cases l with
 |nil=>rfl
 |cons d r=>exact if_neg (h d rfl)
theorem Mn {l:List UInt8} {c d:UInt8} (hc:c.toNat=39) (hd:d.toNat=39):sqL (c::d::l)=(sqL l).map fun p=>(c::p.1,p.2+2):=by
 rw[sqL.eq_def];simp only;rw[if_pos hc];exact if_pos hd
theorem vN {l:List UInt8} {c:UInt8} (hc:¬c.toNat=39):sqL (c::l)=(sqL l).map fun p=>(c::p.1,p.2+1):=by
 rw[sqL.eq_def];simp only;rw[if_neg hc]
theorem Dp {l:List UInt8} {c:UInt8} (hc:c.toNat=34):dqL (c::l)=some ([],1):=by
 unfold dqL;exact if_pos hc
theorem Dn {l:List UInt8} {c:UInt8} (hc:¬c.toNat=34) (hb:¬c.toNat=92):dqL (c::l)=(dqL l).map fun p=>(c::p.1,p.2+1):=by
 rw[dqL.eq_def];simp only;rw[if_neg hc,if_neg hb]
theorem IB {c:UInt8} (hb:c.toNat=92):dqL [c]=none:=by
 rw[dqL.eq_def];simp only;rw[if_neg (by omega),if_pos hb]
theorem xp {l:List UInt8} {c e x:UInt8} (hb:c.toNat=92) (he:¬e.toNat=120) (hx:qU e=some x):dqL (c::e::l)=(dqL l).map fun p=>(x::p.1,p.2+2):=by
 rw[dqL.eq_def];simp only;rw[if_neg (by omega),if_pos hb];rw[if_neg he,hx]
theorem PH {l:List UInt8} {c e:UInt8} (hb:c.toNat=92) (he:¬e.toNat=120) (hx:qU e=none):dqL (c::e::l)=none:=by
 rw[dqL.eq_def];simp only;rw[if_neg (by omega),if_pos hb];rw[if_neg he,hx]
theorem PG {l:List UInt8} {c e h o:UInt8} (hb:c.toNat=92) (he:e.toNat=120) (h1:0<=gk h) (h2:0<=gk o):dqL (c::e::h::o::l)=(dqL l).map fun p=>(hexB h o::p.1,p.2+4):=by
 rw[dqL.eq_def];simp only;rw[if_neg (by omega),if_pos hb];rw[if_pos he,if_neg (by omega)]
theorem sP {l:List UInt8} {c e h o:UInt8} (hb:c.toNat=92) (he:e.toNat=120) (h1:gk h<0\/gk o<0):dqL (c::e::h::o::l)=none:=by
 rw[dqL.eq_def];simp only;rw[if_neg (by omega),if_pos hb];rw[if_pos he,if_pos h1]
theorem sO {l:List UInt8} {c e:UInt8} (hb:c.toNat=92) (he:e.toNat=120) (h1:l.length<2):dqL (c::e::l)=none:=by
 rw[dqL.eq_def];simp only;rw[if_neg (by omega),if_pos hb];rw[if_pos he]
 match l,h1 with
 |[],_=>rfl
 |[a],_=>rfl
theorem vm (c:UInt8):gk c<=15:=by
 unfold gk
 split
 ·omega
 ·split<;>omega
theorem OV {h l:UInt8} (h1:0<=gk h) (h2:0<=gk l):((hexB h l).toNat:Int)=16*gk h+gk l:=by
 have a:=vm h;have b:=vm l;unfold hexB;rw[UInt8.toNat_ofNat'];omega
def pS (q:UInt8) (l:List UInt8) (i k:Nat) (out:List UInt8):Prop:=
 i<k/\k<=l.length/\cH q (l.drop (i+1))=(cH q (l.drop k)).map fun p=>(out++p.1,p.2+(k-(i+1)))
theorem pS.first {q:UInt8} {l:List UInt8} {i:Nat} (h:i<l.length):pS q l i (i+1) []:=
 ⟨Nat.lt_succ_self i,h,by rw[Nat.sub_self];cases cH q (l.drop (i+1))<;>rfl⟩
theorem pS.step {q:UInt8} {l:List UInt8} {i k m:Nat} {out:List UInt8} {x:UInt8} (h:pS q l i k out) (hm:1<=m) (ZO:k+m<=l.length)
 (hs:cH q (l.drop k)=(cH q (l.drop (k+m))).map fun p=>(x::p.1,p.2+m)):pS q l i (k+m) (out++[x]):=by
 obtain ⟨h1,h2,h3⟩:=h;refine ⟨by omega,ZO,?_⟩;rw[h3,hs,Option.map_map];congr 1;funext p;simp only[Function.comp,List.append_assoc,List.singleton_append];congr 1;omega
theorem pS.none {q:UInt8} {l:List UInt8} {i k:Nat} {out:List UInt8} (h:pS q l i k out) (hq:l[i]? =some q) (hs:cH q (l.drop k)=Option.none):dZ (l.drop i)=Option.none:=by
 rw[Cp hq,h.2.2,hs];rfl
theorem pS.done {q:UInt8} {l:List UInt8} {i k:Nat} {out:List UInt8} (h:pS q l i k out) (hq:l[i]? =some q) (hs:cH q (l.drop k)=some ([],1)):dZ (l.drop i)=some (out,k+1-i):=by
 rw[Cp hq,h.2.2,hs];simp only[Option.map_some,List.append_nil];have:=h.1;congr 2;omega
theorem pS.len {q:UInt8} {l:List UInt8} {i k:Nat} {out:List UInt8} (h:pS q l i k out):k<=l.length:=h.2.1
theorem En:∀(n:Nat) (l:List UInt8),l.length<=n->∀x m,sqL l=some (x,m)->1<=m/\m<=l.length/\x.length<m
 |_,[],_,x,m,h=>by simp[sqL]at h
 |n+1,c::r,hn,x,m,h=>by
  simp only[aBk]at hn |-;by_cases hc:c.toNat=39
  ·cases r with
   |nil=>
    rw[qh hc (fun d h=>by simp at h)]at h;simp only[Option.some.injEq,Prod.mk.injEq]at h;obtain ⟨rfl,rfl⟩:=h;simp
   |cons d r=>
    by_cases hd:d.toNat=39
    ·rw[Mn hc hd]at h;obtain ⟨p,hp,he⟩:=Option.map_eq_some_iff.1 h;simp only[Prod.mk.injEq]at he;obtain ⟨rfl,rfl⟩:=he;have:=En n r (by simp only[aBk]at hn;omega) _ _ hp;simp only[aBk];omega
    ·rw[qh hc (fun e h=>by simp only[List.head?_cons,Option.some.injEq]at h;subst h;exact hd)]at h;simp only[Option.some.injEq,Prod.mk.injEq]at h;obtain ⟨rfl,rfl⟩:=h;simp
  ·rw[vN hc]at h;obtain ⟨p,hp,he⟩:=Option.map_eq_some_iff.1 h;simp only[Prod.mk.injEq]at he;obtain ⟨rfl,rfl⟩:=he;have:=En n r (by omega) _ _ hp;simp only[aBk];omega
theorem Bb:∀(n:Nat) (l:List UInt8),l.length<=n->∀x m,dqL l=some (x,m)->1<=m/\m<=l.length/\x.length<m
 |_,[],_,x,m,h=>by simp[dqL]at h
 |n+1,c::r,hn,x,m,h=>by
  simp only[aBk]at hn |-;by_cases hc:c.toNat=34
  ·rw[Dp hc]at h;simp only[Option.some.injEq,Prod.mk.injEq]at h;obtain ⟨rfl,rfl⟩:=h;simp
  ·by_cases hb:c.toNat=92
   ·cases r with
    |nil=>rw[IB hb]at h;cases h
    |cons e r=>
     simp only[aBk]at hn |-;by_cases he:e.toNat=120
     ·match r with
      |[]=>rw[sO hb he (by simp)]at h;cases h
      |[a]=>rw[sO hb he (by simp)]at h;cases h
      |a::o::r=>
       by_cases hx:gk a<0\/gk o<0
       ·rw[sP hb he hx]at h;cases h
       ·rw[PG hb he (by omega) (by omega)]at h;obtain ⟨p,hp,hq⟩:=Option.map_eq_some_iff.1 h;simp only[Prod.mk.injEq]at hq;obtain ⟨rfl,rfl⟩:=hq;simp only[aBk]at hn |-;have:=Bb n r (by omega) _ _ hp;omega
     ·cases hx:qU e with
      |none=>rw[PH hb he hx]at h;cases h
      |some y=>
       rw[xp hb he hx]at h;obtain ⟨p,hp,hq⟩:=Option.map_eq_some_iff.1 h;simp only[Prod.mk.injEq]at hq;obtain ⟨rfl,rfl⟩:=hq;have:=Bb n r (by omega) _ _ hp;simp only[aBk];omega
   ·rw[Dn hc hb]at h;obtain ⟨p,hp,he⟩:=Option.map_eq_some_iff.1 h;simp only[Prod.mk.injEq]at he;obtain ⟨rfl,rfl⟩:=he;have:=Bb n r (by omega) _ _ hp;simp only[aBk];omega
theorem np {l:List UInt8} {x:List UInt8} {m:Nat} (h:dZ l=some (x,m)):2<=m/\m<=l.length/\x.length<m:=by
 cases l with
 |nil=>cases h
 |cons c r=>
  rw[show dZ (c::r)=(if c.toNat=34 then dqL r else sqL r).map fun p=>(p.1,p.2+1) from rfl]at h;obtain ⟨p,hp,he⟩:=Option.map_eq_some_iff.1 h;simp only[Prod.mk.injEq]at he;obtain ⟨rfl,rfl⟩:=he;simp only[aBk]
  split at hp
  ·have:=Bb _ r (aBh _) _ _ hp;omega
  ·have:=En _ r (aBh _) _ _ hp;omega
end Go.Proofs.YtfenoaeoedobmaaGreatDoor
namespace Go.Proofs
open Go.Shelf Go.RowKit Go.Sort Go.Lib
def Tryz.lays137_ren:Go.Shelf.Ren:=⟨fun|137=>177|217=>197|266=>217|n=>n,fun|9=>9|5=>5|3=>3|n=>n,fun|n=>n⟩
theorem Tryz.lays137:Go.Proofs.Lays.n137 Tryz.prog Tryz.lays137_ren:=by repeat' first|kernel_rfl|(intros;kernel_rfl)|exact fun _=>rfl|decide|constructor
theorem Tryz.strings_IndexByte (s:ByteArray) (c:Int) (w:World):
 Calls Tryz.prog 177 #[.string s,.int .u8 c] w fun e w'=>e= .returned (.int .i64 (Lib.indexByte s.data.toList c.toNat.toUInt8))/\w'=w:=Any.strings_IndexByte Tryz.lays137 s c w
def Tryz.lays104_ren:Go.Shelf.Ren:=⟨fun|104=>190|211=>214|207=>199|n=>n,fun|9=>9|4=>4|24=>197|3=>3|n=>n,fun|n=>n⟩
theorem Tryz.lays104:Go.Proofs.Lays.n104 Tryz.prog Tryz.lays104_ren:=by repeat' first|kernel_rfl|(intros;kernel_rfl)|exact fun _=>rfl|decide|constructor
theorem Tryz.strings_CutSuffix (s p:ByteArray) (w:World) (hs:s.size<=9223372036854775807):
 Calls Tryz.prog 190 #[.string s,.string p] w fun e w'=>e= .returned (.tuple #[.string ⟨(Lib.trimSuffix s.data.toList p.data.toList).toArray⟩,.bool (Lib.hasSuffix s.data.toList p.data.toList)])/\w'=w:=Any.strings_CutSuffix Tryz.lays104 s p w hs
def Tryz.lays143_ren:Go.Shelf.Ren:=⟨fun|143=>178|219=>198|217=>197|225=>218|224=>175|267=>219|266=>217|314=>230|n=>n,fun|9=>9|3=>3|4=>4|5=>5|46=>205|146=>229|51=>228|n=>n,fun|1=>1|n=>n⟩
theorem Tryz.lays143:Go.Proofs.Lays.n143 Tryz.prog Tryz.lays143_ren:=by repeat' first|kernel_rfl|(intros;kernel_rfl)|exact fun _=>rfl|decide|constructor
theorem Tryz.strings_Index (s sub:ByteArray) (m:Int) (w:World) (hs:s.size<4294967281) (hm:w.cell? ⟨1,0,none⟩=some (.int .i64 m)):
 Calls Tryz.prog 178 #[.string s,.string sub] w fun e w'=>e= .returned (.int .i64 (Lib.index s.data.toList sub.data.toList))/\w'=w:=Any.strings_Index Tryz.lays143 s sub m w hs hm
def Tryz.lays144_ren:Go.Shelf.Ren:=⟨fun|144=>179|143=>178|219=>198|217=>197|225=>218|224=>175|267=>219|266=>217|314=>230|n=>n,fun|9=>9|4=>4|3=>3|5=>5|46=>205|146=>229|51=>228|n=>n,fun|1=>1|n=>n⟩
theorem Tryz.lays144:Go.Proofs.Lays.n144 Tryz.prog Tryz.lays144_ren:=by repeat' first|kernel_rfl|(intros;kernel_rfl)|exact fun _=>rfl|decide|constructor
theorem Tryz.strings_Contains (s sub:ByteArray) (m:Int) (w:World) (hs:s.size<4294967281) (hm:w.cell? ⟨1,0,none⟩=some (.int .i64 m)):
 Calls Tryz.prog 179 #[.string s,.string sub] w fun e w'=>e= .returned (.bool (Lib.contains s.data.toList sub.data.toList))/\w'=w:=Any.strings_Contains Tryz.lays144 s sub m w hs hm
def Tryz.lays100_ren:Go.Shelf.Ren:=⟨fun|100=>180|207=>199|n=>n,fun|9=>9|4=>4|3=>3|n=>n,fun|n=>n⟩
theorem Tryz.lays100:Go.Proofs.Lays.n100 Tryz.prog Tryz.lays100_ren:=by repeat' first|kernel_rfl|(intros;kernel_rfl)|exact fun _=>rfl|decide|constructor
theorem Tryz.strings_HasSuffix (s p:ByteArray) (w:World) (hs:s.size<=9223372036854775807):
 Calls Tryz.prog 180 #[.string s,.string p] w fun e w'=>e= .returned (.bool (Lib.hasSuffix s.data.toList p.data.toList))/\w'=w:=Any.strings_HasSuffix Tryz.lays100 s p w hs
def Tryz.lays105_ren:Go.Shelf.Ren:=⟨fun|105=>98|212=>135|99=>115|165=>100|166=>101|170=>136|169=>102|263=>168|264=>169|206=>153|240=>137|241=>138|276=>170|277=>171|n=>n,fun|9=>9|3=>3|4=>4|20=>20|0=>0|46=>205|109=>206|5=>5|72=>161|76=>165|51=>228|146=>229|53=>184|148=>231|70=>159|37=>42|75=>164|127=>209|164=>233|80=>167|n=>n,fun|n=>n⟩
theorem Tryz.lays105:Go.Proofs.Lays.n105 Tryz.prog Tryz.lays105_ren:=by repeat' first|kernel_rfl|(intros;kernel_rfl)|exact fun _=>rfl|decide|constructor
theorem Tryz.Builder_Extra_105:Builder.Extra Tryz.prog Tryz.lays105_ren:=by repeat' first|kernel_rfl|(intros;kernel_rfl)|exact fun _=>rfl|decide|constructor
theorem Tryz.strings_Repeat (s:ByteArray) (c:Nat) (w:World) (hc:c<=9223372036854775807) (hlen:s.size*c<=140737488355328):
 Calls Tryz.prog 98 #[.string s,.int .i64 c] w fun e w'=>e= .returned (.string ⟨(Lib.repeatL s.data.toList c).toArray⟩)/\Below w.heap.size w w':=Any.strings_Repeat Tryz.lays105 Tryz.Builder_Extra_105 s c w hc hlen
def Tryz.lays109_ren:Go.Shelf.Ren:=⟨fun|109=>39|n=>n,fun|31=>45|9=>9|3=>3|0=>0|4=>4|n=>n,fun|n=>n⟩
theorem Tryz.lays109:Go.Proofs.Lays.n109 Tryz.prog Tryz.lays109_ren:=by repeat' first|kernel_rfl|(intros;kernel_rfl)|exact fun _=>rfl|decide|constructor
theorem Tryz.slices_Index_string (b off n c:Nat) (zs:List ByteArray) (x:ByteArray) (w:World) (hz:n<=zs.length) (sJ:n<=9223372036854775807) (hc:∀j,j<zs.length->w.cell? ⟨b,off+j,none⟩=some (.string (zs.getD j ByteArray.empty))):
 Calls Tryz.prog 39 #[.slice (some ⟨b,off,none⟩) n c,.string x] w fun e w'=>e= .returned (.int .i64 (Lib.idxOfS (zs.take n) x))/\w'=w:=Any.slices_Index_string Tryz.lays109 b off n c zs x w hz sJ hc
def Tryz.lays110_ren:Go.Shelf.Ren:=⟨fun|110=>79|109=>39|n=>n,fun|31=>45|9=>9|4=>4|3=>3|0=>0|n=>n,fun|n=>n⟩
theorem Tryz.lays110:Go.Proofs.Lays.n110 Tryz.prog Tryz.lays110_ren:=by repeat' first|kernel_rfl|(intros;kernel_rfl)|exact fun _=>rfl|decide|constructor
theorem Tryz.slices_Contains_string (b off n c:Nat) (zs:List ByteArray) (x:ByteArray) (w:World) (hz:n<=zs.length) (sJ:n<=9223372036854775807) (hc:∀j,j<zs.length->w.cell? ⟨b,off+j,none⟩=some (.string (zs.getD j ByteArray.empty))):
 Calls Tryz.prog 79 #[.slice (some ⟨b,off,none⟩) n c,.string x] w fun e w'=>e= .returned (.bool (Lib.containsS (zs.take n) x))/\w'=w:=Any.slices_Contains_string Tryz.lays110 b off n c zs x w hz sJ hc
theorem Tryz.slices_Contains_string_empty (a:Option Addr) (c:Nat) (x:ByteArray) (w:World):
 Calls Tryz.prog 79 #[.slice a 0 c,.string x] w fun e w'=>e= .returned (.bool false)/\w'=w:=Any.slices_Contains_string_empty Tryz.lays110 a c x w
end Go.Proofs
namespace Go.Proofs.YtfenoaeoedobmaaGreatDoor
open Go Go.RowKit
theorem aq (s:ByteArray):s.data.toList.length=s.size:=by rw[Array.length_toList];rfl
theorem qK {s:ByteArray} {k:Nat} {c:UInt8} (kd:IntKind) (h:s.data.toList[k]? =some c):∀w,(Instr.index 9 (.string s) (.int kd (k:Int))).run Tryz.prog w= .ok (.int .u8 (c.toNat:Int)) w:=by
 intro w;obtain ⟨hk,he⟩:=aBo h;have eZ:k<s.size:=by rw[<-ByteArray.size_data,<-Array.length_toList];exact hk
 rw[run_index_string w _ s kd _ Tryz.underlying9,dif_pos ⟨by omega,by omega⟩];have e:s[(k:Int).toNat]'(by omega)=c:=by
  rw[<-he];rfl
 rw[e]
theorem aU {s:ByteArray} {k:Nat} {c:UInt8} (z:Int) (hz:z=(k:Int)) (h:s.data.toList[k]? =some c):∀w,(Instr.index 9 (.string s) (.int .i64 z)).run Tryz.prog w= .ok (.int .u8 (c.toNat:Int)) w:=by
 subst hz;exact qK .i64 h
theorem eJ {n k:Nat} (h:k<n) (hw:wrap64 ((k:Int)+1)=(k:Int)+1):n-(intOf (.int .i64 (wrap64 ((k:Int)+1)))).toNat<n-(intOf (.int .i64 (k:Int))).toNat:=by
 rw[hw]
 show n-((k:Int)+1).toNat<n-(k:Int).toNat
 omega
theorem g8 {k:Nat} (hw:wrap64 ((k:Int)+1)=(k:Int)+1):Value.int .i64 (wrap64 ((k:Int)+1))= .int .i64 ((k+1:Nat):Int):=by
 rw[hw,Int.natCast_add];rfl
theorem bdH {B:Nat} {a w:World} (h:Below B a w) (n:Nat):Below B a (w.drewN n):=⟨h.os,h.tape,h.output,h.size,h.block⟩
theorem vZ {k:IntKind} {a b:Int} (h:a=b):Ending.returned (.int k a)= .returned (.int k b):=by rw[h]
theorem fV {a b:Bool} (h:a=b):Ending.returned (.bool a)= .returned (.bool b):=by rw[h]
theorem fi {s:ByteArray} {k:Nat} (h:k<s.size):∃c,s.data.toList[k]? =some c:=aF (by rw[aq];exact h)
theorem bK {z:Int} (h1: -9223372036854775808<=z) (h2:z<=9223372036854775807):wrap64 z=z:=by unfold wrap64;omega
theorem dE {w w':World} {base e size n:Nat} {v:Value} {xs:List Value} (h:w.ownsRow base e size v n xs)
 (hk:∀g,v.ownBlock=some g->w'.heap[g]? =w.heap[g]?):w'.ownsRow base e size v n xs:=by
 refine ⟨h.1,?_⟩;rcases h.2 with hn|⟨g,cap,cur,rfl,hb,hgg,rest⟩
 ·exact .inl hn
 ·exact .inr ⟨g,cap,cur,rfl,hb,(hk g (by simp[Value.ownBlock])).trans hgg,rest⟩
theorem oq {w w':World} {b e z n:Nat} {v:Value} {xs:List Value} (h:w.ownsRow b e z v n xs) (hb:Below w.heap.size w w'):w'.ownsRow b e z v n xs:=
 dE h fun g hg=>hb.block g (h.lt g hg).2
structure Glob (w:World):Prop where
 max:∃m,w.cell? ⟨1,0,none⟩=some (.int .i64 m)
 rng:∃ev,w.cell? ⟨4,0,none⟩=some ev/\(ev= .nilIface\/∃te pe,ev= .iface te pe)
theorem Glob.later {w w2:World} (h:Glob w) (hb:Below w.heap.size w w2):Glob w2:=by
 obtain ⟨⟨m,h0⟩,⟨e3,h3,g3⟩⟩:=h;exact ⟨⟨m,(hb.cell (World.block_lt_of_cell? w _ h0)).trans h0⟩,⟨e3,(hb.cell (World.block_lt_of_cell? w _ h3)).trans h3,g3⟩⟩
