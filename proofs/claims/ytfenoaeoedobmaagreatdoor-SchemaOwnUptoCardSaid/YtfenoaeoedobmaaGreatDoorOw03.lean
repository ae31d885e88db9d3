/-
Parts of a proof.
-/
import Derived.Test.YtfenoaeoedobmaaGreatDoorProg
import Derived.WalkKit
import Derived.Laws.AppendOwnNone
import Derived.Lib.Hide
import Derived.Deep.RegionLaw
import Derived.ScopeJumps
import Derived.WalkSpells
import Derived.BigQuiet
import Derived.Deep.QuietTactic
import Derived.Deep.DeepFit
import Derived.Deep.DeepCutAuto
import Derived.Deep.LoopGhost
import Derived.Shelf.Strconv.ErrVarParseInt
import Derived.Shelf.Strings.Prefix
import Derived.Test.YtfenoaeoedobmaaGreatDoorOw01
set_option linter.unusedVariables false
set_option linter.unusedSimpArgs false
namespace Go.Proofs.YtfenoaeoedobmaaGreatDoor
open Go Go.RowKit
structure Mod (F:Nat->Prop) (w w':World):Prop where
 os:w'.os=w.os
 tape:w'.tape=w.tape
 output:w'.output=w.output
 size:w.heap.size<=w'.heap.size
 block:∀k,k<w.heap.size->¬F k->w'.heap[k]? =w.heap[k]?
namespace Mod
variable {F G:Nat->Prop} {a b c:World}
theorem refl (F:Nat->Prop) (w:World):Mod F w w:=⟨rfl,rfl,rfl,aAa _,fun _ _ _=>rfl⟩
theorem trans (h:Mod F a b) (k:Mod F b c):Mod F a c:=
 ⟨k.os.trans h.os,k.tape.trans h.tape,k.output.trans h.output,aAe h.size k.size,
  fun i hi hF=>(k.block i (Nat.lt_of_lt_of_le hi h.size) hF).trans (h.block i hi hF)⟩
theorem trans' (h:Mod F a b) (k:Mod G b c) (hG:∀i,i<a.heap.size->G i->F i):Mod F a c:=
 ⟨k.os.trans h.os,k.tape.trans h.tape,k.output.trans h.output,aAe h.size k.size,
  fun i hi hF=>(k.block i (Nat.lt_of_lt_of_le hi h.size) (fun g=>hF (hG i hi g))).trans (h.block i hi hF)⟩
theorem mono (h:Mod F a b) (hF:∀i,i<a.heap.size->F i->G i):Mod G a b:=
 ⟨h.os,h.tape,h.output,h.size,fun i hi hG=>h.block i hi (fun f=>hG (hF i hi f))⟩
theorem alloc (h:Mod F a b) (o:Obj):Mod F a (b.alloc o):=
 h.trans' (G:=fun _=>False) ⟨rfl,rfl,rfl,by simp,fun k hk _=>Below.heap_alloc _ _ _ hk⟩ (fun _ _ f=>f.elim)
theorem drew (h:Mod F a b):Mod F a b.drew:=⟨h.os,h.tape,h.output,h.size,h.block⟩
theorem setCell (h:Mod F a b) (p:Addr) (u:Value) (hp:p.block<a.heap.size->F p.block):Mod F a (b.setCell p u):=
 h.trans' (G:=fun k=>k=p.block) ⟨rfl,rfl,rfl,by simp,fun k hk hne=>Below.heap_setCell _ _ _ _ hne⟩
  (fun i hi e=>by subst e;exact hp hi)
theorem grown {row:Option Nat} (h:Mod F a b) (hg:b.grownBy c row) (hr:∀k,row=some k->k<a.heap.size->F k):Mod F a c:=
 h.trans' (G:=fun k=>some k=row) ⟨hg.os,hg.tape,hg.output,hg.size,fun k hk hne=>hg.block k hk hne⟩
  (fun i hi e=>hr i e.symm hi)
theorem ofBelow {B:Nat} (h:Below B a b) (hB:∀k,k<a.heap.size->B<=k->F k):Mod F a b:=
 ⟨h.os,h.tape,h.output,h.size,fun k hk hF=>h.block k (by
  rcases Nat.lt_or_ge k B with g|g
  ·exact g
  ·exact (hF (hB k hk g)).elim)⟩
theorem below {B:Nat} (h:Mod F a b) (hB:B<=a.heap.size) (hF:∀k,F k->B<=k):Below B a b:=
 ⟨h.os,h.tape,h.output,h.size,fun k hk=>h.block k (by omega) (fun f=>by have:=hF k f;omega)⟩
theorem heap (h:Mod F a b) {k:Nat} {o:Obj} (hk:a.heap[k]? =some o) (hF:¬F k):b.heap[k]? =some o:=
 (h.block k (Array.getElem?_eq_some_iff.1 hk).1 hF).trans hk
theorem cell (h:Mod F a b) {p:Addr} {v:Value} (hp:a.cell? p=some v) (hF:¬F p.block):b.cell? p=some v:=
 (World.cell?_of_block (h.block p.block (World.block_lt_of_cell? a p hp) hF)).trans hp
end Mod
theorem ag {w:World} {b:Nat} {o:Obj} (h:w.heap[b]? =some o):b<w.heap.size:=
 (Array.getElem?_eq_some_iff.1 h).1
section
variable {w:World} {b:Nat} {c:Array Value} {e:TypeId}
theorem af (h:w.heap[b]? =some (.cells c e (0,0))) (j:Nat):w.cell? ⟨b,j,none⟩=c[j]? :=by
 simp[World.cell?,h]
theorem ai (h:w.heap[b]? =some (.cells c e (0,0))) (j:Nat):w.frozen? ⟨b,j,none⟩=false:=by
 simp[World.frozen?,h]
theorem aE (h:w.heap[b]? =some (.cells c e (0,0))) (j:Nat) (v:Value):
 (w.setCell ⟨b,j,none⟩ v).heap[b]? =some (.cells (c.setIfInBounds j v) e (0,0)):=
 heap_setCell_same w b j c e v h
theorem aO {k:Nat} (p:Addr) (v:Value) (h:k≠p.block):(w.setCell p v).heap[k]? =w.heap[k]? :=
 Below.heap_setCell w p v k h
theorem ah (o:Obj):(w.alloc o).heap[w.heap.size]? =some o:=heap_alloc_new w o
theorem aj {k:Nat} (o:Obj) (h:k<w.heap.size):(w.alloc o).heap[k]? =w.heap[k]? :=Below.heap_alloc w o k h
end
theorem gn {w:World} {base e size n:Nat} {v:Value} {xs:List Value} (h:w.ownsRow base e size v n xs) (base':Nat) (hb:base'<=base):w.ownsRow base' e size v n xs:=by
 refine ⟨h.1,?_⟩;rcases h.2 with hn|⟨g,cap,cur,hv,hg,r⟩
 ·exact .inl hn
 ·exact .inr ⟨g,cap,cur,hv,aAe hb hg,r⟩
theorem ic {P:Program} (w:World) (t ty e:TypeId) (i:TypeInfo) (z:Value) (size nb:Nat) (ht:P.underlying t=some (.slice e)) (hi:P.info? e=some i) (hz:i.zero=some z)
 (hsize:i.size=size) (hby:i.bytes=nb) (hzs:z.cells.size=size) (hsz:0<size)
 (v:Value) (n:Nat) (xs:List Value) (hown:w.ownsRow 0 e size v n xs)
 (ao:Option Addr) (m c:Nat) (news:List Value) (hl:news.length=m*size) (hnone:ao=none->m=0/\c=0)
 (hnews:∀ad,ao=some ad->∀j u,news[j]? =some u->w.cell? (ad.add j)=some u) (h1:∀u∈news,u.oneCell'=true)
 (h63:n+m<=maxLen) (hbytes:(n+m)*nb<=140737488355328):
 ∃v' w',(Builtin.append_ #[t,t] ty #[v,.slice ao m c]).run P w= .ok v' w'/\w'.ownsRow 0 e size v' (n+m) (xs++news)/\w.grownBy w' v.ownBlock/\
  (∀g,v'.ownBlock=some g->v.ownBlock=some g\/w.heap.size<=g):=by
 cases ao with
 |none=>
  obtain ⟨rfl,rfl⟩:=hnone rfl;obtain rfl:news=[]:=List.eq_nil_of_length_eq_zero (by simpa using hl);exact ⟨v,w,run_append_owned_none (P:=P) w 0 t ty e i size ht hi v n xs hown,by simpa using hown,⟨rfl,rfl,rfl,aAa _,fun _ _ _=>rfl⟩,fun g hg=> .inl hg⟩
 |some a=>
  have hn:=hnews a rfl;rcases hown.2 with ⟨hv,hn0⟩|⟨g,cap,cur,hv,hbg,hg,hnc,hcm,hcs,htake⟩
  ·subst hv;subst hn0;obtain ⟨v',w',hr,ho,hgr,_⟩:=run_append_own (P:=P) w w.heap.size t ty e i z size nb ht hi hz hsize hby hzs hsz (.slice none 0 0) 0 xs ⟨hown.1,.inl ⟨rfl,rfl⟩⟩ a m c news hl hn h1 h63 hbytes (aAa _);exact ⟨v',w',hr,gn ho 0 (Nat.zero_le _),hgr,fun g hg=> .inr (ho.lt g hg).1⟩
  ·subst hv;by_cases hroom:n+m<=cap
   ·obtain ⟨w',hr,ho,hgr⟩:=run_append_fits (P:=P) w 0 t ty e i size ht hi hsize g n cap xs hown a m c news hl hn h1 hroom;exact ⟨_,w',hr,ho,by simpa[Value.ownBlock] using hgr,fun g' hg'=> .inl hg'⟩
   ·obtain ⟨v',w',hr,ho,hgr⟩:=run_append_arg_grows (P:=P) w t ty e i z size nb ht hi hz hsize hby hzs hsz ⟨g,0,none⟩ n cap xs hown.1 (hown.cells (g:=g) rfl) a m c news hl hn (by omega) h63 hbytes;exact ⟨v',w',hr,gn ho 0 (Nat.zero_le _),⟨hgr.os,hgr.tape,hgr.output,hgr.size,fun k hk _=>hgr.block k hk (by simp)⟩,fun g' hg'=> .inr (ho.lt g' hg').1⟩
theorem ep {P:Program} (w:World) {ops:Array Oper} {rest:List Oper} {o:Oper} {a:Act} {Q:Exit->Act->World->Prop} (hgd:o.guard=none) (s x:Operand) (t:TypeId)
 (ho:o.op= .call {callee:= .builtin .append,args:=#[s,x],argTypes:=#[t,t]})
 (e:TypeId) (i:TypeInfo) (z:Value) (size nb:Nat) (ht:P.underlying t=some (.slice e)) (hi:P.info? e=some i) (hz:i.zero=some z)
 (hsize:i.size=size) (hby:i.bytes=nb) (hzs:z.cells.size=size) (hsz:0<size)
 (v:Value) (n:Nat) (xs:List Value) (hs:a.eval s=v) (hown:w.ownsRow 0 e size v n xs)
 (ao:Option Addr) (m c:Nat) (news:List Value) (hx:a.eval x= .slice ao m c) (hl:news.length=m*size) (hnone:ao=none->m=0/\c=0)
 (hnews:∀ad,ao=some ad->∀j u,news[j]? =some u->w.cell? (ad.add j)=some u) (h1:∀u∈news,u.oneCell'=true)
 (h63:n+m<=maxLen) (hbytes:(n+m)*nb<=140737488355328)
 (h:∀v' w',w'.ownsRow 0 e size v' (n+m) (xs++news)->w.grownBy w' v.ownBlock->(∀g,v'.ownBlock=some g->v.ownBlock=some g\/w.heap.size<=g)->
  wpList P ops Q rest (a.put o.dst v') w'):wpList P ops Q (o::rest) a w:=by
 refine wpList_plain hgd fun K hK=> ?_;obtain ⟨v',w',hr,h2,h3,h4⟩:=ic (P:=P) w t o.type e i z size nb ht hi hz hsize hby hzs hsz v n xs hown ao m c news hl hnone hnews h1 h63 hbytes;unfold Oper.wp execOp;simp only[ho,resolve,invoke,builtin,Sem.run_bind,Sem.run_pure,Result.andThen_ok,List.map_toArray,List.map_cons,List.map_nil,hs,hx,hr];exact hK _ _ (h v' w' h2 h3 h4)
theorem dH {P:Program} {w:World} {ops:Array Oper} {rest:List Oper} {o:Oper} {a:Act} {Q:Exit->Act->World->Prop} (hgd:o.guard=none) (s x:Operand) (t:TypeId)
 (ho:o.op= .call {callee:= .builtin .append,args:=#[s,x],argTypes:=#[t,t]})
 (e:TypeId) (z:Value) (size nb:Nat) (ht:P.underlying t=some (.slice e)) (hinf:(P.info? e).map (fun i=>(i.zero,i.size,i.bytes))=some (some z,size,nb)) (hzs:z.cells.size=size) (hsz:0<size)
 (v:Value) (n:Nat) (xs:List Value) (hs:a.eval s=v) (hown:w.ownsRow 0 e size v n xs)
 (ao:Option Addr) (m c:Nat) (news:List Value) (hx:a.eval x= .slice ao m c) (hl:news.length=m*size) (hnone:ao=none->m=0/\c=0)
 (hnews:∀ad,ao=some ad->∀j u,news[j]? =some u->w.cell? (ad.add j)=some u) (h1:∀u∈news,u.oneCell'=true)
 (h63:n+m<=maxLen) (hbytes:(n+m)*nb<=140737488355328) (q:Nat) (hq:q=n+m)
 (h:∀ao' c' w',w'.ownsRow 0 e size (.slice ao' q c') q (xs++news)->w.grownBy w' v.ownBlock->(∀g,(Value.slice ao' q c').ownBlock=some g->v.ownBlock=some g\/w.heap.size<=g)->
  wpList P ops Q rest (a.put o.dst (.slice ao' q c')) w'):wpList P ops Q (o::rest) a w:=by
 obtain ⟨i,hi,hz,hsize,hby⟩:=info_parts hinf;subst hq;refine ep w hgd s x t ho e i z size nb ht hi hz hsize hby hzs hsz v n xs hs hown ao m c news hx hl hnone hnews h1 h63 hbytes ?_;intro v' w' h1 h2 h3;have hf:∃ao' c',v'= .slice ao' (n+m) c':=by
  rcases h1.2 with ⟨hv,hn⟩|⟨g,cap,cur,hv,_⟩
  ·rw[hv,hn];exact ⟨none,0,rfl⟩
  ·exact ⟨_,_,hv⟩
 obtain ⟨ao',c',rfl⟩:=hf;exact h ao' c' w' h1 h2 h3
theorem gI {P:Program} (w:World) {ops:Array Oper} {o:Oper} {a:Act} {K:Act->World->Prop} {Q:Exit->Act->World->Prop} {E:Prop} (hgd:o.guard=none) (s x:Operand) (t:TypeId)
 (ho:o.op= .call {callee:= .builtin .append,args:=#[s,x],argTypes:=#[t,t]})
 (e:TypeId) (i:TypeInfo) (z:Value) (size nb:Nat) (ht:P.underlying t=some (.slice e)) (hi:P.info? e=some i) (hz:i.zero=some z)
 (hsize:i.size=size) (hby:i.bytes=nb) (hzs:z.cells.size=size) (hsz:0<size)
 (v:Value) (n:Nat) (xs:List Value) (hs:a.eval s=v) (hown:w.ownsRow 0 e size v n xs)
 (ao:Option Addr) (m c:Nat) (news:List Value) (hx:a.eval x= .slice ao m c) (hl:news.length=m*size) (hnone:ao=none->m=0/\c=0)
 (hnews:∀ad,ao=some ad->∀j u,news[j]? =some u->w.cell? (ad.add j)=some u) (h1:∀u∈news,u.oneCell'=true)
 (h63:n+m<=maxLen) (hbytes:(n+m)*nb<=140737488355328)
 (h:∀v' w',w'.ownsRow 0 e size v' (n+m) (xs++news)->w.grownBy w' v.ownBlock->(∀g,v'.ownBlock=some g->v.ownBlock=some g\/w.heap.size<=g)->
  K (a.put o.dst v') w'):if Region.wanted o (yielded ops a.tmps)=true then Oper.wp P o a w K Q else E:=by
 have hw:Region.wanted o (yielded ops a.tmps)=true:=by simp[Region.wanted,hgd]
 rw[if_pos hw];obtain ⟨v',w',hr,h2,h3,h4⟩:=ic (P:=P) w t o.type e i z size nb ht hi hz hsize hby hzs hsz v n xs hown ao m c news hl hnone hnews h1 h63 hbytes;unfold Oper.wp execOp;simp only[ho,resolve,invoke,builtin,Sem.run_bind,Sem.run_pure,Result.andThen_ok,List.map_toArray,List.map_cons,List.map_nil,hs,hx,hr];exact h v' w' h2 h3 h4
theorem fT {P:Program} {w:World} {ops:Array Oper} {rest:List Oper} {o:Oper} {a:Act} {Q:Exit->Act->World->Prop} (hgd:o.guard=none) (x l:Operand) (t e:TypeId)
 (hop:o.op=Op.slice t x (some l) none none) (ht:P.underlying t=some (.slice e)) (i:TypeInfo) (hi:P.info? e=some i) (size:Nat) (hsz:i.size=size)
 (ao:Option Addr) (n cap:Nat) (hx:a.eval x= .slice ao n cap) (kl:IntKind) (m:Nat) (hl:a.eval l= .int kl (m:Int)) (hm:m<=n)
 (h:∀ao',ao'=(if cap=m then ao else ao.map (·.add (m*size)))->wpList P ops Q rest (a.put o.dst (.slice ao' (n-m) (cap-m))) w):wpList P ops Q (o::rest) a w:=by
 have he:P.elem t=e:=by simp[Program.elem,ht]
 refine wpList_plain hgd fun K hK=> ?_;unfold Oper.wp;have h1:(0:Int)<=(m:Int):=by omega
 have h2:(m:Int)<=(n:Int):=by omega
 have hr:=run_slice_l (P:=P) w t ao n cap (by rw[he];exact ht) kl (m:Int) h1 h2;have ha:=run_sliceAt_slice (P:=P) w t (.slice ao n cap) (some (.int kl (m:Int))) none none (by rw[he];exact ht);have hs:(sizeOf (P.elem t)).run P w= .ok size w:=by rw[he];simp[sizeOf,typeInfo,hi,hsz]
 simp only[execOp,hop,hx,hl,Option.map_some,Option.map_none,ha,hr,hs,Sem.run_bind,Result.andThen_ok,Sem.run_pure,Sem.run_map];exact hK _ _ (h _ rfl)
theorem eM {P:Program} {w:World} {ops:Array Oper} {rest:List Oper} {o:Oper} {a:Act} {Q:Exit->Act->World->Prop} (hgd:o.guard=none) (x l:Operand) (t e:TypeId)
 (hop:o.op=Op.slice t x none (some l) none) (ht:P.underlying t=some (.slice e)) (hi:∃i,P.info? e=some i)
 (ao:Option Addr) (n cap:Nat) (hx:a.eval x= .slice ao n cap) (kl:IntKind) (m:Nat) (mi:Int) (hl:a.eval l= .int kl mi) (hmi:mi=(m:Int)) (hm:m<=cap)
 (h:wpList P ops Q rest (a.put o.dst (.slice ao m cap)) w):wpList P ops Q (o::rest) a w:=by
 subst hmi;obtain ⟨i,hi⟩:=hi;have he:P.elem t=e:=by simp[Program.elem,ht]
 refine wpList_plain hgd fun K hK=> ?_;unfold Oper.wp;have h1:(0:Int)<=(m:Int):=by omega
 have h2:(m:Int)<=(cap:Int):=by omega
 have hr:=run_slice_h (P:=P) w t ao n cap (by rw[he];exact ht) kl (m:Int) h1 h2;have ha:=run_sliceAt_slice (P:=P) w t (.slice ao n cap) none (some (.int kl (m:Int))) none (by rw[he];exact ht);have hs:(sizeOf (P.elem t)).run P w= .ok i.size w:=by rw[he];simp[sizeOf,typeInfo,hi]
 have hv:sliced ao 0 (m:Int).toNat cap i.size= .slice ao m cap:=by
  cases ao<;>simp[sliced,Addr.add]
 simp only[execOp,hop,hx,hl,Option.map_some,Option.map_none,ha,hr,hs,Sem.run_bind,Result.andThen_ok,Sem.run_pure,Sem.run_map,hv];exact hK _ _ h
theorem kp {P:Program} {w:World} {ops:Array Oper} {rest:List Oper} {o:Oper} {a:Act} {Q:Exit->Act->World->Prop} (hgd:o.guard=none) (x y:Operand) (ts:Array TypeId)
 (ho:o.op= .call {callee:= .builtin .min,args:=#[x,y],argTypes:=ts}) (k k':IntKind) (p q r:Int) (hx:a.eval x= .int k p) (hy:a.eval y= .int k' q) (hr:(if q<p then q else p)=r)
 (h:wpList P ops Q rest (a.put o.dst (.int k r)) w):wpList P ops Q (o::rest) a w:=by
 refine wpList_plain hgd fun K hK=> ?_;have hrun:(Builtin.min_ ts o.type #[.int k p,.int k' q]).run P w= .ok (.int k r) w:=by
  subst hr;simp[Builtin.min_,Builtin.min2]
 unfold Oper.wp execOp;simp only[ho,resolve,invoke,builtin,Sem.run_bind,Sem.run_pure,Result.andThen_ok,List.map_toArray,List.map_cons,List.map_nil,hx,hy,hrun];exact hK _ _ h
theorem q9 {P:Program} {a:Act} {w:World} {Q:Exit->Act->World->Prop} {c rest:Code} (l:Nat) (hf:findLabel c l=some rest)
 (h:∀J:Act->World->Prop,(∀a' w',rest.wp P (Exit.noGoto Q) a' w'->J a' w')->c.wp P (Exit.jump l J Q) a w):(Code.scope c).wp P Q a w:=by
 refine wp_scope_jumps l (fun a' w'=>rest.wp P (Exit.noGoto Q) a' w') (fun _ _=>0) hf (h _ fun _ _ q=>q) ?_;intro a' w' hJ;refine wp_mono hJ ?_;intro e a2 w2 q;cases e<;>first|exact q|exact q.elim
theorem cB2 {w:World} {b:Nat} {c:Array Value} {e:TypeId} (h:w.heap[b]? =some (.cells c e (0,0))):w.cell? ⟨b,0,none⟩=c[0]? /\w.cell? ⟨b,1,none⟩=c[1]? :=⟨af h 0,af h 1⟩
theorem cB3 {w:World} {b:Nat} {c:Array Value} {e:TypeId} (h:w.heap[b]? =some (.cells c e (0,0))):w.cell? ⟨b,0,none⟩=c[0]? /\w.cell? ⟨b,1,none⟩=c[1]? /\w.cell? ⟨b,2,none⟩=c[2]? :=⟨af h 0,af h 1,af h 2⟩
theorem cB5 {w:World} {b:Nat} {c:Array Value} {e:TypeId} (h:w.heap[b]? =some (.cells c e (0,0))):w.cell? ⟨b,0,none⟩=c[0]? /\w.cell? ⟨b,1,none⟩=c[1]? /\w.cell? ⟨b,2,none⟩=c[2]? /\w.cell? ⟨b,3,none⟩=c[3]? /\w.cell? ⟨b,4,none⟩=c[4]? :=⟨af h 0,af h 1,af h 2,af h 3,af h 4⟩
theorem cB6 {w:World} {b:Nat} {c:Array Value} {e:TypeId} (h:w.heap[b]? =some (.cells c e (0,0))):w.cell? ⟨b,0,none⟩=c[0]? /\w.cell? ⟨b,1,none⟩=c[1]? /\w.cell? ⟨b,2,none⟩=c[2]? /\w.cell? ⟨b,3,none⟩=c[3]? /\w.cell? ⟨b,4,none⟩=c[4]? /\w.cell? ⟨b,5,none⟩=c[5]? :=⟨af h 0,af h 1,af h 2,af h 3,af h 4,af h 5⟩
theorem cB7 {w:World} {b:Nat} {c:Array Value} {e:TypeId} (h:w.heap[b]? =some (.cells c e (0,0))):w.cell? ⟨b,0,none⟩=c[0]? /\w.cell? ⟨b,1,none⟩=c[1]? /\w.cell? ⟨b,2,none⟩=c[2]? /\w.cell? ⟨b,3,none⟩=c[3]? /\w.cell? ⟨b,4,none⟩=c[4]? /\w.cell? ⟨b,5,none⟩=c[5]? /\w.cell? ⟨b,6,none⟩=c[6]? :=⟨af h 0,af h 1,af h 2,af h 3,af h 4,af h 5,af h 6⟩
theorem cB8 {w:World} {b:Nat} {c:Array Value} {e:TypeId} (h:w.heap[b]? =some (.cells c e (0,0))):w.cell? ⟨b,0,none⟩=c[0]? /\w.cell? ⟨b,1,none⟩=c[1]? /\w.cell? ⟨b,2,none⟩=c[2]? /\w.cell? ⟨b,3,none⟩=c[3]? /\w.cell? ⟨b,4,none⟩=c[4]? /\w.cell? ⟨b,5,none⟩=c[5]? /\w.cell? ⟨b,6,none⟩=c[6]? /\w.cell? ⟨b,7,none⟩=c[7]? :=⟨af h 0,af h 1,af h 2,af h 3,af h 4,af h 5,af h 6,af h 7⟩
def aT:List UInt8->Nat
 |[]=>0
 |c::r=>if c.toNat=32 then aT r+1 else 0
def cG (c:UInt8):Bool:=
 decide ((97<=c.toNat/\c.toNat<=122)\/(65<=c.toNat/\c.toNat<=90)\/(48<=c.toNat/\c.toNat<=57)\/c.toNat=95\/c.toNat=45\/c.toNat=46)
def cI:List UInt8->Nat
 |[]=>0
 |c::r=>if cG c=true then cI r+1 else 0
def bP:List UInt8->Bool
 |[]=>true
 |c::_=>decide (c.toNat=35)
theorem sV (l:List UInt8):aT l<=l.length:=by
 induction l with
 |nil=>exact aAa _
 |cons c r ih=>
  unfold aT
  split
  ·simp only[aAd];omega
  ·omega
theorem Cv (l:List UInt8):cI l<=l.length:=by
 induction l with
 |nil=>exact aAa _
 |cons c r ih=>
  unfold cI
  split
  ·simp only[aAd];omega
  ·omega
theorem sW {c:UInt8} {r:List UInt8} (h:c.toNat=32):aT (c::r)=aT r+1:=if_pos h
theorem sU {c:UInt8} {r:List UInt8} (h:¬c.toNat=32):aT (c::r)=0:=if_neg h
theorem Cw {c:UInt8} {r:List UInt8} (h:cG c=true):cI (c::r)=cI r+1:=if_pos h
theorem tR {c:UInt8} {r:List UInt8} (h:¬cG c=true):cI (c::r)=0:=if_neg h
def eU (c:UInt8):Int:=
 if 48<=c.toNat/\c.toNat<=57 then (c.toNat:Int)-48 else if 97<=c.toNat/\c.toNat<=102 then (c.toNat:Int)-87 else -1
def hexB (h l:UInt8):UInt8:=UInt8.ofNat (16*(eU h).toNat+(eU l).toNat)
def sqL:List UInt8->Option (List UInt8×Nat)
 |[]=>none
 |c::r=>
  if c.toNat=39 then
   match r with
   |[]=>some ([],1)
   |d::r'=>if d.toNat=39 then (sqL r').map fun p=>(c::p.1,p.2+2) else some ([],1)
  else (sqL r).map fun p=>(c::p.1,p.2+1)
def qe (e:UInt8):Option UInt8:=
 if e.toNat=34\/e.toNat=92 then some e else if e.toNat=110 then some 10 else if e.toNat=116 then some 9 else none
def dqL:List UInt8->Option (List UInt8×Nat)
 |[]=>none
 |c::r=>
  if c.toNat=34 then some ([],1)
  else if c.toNat=92 then
   match r with
   |[]=>none
   |e::r1=>
    if e.toNat=120 then
     match r1 with
     |h::l::r3=>if eU h<0\/eU l<0 then none else (dqL r3).map fun p=>(hexB h l::p.1,p.2+4)
     |_=>none
    else
     match qe e with
     |some x=>(dqL r1).map fun p=>(x::p.1,p.2+2)
     |none=>none
  else (dqL r).map fun p=>(c::p.1,p.2+1)
def de:List UInt8->Option (List UInt8×Nat)
 |[]=>none
 |c::r=>(if c.toNat=34 then dqL r else sqL r).map fun p=>(p.1,p.2+1)
def pH (c:UInt8):Bool:=[34,39,35,44,91,93,123,125,38,42,33,124,62,37,64,63,58,96].contains c
def eW:List UInt8->Bool
 |[]=>false
 |[c]=>decide (c.toNat=45)
 |c::d::_=>decide (c.toNat=45/\d.toNat=32)
def aQ:List UInt8->List UInt8
 |[]=>[]
 |c::r=>if c.toNat=32/\r.head? =some 35 then [] else c::aQ r
def aL:List UInt8->List UInt8
 |[]=>[]
 |c::r=>if aL r=[]/\c.toNat=32 then [] else c::aL r
def kL:List UInt8->Bool
 |[]=>false
 |[c]=>decide (c.toNat=58)
 |c::d::r=>decide (c.toNat=58/\d.toNat=32)||kL (d::r)
def DQ:List UInt8->Bool
 |[]=>false
 |c::_=>pH c
def eR (t:List UInt8):Option (List UInt8):=
 if DQ t=true\/eW t=true then none
 else if kL (aL (aQ t))=true\/aL (aQ t)=[45,45,45] then none
 else some (aL (aQ t))
structure Tok where
 kind:Int
 line:Int
 col:Int
 text:List UInt8
 quoted:Bool
def eG (l:List UInt8):Int:=
 if l.any (fun c=>decide (c.toNat=9))=true then 80 else if l.any (fun c=>decide (c.toNat<32\/c.toNat=127))=true then 83 else 0
def je (l:List UInt8):Bool:=
 match l with
 |a::b::c::r=>decide (a.toNat=45/\b.toNat=45/\c.toNat=45)&&(r.drop (aT r)==[]||(decide (0<aT r)&&bP (r.drop (aT r))))
 |_=>false
def dj (l:List UInt8):Nat->Nat->List Nat×Nat
 |0,i=>([],i)
 |f+1,i=>
  if bP (l.drop i)=false/\eW (l.drop i)=true then
   (i::(dj l f (i+1+aT (l.drop (i+1)))).1,(dj l f (i+1+aT (l.drop (i+1)))).2)
  else ([],i)
def bZ:List UInt8->Bool
 |[]=>false
 |[c]=>decide (c.toNat=58)
 |c::d::_=>decide (c.toNat=58/\d.toNat=32)
def isQuot:List UInt8->Bool
 |[]=>false
 |c::_=>decide (c.toNat=34\/c.toNat=39)
def rT (t:List UInt8):Except Int (Option (List UInt8×Bool×Nat)):=
 if isQuot t=true then
  match de t with
  |none=> .error 82
  |some (x,n)=> .ok (if bZ (t.drop n)=true then some (x,true,n+1) else none)
 else .ok (if 0<cI t/\cI t<=64/\bZ (t.drop (cI t))=true then some (t.take (cI t),false,cI t+1) else none)
def iC (t:List UInt8):Except Int (Option (List UInt8×Bool)):=
 if bP t=true then .ok none
 else if isQuot t=true then
  match de t with
  |none=> .error 82
  |some (x,n)=>
   if t.drop (n+aT (t.drop n))≠[]/\(aT (t.drop n)=0\/bP (t.drop (n+aT (t.drop n)))=false) then .error 82
   else .ok (some (x,true))
 else
  match eR t with
  |none=> .error 83
  |some x=> .ok (some (x,false))
def dP (l:List UInt8) (n:Int) (ts:List Tok) (i:Nat):Except Int (List Tok):=
 match iC (l.drop i) with
 | .error e=> .error e
 | .ok none=> .ok ts
 | .ok (some (x,q))=> .ok (ts++[⟨4,n,(i:Int),x,q⟩])
def fI (l:List UInt8) (n:Int) (ts:List Tok) (i:Nat):Except Int (List Tok):=
 if bP (l.drop i)=true then .ok ts
 else
  match rT (l.drop i) with
  | .error e=> .error e
  | .ok none=>dP l n ts i
  | .ok (some (x,q,m))=>dP l n (ts++[⟨3,n,(i:Int),x,q⟩]) (i+m+aT (l.drop (i+m)))
def du (l:List UInt8) (n:Int):Except Int (List Tok):=
 if eG l≠0 then .error (eG l)
 else if je l=true then .ok [⟨1,n,0,[],false⟩]
 else fI l n ((dj l (l.length+1) (aT l)).1.map fun (c:Nat)=>(⟨2,n,(c:Int),[],false⟩:Tok)) (dj l (l.length+1) (aT l)).2
def fV (l:List UInt8):Bool:=
 match du l 1 with
 | .ok [t]=>decide (t.kind=4)&& !t.quoted&&decide (t.text=l)
 |_=>false
instance memBA (a:ByteArray):(l:List ByteArray)->Decidable (a∈l)
 |[]=>isFalse (fun h=>nomatch h)
 |b::r=>
  if e:a=b then isTrue (by rw[e];exact List.mem_cons_self ..)
  else
   match memBA a r with
   |isTrue h=>isTrue (List.mem_cons_of_mem _ h)
   |isFalse h=>isFalse (fun q=>by rcases List.mem_cons.1 q with q|q;exact e q;exact h q)
structure Nd where
 kind:Int
 key:ByteArray
 text:ByteArray
 quoted:Bool
 line:Int
 kids:List Int
instance:Inhabited Nd:=⟨⟨0,⟨#[]⟩,⟨#[]⟩,false,0,[]⟩⟩
def g8 (kind:Int) (key:ByteArray) (had:List ByteArray):Bool:=
 !(decide (kind=3/\key≠⟨#[]⟩)||decide (kind=2/\key∈had))
def cN (ns:List Nd) (kind:Int) (deep:Nat):List Int->Int->List ByteArray->List Nat->Option (List Nat)
 |[],_,_,d=>some d
 |k::r,last,had,d=>
  if k<=last\/(ns.length:Int)<=k\/d[k.toNat]! ≠0 then none
  else if g8 kind (ns[k.toNat]!).key had=false then none
  else cN ns kind deep r k ((ns[k.toNat]!).key::had) (d.set k.toNat (deep+1))
def dd (n:Nd):Bool:=decide (n.kids=[])&&(n.quoted||decide (n.text=⟨#[]⟩)||fV n.text.data.toList)
def cM (ns:List Nd) (i:Nat) (n:Nd) (d:List Nat):Option (List Nat):=
 if d[i]! =0\/16<d[i]! then none
 else if n.kind=1 then (if dd n=true then some d else none)
 else if (n.kind≠2/\n.kind≠3)\/n.kids=[]\/n.text≠⟨#[]⟩\/n.quoted=true then none
 else cN ns n.kind d[i]! n.kids (i:Int) [] d
def eJ (ns:List Nd):List Nd->Nat->List Nat->Bool
 |[],_,_=>true
 |n::r,i,d=>
  match cM ns i n d with
  |none=>false
  |some d'=>eJ ns r (i+1) d'
def dI (ns:List Nd):Bool:=
 decide (ns≠[]/\ns.length<=4096/\(ns[0]!).key=⟨#[]⟩)&&eJ ns ns 0 (1::List.replicate (ns.length-1) 0)
def kE (ns:List Nd) (k:Nat):List Nat:=
 (List.range k).flatMap fun i=>((ns[i]!).kids.filter fun x=>decide (x=(k:Int))).map fun _=>i
def dw (ns:List Nd) (kind:Int):List Int->Int->List ByteArray->Bool
 |[],_,_=>true
 |k::r,last,had=>
  if k<=last\/(ns.length:Int)<=k then false
  else if g8 kind (ns[k.toNat]!).key had=false then false
  else dw ns kind r k ((ns[k.toNat]!).key::had)
def jd (ns:List Nd) (i:Nat) (n:Nd):Bool:=
 if n.kind<1\/3<n.kind then false
 else if n.kind=1/\¬dd n=true then false
 else if 1<n.kind/\(n.kids=[]\/n.text≠⟨#[]⟩\/n.quoted=true\/¬dw ns n.kind n.kids (i:Int) []=true) then false
 else true
def SlR {α:Type} (w:World) (v:Value) (sz:Nat) (xs:List α) (cells:α->List Value):Prop:=
 ∃ao cap,v= .slice ao xs.length cap/\xs.length<=1048576/\(0<xs.length->∃b o,ao=some ⟨b,o,none⟩/\b<w.heap.size/\∀i x,xs[i]? =some x->∀j u,(cells x)[j]? =some u->w.cell? ⟨b,o+i*sz+j,none⟩=some u)
theorem SlR.later {α:Type} {w w2:World} {v:Value} {sz:Nat} {xs:List α} {cells:α->List Value} (h:SlR w v sz xs cells) (hb:Below w.heap.size w w2):SlR w2 v sz xs cells:=by
 obtain ⟨ao,cap,hv,hl,h⟩:=h;refine ⟨ao,cap,hv,hl,fun h0=> ?_⟩;obtain ⟨b,o,ha,hlt,hc⟩:=h h0;exact ⟨b,o,ha,Nat.lt_of_lt_of_le hlt hb.size,fun i x hi j u hu=>(hb.cell hlt).trans (hc i x hi j u hu)⟩
theorem SlR.below {α:Type} {w w2:World} {v:Value} {sz:Nat} {xs:List α} {cells:α->List Value} {B:Nat} (h:SlR w v sz xs cells) (hb:Below B w w2) (hB:w.heap.size<=B):SlR w2 v sz xs cells:=h.later (hb.mono hB)
theorem gV {α:Type} {sz:Nat} {cells:α->List Value} (hl:∀x,(cells x).length=sz):∀(xs:List α) (i:Nat) (x:α),xs[i]? =some x->∀j u,(cells x)[j]? =some u->(xs.flatMap cells)[i*sz+j]? =some u
 |[],i,x,h,j,u,hu=>by simp at h
 |y::r,0,x,h,j,u,hu=>by
  simp only[List.getElem?_cons_zero,Option.some.injEq]at h;subst h;have hj:j<(cells y).length:=(aAh hu).1;rw[List.flatMap_cons,Nat.zero_mul,Nat.zero_add,List.getElem?_append_left hj];exact hu
 |y::r,i+1,x,h,j,u,hu=>by
  rw[List.getElem?_cons_succ]at h;rw[List.flatMap_cons,List.getElem?_append_right (by rw[hl];rw[Nat.add_mul];omega),hl,<-gV hl r i x h j u hu];congr 1;rw[Nat.add_mul];omega
theorem flat_len {α:Type} {sz:Nat} {cells:α->List Value} (hl:∀x,(cells x).length=sz) (xs:List α):(xs.flatMap cells).length=xs.length*sz:=by
 induction xs with
 |nil=>simp
 |cons y r ih=>rw[List.flatMap_cons,aAc,hl,ih,aAd,Nat.add_mul];omega
theorem SlR.ofRow {α:Type} {w:World} {v:Value} {B:Nat} {e:TypeId} {sz n:Nat} {xs:List α} {cells:α->List Value} (h:w.ownsRow B e sz v n (xs.flatMap cells)) (hn:n=xs.length) (hl:∀x,(cells x).length=sz) (hb:n<=1048576) (hsz:0<sz):SlR w v sz xs cells:=by
 subst hn;rcases h.2 with ⟨hv,h0⟩|⟨g,cap,cur,hv,_⟩
 ·exact ⟨none,0,by rw[hv,h0],hb,fun hh=>by omega⟩
 ·subst hv;have hlt:=(h.lt g rfl).2;refine ⟨some ⟨g,0,none⟩,cap,rfl,hb,fun h0=>⟨g,0,rfl,hlt,fun i x hi j u hu=> ?_⟩⟩;have hj:j<sz:=by rw[<-hl x];exact (aAh hu).1
  have hi2:=(aAh hi).1;have hm:i*sz+j<xs.length*sz:=by
   have:(i+1)*sz<=xs.length*sz:=Nat.mul_le_mul_right sz hi2;rw[Nat.add_mul]at this;omega
  rw[Nat.zero_add,h.cellAt _ hm];exact gV hl xs i x hi j u hu
abbrev I64 (n:Int):Prop:= -9223372036854775808<=n/\n<=9223372036854775807
def aP (x:Int):List Value:=[.int .i64 x]
structure NdM where
 nd:Nd
 kv:Value
instance:Inhabited NdM:=⟨⟨default,.slice none 0 0⟩⟩
def NdM.cells (m:NdM):List Value:=[.int .i64 m.nd.kind,.string m.nd.key,.string m.nd.text,.bool m.nd.quoted,.int .i64 m.nd.line,m.kv]
def NdM.v (m:NdM):Value:= .agg #[.int .i64 m.nd.kind,.string m.nd.key,.string m.nd.text,.bool m.nd.quoted,.int .i64 m.nd.line,m.kv]
structure NdM.Ok (w:World) (m:NdM):Prop where
 kind:I64 m.nd.kind
 line:I64 m.nd.line
 key:m.nd.key.size<=1048576
 text:m.nd.text.size<=1048576
 kids:SlR w m.kv 1 m.nd.kids aP
theorem NdM.Ok.later {w w2:World} {m:NdM} (h:m.Ok w) (hb:Below w.heap.size w w2):m.Ok w2:=⟨h.kind,h.line,h.key,h.text,h.kids.later hb⟩
structure Nds (w:World) (v:Value) (ms:List NdM):Prop where
 sl:SlR w v 6 ms NdM.cells
 each:∀m∈ms,m.Ok w
theorem Nds.later {w w2:World} {v:Value} {ms:List NdM} (h:Nds w v ms) (hb:Below w.heap.size w w2):Nds w2 v ms:=⟨h.sl.later hb,fun m hm=>(h.each m hm).later hb⟩
def nds (ms:List NdM):List Nd:=ms.map (·.nd)
theorem eS {ms:List NdM} {k:Nat} {m:NdM} (h:ms[k]? =some m):(nds ms)[k]! =m.nd:=by
 unfold nds;rw[List.getElem!_eq_getElem?_getD,List.getElem?_map,h];rfl
theorem bt (ms:List NdM):(nds ms).length=ms.length:=List.length_map ..
theorem au {α:Type} {l:List α} {k:Nat} (h:k<l.length):∃x,l[k]? =some x:=⟨l[k],aAg h⟩
theorem bT {l:List UInt8} {k:Nat} {c:UInt8} (h:l[k]? =some c):l.drop k=c::l.drop (k+1):=by
 obtain ⟨hk,he⟩:=aAh h;rw[List.drop_eq_getElem_cons hk,he]
theorem dropEnd {l:List UInt8} {k:Nat} (h:l.length<=k):l.drop k=[]:=List.drop_eq_nil_iff.2 h
theorem Ey {l:List UInt8} {k:Nat} {c:UInt8} (h:l[k]? =some c) (hc:c.toNat=32):aT (l.drop k)=aT (l.drop (k+1))+1:=by
 rw[bT h,sW hc]
theorem Ex {l:List UInt8} {k:Nat} {c:UInt8} (h:l[k]? =some c) (hc:¬c.toNat=32):aT (l.drop k)=0:=by
 rw[bT h,sU hc]
theorem Bh {l:List UInt8} {k:Nat} (h:l.length<=k):aT (l.drop k)=0:=by
 rw[dropEnd h];rfl
theorem gL {l:List UInt8} {k:Nat} (h:k<=l.length):k+aT (l.drop k)<=l.length:=by
 have:=sV (l.drop k);rw[List.length_drop]at this;omega
theorem Fg {l:List UInt8} {k:Nat} {c:UInt8} (h:l[k]? =some c) (hc:cG c=true):cI (l.drop k)=cI (l.drop (k+1))+1:=by
 rw[bT h,Cw hc]
theorem Ff {l:List UInt8} {k:Nat} {c:UInt8} (h:l[k]? =some c) (hc:¬cG c=true):cI (l.drop k)=0:=by
 rw[bT h,tR hc]
theorem Ct {l:List UInt8} {k:Nat} (h:l.length<=k):cI (l.drop k)=0:=by
 rw[dropEnd h];rfl
theorem Cs {l:List UInt8} {k:Nat} (h:k<=l.length):k+cI (l.drop k)<=l.length:=by
 have:=Cv (l.drop k);rw[List.length_drop]at this;omega
theorem nS {l:List UInt8} {k:Nat} {c:UInt8} (h:l[k]? =some c):bP (l.drop k)=decide (c.toNat=35):=by
 rw[bT h];rfl
theorem jx {l:List UInt8} {k:Nat} (h:l.length<=k):bP (l.drop k)=true:=by
 rw[dropEnd h];rfl
def bU (q:UInt8) (l:List UInt8):Option (List UInt8×Nat):=if q.toNat=34 then dqL l else sqL l
theorem tJ {l:List UInt8} {k:Nat} {q:UInt8} (h:l[k]? =some q):de (l.drop k)=(bU q (l.drop (k+1))).map fun p=>(p.1,p.2+1):=by
 rw[bT h];rfl
theorem qG (q:UInt8):bU q []=none:=by
 unfold bU
 split<;>rfl
theorem kW {l:List UInt8} {c:UInt8} (hc:c.toNat=39) (h:∀d,l.head? =some d->¬d.toNat=39):sqL (c::l)=some ([],1):=by
 unfold sqL;rw[if_pos hc];cases l with
 |nil=>rfl
 |cons d r=>exact if_neg (h d rfl)
theorem Bd {l:List UInt8} {c d:UInt8} (hc:c.toNat=39) (hd:d.toNat=39):sqL (c::d::l)=(sqL l).map fun p=>(c::p.1,p.2+2):=by
 rw[sqL.eq_def];simp only;rw[if_pos hc];exact if_pos hd
theorem oq {l:List UInt8} {c:UInt8} (hc:¬c.toNat=39):sqL (c::l)=(sqL l).map fun p=>(c::p.1,p.2+1):=by
 rw[sqL.eq_def];simp only;rw[if_neg hc]
theorem uD {l:List UInt8} {c:UInt8} (hc:c.toNat=34):dqL (c::l)=some ([],1):=by
 unfold dqL;exact if_pos hc
theorem uC {l:List UInt8} {c:UInt8} (hc:¬c.toNat=34) (hb:¬c.toNat=92):dqL (c::l)=(dqL l).map fun p=>(c::p.1,p.2+1):=by
 rw[dqL.eq_def];simp only;rw[if_neg hc,if_neg hb]
theorem yp {c:UInt8} (hb:c.toNat=92):dqL [c]=none:=by
 rw[dqL.eq_def];simp only;rw[if_neg (by omega),if_pos hb]
theorem pk {l:List UInt8} {c e x:UInt8} (hb:c.toNat=92) (he:¬e.toNat=120) (hx:qe e=some x):dqL (c::e::l)=(dqL l).map fun p=>(x::p.1,p.2+2):=by
 rw[dqL.eq_def];simp only;rw[if_neg (by omega),if_pos hb];rw[if_neg he,hx]
theorem Dv {l:List UInt8} {c e:UInt8} (hb:c.toNat=92) (he:¬e.toNat=120) (hx:qe e=none):dqL (c::e::l)=none:=by
 rw[dqL.eq_def];simp only;rw[if_neg (by omega),if_pos hb];rw[if_neg he,hx]
theorem Du {l:List UInt8} {c e h o:UInt8} (hb:c.toNat=92) (he:e.toNat=120) (h1:0<=eU h) (h2:0<=eU o):dqL (c::e::h::o::l)=(dqL l).map fun p=>(hexB h o::p.1,p.2+4):=by
 rw[dqL.eq_def];simp only;rw[if_neg (by omega),if_pos hb];rw[if_pos he,if_neg (by omega)]
theorem mD {l:List UInt8} {c e h o:UInt8} (hb:c.toNat=92) (he:e.toNat=120) (h1:eU h<0\/eU o<0):dqL (c::e::h::o::l)=none:=by
 rw[dqL.eq_def];simp only;rw[if_neg (by omega),if_pos hb];rw[if_pos he,if_pos h1]
theorem mC {l:List UInt8} {c e:UInt8} (hb:c.toNat=92) (he:e.toNat=120) (h1:l.length<2):dqL (c::e::l)=none:=by
 rw[dqL.eq_def];simp only;rw[if_neg (by omega),if_pos hb];rw[if_pos he]
 match l,h1 with
 |[],_=>rfl
 |[a],_=>rfl
theorem nV (c:UInt8):eU c<=15:=by
 unfold eU
 split
 ·omega
 ·split<;>omega
theorem C3 {h l:UInt8} (h1:0<=eU h) (h2:0<=eU l):((hexB h l).toNat:Int)=16*eU h+eU l:=by
 have a:=nV h;have b:=nV l;unfold hexB;rw[UInt8.toNat_ofNat'];omega
def kO (q:UInt8) (l:List UInt8) (i k:Nat) (out:List UInt8):Prop:=
 i<k/\k<=l.length/\bU q (l.drop (i+1))=(bU q (l.drop k)).map fun p=>(out++p.1,p.2+(k-(i+1)))
theorem kO.first {q:UInt8} {l:List UInt8} {i:Nat} (h:i<l.length):kO q l i (i+1) []:=
 ⟨Nat.lt_succ_self i,h,by rw[Nat.sub_self];cases bU q (l.drop (i+1))<;>rfl⟩
theorem kO.step {q:UInt8} {l:List UInt8} {i k m:Nat} {out:List UInt8} {x:UInt8} (h:kO q l i k out) (hm:1<=m) (hkm:k+m<=l.length)
 (hs:bU q (l.drop k)=(bU q (l.drop (k+m))).map fun p=>(x::p.1,p.2+m)):kO q l i (k+m) (out++[x]):=by
 obtain ⟨h1,h2,h3⟩:=h;refine ⟨by omega,hkm,?_⟩;rw[h3,hs,Option.map_map];congr 1;funext p;simp only[Function.comp,List.append_assoc,List.singleton_append];congr 1;omega
theorem kO.none {q:UInt8} {l:List UInt8} {i k:Nat} {out:List UInt8} (h:kO q l i k out) (hq:l[i]? =some q) (hs:bU q (l.drop k)=Option.none):de (l.drop i)=Option.none:=by
 rw[tJ hq,h.2.2,hs];rfl
theorem kO.done {q:UInt8} {l:List UInt8} {i k:Nat} {out:List UInt8} (h:kO q l i k out) (hq:l[i]? =some q) (hs:bU q (l.drop k)=some ([],1)):de (l.drop i)=some (out,k+1-i):=by
 rw[tJ hq,h.2.2,hs];simp only[Option.map_some,List.append_nil];have:=h.1;congr 2;omega
theorem kO.len {q:UInt8} {l:List UInt8} {i k:Nat} {out:List UInt8} (h:kO q l i k out):k<=l.length:=h.2.1
theorem vA:∀(n:Nat) (l:List UInt8),l.length<=n->∀x m,sqL l=some (x,m)->1<=m/\m<=l.length/\x.length<m
 |_,[],_,x,m,h=>by simp[sqL]at h
 |n+1,c::r,hn,x,m,h=>by
  simp only[aAd]at hn |-;by_cases hc:c.toNat=39
  ·cases r with
   |nil=>
    rw[kW hc (fun d h=>by simp at h)]at h;simp only[Option.some.injEq,Prod.mk.injEq]at h;obtain ⟨rfl,rfl⟩:=h;simp
   |cons d r=>
    by_cases hd:d.toNat=39
    ·rw[Bd hc hd]at h;obtain ⟨p,hp,he⟩:=Option.map_eq_some_iff.1 h;simp only[Prod.mk.injEq]at he;obtain ⟨rfl,rfl⟩:=he;have:=vA n r (by simp only[aAd]at hn;omega) _ _ hp;simp only[aAd];omega
    ·rw[kW hc (fun e h=>by simp only[List.head?_cons,Option.some.injEq]at h;subst h;exact hd)]at h;simp only[Option.some.injEq,Prod.mk.injEq]at h;obtain ⟨rfl,rfl⟩:=h;simp
  ·rw[oq hc]at h;obtain ⟨p,hp,he⟩:=Option.map_eq_some_iff.1 h;simp only[Prod.mk.injEq]at he;obtain ⟨rfl,rfl⟩:=he;have:=vA n r (by omega) _ _ hp;simp only[aAd];omega
theorem sf:∀(n:Nat) (l:List UInt8),l.length<=n->∀x m,dqL l=some (x,m)->1<=m/\m<=l.length/\x.length<m
 |_,[],_,x,m,h=>by simp[dqL]at h
 |n+1,c::r,hn,x,m,h=>by
  simp only[aAd]at hn |-;by_cases hc:c.toNat=34
  ·rw[uD hc]at h;simp only[Option.some.injEq,Prod.mk.injEq]at h;obtain ⟨rfl,rfl⟩:=h;simp
  ·by_cases hb:c.toNat=92
   ·cases r with
    |nil=>rw[yp hb]at h;cases h
    |cons e r=>
     simp only[aAd]at hn |-;by_cases he:e.toNat=120
     ·match r with
      |[]=>rw[mC hb he (by simp)]at h;cases h
      |[a]=>rw[mC hb he (by simp)]at h;cases h
      |a::o::r=>
       by_cases hx:eU a<0\/eU o<0
       ·rw[mD hb he hx]at h;cases h
       ·rw[Du hb he (by omega) (by omega)]at h;obtain ⟨p,hp,hq⟩:=Option.map_eq_some_iff.1 h;simp only[Prod.mk.injEq]at hq;obtain ⟨rfl,rfl⟩:=hq;simp only[aAd]at hn |-;have:=sf n r (by omega) _ _ hp;omega
     ·cases hx:qe e with
      |none=>rw[Dv hb he hx]at h;cases h
      |some y=>
       rw[pk hb he hx]at h;obtain ⟨p,hp,hq⟩:=Option.map_eq_some_iff.1 h;simp only[Prod.mk.injEq]at hq;obtain ⟨rfl,rfl⟩:=hq;have:=sf n r (by omega) _ _ hp;simp only[aAd];omega
   ·rw[uC hc hb]at h;obtain ⟨p,hp,he⟩:=Option.map_eq_some_iff.1 h;simp only[Prod.mk.injEq]at he;obtain ⟨rfl,rfl⟩:=he;have:=sf n r (by omega) _ _ hp;simp only[aAd];omega
theorem jv {l:List UInt8} {x:List UInt8} {m:Nat} (h:de l=some (x,m)):2<=m/\m<=l.length/\x.length<m:=by
 cases l with
 |nil=>cases h
 |cons c r=>
  rw[show de (c::r)=(if c.toNat=34 then dqL r else sqL r).map fun p=>(p.1,p.2+1) from rfl]at h;obtain ⟨p,hp,he⟩:=Option.map_eq_some_iff.1 h;simp only[Prod.mk.injEq]at he;obtain ⟨rfl,rfl⟩:=he;simp only[aAd]
  split at hp
  ·have:=sf _ r (aAa _) _ _ hp;omega
  ·have:=vA _ r (aAa _) _ _ hp;omega
end Go.Proofs.YtfenoaeoedobmaaGreatDoor
namespace Go.Proofs
open Go.Shelf Go.RowKit Go.Sort Go.Lib
def Tryz.laysC174_ren:Go.Shelf.Ren:=⟨fun|174=>154|247=>188|245=>189|287=>209|279=>210|280=>211|281=>212|282=>213|321=>225|322=>226|316=>227|171=>112|205=>228|243=>149|246=>182|283=>200|284=>201|285=>202|286=>203|129=>221|317=>220|318=>222|319=>223|320=>224|337=>231|338=>232|n=>n,fun|9=>9|3=>3|2=>2|75=>164|85=>223|4=>4|167=>261|5=>5|53=>184|175=>262|46=>205|168=>264|37=>42|0=>0|210=>273|21=>21|127=>209|145=>279|143=>277|171=>253|173=>256|212=>268|51=>228|20=>20|213=>269|232=>280|233=>281|80=>167|n=>n,fun|15=>3|16=>4|17=>2|18=>5|19=>6|n=>n⟩
theorem Tryz.laysC174:Go.Proofs.LaysC.n174 Tryz.prog Tryz.laysC174_ren:=by repeat' first|kernel_rfl|(intros;kernel_rfl)|exact fun _=>rfl|decide|constructor
theorem Tryz.strconv_ParseInt_10_at64_ok (s:ByteArray) (hmax:s.size<=9223372036854775806) (v:Int) (h:Lib.parseIntB 64 s.data.toList= .ok v) (w:World):
 Calls Tryz.prog 154 #[.string s,.int .i64 10,.int .i64 64] w fun e w'=>e= .returned (.tuple #[.int .i64 v,.nilIface])/\(w'=w\/∃t,w'=Lib.bytesWorld w 5 t):=Any.strconv_ParseInt_10_at64_ok Tryz.laysC174 s hmax v h w
theorem Tryz.strconv_ParseInt_10_at64_range (s:ByteArray) (hlim:s.size<=281474976710656) (h:Lib.parseIntB 64 s.data.toList= .range) (ev:Value) (w:World) (hv:w.cell? ⟨4,0,none⟩=some ev) (hev:ev= .nilIface\/∃te pe,ev= .iface te pe):
 Calls Tryz.prog 154 #[.string s,.int .i64 10,.int .i64 64] w fun e w'=>∃N,e= .returned (.tuple #[.int .i64 (Lib.intSat 64 s.data.toList),.iface 264 (.pointer (some ⟨N,0,none⟩))])/\w.heap.size<=N/\w'.heap[N]? =some (.cells #[.string ⟨#[80,97,114,115,101,73,110,116]⟩,.string s,ev] 273 (0,0))/\Below w.heap.size w w':=Any.strconv_ParseInt_10_at64_range Tryz.laysC174 s hlim h ev w hv hev
def Tryz.lays99_ren:Go.Shelf.Ren:=⟨fun|99=>115|206=>153|n=>n,fun|9=>9|4=>4|3=>3|n=>n,fun|n=>n⟩
theorem Tryz.lays99:Go.Proofs.Lays.n99 Tryz.prog Tryz.lays99_ren:=by repeat' first|kernel_rfl|(intros;kernel_rfl)|exact fun _=>rfl|decide|constructor
theorem Tryz.strings_HasPrefix (s p:ByteArray) (w:World):
 Calls Tryz.prog 115 #[.string s,.string p] w fun e w'=>e= .returned (.bool (Lib.hasPrefix s.data.toList p.data.toList))/\w'=w:=Any.strings_HasPrefix Tryz.lays99 s p w
