/-
Parts of a proof.
-/
import Derived.Test.YtfenoaeoedobmaaGreatDoorOn13
import Derived.Test.YtfenoaeoedobmaaGreatDoorOn14
set_option linter.unusedVariables false
set_option linter.unusedSimpArgs false
set_option maxHeartbeats 8000000
set_option maxRecDepth 100000
namespace Go.Proofs.YtfenoaeoedobmaaGreatDoor
open Go Go.RowKit
def Exit.jumps (J:Nat->Act->World->Prop) (Q:Exit->Act->World->Prop):Exit->Act->World->Prop
 | .goto l,a,w=>J l a w
 |e,a,w=>Q e a w
section
variable {P:Program} {a:Act} {w:World} {Q:Exit->Act->World->Prop}
theorem dU {c:Code} (J:Nat->Act->World->Prop) (μ:Nat->Act->World->Nat)
 (first:c.wp P (Exit.jumps J Q) a w)
 (pass:∀l a w,J l a w->∃rest,findLabel c l=some rest/\rest.wp P (Exit.jumps (fun l' a' w'=>J l' a' w'/\μ l' a' w'<μ l a w) Q) a w):(Code.scope c).wp P Q a w:=by
 intro b k cs;have key:∀n l a w,μ l a w=n->J l a w->∃rest,findLabel c l=some rest/\∃e a' w',Q e a' w'/\Arrives P (lone (b.at a (.code rest:: .inScope c::k)) cs w) b k cs e a' w':=by
  intro n
  induction n using Nat.strongRecOn with
  |_ n ih=>
   intro l a w hn hJ;obtain ⟨rest,hf,hp⟩:=pass l a w hJ;refine ⟨rest,hf,?_⟩;obtain ⟨e,a₁,w₁,hq,eC⟩:=hp b (.inScope c::k) cs;cases e with
   |normal=>exact ⟨.normal,a₁,w₁,hq,Steps.trans eC (.one step_inScope)⟩
   |exit id=>exact ⟨.exit id,a₁,w₁,hq,fun k' hk=>eC k' (by simp[exitTo,hk])⟩
   |goto l'=>
    obtain ⟨KT,aN⟩:=hq;obtain ⟨MP,im,e₂,a₂,w₂,hq₂,O8⟩:=ih _ (by omega) l' a₁ w₁ rfl KT;have hg:gotoIn l' (.inScope c::k)=some (.code MP:: .inScope c::k):=by simp[gotoIn,im]
    exact ⟨e₂,a₂,w₂,hq₂,.of_steps (eC _ hg) O8⟩
   |ret=>exact ⟨_,a₁,w₁,hq,eC⟩
   |panic ch=>exact ⟨_,a₁,w₁,hq,eC⟩
   |outgrown=>exact ⟨_,a₁,w₁,hq,eC⟩
 obtain ⟨e,a₁,w₁,hq,eC⟩:=first b (.inScope c::k) cs
 cases e with
 |normal=>exact ⟨.normal,a₁,w₁,hq,.head step_scope (Steps.trans eC (.one step_inScope))⟩
 |exit id=>exact ⟨.exit id,a₁,w₁,hq,fun k' hk=> .head step_scope (eC k' (by simp[exitTo,hk]))⟩
 |goto l'=>
  obtain ⟨MP,im,e₂,a₂,w₂,hq₂,O8⟩:=key _ l' a₁ w₁ rfl hq;have hg:gotoIn l' (.inScope c::k)=some (.code MP:: .inScope c::k):=by simp[gotoIn,im]
  exact ⟨e₂,a₂,w₂,hq₂,.of_steps (.head step_scope (eC _ hg)) O8⟩
 |ret=>exact ⟨_,a₁,w₁,hq,.of_steps (.one step_scope) eC⟩
 |panic ch=>exact ⟨_,a₁,w₁,hq,.of_steps (.one step_scope) eC⟩
 |outgrown=>exact ⟨_,a₁,w₁,hq,.of_steps (.one step_scope) eC⟩
end
def Tok.cells (t:Tok):List Value:=[.int .i64 t.kind,.int .i64 t.line,.int .i64 t.col,.string ⟨t.text.toArray⟩,.bool t.quoted]
def lX (ts:List Tok):List Value:=ts.flatMap Tok.cells
theorem Je (ts:List Tok) (t:Tok):lX (ts++[t])=lX ts++t.cells:=by simp[lX]
abbrev RT (w wr:World) (T:TypeId) (v:Value) (ts:List Tok):Prop:=RO w wr T 5 v ts.length (lX ts)
theorem RT.app {w wr w2:World} {T:TypeId} {v v':Value} {ts:List Tok} {t:Tok} {o:Obj} (h:RT w wr T v ts) (aB:w2.ownsRow 0 T 5 v' (ts.length+1) (lX ts++t.cells)) (bC:(wr.alloc o).grownBy w2 v.ownBlock)
 (aA:∀g,v'.ownBlock=some g->v.ownBlock=some g\/(wr.alloc o).heap.size<=g):RT w w2 T v' (ts++[t]):=by
 have:=RO.app h ((aBi _ wr).alloc (aBh _) o) aB bC aA
 show RO w w2 T 5 v' (ts++[t]).length (lX (ts++[t]))
 rw[Je,aBj];exact this
theorem fR {w:World} {ops:Array Oper} {rest:List Oper} {o:Oper} {a:Act} {Q:Exit->Act->World->Prop} (ln:o.guard=none) (s x:Operand) (ST T:TypeId)
 (ho:o.op= .call {callee:= .builtin .append,args:=#[s,x],argTypes:=#[ST,ST]}) (cw: Tryz.prog.underlying ST=some (.slice T))
 (oN:(Tryz.prog.info? T).map (fun i=>(i.zero,i.size,i.bytes))=some (some (.agg #[.int .i64 0,.int .i64 0,.int .i64 0,.string ⟨#[]⟩,.bool false]),5,48))
 (v:Value) (ts:List Tok) (hs:a.eval s=v) (dh:w.ownsRow 0 T 5 v ts.length (lX ts)) (g:Nat) (t:Tok) (hx:a.eval x= .slice (some ⟨g,0,none⟩) 1 1)
 (ku:w.heap[g]? =some (.cells t.cells.toArray T (0,0))) (hlen:ts.length<=1000000000)
 (h:∀v' w',w'.ownsRow 0 T 5 v' (ts.length+1) (lX ts++t.cells)->w.grownBy w' v.ownBlock->(∀g,v'.ownBlock=some g->v.ownBlock=some g\/w.heap.size<=g)->
  wpList Tryz.prog ops Q rest (a.put o.dst v') w'):wpList Tryz.prog ops Q (o::rest) a w:=by
 obtain ⟨i0,ug,qL,uD,uC⟩:=info_parts oN;refine fP w ln s x ST ho T i0 _ 5 48 cw ug qL uD uC rfl (by decide) v ts.length (lX ts) hs dh (some ⟨g,0,none⟩) 1 1 t.cells hx rfl
  (fun hn=>by cases hn) (fun ad had=> ?_) (fun u hu=> ?_) (by unfold maxLen;omega) (by omega) h
 ·obtain rfl:=aBm had;intro j u hj;rw[Addr.add_lit,Nat.zero_add,aa ku];rw[List.getElem?_toArray];exact hj
 ·simp only[Tok.cells,List.mem_cons,List.not_mem_nil,or_false]at hu;rcases hu with rfl|rfl|rfl|rfl|rfl<;>rfl
theorem sF {l:List UInt8} {i:Nat} (h:¬(bW (l.drop i)=false/\eB (l.drop i)=true)):∀f,cB l f i=([],i)
 |0=>rfl
 |f+1=>by unfold cB;rw[if_neg h]
theorem xb {l:List UInt8}:∀(f g i:Nat),l.length+1<=f+i->l.length+1<=g+i->cB l f i=cB l g i
 |0,g,i,hf,hg=>by
  have:cB l g i=([],i):=sF (fun h=>by rw[nw (by omega)]at h;cases h.1) g;rw[this];rfl
 |f+1,0,i,hf,hg=>by
  have:cB l (f+1) i=([],i):=sF (fun h=>by rw[nw (by omega)]at h;cases h.1) _;rw[this];rfl
 |f+1,g+1,i,hf,hg=>by
  unfold cB;by_cases h:bW (l.drop i)=false/\eB (l.drop i)=true
  ·rw[if_pos h,if_pos h,xb f g _ (by omega) (by omega)]
  ·rw[if_neg h,if_neg h]
def gi (l:List UInt8) (n:Int) (ts:List Tok) (i:Nat):Except Int (List Tok):=
 eR l n (ts++(cB l (l.length+1) i).1.map fun (c:Nat)=>(⟨2,n,(c:Int),[],false⟩:Tok)) (cB l (l.length+1) i).2
theorem xc {l:List UInt8} {n:Int} {ts:List Tok} {i:Nat} (h:¬(bW (l.drop i)=false/\eB (l.drop i)=true)):gi l n ts i=eR l n ts i:=by
 unfold gi;rw[sF h];simp
theorem CL {l:List UInt8} {n:Int} {ts:List Tok} {i:Nat} (h1:bW (l.drop i)=false) (h2:eB (l.drop i)=true):
 gi l n ts i=gi l n (ts++[⟨2,n,(i:Int),[],false⟩]) (i+1+aP (l.drop (i+1))):=by
 unfold gi;have e:cB l (l.length+1) i=(i::(cB l l.length (i+1+aP (l.drop (i+1)))).1,(cB l l.length (i+1+aP (l.drop (i+1)))).2):=by
  conv=>lhs;unfold cB
  rw[if_pos ⟨h1,h2⟩]
 rw[e,xb l.length (l.length+1) (i+1+aP (l.drop (i+1))) (by omega) (by omega)];simp only[List.map_cons,List.append_assoc,List.singleton_append]
theorem Fq {l:List UInt8} {n:Int} (h1:dJ l=0) (h2:fW l=false):cM l n=gi l n [] (aP l):=by
 unfold cM gi;rw[if_neg (by omega),if_neg (by rw[h2];decide)];simp
def iT (w:World) (T:TypeId) (x:Except Int (List Tok)) (r:Ending) (w':World):Prop:=
 match x with
 | .error e=>Below w.heap.size w w'/\r= .returned (.tuple #[.slice none 0 0,.int .i64 e])
 | .ok ts=>∃v,RT w w' T v ts/\r= .returned (.tuple #[v,.int .i64 0])
theorem nB {w w':World} {T:TypeId} {x:Except Int (List Tok)} {e:Int} (h:x= .error e) (hb:Below w.heap.size w w'):iT w T x (.returned (.tuple #[.slice none 0 0,.int .i64 e])) w':=by
 subst h;exact ⟨hb,rfl⟩
theorem oz {w w':World} {T:TypeId} {x:Except Int (List Tok)} {ts:List Tok} {v:Value} (h:x= .ok ts) (hr:RT w w' T v ts):iT w T x (.returned (.tuple #[v,.int .i64 0])) w':=by
 subst h;exact ⟨v,hr,rfl⟩
theorem qg:∀t:List UInt8,aQ t=t.take (aQ t).length
 |[]=>rfl
 |c::r=>by
  have ih:=qg r;unfold aQ
  split
  ·rfl
  ·simp only[aBk,List.take_succ_cons];rw[<-ih]
theorem Gb (t:List UInt8):aS t=t.take (aS t).length:=by
 rcases iJ t with ⟨_,e⟩|⟨k,_,hk,e⟩
 ·rw[e,List.take_length]
 ·rw[e,List.length_take,Nat.min_eq_left hk]
theorem Ag {t x:List UInt8} (h:fJ t=some x):x=t.take x.length/\x.length<=t.length:=by
 unfold fJ at h
 split at h
 ·cases h
 ·split at h
  ·cases h
  ·obtain rfl:=aBm h;have h1:=qg (aS t);have h2:=Gb t;have h3:=yB (aS t);have h4:(aS t).length<=t.length:=by rw[h2,List.length_take];omega
   refine ⟨?_,by omega⟩;generalize aQ (aS t)=x at*;generalize aS t=u at*;rw[h2,List.take_take,Nat.min_eq_left h3]at h1;exact h1
theorem sN {s:ByteArray} {i j:Nat} {x:List UInt8} (h:(s.data.toList.drop i).take (j-i)=x):s.extract i j=⟨x.toArray⟩:=by
 apply ByteArray.ext;apply Array.ext';rw[A5,h]
noncomputable def cQ:Code:=(ncr (ncr (ncr (ncr (ncr (ncr (ncs (ncr (ncx Tryz.f105.body)))))))))
noncomputable def gZ:Code:=(ncr (ncr (ncr (ncr (ncr (ncr (ncr cQ)))))))
noncomputable def ik:Code:=(ncr (ncr (ncr (ncr cQ))))
noncomputable def je:Code:=(ncr cQ)
def gY (v:Nat->Value):Act:=⟨#[v 0,v 1,v 2,v 3,v 4,v 5,v 6,v 7,v 8,v 9,v 10,v 11,v 12,v 13,v 14,v 15,v 16,v 17,v 18,v 19,v 20,v 21,v 22,v 23,v 24,v 25,v 26,v 27,v 28,v 29,v 30,v 31,v 32,v 33,v 34,v 35,v 36,v 37,v 38,v 39,v 40,v 41,v 42,v 43,v 44,v 45,v 46,v 47,v 48,v 49,v 50,v 51,v 52,v 53,v 54,v 55,v 56,v 57,v 58,v 59,v 60,v 61,v 62,v 63,v 64,v 65,v 66,v 67,v 68,v 69,v 70,v 71,v 72,v 73,v 74,v 75,v 76,v 77,v 78,v 79,v 80,v 81,v 82,v 83,v 84,v 85,v 86,v 87,v 88,v 89,v 90,v 91,v 92,v 93,v 94,v 95,v 96,v 97,v 98,v 99,v 100,v 101,v 102,v 103,v 104,v 105,v 106,v 107,v 108,v 109,v 110,v 111,v 112,v 113,v 114,v 115,v 116,v 117,v 118,v 119,v 120,v 121,v 122,v 123,v 124,v 125,v 126,v 127,v 128,v 129,v 130,v 131,v 132,v 133,v 134,v 135,v 136,v 137,v 138,v 139,v 140,v 141,v 142,v 143,v 144,v 145,v 146,v 147,v 148,v 149,v 150,v 151,v 152,v 153,v 154,v 155,v 156,v 157,v 158,v 159,v 160,v 161,v 162,v 163,v 164,v 165,v 166,v 167,v 168,v 169,v 170,v 171,v 172,v 173,v 174,v 175,v 176,v 177,v 178,v 179,v 180,v 181,v 182,v 183,v 184,v 185,v 186,v 187,v 188,v 189,v 190,v 191,v 192,v 193,v 194,v 195,v 196,v 197,v 198,v 199,v 200,v 201,v 202,v 203,v 204,v 205,v 206,v 207,v 208,v 209,v 210,v 211,v 212,v 213,v 214,v 215,v 216,v 217,v 218,v 219,v 220,v 221,v 222,v 223,v 224,v 225,v 226,v 227,v 228,v 229,v 230,v 231,v 232,v 233,v 234,v 235,v 236,v 237,v 238,v 239,v 240,v 241,v 242,v 243,v 244],[]⟩
theorem NP (a:Act) (hs:a.tmps.size=245) (hd:a.defers=[]):∃v:Nat->Value,(∀(i:Nat) (x:Value),a.tmps[i]? =some x->v i=x)/\a=gY v:=by
 obtain ⟨t,d⟩:=a;obtain ⟨l⟩:=t;obtain rfl:d=[]:=hd;have hl:l.length=245:=hs;refine ⟨fun i=>l.getD i undef,fun i x hx=> ?_,?_⟩
 ·have KA:l[i]? =some x:=by simpa using hx
  simp[List.getD,KA]
 ·have e:l=(List.range 245).map (fun i=>l.getD i undef):=by
   apply List.ext_getElem
   ·simp[hl]
   ·intro i h1 h2;simp[List.getD,h1]
  generalize (fun i=>l.getD i undef)=v at e |-;subst e;rfl
structure LnF (a:Act) (s:ByteArray) (n:Int) (vo:Value) (i:Int):Prop where
 size:a.tmps.size=245
 dfr:a.defers=[]
 s0:a.tmps[0]? =some (.string s)
 s1:a.tmps[1]? =some (.int .i64 n)
 s4:a.tmps[4]? =some (vo)
 s6:a.tmps[6]? =some (.int .i64 i)
theorem LnF.shape {a:Act} {s:ByteArray} {n:Int} {vo:Value} {i:Int} (h:LnF a s n vo i):∃v:Nat->Value,a=gY v/\v 0= .string s/\v 1= .int .i64 n/\v 4=vo/\v 6= .int .i64 i:=by
 obtain ⟨v,hv,hd⟩:=NP a h.size h.dfr;exact ⟨v,hd,hv 0 _ h.s0,hv 1 _ h.s1,hv 4 _ h.s4,hv 6 _ h.s6⟩
structure LnG (a:Act) (s:ByteArray) (n:Int) (vo:Value) (i:Int):Prop where
 size:a.tmps.size=245
 dfr:a.defers=[]
 s0:a.tmps[0]? =some (.string s)
 s1:a.tmps[1]? =some (.int .i64 n)
 s4:a.tmps[4]? =some (vo)
 s6:a.tmps[6]? =some (.int .i64 i)
 s7:a.tmps[7]? =some (.int .i64 i)
theorem LnG.shape {a:Act} {s:ByteArray} {n:Int} {vo:Value} {i:Int} (h:LnG a s n vo i):∃v:Nat->Value,a=gY v/\v 0= .string s/\v 1= .int .i64 n/\v 4=vo/\v 6= .int .i64 i/\v 7= .int .i64 i:=by
 obtain ⟨v,hv,hd⟩:=NP a h.size h.dfr;exact ⟨v,hd,hv 0 _ h.s0,hv 1 _ h.s1,hv 4 _ h.s4,hv 6 _ h.s6,hv 7 _ h.s7⟩
theorem gw:(Tryz.prog.info? 121).map (fun i=>(i.zero,i.size,i.bytes))=some (some (.agg #[.int .i64 0,.int .i64 0,.int .i64 0,.string ⟨#[]⟩,.bool false]),5,48):=by kernel_rfl
def lQ (w0:World) (x:Except Int (List Tok)) (Q:Exit->Act->World->Prop):Prop:=
 ∀a' w' v e,a'.defers=[]->a'.tmps[4]? =some v->a'.tmps[5]? =some (.int .i64 e)->iT w0 121 x (.returned (.tuple #[v,.int .i64 e])) w'->Q .ret a' w'
theorem K5 {l:List UInt8} {n:Int} {ts:List Tok} {i:Nat} (h:bW (l.drop i)=true):dN l n ts i= .ok ts:=by
 unfold dN ig;rw[if_pos h]
theorem K4 {l:List UInt8} {n:Int} {ts:List Tok} {i:Nat} (h:bW (l.drop i)=false) (hq:eY (l.drop i)=true) (hn:dZ (l.drop i)=none):dN l n ts i= .error 82:=by
 unfold dN ig;rw[if_neg (by rw[h];decide),if_pos hq,hn]
theorem PA {l:List UInt8} {n:Int} {ts:List Tok} {i m:Nat} {x:List UInt8} (h:bW (l.drop i)=false) (hq:eY (l.drop i)=true) (hn:dZ (l.drop i)=some (x,m))
 (hb:l.drop (i+m+aP (l.drop (i+m)))≠[]/\(aP (l.drop (i+m))=0\/bW (l.drop (i+m+aP (l.drop (i+m))))=false)):dN l n ts i= .error 82:=by
 unfold dN ig;rw[if_neg (by rw[h];decide),if_pos hq,hn];simp only[List.drop_drop];rw[<-Nat.add_assoc,if_pos hb]
theorem K6 {l:List UInt8} {n:Int} {ts:List Tok} {i m:Nat} {x:List UInt8} (h:bW (l.drop i)=false) (hq:eY (l.drop i)=true) (hn:dZ (l.drop i)=some (x,m))
 (hb:¬(l.drop (i+m+aP (l.drop (i+m)))≠[]/\(aP (l.drop (i+m))=0\/bW (l.drop (i+m+aP (l.drop (i+m))))=false))):dN l n ts i= .ok (ts++[⟨4,n,(i:Int),x,true⟩]):=by
 unfold dN ig;rw[if_neg (by rw[h];decide),if_pos hq,hn];simp only[List.drop_drop];rw[<-Nat.add_assoc,if_neg hb]
theorem SR {l:List UInt8} {n:Int} {ts:List Tok} {i:Nat} (h:bW (l.drop i)=false) (hq:eY (l.drop i)=false) (hn:fJ (l.drop i)=none):dN l n ts i= .error 83:=by
 unfold dN ig;rw[if_neg (by rw[h];decide),if_neg (by rw[hq];decide),hn]
theorem F0 {l:List UInt8} {n:Int} {ts:List Tok} {i:Nat} {x:List UInt8} (h:bW (l.drop i)=false) (hq:eY (l.drop i)=false) (hn:fJ (l.drop i)=some x):dN l n ts i= .ok (ts++[⟨4,n,(i:Int),x,false⟩]):=by
 unfold dN ig;rw[if_neg (by rw[h];decide),if_neg (by rw[hq];decide),hn]
theorem oA {l:List UInt8} {i:Nat} {c:UInt8} (h:l[i]? =some c):eY (l.drop i)=decide (c.toNat=34\/c.toNat=39):=by
 rw[cG h];rfl
section
variable {w0 w:World} {a:Act} {s:ByteArray} {n:Int} {v:Value} {i:Nat} {ts:List Tok} {x:Except Int (List Tok)} {Q:Exit->Act->World->Prop}
theorem AA (hf:LnF a s n v (i:Int)) (hi:i<=s.size) (hR:RT w0 w 121 v ts) (hx:x=dN s.data.toList n ts i) (dp:lQ w0 x Q) (h:bW (s.data.toList.drop i)=true):gZ.wp Tryz.prog Q a w:=by
 have Ho:=hid (sk w s i hi);rw[h]at Ho;have He:=hid (oz (hx.trans (K5 h)) hR);have rL:=hid dp;clear hi hR hx dp h;obtain ⟨vv,rfl,eE⟩:=hf.shape;simp only[gY,eE];clear eE;clear hf;dsimp only[gZ,cQ,ncr,ncs,ncx,Tryz.f105]
 go_wp2_with fail
 refine cS Ho.o ?_;clear Ho;go_wp2;exact rL.o _ _ _ _ rfl rfl rfl He.o
theorem yc {c:UInt8} (hs:s.size<=1048576) (hf:LnF a s n v (i:Int)) (hc:s.data.toList[i]? =some c) (hg:Glob w) (hR:RT w0 w 121 v ts) (gA:ts.length<=1000000000) (hx:x=dN s.data.toList n ts i) (dp:lQ w0 x Q) (h:bW (s.data.toList.drop i)=false) (kK:¬c.toNat=34) (yj:¬c.toNat=39):gZ.wp Tryz.prog Q a w:=by
 have hi:i<s.size:=by rw[<-aq];exact (aBo hc).1
 have Ho:=hid (sk w s i (by omega));rw[h]at Ho;have ib:=aU (s:=s) (i:Int) rfl hc;have t1:((c.toNat:Int)==34)=false:=bF (by omega);have t2:((c.toNat:Int)==39)=false:=bF (by omega);have hq:eY (s.data.toList.drop i)=false:=by rw[oA hc];exact dF (by omega)
 have Hp:=hid (RD w s i c hs hc hg);have rL:=hid dp;have Gk:=hid gA;cases hp:fJ (s.data.toList.drop i) with
 |none=>
  have He:=hid (nB (T:= 121) (hx.trans (SR h hq hp)) hR.below);unfold kN at Hp;rw[hp]at Hp;clear hs hc hg hR gA hx dp h kK yj hi hq hp;obtain ⟨vv,rfl,eE⟩:=hf.shape;simp only[gY,eE];clear eE;clear hf;dsimp only[gZ,cQ,ncr,ncs,ncx,Tryz.f105]
  go_wp2_with fail
  refine cS Ho.o ?_;clear Ho
  go_wp2_with fail
  refine Hp.o.mono ?_;rintro r w1 ⟨hw,rfl⟩;obtain rfl:=hw.symm;clear hw;clear Hp;go_wp2;exact rL.o _ _ _ _ rfl rfl rfl He.o
 |some y=>
  obtain ⟨Oh,hy2⟩:=Ag hp;rw[List.length_drop,aq]at hy2;have jg:=jW (s:=s) (i:=i) (j:=i+y.length) (zi:=(i:Int)) (zj:=((i+y.length:Nat):Int)) rfl rfl (by omega) (by omega);rw[sN (x:=y) (by rw[show i+y.length-i=y.length by omega];exact Oh.symm)]at jg;have Hx:=hid (hx.trans (F0 h hq hp));have HR:=hid hR;have b9:=hid (fun o=>hR.row.alloc o);unfold kN at Hp;rw[hp]at Hp
  simp only at Hp;generalize i+y.length=j at*;clear hs hc hg hR gA hx dp h kK yj hi hq hp Oh hy2;obtain ⟨vv,rfl,eE⟩:=hf.shape;simp only[gY,eE];clear eE;clear hf;dsimp only[gZ,cQ,ncr,ncs,ncx,Tryz.f105]
  go_wp2_with fail
  refine cS Ho.o ?_;clear Ho
  go_wp2_with fail
  refine Hp.o.mono ?_;rintro r w1 ⟨hw,rfl⟩;obtain rfl:=hw.symm;clear hw;clear Hp
  go_wp2_with (at_builtin;refine fR rfl _ _ 67 121 rfl Tryz.underlying67 gw v ts rfl (b9.o _) _ ⟨4,n,(i:Int),y,false⟩ rfl (ag _) Gk.o ?_;intro v' w2 aB bC aA;have aX:=hid (oz Hx.o (RT.app HR.o aB bC aA));clear aB bC aA)
  exact rL.o _ _ _ _ rfl rfl rfl aX.o
theorem Az {c:UInt8} (hs:s.size<=1048576) (hf:LnF a s n v (i:Int)) (hc:s.data.toList[i]? =some c) (hR:RT w0 w 121 v ts) (gA:ts.length<=1000000000) (hx:x=dN s.data.toList n ts i) (dp:lQ w0 x Q) (h:bW (s.data.toList.drop i)=false) (kK:c.toNat=34\/c.toNat=39):gZ.wp Tryz.prog Q a w:=by
 have hi:i<s.size:=by rw[<-aq];exact (aBo hc).1
 have Ho:=hid (sk w s i (by omega));rw[h]at Ho;have ib:=aU (s:=s) (i:Int) rfl hc;have hq:eY (s.data.toList.drop i)=true:=by rw[oA hc];exact dT kK
 have Hp:=hid (Co w s i c hs hc kK);have rL:=hid dp;have Gk:=hid gA;have T1:Hid ((((c.toNat:Int)==34)=true)\/(((c.toNat:Int)==34)=false/\((c.toNat:Int)==39)=true)):=hid (by
  rcases kK with e|e
  ·exact .inl (by rw[e];rfl)
  ·exact .inr ⟨by rw[e];rfl,by rw[e];rfl⟩)
 cases hp:dZ (s.data.toList.drop i) with
 |none=>
  have He:=hid (fun w1 (hb:Below w.heap.size w w1)=>nB (T:= 121) (hx.trans (K4 h hq hp)) (hR.below.trans (hb.mono hR.below.size)));unfold jE at Hp;rw[hp]at Hp;clear hs hc hR gA hx dp h kK hi hq hp;rcases T1.o with t1|⟨t1,t2⟩
  all_goals
   clear T1;obtain ⟨vv,rfl,eE⟩:=hf.shape;simp only[gY,eE];clear eE;clear hf;dsimp only[gZ,cQ,ncr,ncs,ncx,Tryz.f105]
   go_wp2_with fail
   refine cS Ho.o ?_;clear Ho
   go_wp2_with fail
   refine Hp.o.mono ?_;rintro r w1 ⟨hb,rfl⟩;have XA:=hid (He.o _ hb);clear hb;clear Hp He;go_wp2;exact rL.o _ _ _ _ rfl rfl rfl XA.o
 |some p=>
  obtain ⟨y,m⟩:=p;have hm:=np hp;rw[List.length_drop,aq]at hm;obtain ⟨k,hk⟩:=ex (i+m);have Hb:=hid (fun w1=>ry w1 s k hs (by omega));obtain ⟨j,hj⟩:=ex (k+aP (s.data.toList.drop k));have OO:j<=s.size:=by rw[hj,<-aq];exact jX (by rw[aq];omega)
  have HR:=hid hR;have iU:=hid (fun w1 (hb:Below w.heap.size w w1) o=>(hR.later hb).row.alloc o);have mr:=hid (fun w1 (hb:Below w.heap.size w w1)=>hR.later hb);unfold jE at Hp;rw[hp]at Hp;simp only at Hp;rw[<-hk]at Hp;rw[<-hj]at Hb;have bad:∀(hB:s.data.toList.drop j≠[]/\(aP (s.data.toList.drop k)=0\/bW (s.data.toList.drop j)=false)),Hid (∀w1,Below w.heap.size w w1->iT w0 121 x (.returned (.tuple #[.slice none 0 0,.int .i64 82])) w1):=fun hB=>hid fun w1 hb=>by
   subst hj;subst hk;exact nB (hx.trans (PA h hq hp hB)) (hR.below.trans (hb.mono hR.below.size))
  have yk:∀(hB:¬(s.data.toList.drop j≠[]/\(aP (s.data.toList.drop k)=0\/bW (s.data.toList.drop j)=false))),Hid (x= .ok (ts++[⟨4,n,(i:Int),y,true⟩])):=fun hB=>hid (by
   subst hj;subst hk;exact hx.trans (K6 h hq hp hB))
  by_cases aN:j<s.size
  ·obtain ⟨d,hd⟩:=fi aN;have Z5:=cG hd;have uf:=aU (s:=s) (j:Int) rfl hd;have t3:decide (j<s.size)=true:=dT aN;by_cases Sz:j=k
   ·have t4:((j:Int)==(k:Int))=true:=by rw[beq_iff_eq];omega
    have He:=bad ⟨by rw[Z5];simp,.inl (by omega)⟩;clear aN hd Z5 Sz;clear hs hc hR gA hx dp h kK hi hq hp hm hk hj OO bad yk;rcases T1.o with t1|⟨t1,t2⟩
    all_goals
     clear T1;obtain ⟨vv,rfl,eE⟩:=hf.shape;simp only[gY,eE];clear eE;clear hf;dsimp only[gZ,cQ,ncr,ncs,ncx,Tryz.f105]
     go_wp2_with fail
     refine cS Ho.o ?_;clear Ho
     go_wp2_with fail
     refine Hp.o.mono ?_;rintro r w1 ⟨hb,rfl⟩;have my:=hid hb;clear hb;clear Hp
     go_wp2_with fail
     refine cS (Hb.o _) ?_;clear Hb;have XA:=hid (He.o _ my.o);clear He my mr iU HR;go_wp2;exact rL.o _ _ _ _ rfl rfl rfl XA.o
   ·have t4:((j:Int)==(k:Int))=false:=bF (by omega);by_cases SJ:d.toNat=35
    ·have t5:((d.toNat:Int) != 35)=false:=by rw[bne_eq_false_iff_eq];omega
     have He:=yk (fun q=>by
      rcases q.2 with q|q
      ·omega
      ·rw[uX hd,dT SJ]at q;cases q)
     clear aN hd Z5 Sz SJ;clear hs hc hR gA hx dp h kK hi hq hp hm hk hj OO bad yk;rcases T1.o with t1|⟨t1,t2⟩
     all_goals
      clear T1;obtain ⟨vv,rfl,eE⟩:=hf.shape;simp only[gY,eE];clear eE;clear hf;dsimp only[gZ,cQ,ncr,ncs,ncx,Tryz.f105]
      go_wp2_with fail
      refine cS Ho.o ?_;clear Ho
      go_wp2_with fail
      refine Hp.o.mono ?_;rintro r w1 ⟨hb,rfl⟩;have my:=hid hb;clear hb;clear Hp
      go_wp2_with fail
      refine cS (Hb.o _) ?_;clear Hb;have b9:=hid (iU.o _ my.o);have Bw:=hid (mr.o _ my.o);clear my mr iU HR
      go_wp2_with (at_builtin;refine fR rfl _ _ 67 121 rfl Tryz.underlying67 gw v ts rfl (b9.o _) _ ⟨4,n,(i:Int),y,true⟩ rfl (ag _) Gk.o ?_;intro v' w2 aB bC aA;have aX:=hid (oz He.o (RT.app Bw.o aB bC aA));clear aB bC aA)
      exact rL.o _ _ _ _ rfl rfl rfl aX.o
    ·have t5:((d.toNat:Int) != 35)=true:=by rw[bne_iff_ne];omega
     have He:=bad ⟨by rw[Z5];simp,.inr (by rw[uX hd];exact dF SJ)⟩;clear aN hd Z5 Sz SJ;clear hs hc hR gA hx dp h kK hi hq hp hm hk hj OO bad yk;rcases T1.o with t1|⟨t1,t2⟩
     all_goals
      clear T1;obtain ⟨vv,rfl,eE⟩:=hf.shape;simp only[gY,eE];clear eE;clear hf;dsimp only[gZ,cQ,ncr,ncs,ncx,Tryz.f105]
      go_wp2_with fail
      refine cS Ho.o ?_;clear Ho
      go_wp2_with fail
      refine Hp.o.mono ?_;rintro r w1 ⟨hb,rfl⟩;have my:=hid hb;clear hb;clear Hp
      go_wp2_with fail
      refine cS (Hb.o _) ?_;clear Hb;have XA:=hid (He.o _ my.o);clear He my mr iU HR;go_wp2;exact rL.o _ _ _ _ rfl rfl rfl XA.o
  ·have t3:decide (j<s.size)=false:=dF aN;have He:=yk (fun q=>q.1 (fC (by rw[aq];omega)));clear aN;clear hs hc hR gA hx dp h kK hi hq hp hm hk hj OO bad yk;rcases T1.o with t1|⟨t1,t2⟩
   all_goals
    clear T1;obtain ⟨vv,rfl,eE⟩:=hf.shape;simp only[gY,eE];clear eE;clear hf;dsimp only[gZ,cQ,ncr,ncs,ncx,Tryz.f105]
    go_wp2_with fail
    refine cS Ho.o ?_;clear Ho
    go_wp2_with fail
    refine Hp.o.mono ?_;rintro r w1 ⟨hb,rfl⟩;have my:=hid hb;clear hb;clear Hp
    go_wp2_with fail
    refine cS (Hb.o _) ?_;clear Hb;have b9:=hid (iU.o _ my.o);have Bw:=hid (mr.o _ my.o);clear my mr iU HR
    go_wp2_with (at_builtin;refine fR rfl _ _ 67 121 rfl Tryz.underlying67 gw v ts rfl (b9.o _) _ ⟨4,n,(i:Int),y,true⟩ rfl (ag _) Gk.o ?_;intro v' w2 aB bC aA;have aX:=hid (oz He.o (RT.app Bw.o aB bC aA));clear aB bC aA)
    exact rL.o _ _ _ _ rfl rfl rfl aX.o
theorem G3 (hs:s.size<=1048576) (hf:LnF a s n v (i:Int)) (hi:i<=s.size) (hg:Glob w) (hR:RT w0 w 121 v ts) (gA:ts.length<=1000000000) (hx:x=dN s.data.toList n ts i) (dp:lQ w0 x Q):gZ.wp Tryz.prog Q a w:=by
 cases h:bW (s.data.toList.drop i) with
 |true=>exact AA hf hi hR hx dp h
 |false=>
  have aN:i<s.size:=by
   rcases Nat.lt_or_ge i s.size with q|q
   ·exact q
   ·rw[nw (by rw[aq];omega)]at h;cases h
  obtain ⟨c,hc⟩:=fi aN;by_cases hq:c.toNat=34\/c.toNat=39
  ·exact Az hs hf hc hR gA hx dp h hq
  ·exact yc hs hf hc hg hR gA hx dp h (fun e=>hq (.inl e)) (fun e=>hq (.inr e))
end
