/-
Parts of a proof.
-/
import Derived.Test.YtfenoaeoedobmaaGreatDoorOw09
set_option linter.unusedVariables false
set_option linter.unusedSimpArgs false
set_option maxHeartbeats 8000000
set_option maxRecDepth 100000
namespace Go.Proofs.YtfenoaeoedobmaaGreatDoor
open Go Go.RowKit
def Exit.jumps (J:Nat->Act->World->Prop) (Q:Exit->Act->World->Prop):Exit->Act->World->Prop
 | .goto l,a,w=>J l a w
 |e,a,w=>Q e a w
section
variable {P:Program} {a:Act} {w:World} {Q:Exit->Act->World->Prop}
theorem cP {c:Code} (J:Nat->Act->World->Prop) (μ:Nat->Act->World->Nat)
 (first:c.wp P (Exit.jumps J Q) a w)
 (pass:∀l a w,J l a w->∃rest,findLabel c l=some rest/\rest.wp P (Exit.jumps (fun l' a' w'=>J l' a' w'/\μ l' a' w'<μ l a w) Q) a w):(Code.scope c).wp P Q a w:=by
 intro b k cs;have key:∀n l a w,μ l a w=n->J l a w->∃rest,findLabel c l=some rest/\∃e a' w',Q e a' w'/\Arrives P (lone (b.at a (.code rest:: .inScope c::k)) cs w) b k cs e a' w':=by
  intro n
  induction n using Nat.strongRecOn with
  |_ n ih=>
   intro l a w hn hJ;obtain ⟨rest,hf,hp⟩:=pass l a w hJ;refine ⟨rest,hf,?_⟩;obtain ⟨e,a₁,w₁,hq,harr⟩:=hp b (.inScope c::k) cs;cases e with
   |normal=>exact ⟨.normal,a₁,w₁,hq,Steps.trans harr (.one step_inScope)⟩
   |exit id=>exact ⟨.exit id,a₁,w₁,hq,fun k' hk=>harr k' (by simp[exitTo,hk])⟩
   |goto l'=>
    obtain ⟨hJ',hlt⟩:=hq;obtain ⟨rest',hf',e₂,a₂,w₂,hq₂,harr₂⟩:=ih _ (by omega) l' a₁ w₁ rfl hJ';have hg:gotoIn l' (.inScope c::k)=some (.code rest':: .inScope c::k):=by simp[gotoIn,hf']
    exact ⟨e₂,a₂,w₂,hq₂,.of_steps (harr _ hg) harr₂⟩
   |ret=>exact ⟨_,a₁,w₁,hq,harr⟩
   |panic ch=>exact ⟨_,a₁,w₁,hq,harr⟩
   |outgrown=>exact ⟨_,a₁,w₁,hq,harr⟩
 obtain ⟨e,a₁,w₁,hq,harr⟩:=first b (.inScope c::k) cs
 cases e with
 |normal=>exact ⟨.normal,a₁,w₁,hq,.head step_scope (Steps.trans harr (.one step_inScope))⟩
 |exit id=>exact ⟨.exit id,a₁,w₁,hq,fun k' hk=> .head step_scope (harr k' (by simp[exitTo,hk]))⟩
 |goto l'=>
  obtain ⟨rest',hf',e₂,a₂,w₂,hq₂,harr₂⟩:=key _ l' a₁ w₁ rfl hq;have hg:gotoIn l' (.inScope c::k)=some (.code rest':: .inScope c::k):=by simp[gotoIn,hf']
  exact ⟨e₂,a₂,w₂,hq₂,.of_steps (.head step_scope (harr _ hg)) harr₂⟩
 |ret=>exact ⟨_,a₁,w₁,hq,.of_steps (.one step_scope) harr⟩
 |panic ch=>exact ⟨_,a₁,w₁,hq,.of_steps (.one step_scope) harr⟩
 |outgrown=>exact ⟨_,a₁,w₁,hq,.of_steps (.one step_scope) harr⟩
end
def Tok.cells (t:Tok):List Value:=[.int .i64 t.kind,.int .i64 t.line,.int .i64 t.col,.string ⟨t.text.toArray⟩,.bool t.quoted]
def toks (ts:List Tok):List Value:=ts.flatMap Tok.cells
theorem yV (ts:List Tok) (t:Tok):toks (ts++[t])=toks ts++t.cells:=by simp[toks]
abbrev RT (w wr:World) (T:TypeId) (v:Value) (ts:List Tok):Prop:=RO w wr T 5 v ts.length (toks ts)
theorem RT.app {w wr w2:World} {T:TypeId} {v v':Value} {ts:List Tok} {t:Tok} {o:Obj} (h:RT w wr T v ts) (own2:w2.ownsRow 0 T 5 v' (ts.length+1) (toks ts++t.cells)) (gr2:(wr.alloc o).grownBy w2 v.ownBlock)
 (new2:∀g,v'.ownBlock=some g->v.ownBlock=some g\/(wr.alloc o).heap.size<=g):RT w w2 T v' (ts++[t]):=by
 have:=RO.app h ((aAb _ wr).alloc (aAa _) o) own2 gr2 new2
 show RO w w2 T 5 v' (ts++[t]).length (toks (ts++[t]))
 rw[yV,aAc];exact this
theorem ew {w:World} {ops:Array Oper} {rest:List Oper} {o:Oper} {a:Act} {Q:Exit->Act->World->Prop} (hgd:o.guard=none) (s x:Operand) (ST T:TypeId)
 (ho:o.op= .call {callee:= .builtin .append,args:=#[s,x],argTypes:=#[ST,ST]}) (hst: Tryz.prog.underlying ST=some (.slice T))
 (hinf:(Tryz.prog.info? T).map (fun i=>(i.zero,i.size,i.bytes))=some (some (.agg #[.int .i64 0,.int .i64 0,.int .i64 0,.string ⟨#[]⟩,.bool false]),5,48))
 (v:Value) (ts:List Tok) (hs:a.eval s=v) (hown:w.ownsRow 0 T 5 v ts.length (toks ts)) (g:Nat) (t:Tok) (hx:a.eval x= .slice (some ⟨g,0,none⟩) 1 1)
 (hnew:w.heap[g]? =some (.cells t.cells.toArray T (0,0))) (hlen:ts.length<=1000000000)
 (h:∀v' w',w'.ownsRow 0 T 5 v' (ts.length+1) (toks ts++t.cells)->w.grownBy w' v.ownBlock->(∀g,v'.ownBlock=some g->v.ownBlock=some g\/w.heap.size<=g)->
  wpList Tryz.prog ops Q rest (a.put o.dst v') w'):wpList Tryz.prog ops Q (o::rest) a w:=by
 obtain ⟨i0,hi5,hz0,hz1,hz2⟩:=info_parts hinf;refine ep w hgd s x ST ho T i0 _ 5 48 hst hi5 hz0 hz1 hz2 rfl (by decide) v ts.length (toks ts) hs hown (some ⟨g,0,none⟩) 1 1 t.cells hx rfl
  (fun hn=>by cases hn) (fun ad had=> ?_) (fun u hu=> ?_) (by unfold maxLen;omega) (by omega) h
 ·obtain rfl:=aAf had;intro j u hj;rw[Addr.add_lit,Nat.zero_add,af hnew];rw[List.getElem?_toArray];exact hj
 ·simp only[Tok.cells,List.mem_cons,List.not_mem_nil,or_false]at hu;rcases hu with rfl|rfl|rfl|rfl|rfl<;>rfl
theorem mu {l:List UInt8} {i:Nat} (h:¬(bP (l.drop i)=false/\eW (l.drop i)=true)):∀f,dj l f i=([],i)
 |0=>rfl
 |f+1=>by unfold dj;rw[if_neg h]
theorem o9 {l:List UInt8}:∀(f g i:Nat),l.length+1<=f+i->l.length+1<=g+i->dj l f i=dj l g i
 |0,g,i,hf,hg=>by
  have:dj l g i=([],i):=mu (fun h=>by rw[jx (by omega)]at h;cases h.1) g;rw[this];rfl
 |f+1,0,i,hf,hg=>by
  have:dj l (f+1) i=([],i):=mu (fun h=>by rw[jx (by omega)]at h;cases h.1) _;rw[this];rfl
 |f+1,g+1,i,hf,hg=>by
  unfold dj;by_cases h:bP (l.drop i)=false/\eW (l.drop i)=true
  ·rw[if_pos h,if_pos h,o9 f g _ (by omega) (by omega)]
  ·rw[if_neg h,if_neg h]
def eH (l:List UInt8) (n:Int) (ts:List Tok) (i:Nat):Except Int (List Tok):=
 fI l n (ts++(dj l (l.length+1) i).1.map fun (c:Nat)=>(⟨2,n,(c:Int),[],false⟩:Tok)) (dj l (l.length+1) i).2
theorem pc {l:List UInt8} {n:Int} {ts:List Tok} {i:Nat} (h:¬(bP (l.drop i)=false/\eW (l.drop i)=true)):eH l n ts i=fI l n ts i:=by
 unfold eH;rw[mu h];simp
theorem ue {l:List UInt8} {n:Int} {ts:List Tok} {i:Nat} (h1:bP (l.drop i)=false) (h2:eW (l.drop i)=true):
 eH l n ts i=eH l n (ts++[⟨2,n,(i:Int),[],false⟩]) (i+1+aT (l.drop (i+1))):=by
 unfold eH;have e:dj l (l.length+1) i=(i::(dj l l.length (i+1+aT (l.drop (i+1)))).1,(dj l l.length (i+1+aT (l.drop (i+1)))).2):=by
  conv=>lhs;unfold dj
  rw[if_pos ⟨h1,h2⟩]
 rw[e,o9 l.length (l.length+1) (i+1+aT (l.drop (i+1))) (by omega) (by omega)];simp only[List.map_cons,List.append_assoc,List.singleton_append]
theorem wM {l:List UInt8} {n:Int} (h1:eG l=0) (h2:je l=false):du l n=eH l n [] (aT l):=by
 unfold du eH;rw[if_neg (by omega),if_neg (by rw[h2];decide)];simp
def fS (w:World) (T:TypeId) (x:Except Int (List Tok)) (r:Ending) (w':World):Prop:=
 match x with
 | .error e=>Below w.heap.size w w'/\r= .returned (.tuple #[.slice none 0 0,.int .i64 e])
 | .ok ts=>∃v,RT w w' T v ts/\r= .returned (.tuple #[v,.int .i64 0])
theorem jy {w w':World} {T:TypeId} {x:Except Int (List Tok)} {e:Int} (h:x= .error e) (hb:Below w.heap.size w w'):fS w T x (.returned (.tuple #[.slice none 0 0,.int .i64 e])) w':=by
 subst h;exact ⟨hb,rfl⟩
theorem jZ {w w':World} {T:TypeId} {x:Except Int (List Tok)} {ts:List Tok} {v:Value} (h:x= .ok ts) (hr:RT w w' T v ts):fS w T x (.returned (.tuple #[v,.int .i64 0])) w':=by
 subst h;exact ⟨v,hr,rfl⟩
theorem kT:∀t:List UInt8,aL t=t.take (aL t).length
 |[]=>rfl
 |c::r=>by
  have ih:=kT r;unfold aL
  split
  ·rfl
  ·simp only[aAd,List.take_succ_cons];rw[<-ih]
theorem xj (t:List UInt8):aQ t=t.take (aQ t).length:=by
 rcases fD t with ⟨_,e⟩|⟨k,_,hk,e⟩
 ·rw[e,List.take_length]
 ·rw[e,List.length_take,Nat.min_eq_left hk]
theorem rA {t x:List UInt8} (h:eR t=some x):x=t.take x.length/\x.length<=t.length:=by
 unfold eR at h
 split at h
 ·cases h
 ·split at h
  ·cases h
  ·obtain rfl:=aAf h;have h1:=kT (aQ t);have h2:=xj t;have h3:=qv (aQ t);have h4:(aQ t).length<=t.length:=by rw[h2,List.length_take];omega
   refine ⟨?_,by omega⟩;generalize aL (aQ t)=x at*;generalize aQ t=u at*;rw[h2,List.take_take,Nat.min_eq_left h3]at h1;exact h1
theorem mB {s:ByteArray} {i j:Nat} {x:List UInt8} (h:(s.data.toList.drop i).take (j-i)=x):s.extract i j=⟨x.toArray⟩:=by
 apply ByteArray.ext;apply Array.ext';rw[r9,h]
noncomputable def cd:Code:=(ncr (ncr (ncr (ncr (ncr (ncr (ncs (ncr (ncx Tryz.f105.body)))))))))
noncomputable def fg:Code:=(ncr (ncr (ncr (ncr (ncr (ncr (ncr cd)))))))
noncomputable def fo:Code:=(ncr (ncr (ncr (ncr cd))))
noncomputable def fY:Code:=(ncr cd)
def fa (v:Nat->Value):Act:=⟨#[v 0,v 1,v 2,v 3,v 4,v 5,v 6,v 7,v 8,v 9,v 10,v 11,v 12,v 13,v 14,v 15,v 16,v 17,v 18,v 19,v 20,v 21,v 22,v 23,v 24,v 25,v 26,v 27,v 28,v 29,v 30,v 31,v 32,v 33,v 34,v 35,v 36,v 37,v 38,v 39,v 40,v 41,v 42,v 43,v 44,v 45,v 46,v 47,v 48,v 49,v 50,v 51,v 52,v 53,v 54,v 55,v 56,v 57,v 58,v 59,v 60,v 61,v 62,v 63,v 64,v 65,v 66,v 67,v 68,v 69,v 70,v 71,v 72,v 73,v 74,v 75,v 76,v 77,v 78,v 79,v 80,v 81,v 82,v 83,v 84,v 85,v 86,v 87,v 88,v 89,v 90,v 91,v 92,v 93,v 94,v 95,v 96,v 97,v 98,v 99,v 100,v 101,v 102,v 103,v 104,v 105,v 106,v 107,v 108,v 109,v 110,v 111,v 112,v 113,v 114,v 115,v 116,v 117,v 118,v 119,v 120,v 121,v 122,v 123,v 124,v 125,v 126,v 127,v 128,v 129,v 130,v 131,v 132,v 133,v 134,v 135,v 136,v 137,v 138,v 139,v 140,v 141,v 142,v 143,v 144,v 145,v 146,v 147,v 148,v 149,v 150,v 151,v 152,v 153,v 154,v 155,v 156,v 157,v 158,v 159,v 160,v 161,v 162,v 163,v 164,v 165,v 166,v 167,v 168,v 169,v 170,v 171,v 172,v 173,v 174,v 175,v 176,v 177,v 178,v 179,v 180,v 181,v 182,v 183,v 184,v 185,v 186,v 187,v 188,v 189,v 190,v 191,v 192,v 193,v 194,v 195,v 196,v 197,v 198,v 199,v 200,v 201,v 202,v 203,v 204,v 205,v 206,v 207,v 208,v 209,v 210,v 211,v 212,v 213,v 214,v 215,v 216,v 217,v 218,v 219,v 220,v 221,v 222,v 223,v 224,v 225,v 226,v 227,v 228,v 229,v 230,v 231,v 232,v 233,v 234,v 235,v 236,v 237,v 238,v 239,v 240,v 241,v 242,v 243,v 244],[]⟩
theorem CC (a:Act) (hs:a.tmps.size=245) (hd:a.defers=[]):∃v:Nat->Value,(∀(i:Nat) (x:Value),a.tmps[i]? =some x->v i=x)/\a=fa v:=by
 obtain ⟨t,d⟩:=a;obtain ⟨l⟩:=t;obtain rfl:d=[]:=hd;have hl:l.length=245:=hs;refine ⟨fun i=>l.getD i undef,fun i x hx=> ?_,?_⟩
 ·have hx':l[i]? =some x:=by simpa using hx
  simp[List.getD,hx']
 ·have e:l=(List.range 245).map (fun i=>l.getD i undef):=by
   apply List.ext_getElem
   ·simp[hl]
   ·intro i h1 h2;simp[List.getD,h1]
  generalize (fun i=>l.getD i undef)=v at e |-;subst e;rfl
structure LnF (a:Act) (s:ByteArray) (n:Int) (vo:Value) (i:Int):Prop where
 size:a.tmps.size=245
 dfr:a.defers=[]
 s0:a.tmps[0]? =some (.string s)
 s1:a.tmps[1]? =some (.int .i64 n)
 s4:a.tmps[4]? =some (vo)
 s6:a.tmps[6]? =some (.int .i64 i)
theorem LnF.shape {a:Act} {s:ByteArray} {n:Int} {vo:Value} {i:Int} (h:LnF a s n vo i):∃v:Nat->Value,a=fa v/\v 0= .string s/\v 1= .int .i64 n/\v 4=vo/\v 6= .int .i64 i:=by
 obtain ⟨v,hv,hd⟩:=CC a h.size h.dfr;exact ⟨v,hd,hv 0 _ h.s0,hv 1 _ h.s1,hv 4 _ h.s4,hv 6 _ h.s6⟩
structure LnG (a:Act) (s:ByteArray) (n:Int) (vo:Value) (i:Int):Prop where
 size:a.tmps.size=245
 dfr:a.defers=[]
 s0:a.tmps[0]? =some (.string s)
 s1:a.tmps[1]? =some (.int .i64 n)
 s4:a.tmps[4]? =some (vo)
 s6:a.tmps[6]? =some (.int .i64 i)
 s7:a.tmps[7]? =some (.int .i64 i)
theorem LnG.shape {a:Act} {s:ByteArray} {n:Int} {vo:Value} {i:Int} (h:LnG a s n vo i):∃v:Nat->Value,a=fa v/\v 0= .string s/\v 1= .int .i64 n/\v 4=vo/\v 6= .int .i64 i/\v 7= .int .i64 i:=by
 obtain ⟨v,hv,hd⟩:=CC a h.size h.dfr;exact ⟨v,hd,hv 0 _ h.s0,hv 1 _ h.s1,hv 4 _ h.s4,hv 6 _ h.s6,hv 7 _ h.s7⟩
theorem eI:(Tryz.prog.info? 121).map (fun i=>(i.zero,i.size,i.bytes))=some (some (.agg #[.int .i64 0,.int .i64 0,.int .i64 0,.string ⟨#[]⟩,.bool false]),5,48):=by kernel_rfl
def iR (w0:World) (x:Except Int (List Tok)) (Q:Exit->Act->World->Prop):Prop:=
 ∀a' w' v e,a'.defers=[]->a'.tmps[4]? =some v->a'.tmps[5]? =some (.int .i64 e)->fS w0 121 x (.returned (.tuple #[v,.int .i64 e])) w'->Q .ret a' w'
theorem As {l:List UInt8} {n:Int} {ts:List Tok} {i:Nat} (h:bP (l.drop i)=true):dP l n ts i= .ok ts:=by
 unfold dP iC;rw[if_pos h]
theorem Ar {l:List UInt8} {n:Int} {ts:List Tok} {i:Nat} (h:bP (l.drop i)=false) (hq:isQuot (l.drop i)=true) (hn:de (l.drop i)=none):dP l n ts i= .error 82:=by
 unfold dP iC;rw[if_neg (by rw[h];decide),if_pos hq,hn]
theorem Dq {l:List UInt8} {n:Int} {ts:List Tok} {i m:Nat} {x:List UInt8} (h:bP (l.drop i)=false) (hq:isQuot (l.drop i)=true) (hn:de (l.drop i)=some (x,m))
 (hb:l.drop (i+m+aT (l.drop (i+m)))≠[]/\(aT (l.drop (i+m))=0\/bP (l.drop (i+m+aT (l.drop (i+m))))=false)):dP l n ts i= .error 82:=by
 unfold dP iC;rw[if_neg (by rw[h];decide),if_pos hq,hn];simp only[List.drop_drop];rw[<-Nat.add_assoc,if_pos hb]
theorem Au {l:List UInt8} {n:Int} {ts:List Tok} {i m:Nat} {x:List UInt8} (h:bP (l.drop i)=false) (hq:isQuot (l.drop i)=true) (hn:de (l.drop i)=some (x,m))
 (hb:¬(l.drop (i+m+aT (l.drop (i+m)))≠[]/\(aT (l.drop (i+m))=0\/bP (l.drop (i+m+aT (l.drop (i+m))))=false))):dP l n ts i= .ok (ts++[⟨4,n,(i:Int),x,true⟩]):=by
 unfold dP iC;rw[if_neg (by rw[h];decide),if_pos hq,hn];simp only[List.drop_drop];rw[<-Nat.add_assoc,if_neg hb]
theorem FL {l:List UInt8} {n:Int} {ts:List Tok} {i:Nat} (h:bP (l.drop i)=false) (hq:isQuot (l.drop i)=false) (hn:eR (l.drop i)=none):dP l n ts i= .error 83:=by
 unfold dP iC;rw[if_neg (by rw[h];decide),if_neg (by rw[hq];decide),hn]
theorem wZ {l:List UInt8} {n:Int} {ts:List Tok} {i:Nat} {x:List UInt8} (h:bP (l.drop i)=false) (hq:isQuot (l.drop i)=false) (hn:eR (l.drop i)=some x):dP l n ts i= .ok (ts++[⟨4,n,(i:Int),x,false⟩]):=by
 unfold dP iC;rw[if_neg (by rw[h];decide),if_neg (by rw[hq];decide),hn]
theorem j0 {l:List UInt8} {i:Nat} {c:UInt8} (h:l[i]? =some c):isQuot (l.drop i)=decide (c.toNat=34\/c.toNat=39):=by
 rw[bT h];rfl
section
variable {w0 w:World} {a:Act} {s:ByteArray} {n:Int} {v:Value} {i:Nat} {ts:List Tok} {x:Except Int (List Tok)} {Q:Exit->Act->World->Prop}
theorem rN (hf:LnF a s n v (i:Int)) (hi:i<=s.size) (hR:RT w0 w 121 v ts) (hx:x=dP s.data.toList n ts i) (hret:iR w0 x Q) (h:bP (s.data.toList.drop i)=true):fg.wp Tryz.prog Q a w:=by
 have Ho:=hid (me w s i hi);rw[h]at Ho;have He:=hid (jZ (hx.trans (As h)) hR);have Hret:=hid hret;clear hi hR hx hret h;obtain ⟨vv,rfl,eE⟩:=hf.shape;simp only[fa,eE];clear eE;clear hf;dsimp only[fg,cd,ncr,ncs,ncx,Tryz.f105]
 go_wp2_with fail
 refine cS Ho.o ?_;clear Ho;go_wp2;exact Hret.o _ _ _ _ rfl rfl rfl He.o
theorem p9 {c:UInt8} (hs:s.size<=1048576) (hf:LnF a s n v (i:Int)) (hc:s.data.toList[i]? =some c) (hg:Glob w) (hR:RT w0 w 121 v ts) (hts:ts.length<=1000000000) (hx:x=dP s.data.toList n ts i) (hret:iR w0 x Q) (h:bP (s.data.toList.drop i)=false) (h34:¬c.toNat=34) (h39:¬c.toNat=39):fg.wp Tryz.prog Q a w:=by
 have hi:i<s.size:=by rw[<-an];exact (aAh hc).1
 have Ho:=hid (me w s i (by omega));rw[h]at Ho;have hidx:=aN (s:=s) (i:Int) rfl hc;have t1:((c.toNat:Int)==34)=false:=bF (by omega);have t2:((c.toNat:Int)==39)=false:=bF (by omega);have hq:isQuot (s.data.toList.drop i)=false:=by rw[j0 hc];exact dF (by omega)
 have Hp:=hid (EU w s i c hs hc hg);have Hret:=hid hret;have Hts:=hid hts;cases hp:eR (s.data.toList.drop i) with
 |none=>
  have He:=hid (jy (T:= 121) (hx.trans (FL h hq hp)) hR.below);unfold ib at Hp;rw[hp]at Hp;clear hs hc hg hR hts hx hret h h34 h39 hi hq hp;obtain ⟨vv,rfl,eE⟩:=hf.shape;simp only[fa,eE];clear eE;clear hf;dsimp only[fg,cd,ncr,ncs,ncx,Tryz.f105]
  go_wp2_with fail
  refine cS Ho.o ?_;clear Ho
  go_wp2_with fail
  refine Hp.o.mono ?_;rintro r w1 ⟨hw,rfl⟩;obtain rfl:=hw.symm;clear hw;clear Hp;go_wp2;exact Hret.o _ _ _ _ rfl rfl rfl He.o
 |some y=>
  obtain ⟨hy1,hy2⟩:=rA hp;rw[List.length_drop,an]at hy2;have hsl:=gK (s:=s) (i:=i) (j:=i+y.length) (zi:=(i:Int)) (zj:=((i+y.length:Nat):Int)) rfl rfl (by omega) (by omega);rw[mB (x:=y) (by rw[show i+y.length-i=y.length by omega];exact hy1.symm)]at hsl;have Hx:=hid (hx.trans (wZ h hq hp));have HR:=hid hR;have Hown:=hid (fun o=>hR.row.alloc o);unfold ib at Hp;rw[hp]at Hp
  simp only at Hp;generalize i+y.length=j at*;clear hs hc hg hR hts hx hret h h34 h39 hi hq hp hy1 hy2;obtain ⟨vv,rfl,eE⟩:=hf.shape;simp only[fa,eE];clear eE;clear hf;dsimp only[fg,cd,ncr,ncs,ncx,Tryz.f105]
  go_wp2_with fail
  refine cS Ho.o ?_;clear Ho
  go_wp2_with fail
  refine Hp.o.mono ?_;rintro r w1 ⟨hw,rfl⟩;obtain rfl:=hw.symm;clear hw;clear Hp
  go_wp2_with (at_builtin;refine ew rfl _ _ 67 121 rfl Tryz.underlying67 eI v ts rfl (Hown.o _) _ ⟨4,n,(i:Int),y,false⟩ rfl (ah _) Hts.o ?_;intro v' w2 own2 gr2 new2;have Hend:=hid (jZ Hx.o (RT.app HR.o own2 gr2 new2));clear own2 gr2 new2)
  exact Hret.o _ _ _ _ rfl rfl rfl Hend.o
theorem rM {c:UInt8} (hs:s.size<=1048576) (hf:LnF a s n v (i:Int)) (hc:s.data.toList[i]? =some c) (hR:RT w0 w 121 v ts) (hts:ts.length<=1000000000) (hx:x=dP s.data.toList n ts i) (hret:iR w0 x Q) (h:bP (s.data.toList.drop i)=false) (h34:c.toNat=34\/c.toNat=39):fg.wp Tryz.prog Q a w:=by
 have hi:i<s.size:=by rw[<-an];exact (aAh hc).1
 have Ho:=hid (me w s i (by omega));rw[h]at Ho;have hidx:=aN (s:=s) (i:Int) rfl hc;have hq:isQuot (s.data.toList.drop i)=true:=by rw[j0 hc];exact dT h34
 have Hp:=hid (tI w s i c hs hc h34);have Hret:=hid hret;have Hts:=hid hts;have T1:Hid ((((c.toNat:Int)==34)=true)\/(((c.toNat:Int)==34)=false/\((c.toNat:Int)==39)=true)):=hid (by
  rcases h34 with e|e
  ·exact .inl (by rw[e];rfl)
  ·exact .inr ⟨by rw[e];rfl,by rw[e];rfl⟩)
 cases hp:de (s.data.toList.drop i) with
 |none=>
  have He:=hid (fun w1 (hb:Below w.heap.size w w1)=>jy (T:= 121) (hx.trans (Ar h hq hp)) (hR.below.trans (hb.mono hR.below.size)));unfold gv at Hp;rw[hp]at Hp;clear hs hc hR hts hx hret h h34 hi hq hp;rcases T1.o with t1|⟨t1,t2⟩
  all_goals
   clear T1;obtain ⟨vv,rfl,eE⟩:=hf.shape;simp only[fa,eE];clear eE;clear hf;dsimp only[fg,cd,ncr,ncs,ncx,Tryz.f105]
   go_wp2_with fail
   refine cS Ho.o ?_;clear Ho
   go_wp2_with fail
   refine Hp.o.mono ?_;rintro r w1 ⟨hb,rfl⟩;have He2:=hid (He.o _ hb);clear hb;clear Hp He;go_wp2;exact Hret.o _ _ _ _ rfl rfl rfl He2.o
 |some p=>
  obtain ⟨y,m⟩:=p;have hm:=jv hp;rw[List.length_drop,an]at hm;obtain ⟨k,hk⟩:=ex (i+m);have Hb:=hid (fun w1=>lK w1 s k hs (by omega));obtain ⟨j,hj⟩:=ex (k+aT (s.data.toList.drop k));have hjl:j<=s.size:=by rw[hj,<-an];exact gL (by rw[an];omega)
  have HR:=hid hR;have Hrow:=hid (fun w1 (hb:Below w.heap.size w w1) o=>(hR.later hb).row.alloc o);have Hlat:=hid (fun w1 (hb:Below w.heap.size w w1)=>hR.later hb);unfold gv at Hp;rw[hp]at Hp;simp only at Hp;rw[<-hk]at Hp;rw[<-hj]at Hb;have bad:∀(hB:s.data.toList.drop j≠[]/\(aT (s.data.toList.drop k)=0\/bP (s.data.toList.drop j)=false)),Hid (∀w1,Below w.heap.size w w1->fS w0 121 x (.returned (.tuple #[.slice none 0 0,.int .i64 82])) w1):=fun hB=>hid fun w1 hb=>by
   subst hj;subst hk;exact jy (hx.trans (Dq h hq hp hB)) (hR.below.trans (hb.mono hR.below.size))
  have good:∀(hB:¬(s.data.toList.drop j≠[]/\(aT (s.data.toList.drop k)=0\/bP (s.data.toList.drop j)=false))),Hid (x= .ok (ts++[⟨4,n,(i:Int),y,true⟩])):=fun hB=>hid (by
   subst hj;subst hk;exact hx.trans (Au h hq hp hB))
  by_cases hlt:j<s.size
  ·obtain ⟨d,hd⟩:=dL hlt;have hdj:=bT hd;have hidx2:=aN (s:=s) (j:Int) rfl hd;have t3:decide (j<s.size)=true:=dT hlt;by_cases hjk:j=k
   ·have t4:((j:Int)==(k:Int))=true:=by rw[beq_iff_eq];omega
    have He:=bad ⟨by rw[hdj];simp,.inl (by omega)⟩;clear hlt hd hdj hjk;clear hs hc hR hts hx hret h h34 hi hq hp hm hk hj hjl bad good;rcases T1.o with t1|⟨t1,t2⟩
    all_goals
     clear T1;obtain ⟨vv,rfl,eE⟩:=hf.shape;simp only[fa,eE];clear eE;clear hf;dsimp only[fg,cd,ncr,ncs,ncx,Tryz.f105]
     go_wp2_with fail
     refine cS Ho.o ?_;clear Ho
     go_wp2_with fail
     refine Hp.o.mono ?_;rintro r w1 ⟨hb,rfl⟩;have Hbw:=hid hb;clear hb;clear Hp
     go_wp2_with fail
     refine cS (Hb.o _) ?_;clear Hb;have He2:=hid (He.o _ Hbw.o);clear He Hbw Hlat Hrow HR;go_wp2;exact Hret.o _ _ _ _ rfl rfl rfl He2.o
   ·have t4:((j:Int)==(k:Int))=false:=bF (by omega);by_cases h35:d.toNat=35
    ·have t5:((d.toNat:Int) != 35)=false:=by rw[bne_eq_false_iff_eq];omega
     have He:=good (fun q=>by
      rcases q.2 with q|q
      ·omega
      ·rw[nS hd,dT h35]at q;cases q)
     clear hlt hd hdj hjk h35;clear hs hc hR hts hx hret h h34 hi hq hp hm hk hj hjl bad good;rcases T1.o with t1|⟨t1,t2⟩
     all_goals
      clear T1;obtain ⟨vv,rfl,eE⟩:=hf.shape;simp only[fa,eE];clear eE;clear hf;dsimp only[fg,cd,ncr,ncs,ncx,Tryz.f105]
      go_wp2_with fail
      refine cS Ho.o ?_;clear Ho
      go_wp2_with fail
      refine Hp.o.mono ?_;rintro r w1 ⟨hb,rfl⟩;have Hbw:=hid hb;clear hb;clear Hp
      go_wp2_with fail
      refine cS (Hb.o _) ?_;clear Hb;have Hown:=hid (Hrow.o _ Hbw.o);have HR1:=hid (Hlat.o _ Hbw.o);clear Hbw Hlat Hrow HR
      go_wp2_with (at_builtin;refine ew rfl _ _ 67 121 rfl Tryz.underlying67 eI v ts rfl (Hown.o _) _ ⟨4,n,(i:Int),y,true⟩ rfl (ah _) Hts.o ?_;intro v' w2 own2 gr2 new2;have Hend:=hid (jZ He.o (RT.app HR1.o own2 gr2 new2));clear own2 gr2 new2)
      exact Hret.o _ _ _ _ rfl rfl rfl Hend.o
    ·have t5:((d.toNat:Int) != 35)=true:=by rw[bne_iff_ne];omega
     have He:=bad ⟨by rw[hdj];simp,.inr (by rw[nS hd];exact dF h35)⟩;clear hlt hd hdj hjk h35;clear hs hc hR hts hx hret h h34 hi hq hp hm hk hj hjl bad good;rcases T1.o with t1|⟨t1,t2⟩
     all_goals
      clear T1;obtain ⟨vv,rfl,eE⟩:=hf.shape;simp only[fa,eE];clear eE;clear hf;dsimp only[fg,cd,ncr,ncs,ncx,Tryz.f105]
      go_wp2_with fail
      refine cS Ho.o ?_;clear Ho
      go_wp2_with fail
      refine Hp.o.mono ?_;rintro r w1 ⟨hb,rfl⟩;have Hbw:=hid hb;clear hb;clear Hp
      go_wp2_with fail
      refine cS (Hb.o _) ?_;clear Hb;have He2:=hid (He.o _ Hbw.o);clear He Hbw Hlat Hrow HR;go_wp2;exact Hret.o _ _ _ _ rfl rfl rfl He2.o
  ·have t3:decide (j<s.size)=false:=dF hlt;have He:=good (fun q=>q.1 (dropEnd (by rw[an];omega)));clear hlt;clear hs hc hR hts hx hret h h34 hi hq hp hm hk hj hjl bad good;rcases T1.o with t1|⟨t1,t2⟩
   all_goals
    clear T1;obtain ⟨vv,rfl,eE⟩:=hf.shape;simp only[fa,eE];clear eE;clear hf;dsimp only[fg,cd,ncr,ncs,ncx,Tryz.f105]
    go_wp2_with fail
    refine cS Ho.o ?_;clear Ho
    go_wp2_with fail
    refine Hp.o.mono ?_;rintro r w1 ⟨hb,rfl⟩;have Hbw:=hid hb;clear hb;clear Hp
    go_wp2_with fail
    refine cS (Hb.o _) ?_;clear Hb;have Hown:=hid (Hrow.o _ Hbw.o);have HR1:=hid (Hlat.o _ Hbw.o);clear Hbw Hlat Hrow HR
    go_wp2_with (at_builtin;refine ew rfl _ _ 67 121 rfl Tryz.underlying67 eI v ts rfl (Hown.o _) _ ⟨4,n,(i:Int),y,true⟩ rfl (ah _) Hts.o ?_;intro v' w2 own2 gr2 new2;have Hend:=hid (jZ He.o (RT.app HR1.o own2 gr2 new2));clear own2 gr2 new2)
    exact Hret.o _ _ _ _ rfl rfl rfl Hend.o
theorem xU (hs:s.size<=1048576) (hf:LnF a s n v (i:Int)) (hi:i<=s.size) (hg:Glob w) (hR:RT w0 w 121 v ts) (hts:ts.length<=1000000000) (hx:x=dP s.data.toList n ts i) (hret:iR w0 x Q):fg.wp Tryz.prog Q a w:=by
 cases h:bP (s.data.toList.drop i) with
 |true=>exact rN hf hi hR hx hret h
 |false=>
  have hlt:i<s.size:=by
   rcases Nat.lt_or_ge i s.size with q|q
   ·exact q
   ·rw[jx (by rw[an];omega)]at h;cases h
  obtain ⟨c,hc⟩:=dL hlt;by_cases hq:c.toNat=34\/c.toNat=39
  ·exact rM hs hf hc hR hts hx hret h hq
  ·exact p9 hs hf hc hg hR hts hx hret h (fun e=>hq (.inl e)) (fun e=>hq (.inr e))
end
