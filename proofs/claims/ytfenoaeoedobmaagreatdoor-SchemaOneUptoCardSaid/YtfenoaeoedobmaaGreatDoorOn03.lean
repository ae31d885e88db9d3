/-
Parts of a proof.
-/
import Derived.WalkKit
import Derived.Test.YtfenoaeoedobmaaGreatDoorOn01
set_option linter.unusedVariables false
set_option linter.unusedSimpArgs false
namespace Go.Proofs.YtfenoaeoedobmaaGreatDoor
open Go Go.RowKit
def aP:List UInt8->Nat
 |[]=>0
 |c::r=>if c.toNat=32 then aP r+1 else 0
def bB (c:UInt8):Bool:=
 decide ((97<=c.toNat/\c.toNat<=122)\/(65<=c.toNat/\c.toNat<=90)\/(48<=c.toNat/\c.toNat<=57)\/c.toNat=95\/c.toNat=45\/c.toNat=46)
def cZ:List UInt8->Nat
 |[]=>0
 |c::r=>if bB c=true then cZ r+1 else 0
def bW:List UInt8->Bool
 |[]=>true
 |c::_=>decide (c.toNat=35)
theorem vP (l:List UInt8):aP l<=l.length:=by
 induction l with
 |nil=>exact aBh _
 |cons c r ih=>
  unfold aP
  split
  ·simp only[aBk];omega
  ·omega
theorem NI (l:List UInt8):cZ l<=l.length:=by
 induction l with
 |nil=>exact aBh _
 |cons c r ih=>
  unfold cZ
  split
  ·simp only[aBk];omega
  ·omega
theorem kB {c:UInt8} {r:List UInt8} (h:c.toNat=32):aP (c::r)=aP r+1:=if_pos h
theorem fH {c:UInt8} {r:List UInt8} (h:¬c.toNat=32):aP (c::r)=0:=if_neg h
theorem wI {c:UInt8} {r:List UInt8} (h:bB c=true):cZ (c::r)=cZ r+1:=if_pos h
theorem tO {c:UInt8} {r:List UInt8} (h:¬bB c=true):cZ (c::r)=0:=if_neg h
def gk (c:UInt8):Int:=
 if 48<=c.toNat/\c.toNat<=57 then (c.toNat:Int)-48 else if 97<=c.toNat/\c.toNat<=102 then (c.toNat:Int)-87 else -1
def hexB (h l:UInt8):UInt8:=UInt8.ofNat (16*(gk h).toNat+(gk l).toNat)
def sqL:List UInt8->Option (List UInt8×Nat)
 |[]=>none
 |c::r=>
  if c.toNat=39 then
   match r with
   |[]=>some ([],1)
   |d::r'=>if d.toNat=39 then (sqL r').map fun p=>(c::p.1,p.2+2) else some ([],1)
  else (sqL r).map fun p=>(c::p.1,p.2+1)
def qU (e:UInt8):Option UInt8:=
 if e.toNat=34\/e.toNat=92 then some e else if e.toNat=110 then some 10 else if e.toNat=116 then some 9 else none
def dqL:List UInt8->Option (List UInt8×Nat)
 |[]=>none
 |c::r=>
  if c.toNat=34 then some ([],1)
  else if c.toNat=92 then
   match r with
   |[]=>none
   |e::r1=>
    if e.toNat=120 then
     match r1 with
     |h::l::r3=>if gk h<0\/gk l<0 then none else (dqL r3).map fun p=>(hexB h l::p.1,p.2+4)
     |_=>none
    else
     match qU e with
     |some x=>(dqL r1).map fun p=>(x::p.1,p.2+2)
     |none=>none
  else (dqL r).map fun p=>(c::p.1,p.2+1)
def dZ:List UInt8->Option (List UInt8×Nat)
 |[]=>none
 |c::r=>(if c.toNat=34 then dqL r else sqL r).map fun p=>(p.1,p.2+1)
def rA (c:UInt8):Bool:=[34,39,35,44,91,93,123,125,38,42,33,124,62,37,64,63,58,96].contains c
def eB:List UInt8->Bool
 |[]=>false
 |[c]=>decide (c.toNat=45)
 |c::d::_=>decide (c.toNat=45/\d.toNat=32)
def aS:List UInt8->List UInt8
 |[]=>[]
 |c::r=>if c.toNat=32/\r.head? =some 35 then [] else c::aS r
def aQ:List UInt8->List UInt8
 |[]=>[]
 |c::r=>if aQ r=[]/\c.toNat=32 then [] else c::aQ r
def mm:List UInt8->Bool
 |[]=>false
 |[c]=>decide (c.toNat=58)
 |c::d::r=>decide (c.toNat=58/\d.toNat=32)||mm (d::r)
def Lm:List UInt8->Bool
 |[]=>false
 |c::_=>rA c
def fJ (t:List UInt8):Option (List UInt8):=
 if Lm t=true\/eB t=true then none
 else if mm (aQ (aS t))=true\/aQ (aS t)=[45,45,45] then none
 else some (aQ (aS t))
structure Tok where
 kind:Int
 line:Int
 col:Int
 text:List UInt8
 quoted:Bool
def dJ (l:List UInt8):Int:=
 if l.any (fun c=>decide (c.toNat=9))=true then 80 else if l.any (fun c=>decide (c.toNat<32\/c.toNat=127))=true then 83 else 0
def fW (l:List UInt8):Bool:=
 match l with
 |a::b::c::r=>decide (a.toNat=45/\b.toNat=45/\c.toNat=45)&&(r.drop (aP r)==[]||(decide (0<aP r)&&bW (r.drop (aP r))))
 |_=>false
def cB (l:List UInt8):Nat->Nat->List Nat×Nat
 |0,i=>([],i)
 |f+1,i=>
  if bW (l.drop i)=false/\eB (l.drop i)=true then
   (i::(cB l f (i+1+aP (l.drop (i+1)))).1,(cB l f (i+1+aP (l.drop (i+1)))).2)
  else ([],i)
def cE:List UInt8->Bool
 |[]=>false
 |[c]=>decide (c.toNat=58)
 |c::d::_=>decide (c.toNat=58/\d.toNat=32)
def eY:List UInt8->Bool
 |[]=>false
 |c::_=>decide (c.toNat=34\/c.toNat=39)
def pE (t:List UInt8):Except Int (Option (List UInt8×Bool×Nat)):=
 if eY t=true then
  match dZ t with
  |none=> .error 82
  |some (x,n)=> .ok (if cE (t.drop n)=true then some (x,true,n+1) else none)
 else .ok (if 0<cZ t/\cZ t<=64/\cE (t.drop (cZ t))=true then some (t.take (cZ t),false,cZ t+1) else none)
def ig (t:List UInt8):Except Int (Option (List UInt8×Bool)):=
 if bW t=true then .ok none
 else if eY t=true then
  match dZ t with
  |none=> .error 82
  |some (x,n)=>
   if t.drop (n+aP (t.drop n))≠[]/\(aP (t.drop n)=0\/bW (t.drop (n+aP (t.drop n)))=false) then .error 82
   else .ok (some (x,true))
 else
  match fJ t with
  |none=> .error 83
  |some x=> .ok (some (x,false))
def dN (l:List UInt8) (n:Int) (ts:List Tok) (i:Nat):Except Int (List Tok):=
 match ig (l.drop i) with
 | .error e=> .error e
 | .ok none=> .ok ts
 | .ok (some (x,q))=> .ok (ts++[⟨4,n,(i:Int),x,q⟩])
def eR (l:List UInt8) (n:Int) (ts:List Tok) (i:Nat):Except Int (List Tok):=
 if bW (l.drop i)=true then .ok ts
 else
  match pE (l.drop i) with
  | .error e=> .error e
  | .ok none=>dN l n ts i
  | .ok (some (x,q,m))=>dN l n (ts++[⟨3,n,(i:Int),x,q⟩]) (i+m+aP (l.drop (i+m)))
def cM (l:List UInt8) (n:Int):Except Int (List Tok):=
 if dJ l≠0 then .error (dJ l)
 else if fW l=true then .ok [⟨1,n,0,[],false⟩]
 else eR l n ((cB l (l.length+1) (aP l)).1.map fun (c:Nat)=>(⟨2,n,(c:Int),[],false⟩:Tok)) (cB l (l.length+1) (aP l)).2
def ey (l:List UInt8):Bool:=
 match cM l 1 with
 | .ok [t]=>decide (t.kind=4)&& !t.quoted&&decide (t.text=l)
 |_=>false
instance memBA (a:ByteArray):(l:List ByteArray)->Decidable (a∈l)
 |[]=>isFalse (fun h=>nomatch h)
 |b::r=>
  if e:a=b then isTrue (by rw[e];exact List.mem_cons_self ..)
  else
   match memBA a r with
   |isTrue h=>isTrue (List.mem_cons_of_mem _ h)
   |isFalse h=>isFalse (fun q=>by rcases List.mem_cons.1 q with q|q;exact e q;exact h q)
structure Nd where
 kind:Int
 key:ByteArray
 text:ByteArray
 quoted:Bool
 line:Int
 kids:List Int
instance:Inhabited Nd:=⟨⟨0,⟨#[]⟩,⟨#[]⟩,false,0,[]⟩⟩
def kH (kind:Int) (key:ByteArray) (had:List ByteArray):Bool:=
 !(decide (kind=3/\key≠⟨#[]⟩)||decide (kind=2/\key∈had))
def c8 (ns:List Nd) (kind:Int) (deep:Nat):List Int->Int->List ByteArray->List Nat->Option (List Nat)
 |[],_,_,d=>some d
 |k::r,last,had,d=>
  if k<=last\/(ns.length:Int)<=k\/d[k.toNat]! ≠0 then none
  else if kH kind (ns[k.toNat]!).key had=false then none
  else c8 ns kind deep r k ((ns[k.toNat]!).key::had) (d.set k.toNat (deep+1))
def dY (n:Nd):Bool:=decide (n.kids=[])&&(n.quoted||decide (n.text=⟨#[]⟩)||ey n.text.data.toList)
def cW (ns:List Nd) (i:Nat) (n:Nd) (d:List Nat):Option (List Nat):=
 if d[i]! =0\/16<d[i]! then none
 else if n.kind=1 then (if dY n=true then some d else none)
 else if (n.kind≠2/\n.kind≠3)\/n.kids=[]\/n.text≠⟨#[]⟩\/n.quoted=true then none
 else c8 ns n.kind d[i]! n.kids (i:Int) [] d
def fA (ns:List Nd):List Nd->Nat->List Nat->Bool
 |[],_,_=>true
 |n::r,i,d=>
  match cW ns i n d with
  |none=>false
  |some d'=>fA ns r (i+1) d'
def dj (ns:List Nd):Bool:=
 decide (ns≠[]/\ns.length<=4096/\(ns[0]!).key=⟨#[]⟩)&&fA ns ns 0 (1::List.replicate (ns.length-1) 0)
def pz (ns:List Nd) (k:Nat):List Nat:=
 (List.range k).flatMap fun i=>((ns[i]!).kids.filter fun x=>decide (x=(k:Int))).map fun _=>i
def eS (ns:List Nd) (kind:Int):List Int->Int->List ByteArray->Bool
 |[],_,_=>true
 |k::r,last,had=>
  if k<=last\/(ns.length:Int)<=k then false
  else if kH kind (ns[k.toNat]!).key had=false then false
  else eS ns kind r k ((ns[k.toNat]!).key::had)
def kE (ns:List Nd) (i:Nat) (n:Nd):Bool:=
 if n.kind<1\/3<n.kind then false
 else if n.kind=1/\¬dY n=true then false
 else if 1<n.kind/\(n.kids=[]\/n.text≠⟨#[]⟩\/n.quoted=true\/¬eS ns n.kind n.kids (i:Int) []=true) then false
 else true
def Me:Tok:=⟨0,0,0,[],false⟩
def au (ts:List Tok) (k:Nat):Tok:=ts[k]?.getD Me
def pL (t:Tok):Bool:=t.kind==2||t.kind==3||t.kind==4
abbrev Flt:=Int×Int
def j4 (ns:List Nd) (d:Nat) (kind:Int) (key:ByteArray) (t:Tok):Except Flt (List Nd):=
 if d=0\/ns.length=4096 then .error (t.line,92) else .ok (ns++[⟨kind,key,⟨#[]⟩,false,t.line,[]⟩])
def cF (ns:List Nd) (i kid:Nat):List Nd:=match ns[i]? with|some x=>ns.set i {x with kids:=x.kids++[(kid:Int)]}|none=>ns
abbrev Blk:=Nat->List Nd->ByteArray->Except Flt (Nat×List Nd×Nat)
def iL (blk:Blk) (ts:List Tok) (d:Nat) (is:Bool) (t:Tok) (k:Nat) (ns:List Nd) (key:ByteArray):Except Flt (Nat×List Nd×Nat):=
 if (is&&pL (au ts k))=true then blk k ns key
 else match j4 ns d 1 key t with
  | .error e=> .error e
  | .ok ns2=> .ok (k,ns2,ns.length)
def dr (n t:Tok):Bool:=(n.line==t.line&&n.kind==4)||(n.line != t.line&&(decide (t.col<n.col)||(n.kind==2&&n.col==t.col)))
def jf (n t:Tok):Bool:=n.line==t.line||decide (t.col<n.col)
def c9 (blk:Blk) (ts:List Tok) (d:Nat) (col:Int) (i:Nat):Nat->List (List UInt8)->Nat->List Nd->Except Flt (Nat×List Nd)
 |0,_,k,ns=> .ok (k,ns)
 |f+1,seen,k,ns=>
  let t:=au ts k
  if t.kind=3/\t.col=col then
   if t.text∈seen then .error (t.line,91)
   else match iL blk ts d (dr (au ts (k+1)) t) t (k+1) ns ⟨t.text.toArray⟩ with
    | .error e=> .error e
    | .ok (k2,ns2,kid)=>c9 blk ts d col i f (t.text::seen) k2 (cF ns2 i kid)
  else .ok (k,ns)
def dv (blk:Blk) (ts:List Tok) (d:Nat) (col:Int) (i:Nat):Nat->Nat->List Nd->Except Flt (Nat×List Nd)
 |0,k,ns=> .ok (k,ns)
 |f+1,k,ns=>
  let t:=au ts k
  if t.kind=2/\t.col=col then
   match iL blk ts d (jf (au ts (k+1)) t) t (k+1) ns ⟨#[]⟩ with
    | .error e=> .error e
    | .ok (k2,ns2,kid)=>dv blk ts d col i f k2 (cF ns2 i kid)
  else .ok (k,ns)
def bo (ts:List Tok):Nat->Blk
 |0,k,ns,key=> .error ((au ts k).line,92)
 |d+1,k,ns,key=>
  let t:=au ts k
  if t.kind=3 then match j4 ns (d+1) 2 key t with
   | .error e=> .error e
   | .ok xQ=>match c9 (bo ts d) ts d t.col ns.length (ts.length-k) [] k xQ with
    | .error e=> .error e
    | .ok (k2,ns2)=> .ok (k2,ns2,ns.length)
  else if t.kind=2 then match j4 ns (d+1) 3 key t with
   | .error e=> .error e
   | .ok xQ=>match dv (bo ts d) ts d t.col ns.length (ts.length-k) k xQ with
    | .error e=> .error e
    | .ok (k2,ns2)=> .ok (k2,ns2,ns.length)
  else match j4 ns (d+1) 1 key t with
   | .error e=> .error e
   | .ok _=> .ok (k+1,ns++[⟨1,key,⟨t.text.toArray⟩,t.quoted,t.line,[]⟩],ns.length)
def kj (ts:List Tok):Except Flt (List Nd):=
 match (if pL (au ts 0)=true then (match bo ts 16 0 [] ⟨#[]⟩ with| .error e=> .error e| .ok (k,ns,_)=> .ok (k,ns)) else .ok (0,[]):Except Flt (Nat×List Nd)) with
 | .error e=> .error e
 | .ok (k,ns)=>if k<ts.length then .error ((au ts k).line,90) else .ok ns
def docN:List Tok->Nat
 |[]=>0
 |t::r=>if t.kind=1 then 0 else docN r+1
def ofL:Nat->List Tok->Nat->Except (Nat×Flt) (List (List Nd))
 |0,_,_=> .ok []
 |f+1,ts,k=>
  if ts=[] then .ok []
  else if docN ts=0 then ofL f (ts.drop 1) k
  else match kj (ts.take (docN ts)) with
   | .error e=> .error (k,e)
   | .ok ns=>match ofL f (ts.drop (docN ts+1)) (k+1) with
    | .error e=> .error e
    | .ok l=> .ok (ns::l)
theorem Be:∀ts:List Tok,docN ts<=ts.length
 |[]=>aBh _
 |t::r=>by
  unfold docN
  split
  ·omega
  ·have:=Be r;rw[aBk];omega
def D3 (ts:List Tok) (blk:Blk):Prop:=∀k ns key k2 ns2 i,blk k ns key= .ok (k2,ns2,i)->k<ts.length->k<k2/\k2<=ts.length
theorem iw {ts:List Tok} {k:Nat} (h:ts.length<=k):au ts k=Me:=by
 unfold au;rw[List.getElem?_eq_none h];rfl
theorem Cz {ts:List Tok} {k:Nat} {t:Tok} (h:ts[k]? =some t):au ts k=t:=by
 unfold au;rw[h];rfl
theorem gE {ts:List Tok} {k:Nat} (h:(au ts k).kind≠0):k<ts.length:=by
 rcases Nat.lt_or_ge k ts.length with q|q
 ·exact q
 ·rw[iw q]at h;exact absurd rfl h
theorem O5 {ts:List Tok} {k:Nat} (h:pL (au ts k)=true):k<ts.length:=gE (fun e=>by
 unfold pL at h;rw[e]at h;cases h)
theorem jH {ts:List Tok} {blk:Blk} (hb:D3 ts blk) {d:Nat} {is:Bool} {t:Tok} {k:Nat} {ns:List Nd} {key:ByteArray} {k2:Nat} {ns2:List Nd} {i:Nat} (h:iL blk ts d is t k ns key= .ok (k2,ns2,i)) (hk:k<=ts.length):k<=k2/\k2<=ts.length:=by
 unfold iL at h
 split at h
 ·rename_i hh
  simp only[Bool.and_eq_true]at hh;have:=hb _ _ _ _ _ _ h (O5 hh.2);omega
 ·split at h
  ·cases h
  ·injection h with h
   injection h with h1 h2
   omega
theorem xt {ts:List Tok} {blk:Blk} (hb:D3 ts blk) {d:Nat} {col:Int} {i:Nat}:∀(f:Nat) (seen:List (List UInt8)) (k:Nat) (ns:List Nd) (k2:Nat) (ns2:List Nd),c9 blk ts d col i f seen k ns= .ok (k2,ns2)->k<=ts.length->k<=k2/\k2<=ts.length/\((au ts k).kind=3/\(au ts k).col=col->0<f->k<k2)
 |0,seen,k,ns,k2,ns2,h,hk=>by
  unfold c9 at h;injection h with h
  injection h with h1 h2
  exact ⟨by omega,by omega,fun _ h=>absurd h (by omega)⟩
 |f+1,seen,k,ns,k2,ns2,h,hk=>by
  unfold c9 at h;simp only at h
  split at h
  ·rename_i hc
   split at h
   ·cases h
   ·have lT:=gE (ts:=ts) (k:=k) (by rw[hc.1];decide)
    split at h
    ·cases h
    ·rename_i k3 BB kid hv
     have h1:=jH hb hv (by omega);have h2:=xt hb f _ _ _ _ _ h h1.2;exact ⟨by omega,h2.2.1,fun _ _=>by omega⟩
  ·rename_i hc
   injection h with h
   injection h with h1 h2
   exact ⟨by omega,by omega,fun q _=>absurd q hc⟩
theorem wQ {ts:List Tok} {blk:Blk} (hb:D3 ts blk) {d:Nat} {col:Int} {i:Nat}:∀(f:Nat) (k:Nat) (ns:List Nd) (k2:Nat) (ns2:List Nd),dv blk ts d col i f k ns= .ok (k2,ns2)->k<=ts.length->k<=k2/\k2<=ts.length/\((au ts k).kind=2/\(au ts k).col=col->0<f->k<k2)
 |0,k,ns,k2,ns2,h,hk=>by
  unfold dv at h;injection h with h
  injection h with h1 h2
  exact ⟨by omega,by omega,fun _ h=>absurd h (by omega)⟩
 |f+1,k,ns,k2,ns2,h,hk=>by
  unfold dv at h;simp only at h
  split at h
  ·rename_i hc
   have lT:=gE (ts:=ts) (k:=k) (by rw[hc.1];decide)
   split at h
   ·cases h
   ·rename_i k3 BB kid hv
    have h1:=jH hb hv (by omega);have h2:=wQ hb f _ _ _ _ h h1.2;exact ⟨by omega,h2.2.1,fun _ _=>by omega⟩
  ·rename_i hc
   injection h with h
   injection h with h1 h2
   exact ⟨by omega,by omega,fun q _=>absurd q hc⟩
theorem nU (ts:List Tok):∀d,D3 ts (bo ts d)
 |0=>fun k ns key k2 ns2 i h _=>by unfold bo at h;cases h
 |d+1=>fun k ns key k2 ns2 i h hk=>by
  have ih:=nU ts d;unfold bo at h;simp only at h
  split at h
  ·rename_i hc
   split at h
   ·cases h
   ·split at h
    ·cases h
    ·rename_i k3 BB hd
     injection h with h
     injection h with h1 h2
     have:=xt ih _ _ _ _ _ _ hd (by omega);have h3:=this.2.2 ⟨hc,rfl⟩ (by omega);omega
  ·split at h
   ·rename_i hc
    split at h
    ·cases h
    ·split at h
     ·cases h
     ·rename_i k3 BB hd
      injection h with h
      injection h with h1 h2
      have:=wQ ih _ _ _ _ _ hd (by omega);have h3:=this.2.2 ⟨hc,rfl⟩ (by omega);omega
   ·split at h
    ·cases h
    ·injection h with h
     injection h with h1 h2
     omega
theorem xu {ts:List Tok} {blk:Blk} (hb:D3 ts blk) {d:Nat} {col:Int} {i:Nat}:∀(f g:Nat) (seen:List (List UInt8)) (k:Nat) (ns:List Nd),ts.length<=f+k->ts.length<=g+k->k<=ts.length->c9 blk ts d col i f seen k ns=c9 blk ts d col i g seen k ns
 |0,0,_,_,_,_,_,_=>rfl
 |0,g+1,seen,k,ns,hf,_,hk=>by
  unfold c9;rw[if_neg (fun h=>by rw[iw (by omega)]at h;exact absurd h.1 (by decide))]
 |f+1,0,seen,k,ns,_,hg,hk=>by
  unfold c9;rw[if_neg (fun h=>by rw[iw (by omega)]at h;exact absurd h.1 (by decide))]
 |f+1,g+1,seen,k,ns,hf,hg,hk=>by
  unfold c9;simp only
  split
  ·rename_i hc
   split
   ·rfl
   ·have lT:=gE (ts:=ts) (k:=k) (by rw[hc.1];decide)
    split
    ·rename_i e hv
     rfl
    ·rename_i k3 BB kid hv
     have h1:=jH hb hv (by omega);exact xu hb f g _ _ _ (by omega) (by omega) h1.2
  ·rfl
theorem wR {ts:List Tok} {blk:Blk} (hb:D3 ts blk) {d:Nat} {col:Int} {i:Nat}:∀(f g:Nat) (k:Nat) (ns:List Nd),ts.length<=f+k->ts.length<=g+k->k<=ts.length->dv blk ts d col i f k ns=dv blk ts d col i g k ns
 |0,0,_,_,_,_,_=>rfl
 |0,g+1,k,ns,hf,_,hk=>by
  unfold dv;rw[if_neg (fun h=>by rw[iw (by omega)]at h;exact absurd h.1 (by decide))]
 |f+1,0,k,ns,_,hg,hk=>by
  unfold dv;rw[if_neg (fun h=>by rw[iw (by omega)]at h;exact absurd h.1 (by decide))]
 |f+1,g+1,k,ns,hf,hg,hk=>by
  unfold dv;simp only
  split
  ·rename_i hc
   have lT:=gE (ts:=ts) (k:=k) (by rw[hc.1];decide)
   split
   ·rename_i e hv
    rfl
   ·rename_i k3 BB kid hv
    have h1:=jH hb hv (by omega);exact wR hb f g _ _ (by omega) (by omega) h1.2
  ·rfl
def gW (out s:List UInt8):List UInt8:=if out.length<=65536 then out++s else out
def lJ:List UInt8:=[48,49,50,51,52,53,54,55,56,57,97,98,99,100,101,102]
def ic (c:UInt8):List UInt8:=
 if c.toNat=34\/c.toNat=92 then [92,c] else if c.toNat=10 then [92,110] else if c.toNat=9 then [92,116]
 else if c.toNat<32\/c.toNat=127 then [92,120,lJ[c.toNat / 16]!,lJ[c.toNat % 16]!] else [c]
def cL (l:List UInt8):List UInt8:=34::l.flatMap ic++[34]
def nD (l:List UInt8):List UInt8:=if l≠[]/\l.length<=64/\l.all bB=true then l else cL l
def fa (n:Nd):List UInt8:=
 if n.quoted=true then 32::cL n.text.data.toList else if n.text.data.toList≠[] then 32::n.text.data.toList else []
def kt (ns:List Nd) (lay:Nat->Nat->Bool->List UInt8->List UInt8) (kind:Int) (indent:Nat):List Int->Bool->List UInt8->List UInt8
 |[],_,out=>out
 |k::r,there,out=>
  kt ns lay kind indent r false
   (if (ns[k.toNat]!).kind=1 then
    gW (gW (gW (if there=true then out else gW out (List.replicate indent 32)) (if kind=2 then nD (ns[k.toNat]!).key.data.toList++[58] else [45])) (fa (ns[k.toNat]!))) [10]
   else if kind=2 then
    lay k.toNat (indent+2) false (gW (gW (if there=true then out else gW out (List.replicate indent 32)) (nD (ns[k.toNat]!).key.data.toList++[58])) [10])
   else
    lay k.toNat (indent+2) true (gW (gW (if there=true then out else gW out (List.replicate indent 32)) [45]) [32]))
def kV (ns:List Nd):Nat->Nat->Nat->Bool->List UInt8->List UInt8
 |0,_,_,_,out=>out
 |f+1,i,indent,there,out=>
  if (ns[i]!).kind=1 then (if fa (ns[i]!)=[] then out else gW (gW out (fa (ns[i]!)).tail) [10])
  else kt ns (kV ns f) (ns[i]!).kind indent (ns[i]!).kids there out
def lL (ns:List Nd):List UInt8:=kV ns ns.length 0 0 false []
inductive Fo where
 |nil:Fo
 |sc (key text:ByteArray) (q:Bool) (next:Fo):Fo
 |br (kind:Int) (key:ByteArray) (kids next:Fo):Fo
namespace Fo
def size:Fo->Nat
 |nil=>0
 |sc _ _ _ nx=>1+nx.size
 |br _ _ kids nx=>1+kids.size+nx.size
def depth:Fo->Nat
 |nil=>0
 |sc _ _ _ nx=>max 1 nx.depth
 |br _ _ kids nx=>max (1+kids.depth) nx.depth
def heads:Fo->Nat->List Int
 |nil,_=>[]
 |sc _ _ _ nx,i=>(i:Int)::nx.heads (i+1)
 |br _ _ kids nx,i=>(i:Int)::nx.heads (i+1+kids.size)
def flat:Fo->Nat->List Nd
 |nil,_=>[]
 |sc key text q nx,i=>⟨1,key,text,q,0,[]⟩::nx.flat (i+1)
 |br kind key kids nx,i=>⟨kind,key,⟨#[]⟩,false,0,kids.heads (i+1)⟩::(kids.flat (i+1)++nx.flat (i+1+kids.size))
def keys:Fo->List ByteArray
 |nil=>[]
 |sc key _ _ nx=>key::nx.keys
 |br _ key _ nx=>key::nx.keys
theorem size_nil:Fo.nil.size=0:=rfl
theorem size_sc (key text:ByteArray) (q:Bool) (nx:Fo):(sc key text q nx).size=1+nx.size:=rfl
theorem size_br (kind:Int) (key:ByteArray) (kids nx:Fo):(br kind key kids nx).size=1+kids.size+nx.size:=rfl
theorem depth_sc (key text:ByteArray) (q:Bool) (nx:Fo):(sc key text q nx).depth=max 1 nx.depth:=rfl
theorem depth_br (kind:Int) (key:ByteArray) (kids nx:Fo):(br kind key kids nx).depth=max (1+kids.depth) nx.depth:=rfl
theorem heads_sc (key text:ByteArray) (q:Bool) (nx:Fo) (i:Nat):(sc key text q nx).heads i=(i:Int)::nx.heads (i+1):=rfl
theorem heads_br (kind:Int) (key:ByteArray) (kids nx:Fo) (i:Nat):(br kind key kids nx).heads i=(i:Int)::nx.heads (i+1+kids.size):=rfl
theorem flat_sc (key text:ByteArray) (q:Bool) (nx:Fo) (i:Nat):(sc key text q nx).flat i=⟨1,key,text,q,0,[]⟩::nx.flat (i+1):=rfl
theorem flat_br (kind:Int) (key:ByteArray) (kids nx:Fo) (i:Nat):(br kind key kids nx).flat i=⟨kind,key,⟨#[]⟩,false,0,kids.heads (i+1)⟩::(kids.flat (i+1)++nx.flat (i+1+kids.size)):=rfl
theorem flat_len:∀(F:Fo) (i:Nat),(F.flat i).length=F.size
 |nil,_=>rfl
 |sc _ _ _ nx,i=>by unfold flat;rw[aBk,flat_len nx,size_sc];omega
 |br _ _ kids nx,i=>by unfold flat;rw[aBk,aBj,flat_len kids,flat_len nx,size_br];omega
theorem heads_keys:∀(F:Fo) (i:Nat),(F.heads i).length=F.keys.length
 |nil,_=>rfl
 |sc _ _ _ nx,i=>by unfold heads keys;rw[aBk,aBk,heads_keys nx]
 |br _ _ kids nx,i=>by unfold heads keys;rw[aBk,aBk,heads_keys nx]
theorem depth_le:∀F:Fo,F.depth<=F.size
 |nil=>aBh _
 |sc _ _ _ nx=>by have:=depth_le nx;rw[depth_sc,size_sc];omega
 |br _ _ kids nx=>by have:=depth_le nx;have:=depth_le kids;rw[depth_br,size_br];omega
def At (ns:List Nd) (F:Fo) (i:Nat):Prop:=∃a b,ns=a++(F.flat i++b)/\a.length=i
theorem At.head_sc {ns:List Nd} {key text:ByteArray} {q:Bool} {nx:Fo} {i:Nat} (h:At ns (sc key text q nx) i):ns[i]? =some ⟨1,key,text,q,0,[]⟩/\At ns nx (i+1):=by
 obtain ⟨a,b,rfl,rfl⟩:=h;unfold flat;refine ⟨by simp,a++[⟨1,key,text,q,0,[]⟩],b,by simp,by simp⟩
theorem At.head_br {ns:List Nd} {kind:Int} {key:ByteArray} {kids nx:Fo} {i:Nat} (h:At ns (br kind key kids nx) i):ns[i]? =some ⟨kind,key,⟨#[]⟩,false,0,kids.heads (i+1)⟩/\At ns kids (i+1)/\At ns nx (i+1+kids.size):=by
 obtain ⟨a,b,rfl,rfl⟩:=h;unfold flat;refine ⟨by simp,⟨a++[⟨kind,key,⟨#[]⟩,false,0,kids.heads (a.length+1)⟩],nx.flat (a.length+1+kids.size)++b,by simp,by simp⟩,⟨a++(⟨kind,key,⟨#[]⟩,false,0,kids.heads (a.length+1)⟩::kids.flat (a.length+1)),b,by simp,by simp[flat_len];omega⟩⟩
def mark (kind:Int) (key:ByteArray):List UInt8:=if kind=2 then nD key.data.toList++[58] else [45]
def scalQ (text:ByteArray) (q:Bool):List UInt8:=if q=true then 32::cL text.data.toList else if text.data.toList≠[] then 32::text.data.toList else []
def txt (kind:Int) (col:Nat):Fo->List UInt8
 |nil=>[]
 |sc key text q nx=>mark kind key++(scalQ text q++(10::match nx with|nil=>[]|_=>List.replicate col 32++nx.txt kind col))
 |br kd key kids nx=>mark kind key++((if kind=2 then 10::(match kids with|nil=>[]|_=>List.replicate (col+2) 32++kids.txt kd (col+2)) else 32::kids.txt kd (col+2))++(match nx with|nil=>[]|_=>List.replicate col 32++nx.txt kind col))
def full (kind:Int) (col:Nat) (F:Fo):List UInt8:=match F with|nil=>[]|_=>List.replicate col 32++F.txt kind col
theorem full_some {kind:Int} {col:Nat} {F:Fo} (h:F≠nil):full kind col F=List.replicate col 32++F.txt kind col:=by
 cases F with
 |nil=>exact absurd rfl h
 |sc=>rfl
 |br=>rfl
theorem txt_sc (kind:Int) (col:Nat) (key text:ByteArray) (q:Bool) (nx:Fo):(sc key text q nx).txt kind col=mark kind key++(scalQ text q++(10::full kind col nx)):=by
 conv=>lhs;unfold txt
 cases nx<;>rfl
theorem txt_br (kind:Int) (col:Nat) (kd:Int) (key:ByteArray) (kids nx:Fo):(br kd key kids nx).txt kind col=mark kind key++((if kind=2 then 10::full kd (col+2) kids else 32::kids.txt kd (col+2))++full kind col nx):=by
 conv=>lhs;unfold txt
 cases kids<;>cases nx<;>rfl
end Fo
def Put (out s R:List UInt8):Prop:=(R.length<=65536->R=out++s)/\out.length<=R.length
theorem Put.trans {a s b t c:List UInt8} (h:Put a s b) (k:Put b t c):Put a (s++t) c:=
 ⟨fun hc=>by rw[k.1 hc,h.1 (aBl k.2 hc),List.append_assoc],aBl h.2 k.2⟩
theorem Put.nil (a:List UInt8):Put a [] a:=⟨fun _=>(List.append_nil a).symm,aBh _⟩
theorem j3 (out s:List UInt8):Put out s (gW out s):=by
 unfold gW
 split
 ·exact ⟨fun _=>rfl,by simp⟩
 ·rename_i h
  exact ⟨fun q=>absurd q h,aBh _⟩
theorem Na {there:Bool} {out:List UInt8} {n:Nat}:Put out (if there=true then [] else List.replicate n 32) (if there=true then out else gW out (List.replicate n 32)):=by
 cases there with
 |true=>exact Put.nil out
 |false=>exact j3 _ _
theorem dL {ns:List Nd} {i:Nat} {x:Nd} (h:ns[i]? =some x):ns[i]! =x:=by
 rw[List.getElem!_eq_getElem?_getD,h];rfl
theorem Mi (key text:ByteArray) (q:Bool):fa ⟨1,key,text,q,0,[]⟩=Fo.scalQ text q:=rfl
theorem Fo.lead {kind:Int} {col:Nat} {F:Fo} (h:F≠Fo.nil) (there:Bool):(if there=true then F.txt kind col else F.full kind col)=(if there=true then [] else List.replicate col 32)++F.txt kind col:=by
 cases there with
 |true=>rfl
 |false=>exact Fo.full_some h
def Bu (kind:Int) (key:ByteArray):Prop:=(kind=2->key.data.toList≠[]/\key.data.toList.length<=64/\key.data.toList.all bB=true)/\(kind=3->key=⟨#[]⟩)
def IS (text:ByteArray) (q:Bool):Prop:=q=true\/ey text.data.toList=true
def Fo.Ok (kind:Int):Fo->Prop
 | .nil=>True
 | .sc key text q nx=>Bu kind key/\IS text q/\nx.Ok kind
 | .br kd key kids nx=>Bu kind key/\(kd=2\/kd=3)/\kids≠ .nil/\kids.Ok kd/\(kd=2->kids.keys.Nodup)/\nx.Ok kind
theorem Fo.depth_pos {F:Fo} (h:F≠Fo.nil):1<=F.depth:=by
 cases F with
 |nil=>exact absurd rfl h
 |sc=>rw[Fo.depth_sc];omega
 |br=>rw[Fo.depth_br];omega
theorem qF (ns:List Nd):∀(F:Fo) (f i:Nat) (kind:Int) (col:Nat) (there:Bool) (out:List UInt8),Fo.At ns F i->F.depth<=f+1->F.Ok kind->(kind=2\/kind=3)->
 Put out (if there=true then F.txt kind col else F.full kind col) (kt ns (kV ns f) kind col (F.heads i) there out)
 |Fo.nil,f,i,kind,col,there,out,hA,hd,_,_=>by
  have e:(if there=true then Fo.nil.txt kind col else Fo.nil.full kind col)=[]:=by cases there<;>rfl
  rw[e];exact Put.nil out
 |Fo.sc key text q nx,f,i,kind,col,there,out,hA,hd,hok,hk=>by
  obtain ⟨h1,h2⟩:=hA.head_sc;have hb:=dL h1;have ih:∀fc,Put fc (nx.full kind col) (kt ns (kV ns f) kind col (nx.heads (i+1)) false fc):=fun fc=>qF ns nx f (i+1) kind col false fc h2 (by rw[Fo.depth_sc]at hd;omega) hok.2.2 hk;rw[Fo.lead (by simp) there,Fo.txt_sc];unfold Fo.heads kt;rw[Int.toNat_natCast,hb,if_pos rfl,Mi];have a1:=Na (there:=there) (out:=out) (n:=col)
  have a2:=a1.trans (j3 _ (Fo.mark kind key));have a3:=a2.trans (j3 _ (Fo.scalQ text q));have a4:=a3.trans (j3 _ [10]);have a5:=a4.trans (ih _);simp only[List.append_assoc,List.singleton_append]at a5;exact a5
 |Fo.br kd key kids nx,f,i,kind,col,there,out,hA,hd,hok,hk=>by
  obtain ⟨h1,h2,h3⟩:=hA.head_br;have hb:=dL h1;obtain ⟨cl,gu,cg,rR,-,Qx⟩:=hok;have ye:=Fo.depth_pos cg;have uh:1+kids.depth<=f+1/\nx.depth<=f+1:=by rw[Fo.depth_br]at hd;omega
  obtain ⟨f',rfl⟩:∃f',f=f'+1:=⟨f-1,by omega⟩;have ih:∀fc,Put fc (nx.full kind col) (kt ns (kV ns (f'+1)) kind col (nx.heads (i+1+kids.size)) false fc):=fun fc=>qF ns nx (f'+1) (i+1+kids.size) kind col false fc h3 uh.2 Qx hk;have ihf:∀fc,Put fc (kids.full kd (col+2)) (kt ns (kV ns f') kd (col+2) (kids.heads (i+1)) false fc):=fun fc=>qF ns kids f' (i+1) kd (col+2) false fc h2 (by omega) rR gu
  have iht:∀fc,Put fc (kids.txt kd (col+2)) (kt ns (kV ns f') kd (col+2) (kids.heads (i+1)) true fc):=fun fc=>qF ns kids f' (i+1) kd (col+2) true fc h2 (by omega) rR gu;have ZN:∀th fc,kV ns (f'+1) i (col+2) th fc=kt ns (kV ns f') kd (col+2) (kids.heads (i+1)) th fc:=by
   intro th fc
   conv=>lhs;unfold kV
   rw[hb,if_neg (show ¬kd=1 by rcases gu with e|e<;>rw[e]<;>decide)]
  rw[Fo.lead (by simp) there,Fo.txt_br];unfold Fo.heads kt;rw[Int.toNat_natCast,hb,if_neg (show ¬kd=1 by rcases gu with e|e<;>rw[e]<;>decide)];have a1:=Na (there:=there) (out:=out) (n:=col);have a2:=a1.trans (j3 _ (Fo.mark kind key));rcases hk with rfl|rfl
  ·have a3:=a2.trans (j3 _ [10]);have a4:=a3.trans (ihf _);have a5:=a4.trans (ih _);rw[<-ZN]at a5;simp only[List.append_assoc,List.singleton_append]at a5;rw[if_pos (rfl:(2:Int)=2)];simp only[List.append_assoc,List.cons_append];exact a5
  ·have a3:=a2.trans (j3 _ [32]);have a4:=a3.trans (iht _);have a5:=a4.trans (ih _);rw[<-ZN]at a5;simp only[List.append_assoc,List.singleton_append]at a5;rw[if_neg (show ¬(3:Int)=2 by decide)];simp only[List.append_assoc,List.cons_append];exact a5
def Fo.doc (F:Fo):List Nd:=(Fo.br 2 ⟨#[]⟩ F .nil).flat 0
theorem Fo.doc_len (F:Fo):F.doc.length=F.size+1:=by unfold Fo.doc;rw[Fo.flat_len,Fo.size_br,Fo.size_nil];omega
theorem Fo.doc_at (F:Fo):Fo.At F.doc (Fo.br 2 ⟨#[]⟩ F .nil) 0:=⟨[],[],by simp[Fo.doc],rfl⟩
theorem Fo.full_zero (F:Fo) (kind:Int):F.full kind 0=F.txt kind 0:=by
 cases F<;>rfl
theorem PB {F:Fo} (hn:F≠ .nil) (hok:F.Ok 2) (h:(lL F.doc).length<=65536):lL F.doc=F.txt 2 0:=by
 obtain ⟨h1,h2,h3⟩:=F.doc_at.head_br;have hb:=dL h1;have hl:=F.doc_len;have hd:=F.depth_le;have ye:=Fo.depth_pos hn;unfold lL at h |-;rw[hl]at h |-;unfold kV at h |-;rw[hb,if_neg (show ¬(2:Int)=1 by decide)]at h |-;have:=(qF F.doc F F.size 1 2 0 false [] h2 (by omega) hok (.inl rfl)).1 h;rw[this,if_neg (by decide),Fo.full_zero];rfl
def dd:List UInt8->List UInt8×List UInt8
 |[]=>([],[])
 |c::r=>if c=10 then ([],r) else (c::(dd r).1,(dd r).2)
def cU (ts:List Tok):Nat:=(ts.filter fun t=>t.kind==1).length
def iZ:Nat->List UInt8->Nat->Nat->List Tok->Except (Nat×Nat×Int) (List Tok)
 |0,_,_,_,acc=> .ok acc
 |f+1,l,k,n,acc=>
  if l=[] then .ok acc
  else match cM (dd l).1 ((n+1:Nat):Int) with
   | .error c=> .error (k,n+1,c)
   | .ok ts=>iZ f (dd l).2 (k+cU ts) (n+1) (acc++ts)
def jn (l:List UInt8):Except (Nat×Nat×Int) (List Tok):=if 65536<l.length then .error (0,0,3) else iZ (l.length+1) l 0 0 []
theorem lM:∀l:List UInt8,l≠[]->(dd l).2.length<l.length
 |[],h=>absurd rfl h
 |c::r,_=>by
  unfold dd
  split
  ·simp
  ·by_cases hr:r=[]
   ·subst hr;simp[dd]
   ·have:=lM r hr;simp only[aBk];omega
theorem ri:∀l:List UInt8,(dd l).1.length<=l.length
 |[]=>by simp[dd]
 |c::r=>by
  have:=ri r;unfold dd
  split
  ·simp
  ·simp only[aBk];omega
