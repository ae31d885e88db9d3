/-
Parts of a proof.
-/
import Derived.Test.YtfenoaeoedobmaaGreatDoorOn08
set_option linter.unusedVariables false
set_option linter.unusedSimpArgs false
namespace Go.Proofs.YtfenoaeoedobmaaGreatDoor
open Go Go.RowKit
structure LF where
 f:Int->Int
 z:f 0=0
def lf (φ:LF) (n:Nd):Nd:={n with line:=φ.f n.line}
def sR (φ:LF) {α β:Type} (f:α->β) (x:R α):R β:=match x with| .ok a=> .ok (f a)| .error e=> .error (φ.f e.1,e.2)
section
variable {φ:LF}
theorem dK {α β:Type} (f:α->β) (a:α):sR φ f (.ok a)= .ok (f a):=rfl
theorem uj (ns:List Nd) (k:Nat):(ns.map (lf φ))[k]! =(lf φ) (ns[k]!):=by
 rw[List.getElem!_eq_getElem?_getD,List.getElem!_eq_getElem?_getD,List.getElem?_map];cases ns[k]? with
 |some x=>rfl
 |none=>
  show (default:Nd)=lf φ default
  unfold lf;rw[show (default:Nd).line=0 from rfl,φ.z];rfl
theorem qW (n:Nd):((lf φ) n).kind=n.kind:=rfl
theorem xm (n:Nd):((lf φ) n).key=n.key:=rfl
theorem A9 (n:Nd):((lf φ) n).text=n.text:=rfl
theorem zv (n:Nd):((lf φ) n).quoted=n.quoted:=rfl
theorem ml (n:Nd):((lf φ) n).kids=n.kids:=rfl
theorem qV (n:Nd):((lf φ) n).line=φ.f n.line:=rfl
theorem CI (ns:List Nd) (kind:Int) (deep:Nat):∀(l:List Int) (last:Int) (had:List ByteArray) (d:List Nat),c8 (ns.map (lf φ)) kind deep l last had d=c8 ns kind deep l last had d
 |[],_,_,_=>rfl
 |k::r,last,had,d=>by
  unfold c8;rw[List.length_map,uj,xm,CI ns kind deep r]
theorem Nw (ns:List Nd) (i:Nat) (n:Nd) (d:List Nat):cW (ns.map (lf φ)) i ((lf φ) n) d=cW ns i n d:=by
 unfold cW dY;rw[qW,ml,A9,zv,CI]
theorem Cg (ns:List Nd):∀(l:List Nd) (i:Nat) (d:List Nat),fA (ns.map (lf φ)) (l.map (lf φ)) i d=fA ns l i d
 |[],_,_=>rfl
 |n::r,i,d=>by
  rw[List.map_cons];unfold fA;rw[Nw];cases cW ns i n d with
  |none=>rfl
  |some d'=>exact Cg ns r (i+1) d'
theorem Mc (ns:List Nd):dj (ns.map (lf φ))=dj ns:=by
 unfold dj;rw[Cg,uj,xm,List.length_map];congr 1;congr 1;simp
theorem KX (ns:List Nd) (m:Nd) (key:ByteArray):bH (ns.map (lf φ)) ((lf φ) m) key=bH ns m key:=by
 unfold bH;simp only[uj,xm,ml]
theorem jN (ns:List Nd) (m:Nd) (key:ByteArray):aY (ns.map (lf φ)) ((lf φ) m) key=(aY ns m key).map (lf φ):=by
 unfold aY;rw[KX];cases bH ns m key with
 |none=>rfl
 |some k=>exact congrArg some (uj ns k)
theorem gy (ns:List Nd) (m:Nd) (key:ByteArray):bt (ns.map (lf φ)) ((lf φ) m) key=sR φ (lf φ) (bt ns m key):=by
 unfold bt;rw[jN];cases aY ns m key<;>rfl
theorem ny (ns:List Nd) (keys:List ByteArray):∀l:List Int,bE (ns.map (lf φ)) keys l=sR φ id (bE ns keys l)
 |[]=>rfl
 |k::r=>by
  unfold bE;rw[uj,xm]
  split
  ·exact ny ns keys r
  ·rfl
theorem eH (n:Nd) (so:ByteArray->Bool):aO ((lf φ) n) so=sR φ id (aO n so):=by
 unfold aO;rw[qW,A9,qV]
 split<;>rfl
theorem wO (ns:List Nd) (n:Nd) (least qC:Nat):cp (ns.map (lf φ)) ((lf φ) n) least qC=sR φ (·.map (lf φ)) (cp ns n least qC):=by
 unfold cp;rw[qW,ml,qV]
 split
 ·rfl
 ·split
  ·rfl
  ·rw[dK,List.map_map];congr 1;refine List.map_congr_left fun k _=> ?_;rw[uj];rfl
theorem Dl:∀(l:List Nd) (out:List ByteArray),dQ (l.map (lf φ)) out=sR φ id (dQ l out)
 |[],out=>rfl
 |k::r,out=>by
  rw[List.map_cons];unfold dQ;rw[eH];cases aO k aD with
  |error e=>rfl
  |ok s=>
   simp only[dK,id_eq]
   split
   ·rfl
   ·exact Dl r _
theorem B6 (ns:List Nd) (m:Nd) (r:Res):dX (ns.map (lf φ)) ((lf φ) m) r=sR φ id (dX ns m r):=by
 unfold dX;rw[jN];cases aY ns m bd with
 |none=>rfl
 |some n=>
  simp only[Option.map_some];rw[wO];cases cp ns n 0 16 with
  |error e=>rfl
  |ok l=>
   simp only[dK];rw[Dl];cases dQ l []<;>rfl
theorem Ay (n:Nd):dg ((lf φ) n)=sR φ id (dg n):=by
 unfold dg;rw[qW,qV]
 split<;>rfl
theorem vE (n:Nd):bD ((lf φ) n)=sR φ id (bD n):=by
 unfold bD;rw[qW,A9,zv,qV]
 split
 ·rfl
 ·split
  ·split<;>rfl
  ·split
   ·split<;>rfl
   ·rfl
theorem vR (ns:List Nd):∀(l:List Int) (b:Nd),eD (ns.map (lf φ)) l ((lf φ) b)=(lf φ) (eD ns l b)
 |[],b=>rfl
 |k::r,b=>by
  unfold eD;simp only[List.foldl_cons];have:=vR ns r;unfold eD at this;rw[uj,xm]
  split
  ·exact this _
  ·exact this _
theorem El (ns:List Nd) (k:Nd):cX (ns.map (lf φ)) ((lf φ) k)=sR φ id (cX ns k):=by
 unfold cX;rw[Ay,ml,ny,jN,jN,gy,qV];cases dg k with
 |error e=>rfl
 |ok u=>
  simp only[dK];cases bE ns [aT,aH,aR] k.kids with
  |error e=>rfl
  |ok u=>
   simp only[dK];cases ha:aY ns k aT with
   |none=>
    cases hb:aY ns k aH with
    |none=>rfl
    |some b=>
     simp only[Option.map_none,Option.map_some];rw[eH];cases aO b aD with
     |error e=>rfl
     |ok s=>
      simp only[dK,id_eq];cases bt ns k aR with
      |error e=>rfl
      |ok n=>
       simp only[dK];rw[vE];cases bD n<;>rfl
   |some a=>
    cases hb:aY ns k aH with
    |none=>
     simp only[Option.map_none,Option.map_some];rw[eH];cases aO a aD with
     |error e=>rfl
     |ok s=>
      simp only[dK,id_eq];cases bt ns k aR with
      |error e=>rfl
      |ok n=>
       simp only[dK];rw[vE];cases bD n<;>rfl
    |some b=>
     simp only[Option.map_some];rw[vR];rfl
theorem tD (ns:List Nd):∀(l:List Nd) (out:List Tgt),ba (ns.map (lf φ)) (l.map (lf φ)) out=sR φ id (ba ns l out)
 |[],out=>rfl
 |k::r,out=>by
  rw[List.map_cons];unfold ba;rw[El];cases cX ns k with
  |error e=>rfl
  |ok t=>exact tD ns r _
theorem Jn (ns:List Nd) (m:Nd) (r:Res):iu (ns.map (lf φ)) ((lf φ) m) r=sR φ id (iu ns m r):=by
 unfold iu;rw[gy];cases bt ns m cD with
 |error e=>rfl
 |ok n=>
  simp only[dK];rw[wO];cases cp ns n 1 8 with
  |error e=>rfl
  |ok l=>
   simp only[dK];rw[tD];cases ba ns l []<;>rfl
theorem MG (ns:List Nd) (act:Bool) (k:Nd):fy (ns.map (lf φ)) act ((lf φ) k)=sR φ id (fy ns act k):=by
 unfold fy;rw[Ay,ml,ny,gy,gy,gy,jN];cases dg k with
 |error e=>rfl
 |ok u=>
 simp only[dK];cases bE ns [bS,a9,if act=true then ca else aH] k.kids with
 |error e=>rfl
 |ok u=>
 simp only[dK];cases act with
 |true=>
  simp only[if_true];cases bt ns k ca with
  |error e=>rfl
  |ok n=>
  simp only[dK];rw[eH];cases aO n il with
  |error e=>rfl
  |ok a=>
  simp only[dK,id_eq];cases bt ns k bS with
  |error e=>rfl
  |ok n=>
  simp only[dK];rw[eH];cases aO n ja with
  |error e=>rfl
  |ok p=>
  simp only[dK,id_eq];cases aY ns k a9 with
  |none=>rfl
  |some n=>
   simp only[Option.map_some];rw[eH];cases aO n gK<;>rfl
 |false=>
  simp only[Bool.false_eq_true,if_false];cases bt ns k bS with
  |error e=>rfl
  |ok n=>
  simp only[dK];rw[eH];cases aO n ja with
  |error e=>rfl
  |ok p=>
  simp only[dK,id_eq];cases aY ns k a9 with
  |none=>
   simp only[Option.map_none];cases bt ns k aH with
   |error e=>rfl
   |ok n=>
   simp only[dK];rw[eH];cases aO n aD<;>rfl
  |some n=>
   simp only[Option.map_some];rw[eH];cases aO n gK with
   |error e=>rfl
   |ok m=>
   simp only[dK,id_eq];cases bt ns k aH with
   |error e=>rfl
   |ok n=>
   simp only[dK];rw[eH];cases aO n aD<;>rfl
theorem yM (ns:List Nd) (act:Bool):∀(l:List Nd) (out:List Rul),cc (ns.map (lf φ)) act (l.map (lf φ)) out=sR φ id (cc ns act l out)
 |[],out=>rfl
 |k::r,out=>by
  rw[List.map_cons];unfold cc;rw[MG];cases fy ns act k with
  |error e=>rfl
  |ok t=>exact yM ns act r _
theorem yL (ns:List Nd) (act:Bool) (m:Nd) (r:Res):gG (ns.map (lf φ)) act ((lf φ) m) r=sR φ id (gG ns act m r):=by
 unfold gG;rw[gy];cases bt ns m bZ with
 |error e=>rfl
 |ok n=>
  simp only[dK];rw[wO];cases cp ns n 1 16 with
  |error e=>rfl
  |ok l=>
   simp only[dK];rw[yM];cases cc ns act l []<;>rfl
theorem Jw (ns:List Nd) (m:Nd) (r:Res):gH (ns.map (lf φ)) ((lf φ) m) r=sR φ id (gH ns m r):=by
 unfold gH;rw[gy];cases bt ns m gL with
 |error e=>rfl
 |ok n=>
  simp only[dK];rw[eH];cases aO n kJ with
  |error e=>rfl
  |ok s=>exact yL ns false m _
theorem EU (ns:List Nd) (m:Nd) (r:Res):eV (ns.map (lf φ)) ((lf φ) m) r=sR φ id (eV ns m r):=by
 unfold eV;rw[gy];cases bt ns m eK with
 |error e=>rfl
 |ok n=>
  simp only[dK];rw[eH];cases aO n aD with
  |error e=>rfl
  |ok s=>exact yL ns true m _
theorem P1 (ns:List Nd) (m:Nd) (r:Res) (k:Nat):nS (ns.map (lf φ)) ((lf φ) m) r k=sR φ id (nS ns m r k):=by
 unfold nS;rw[ml,ny];cases bE ns (kKind::bJ::oM k) m.kids with
 |error e=>rfl
 |ok u=>
  simp only[dK]
  split
  ·exact B6 ns m r
  ·split
   ·exact Jn ns m r
   ·split
    ·exact Jw ns m r
    ·exact EU ns m r
theorem Bd (ns:List Nd):dO (ns.map (lf φ))=sR φ id (dO ns):=by
 unfold dO;rw[Mc,uj,Ay,gy,gy,jN,ml,ny];by_cases ht:dj ns=false
 ·rw[if_pos ht,if_pos ht]
  show _=(Except.error (φ.f 0,100):R Res)
  rw[φ.z]
 rw[if_neg ht,if_neg ht];cases dg (ns[0]!) with
 |error e=>rfl
 |ok u=>
 simp only[dK];cases bt ns (ns[0]!) kKind with
 |error e=>rfl
 |ok k=>
 simp only[dK];have hk:kindN ((lf φ) k)=kindN k:=rfl;rw[hk];by_cases uH:kindN k=0
 ·rw[if_pos uH,if_pos uH];rfl
 rw[if_neg uH,if_neg uH];cases bt ns (ns[0]!) bJ with
 |error e=>rfl
 |ok n=>
 simp only[dK];rw[eH];cases aO n aD with
 |error e=>rfl
 |ok s=>
 simp only[dK,id_eq];cases aY ns (ns[0]!) bu with
 |none=>exact P1 ns _ _ _
 |some x=>
  simp only[Option.map_some];have hx:isTrue ((lf φ) x)=isTrue x:=rfl;rw[hx]
  split
  ·rfl
  ·cases bE ns [kKind,bJ,bu] (ns[0]!).kids<;>rfl
end
theorem La {ns ns2:List Nd} (h:ns.map er=ns2.map er) {r:Res} (hr:dO ns= .ok r):dO ns2= .ok r:=by
 have h1:=Bd (φ:=⟨fun _=>0,rfl⟩) ns;rw[show ns.map (lf ⟨fun _=>0,rfl⟩)=ns2.map (lf ⟨fun _=>0,rfl⟩) from h,Bd ns2,hr]at h1;cases h2:dO ns2 with
 |error e=>rw[h2]at h1;cases h1
 |ok x=>
  rw[h2]at h1;have h3:(Except.ok x:R Res)= .ok r:=h1;rw[h3]
theorem PJ {ns:List Nd} (h:∀n∈ns,0<=n.line) {e:fx} (he:dO ns= .error e):0<=e.1:=by
 have h1:=Bd (φ:=⟨fun x=>((x.natAbs:Nat):Int),rfl⟩) ns;rw[show ns.map (lf ⟨fun x=>((x.natAbs:Nat):Int),rfl⟩)=ns from by
  refine (List.map_congr_left fun n hn=> ?_).trans (List.map_id ns);unfold lf
  show ({n with line:=((n.line.natAbs:Nat):Int)}:Nd)=n
  rw[show ((n.line.natAbs:Nat):Int)=n.line by have:=h n hn;omega],he]at h1
 have h2:e.1=((e.1.natAbs:Nat):Int):=congrArg (fun x:R Res=>match x with| .error e=>e.1| .ok _=>0) h1;omega
def kTrue:ByteArray:=⟨#[116,114,117,101]⟩
def an (key s:ByteArray) (nx:Fo):Fo:= .sc key s (!ey s.data.toList) nx
def bQ:List ByteArray->Fo
 |[]=> .nil
 |e::r=>an ⟨#[]⟩ e (bQ r)
def jt (wt:Nat->ByteArray) (t:Tgt):Fo:=
 if t.service≠⟨#[]⟩ then an aT t.service (an aR (wt t.weight) .nil) else an aH t.split (an aR (wt t.weight) .nil)
def dI (wt:Nat->ByteArray):List Tgt->Fo
 |[]=> .nil
 |t::r=> .br 2 ⟨#[]⟩ (jt wt t) (dI wt r)
def ju (act:Bool) (x:Rul):Fo:=
 if act=true then an ca (if x.allow=true then kAllow else kDeny) (an bS x.path (an a9 x.method .nil))
 else an bS x.path (an a9 x.method (an aH x.split .nil))
def b7 (act:Bool):List Rul->Fo
 |[]=> .nil
 |t::r=> .br 2 ⟨#[]⟩ (ju act t) (b7 act r)
def oT (k:Int):ByteArray:=if k=1 then iN else if k=2 then sq else if k=3 then sr else ow
def gg (wt:Nat->ByteArray) (r:Res):Fo:=
 if r.del=true then an bu kTrue .nil
 else if r.kind=1 then (if r.endps=[] then .nil else .br 3 bd (bQ r.endps) .nil)
 else if r.kind=2 then .br 3 cD (dI wt r.targets) .nil
 else if r.kind=3 then an gL r.host (.br 3 bZ (b7 false r.rules) .nil)
 else an eK r.route (.br 3 bZ (b7 true r.rules) .nil)
def dS (wt:Nat->ByteArray) (r:Res):Fo:=an kKind (oT r.kind) (an bJ r.name (gg wt r))
def dC (wt:Nat->ByteArray) (r:Res):List Nd:=if r.kind<1\/4<r.kind then [] else (dS wt r).doc
namespace Fo
def app:Fo->Fo->Fo
 |nil,G=>G
 |sc key text q nx,G=>sc key text q (nx.app G)
 |br kind key kids nx,G=>br kind key kids (nx.app G)
theorem app_size:∀F G:Fo,(F.app G).size=F.size+G.size
 |nil,G=>by unfold app;rw[size_nil];omega
 |sc key text q nx,G=>by unfold app;rw[size_sc,size_sc,app_size nx];omega
 |br kind key kids nx,G=>by unfold app;rw[size_br,size_br,app_size nx];omega
theorem app_heads:∀(F G:Fo) (i:Nat),(F.app G).heads i=F.heads i++G.heads (i+F.size)
 |nil,G,i=>rfl
 |sc key text q nx,G,i=>by unfold app;rw[heads_sc,heads_sc,app_heads nx,size_sc,Nat.add_assoc];rfl
 |br kind key kids nx,G,i=>by unfold app;rw[heads_br,heads_br,app_heads nx,size_br,show i+(1+kids.size+nx.size)=i+1+kids.size+nx.size by omega];rfl
theorem app_flat:∀(F G:Fo) (i:Nat),(F.app G).flat i=F.flat i++G.flat (i+F.size)
 |nil,G,i=>rfl
 |sc key text q nx,G,i=>by unfold app;rw[flat_sc,flat_sc,app_flat nx,size_sc,Nat.add_assoc];rfl
 |br kind key kids nx,G,i=>by unfold app;rw[flat_br,flat_br,app_flat nx,size_br,show i+(1+kids.size+nx.size)=i+1+kids.size+nx.size by omega];simp
end Fo
def aK (ns:List Nd) (p:Nat) (F:Fo):List Nd:=cV ns p (F.heads ns.length)++F.flat ns.length
theorem bz (ns:List Nd) (p:Nat) (F:Fo):(aK ns p F).length=ns.length+F.size:=by
 unfold aK;rw[aBj,fK,Fo.flat_len]
theorem lO (ns:List Nd) (p:Nat):aK ns p .nil=ns:=by
 unfold aK Fo.heads Fo.flat;rw[tW,List.append_nil]
theorem dn {ns:List Nd} {p:Nat} (hp:p<ns.length) (F G:Fo):aK (aK ns p F) p G=aK ns p (F.app G):=by
 unfold aK;rw[Fo.app_heads,Fo.app_flat,aBj,fK,Fo.flat_len,iO (by rw[fK];exact hp),kW,List.append_assoc]
theorem kq {ns:List Nd} {p:Nat} (hp:p<ns.length) (kind:Int) (key:ByteArray) (K:Fo):aK (aK ns p (.br kind key .nil .nil)) ns.length K=aK ns p (.br kind key K .nil):=by
 unfold aK;simp only[Fo.heads_br,Fo.flat_br,Fo.heads,Fo.flat,List.append_nil,aBj,aBk,List.length_nil,fK];have h:=jx (cV ns p [(ns.length:Int)]) ⟨kind,key,⟨#[]⟩,false,0,[]⟩ (K.heads (ns.length+1));rw[fK]at h;rw[show ns.length+(0+1)=ns.length+1 by omega,h];simp
theorem mo (F:Fo):aK [⟨2,⟨#[]⟩,⟨#[]⟩,false,0,[]⟩] 0 F=F.doc:=by
 unfold aK Fo.doc;have h:=jx [] ⟨2,⟨#[]⟩,⟨#[]⟩,false,0,[]⟩ (F.heads 1);rw[Fo.flat_br]
 show cV ([]++[⟨2,⟨#[]⟩,⟨#[]⟩,false,0,[]⟩]) ([]:List Nd).length (F.heads 1)++F.flat 1=_
 rw[h];simp[Fo.flat]
def ux:Fo->Prop
 | .nil=>True
 | .sc _ _ _ nx=>ux nx
 | .br _ _ kids nx=>kids≠ .nil/\ux kids/\ux nx
def rI:Fo->Prop
 | .nil=>True
 | .sc _ _ _ nx=>rI nx
 | .br kd _ kids nx=>(kd=2\/kd=3)/\rI kids/\rI nx
theorem vu {ns:List Nd} (hg:∀j,j<ns.length->kE ns j (ns[j]!)=true):∀(F:Fo) (i:Nat),Fo.At ns F i->rI F->ux F
 | .nil,_,_,_=>trivial
 | .sc key text q nx,i,h,hk=>vu hg nx (i+1) h.head_sc.2 hk
 | .br kd key kids nx,i,h,hk=>by
  obtain ⟨h1,h2,h3⟩:=h.head_br;refine ⟨fun e=> ?_,vu hg kids (i+1) h2 hk.2.1,vu hg nx _ h3 hk.2.2⟩;have h4:=hg i (aBo h1).1;rw[dL h1]at h4;unfold kE at h4;have gu:1<kd:=by rcases hk.1 with q|q<;>omega
  have hkd3:kd<=3:=by rcases hk.1 with q|q<;>omega
  simp only at h4;rw[if_neg (by omega),if_neg (by omega),if_pos ⟨gu,.inl (by rw[e];rfl)⟩]at h4;cases h4
theorem Sg {key:ByteArray} (h:key.data.toList≠[]/\key.data.toList.length<=64/\key.data.toList.all bB=true):Bu 2 key:=⟨fun _=>h,fun h=>absurd h (by decide)⟩
theorem qG:Bu 3 ⟨#[]⟩:=⟨fun h=>absurd h (by decide),fun _=>rfl⟩
theorem Eu (s:ByteArray):IS s (!ey s.data.toList):=by
 unfold IS;cases ey s.data.toList
 ·exact .inl rfl
 ·exact .inr rfl
theorem cu {kind:Int} {key s:ByteArray} {nx:Fo} (hk:Bu kind key) (hn:nx.Ok kind):(an key s nx).Ok kind:=⟨hk,Eu s,hn⟩
theorem zc:∀l:List ByteArray,(bQ l).Ok 3
 |[]=>trivial
 |e::r=>cu qG (zc r)
theorem kg (key:ByteArray) (h:decide (key.data.toList≠[]/\key.data.toList.length<=64/\key.data.toList.all bB=true)=true):Bu 2 key:=Sg (of_decide_eq_true h)
theorem Vc (wt:Nat->ByteArray) (t:Tgt):(jt wt t).Ok 2/\jt wt t≠ .nil/\(jt wt t).keys.Nodup/\(jt wt t).size=2/\(jt wt t).depth=1:=by
 unfold jt
 split
 ·exact ⟨cu (kg _ (by decide)) (cu (kg _ (by decide)) trivial),by unfold an;simp,by simp only[an,Fo.keys];decide,rfl,rfl⟩
 ·exact ⟨cu (kg _ (by decide)) (cu (kg _ (by decide)) trivial),by unfold an;simp,by simp only[an,Fo.keys];decide,rfl,rfl⟩
theorem Vu (act:Bool) (x:Rul):(ju act x).Ok 2/\ju act x≠ .nil/\(ju act x).keys.Nodup/\(ju act x).size=3/\(ju act x).depth=1:=by
 unfold ju
 split
 ·exact ⟨cu (kg _ (by decide)) (cu (kg _ (by decide)) (cu (kg _ (by decide)) trivial)),by unfold an;simp,by simp only[an,Fo.keys];decide,rfl,rfl⟩
 ·exact ⟨cu (kg _ (by decide)) (cu (kg _ (by decide)) (cu (kg _ (by decide)) trivial)),by unfold an;simp,by simp only[an,Fo.keys];decide,rfl,rfl⟩
theorem zX (wt:Nat->ByteArray):∀l:List Tgt,(dI wt l).Ok 3/\(dI wt l).size=3*l.length/\(dI wt l).depth<=2
 |[]=>⟨trivial,rfl,Nat.zero_le _⟩
 |t::r=>by
  obtain ⟨h1,h2,h3⟩:=zX wt r;obtain ⟨a1,a2,a3,a4,a5⟩:=Vc wt t;refine ⟨⟨qG,.inl rfl,a2,a1,fun _=>a3,h1⟩,?_,?_⟩
  ·unfold dI;rw[Fo.size_br,a4,h2,aBk];omega
  ·unfold dI;rw[Fo.depth_br,a5];omega
theorem uU (act:Bool):∀l:List Rul,(b7 act l).Ok 3/\(b7 act l).size=4*l.length/\(b7 act l).depth<=2
 |[]=>⟨trivial,rfl,Nat.zero_le _⟩
 |t::r=>by
  obtain ⟨h1,h2,h3⟩:=uU act r;obtain ⟨a1,a2,a3,a4,a5⟩:=Vu act t;refine ⟨⟨qG,.inl rfl,a2,a1,fun _=>a3,h1⟩,?_,?_⟩
  ·unfold b7;rw[Fo.size_br,a4,h2,aBk];omega
  ·unfold b7;rw[Fo.depth_br,a5];omega
theorem nC:∀l:List ByteArray,(bQ l).size=l.length/\(bQ l).depth<=1
 |[]=>⟨rfl,Nat.zero_le _⟩
 |e::r=>by
  obtain ⟨h1,h2⟩:=nC r;refine ⟨?_,?_⟩
  ·unfold bQ an;rw[Fo.size_sc,h1,aBk];omega
  ·unfold bQ an;rw[Fo.depth_sc];omega
theorem Ft {l:List ByteArray} (h:l≠[]):bQ l≠ .nil:=by cases l with|nil=>exact absurd rfl h|cons e r=>unfold bQ an;simp
theorem Mf {wt:Nat->ByteArray} {l:List Tgt} (h:l≠[]):dI wt l≠ .nil:=by cases l with|nil=>exact absurd rfl h|cons e r=>unfold dI;simp
theorem Ce {act:Bool} {l:List Rul} (h:l≠[]):b7 act l≠ .nil:=by cases l with|nil=>exact absurd rfl h|cons e r=>unfold b7;simp
structure ResN0 (r:Res):Prop where
 t:r.del=false->r.kind=2->r.targets≠[]
 u:r.del=false->2<r.kind->r.rules≠[]
theorem Ch (wt:Nat->ByteArray) {r:Res} (hk:1<=r.kind) (h:ResN0 r):(dS wt r).Ok 2/\(dS wt r).keys.Nodup/\(dS wt r).depth<=4/\dS wt r≠ .nil:=by
 have k1:=kg kKind (by decide);have k2:=kg bJ (by decide);unfold dS gg;by_cases hd:r.del=true
 ·rw[if_pos hd];exact ⟨cu k1 (cu k2 (cu (kg _ (by decide)) trivial)),by simp only[an,Fo.keys];decide,by show (1:Nat)<=4;decide,by unfold an;simp⟩
 ·have uh:r.del=false:=by simpa using hd
  rw[if_neg hd];by_cases h1:r.kind=1
  ·rw[if_pos h1];by_cases he:r.endps=[]
   ·rw[if_pos he];exact ⟨cu k1 (cu k2 trivial),by simp only[an,Fo.keys];decide,by show (1:Nat)<=4;decide,by unfold an;simp⟩
   ·rw[if_neg he];have:=nC r.endps;refine ⟨cu k1 (cu k2 ⟨kg _ (by decide),.inr rfl,Ft he,zc _,fun h=>absurd h (by decide),trivial⟩),by simp only[an,Fo.keys];decide,?_,by unfold an;simp⟩;simp only[an,Fo.depth_sc,Fo.depth_br,Fo.depth];omega
  ·rw[if_neg h1];by_cases h2:r.kind=2
   ·rw[if_pos h2];obtain ⟨a1,a2,a3⟩:=zX wt r.targets;refine ⟨cu k1 (cu k2 ⟨kg _ (by decide),.inr rfl,Mf (h.t uh h2),a1,fun h=>absurd h (by decide),trivial⟩),by simp only[an,Fo.keys];decide,?_,by unfold an;simp⟩;simp only[an,Fo.depth_sc,Fo.depth_br,Fo.depth];omega
   ·rw[if_neg h2];have hu:=h.u uh (by omega);by_cases h3:r.kind=3
    ·rw[if_pos h3];obtain ⟨a1,a2,a3⟩:=uU false r.rules;refine ⟨cu k1 (cu k2 (cu (kg _ (by decide)) ⟨kg _ (by decide),.inr rfl,Ce hu,a1,fun h=>absurd h (by decide),trivial⟩)),by simp only[an,Fo.keys];decide,?_,by unfold an;simp⟩;simp only[an,Fo.depth_sc,Fo.depth_br,Fo.depth];omega
    ·rw[if_neg h3];obtain ⟨a1,a2,a3⟩:=uU true r.rules;refine ⟨cu k1 (cu k2 (cu (kg _ (by decide)) ⟨kg _ (by decide),.inr rfl,Ce hu,a1,fun h=>absurd h (by decide),trivial⟩)),by simp only[an,Fo.keys];decide,?_,by unfold an;simp⟩;simp only[an,Fo.depth_sc,Fo.depth_br,Fo.depth];omega
theorem tU:∀l,rI (bQ l)
 |[]=>trivial
 |e::r=>tU r
theorem ze (wt:Nat->ByteArray):∀l,rI (dI wt l)
 |[]=>trivial
 |e::r=>⟨.inl rfl,by unfold jt;split<;>trivial,ze wt r⟩
theorem sC (act:Bool):∀l,rI (b7 act l)
 |[]=>trivial
 |e::r=>⟨.inl rfl,by unfold ju;split<;>trivial,sC act r⟩
theorem N2 (wt:Nat->ByteArray) (r:Res):rI (dS wt r):=by
 unfold dS gg
 show rI (if r.del=true then _ else _)
 split
 ·trivial
 ·split
  ·split
   ·trivial
   ·exact ⟨.inr rfl,tU _,trivial⟩
  ·split
   ·exact ⟨.inr rfl,ze wt _,trivial⟩
   ·split
    ·exact ⟨.inr rfl,sC false _,trivial⟩
    ·exact ⟨.inr rfl,sC true _,trivial⟩
theorem Ci (wt:Nat->ByteArray) {r:Res} (h:dj (dC wt r)=true):1<=r.kind/\r.kind<=4/\ResN0 r/\dC wt r=(dS wt r).doc/\(dS wt r).size<=4095:=by
 obtain ⟨⟨h1,h2,-⟩,hg⟩:=(jI _).1 h;have hk:¬(r.kind<1\/4<r.kind):=fun q=>by unfold dC at h1;rw[if_pos q]at h1;exact h1 rfl
 have hw:dC wt r=(dS wt r).doc:=by unfold dC;rw[if_neg hk]
 rw[hw]at h2 hg;rw[Fo.doc_len]at h2;have hf:=vu hg.node (dS wt r) 1 (dS wt r).doc_at.head_br.2.1 (N2 wt r);refine ⟨by omega,by omega,⟨fun hd h2 e=> ?_,fun hd h2 e=> ?_⟩,hw,by omega⟩
 ·unfold dS gg at hf;have mG:ux (if r.del=true then an bu kTrue .nil else _):=hf;rw[if_neg (by rw[hd];decide),if_neg (by omega),if_pos h2]at mG;exact mG.1 (by rw[e];rfl)
 ·unfold dS gg at hf;have mG:ux (if r.del=true then an bu kTrue .nil else _):=hf;rw[if_neg (by rw[hd];decide),if_neg (by omega),if_neg (by omega)]at mG
  split at mG
  ·have OS:ux (.br 3 bZ (b7 false r.rules) .nil):=mG;exact OS.1 (by rw[e];rfl)
  ·have OS:ux (.br 3 bZ (b7 true r.rules) .nil):=mG;exact OS.1 (by rw[e];rfl)
theorem MR (wt:Nat->ByteArray) {r:Res} (h:dj (dC wt r)=true):DocG (dS wt r):=by
 obtain ⟨h1,h2,h3,h4,h5⟩:=Ci wt h;obtain ⟨a1,a2,a3,a4⟩:=Ch wt h1 h3;exact ⟨a4,a1,a2,by omega,h5⟩
theorem iP:∀(F:Fo) (i:Nat) (x:Int),x∈F.heads i->∃k:Nat,x=(k:Int)/\i<=k/\k<i+F.size
 | .nil,_,_,h=>nomatch h
 | .sc key text q nx,i,x,h=>by
  rw[Fo.heads_sc]at h;rw[Fo.size_sc];rcases List.mem_cons.1 h with rfl|h
  ·exact ⟨i,rfl,by omega,by omega⟩
  ·obtain ⟨k,e,a,b⟩:=iP nx (i+1) x h;exact ⟨k,e,by omega,by omega⟩
 | .br kd key kids nx,i,x,h=>by
  rw[Fo.heads_br]at h;rw[Fo.size_br];rcases List.mem_cons.1 h with rfl|h
  ·exact ⟨i,rfl,by omega,by omega⟩
  ·obtain ⟨k,e,a,b⟩:=iP nx _ x h;exact ⟨k,e,by omega,by omega⟩
theorem CJ {kind:Int} {key:ByteArray} {had:List ByteArray} (hk:Bu kind key) (hh:kind=2->¬key∈had):kH kind key had=true:=by
 unfold kH;rw[dF (fun q=>q.2 (hk.2 q.1)),dF (fun q=>hh q.1 q.2)];rfl
theorem Fo.At.lt {ns:List Nd} {F:Fo} {i:Nat} (h:Fo.At ns F i):i+F.size<=ns.length:=by
 obtain ⟨a,b,rfl,rfl⟩:=h;simp[Fo.flat_len]
theorem wW {ns:List Nd} {kind:Int}:∀(F:Fo) (i:Nat) (last:Int) (had:List ByteArray),Fo.At ns F i->F.Ok kind->last<(i:Int)->(kind=2->F.keys.Nodup/\∀x∈F.keys,¬x∈had)->eS ns kind (F.heads i) last had=true
 | .nil,_,_,_,_,_,_,_=>rfl
 | .sc key text q nx,i,last,had,h,hok,hl,hn=>by
  obtain ⟨h1,h2⟩:=h.head_sc;have aN:=(aBo h1).1;rw[Fo.heads_sc];unfold eS;rw[if_neg (by omega),Int.toNat_natCast,dL h1,CJ hok.1 (fun e=>(hn e).2 _ (List.mem_cons_self ..)),if_neg (by decide)];refine wW nx (i+1) _ _ h2 hok.2.2 (by omega) fun e=> ?_;obtain ⟨n1,n2⟩:=hn e;obtain ⟨n3,n4⟩:=List.nodup_cons.1 (show (key::nx.keys).Nodup from n1);refine ⟨n4,fun x hx=>fun hm=> ?_⟩
  rcases List.mem_cons.1 hm with rfl|hm
  ·exact n3 hx
  ·exact n2 x (List.mem_cons_of_mem _ hx) hm
 | .br kd key kids nx,i,last,had,h,hok,hl,hn=>by
  obtain ⟨h1,-,h2⟩:=h.head_br;have aN:=(aBo h1).1;rw[Fo.heads_br];unfold eS;rw[if_neg (by omega),Int.toNat_natCast,dL h1,CJ hok.1 (fun e=>(hn e).2 _ (List.mem_cons_self ..)),if_neg (by decide)];refine wW nx _ _ _ h2 hok.2.2.2.2.2 (by omega) fun e=> ?_;obtain ⟨n1,n2⟩:=hn e;obtain ⟨n3,n4⟩:=List.nodup_cons.1 (show (key::nx.keys).Nodup from n1);refine ⟨n4,fun x hx=>fun hm=> ?_⟩
  rcases List.mem_cons.1 hm with rfl|hm
  ·exact n3 hx
  ·exact n2 x (List.mem_cons_of_mem _ hx) hm
def XW (F:Fo) (i v:Nat) (d:List Nat):Prop:=(∀x∈F.heads i,d[x.toNat]! =v)/\∀j:Nat,i<=j->j<i+F.size->¬(j:Int)∈F.heads i->d[j]! =0
theorem uV {ns:List Nd}:∀(F:Fo) (i v:Nat) (d:List Nat) (kind:Int),Fo.At ns F i->F.Ok kind->XW F i v d->1<=v->(F≠ .nil->F.depth+v<=17)->d.length=ns.length->
 ∃d',(∀rest,fA ns (F.flat i++rest) i d=fA ns rest (i+F.size) d')/\d'.length=ns.length/\∀j,j<i\/i+F.size<=j->d'[j]! =d[j]!
 | .nil,i,v,d,kind,_,_,_,_,_,hl=>⟨d,fun rest=>rfl,hl,fun _ _=>rfl⟩
 | .sc key text q nx,i,v,d,kind,h,hok,hd,hv,ye,hl=>by
  obtain ⟨h1,h2⟩:=h.head_sc;have ye:=ye (by simp);rw[Fo.depth_sc]at ye;rw[Fo.size_sc];have Ip:d[i]! =v:=hd.1 (i:Int) (List.mem_cons_self ..);have hn:cW ns i ⟨1,key,text,q,0,[]⟩ d=some d:=by
   unfold cW;rw[if_neg (by omega),if_pos rfl,if_pos];unfold dY;rcases hok.2.1 with e|e
   ·simp[e]
   ·simp[e]
  obtain ⟨d',g1,g2,g3⟩:=uV nx (i+1) v d kind h2 hok.2.2 ⟨fun x hx=>hd.1 x (List.mem_cons_of_mem _ hx),fun j a b c=>hd.2 j (by omega) (by rw[Fo.size_sc];omega) (fun hm=>by rcases List.mem_cons.1 hm with e|e;omega;exact c e)⟩ hv (fun _=>by omega) hl;refine ⟨d',fun rest=> ?_,g2,fun j hj=>g3 j (by omega)⟩;rw[Fo.flat_sc,List.cons_append]
  conv=>lhs;unfold fA
  rw[hn];simp only;rw[g1,Nat.add_assoc]
 | .br kd key kids nx,i,v,d,kind,h,hok,hd,hv,ye,hl=>by
  obtain ⟨h1,h2,h3⟩:=h.head_br;obtain ⟨o1,o2,o3,o4,o5,o6⟩:=hok;have ye:=ye (by simp);rw[Fo.depth_br]at ye;rw[Fo.size_br];have Ip:d[i]! =v:=hd.1 (i:Int) (List.mem_cons_self ..);have hlen:=h2.lt;have hlen3:=h3.lt;have hkz:∀j:Nat,i+1<=j->j<i+1+kids.size->d[j]! =0:=fun j a b=>hd.2 j (by omega) (by rw[Fo.size_br];omega) (fun hm=>by
   rcases List.mem_cons.1 hm with e|e
   ·omega
   ·obtain ⟨k,e1,e2,e3⟩:=iP nx _ _ e;omega)
  have hR:eS ns kd (kids.heads (i+1)) (i:Int) []=true:=wW kids (i+1) _ _ h2 o4 (by omega) fun e=>⟨o5 e,fun _ _ h=>nomatch h⟩;have hn:cW ns i ⟨kd,key,⟨#[]⟩,false,0,kids.heads (i+1)⟩ d=some (l5 (v+1) (kids.heads (i+1)) d):=by
   unfold cW;have hne:kids.heads (i+1)≠[]:=by cases kids with|nil=>exact absurd rfl o3|sc=>simp[Fo.heads]|br=>simp[Fo.heads]
   dsimp only;rw[if_neg (by have:=Fo.depth_pos o3;omega),if_neg (show ¬kd=1 by omega),if_neg (by
    rintro (q|q|q|q)
    ·omega
    ·exact hne q
    ·exact q rfl
    ·cases q)]
   rw[Ip];refine (wX _ _ _ _ (by omega)).1 ⟨hR,fun x hx=> ?_⟩;obtain ⟨k,rfl,a,b⟩:=iP kids _ _ hx;exact hkz k a b
  obtain ⟨d1,e1⟩:=ex (l5 (v+1) (kids.heads (i+1)) d);rw[<-e1]at hn;have l1:d1.length=ns.length:=by rw[e1,pn,hl]
  have nH:∀j,j<i+1\/i+1+kids.size<=j->d1[j]! =d[j]! :=fun j hj=>by
   rw[e1];exact jY _ _ _ _ fun x hx e=>by
    obtain ⟨k,rfl,a,b⟩:=iP kids _ _ hx;omega
  have hS:XW kids (i+1) (v+1) d1:=⟨fun x hx=>by
   obtain ⟨k,rfl,a,b⟩:=iP kids _ _ hx;rw[e1];exact rX _ _ _ _ (by rw[hl];omega) ⟨_,hx,rfl⟩,fun j a b c=>by
   rw[e1,jY _ _ _ _ (fun x hx e=>by
    obtain ⟨k,rfl,_,_⟩:=iP kids _ _ hx;rw[Int.toNat_natCast]at e;exact c (e ▸ hx))]
   exact hkz j a b⟩
  obtain ⟨d2,g1,g2,g3⟩:=uV kids (i+1) (v+1) d1 kd h2 o4 hS (by omega) (fun _=>by omega) l1;have LG:XW nx (i+1+kids.size) v d2:=⟨fun x hx=>by
   obtain ⟨k,rfl,a,b⟩:=iP nx _ _ hx;rw[Int.toNat_natCast,g3 k (by omega),nH k (by omega)];exact hd.1 (k:Int) (List.mem_cons_of_mem _ hx),fun j a b c=>by
   rw[g3 j (by omega),nH j (by omega)];exact hd.2 j (by omega) (by rw[Fo.size_br];omega) (fun hm=>by rcases List.mem_cons.1 hm with e|e;omega;exact c e)⟩
  obtain ⟨d3,k1,k2,k3⟩:=uV nx (i+1+kids.size) v d2 kind h3 o6 LG hv (fun _=>by omega) g2;refine ⟨d3,fun rest=> ?_,k2,fun j hj=> ?_⟩
  ·rw[Fo.flat_br,List.cons_append,List.append_assoc]
   conv=>lhs;unfold fA
   rw[hn];simp only;rw[g1,k1,show i+1+kids.size+nx.size=i+(1+kids.size+nx.size) by omega]
  ·rw[k3 j (by omega),g3 j (by omega),nH j (by omega)]
theorem BT {F:Fo} (h:DocG F):dj F.doc=true:=by
 have hl:=F.doc_len;have hs:=h.size;have hd:=h.depth;have ha:=F.doc_at;have h0:=dL ha.head_br.1;have hok:(Fo.br 2 ⟨#[]⟩ F .nil).Ok 3:=⟨qG,.inl rfl,h.ne,h.ok,fun _=>h.nodup,trivial⟩;have hp:1<=F.doc.length:=by omega
 obtain ⟨d',g1,g2,g3⟩:=uV (ns:=F.doc) (Fo.br 2 ⟨#[]⟩ F .nil) 0 1 (1::List.replicate (F.doc.length-1) 0) 3 ha hok ⟨fun x hx=>by
  have:x=0:=by simpa[Fo.heads] using hx
  rw[this];rfl,fun j a b c=>by
  have hj:j≠0:=fun e=>c (by rw[e];simp[Fo.heads]);obtain ⟨m,rfl⟩:∃m,j=m+1:=⟨j-1,by omega⟩;rw[List.getElem!_eq_getElem?_getD,List.getElem?_cons_succ,List.getElem?_replicate]
  split<;>rfl⟩ (by omega) (fun _=>by rw[Fo.depth_br];simp only[Fo.depth];omega) (by simp;omega)
 unfold dj;have e:=g1 [];rw[List.append_nil,show Fo.flat (Fo.br 2 ⟨#[]⟩ F .nil) 0=F.doc from rfl]at e;rw[e,h0,dT ⟨(fun q=>by rw[q]at hp;exact absurd hp (by decide)),by omega,rfl⟩];rfl
