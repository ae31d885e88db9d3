/-
Parts of a proof.
-/
import Derived.Test.YtfenoaeoedobmaaGreatDoorOn09
set_option linter.unusedVariables false
set_option linter.unusedSimpArgs false
namespace Go.Proofs.YtfenoaeoedobmaaGreatDoor
open Go Go.RowKit
def jh (ns:List Nd) (l:List Int) (key:ByteArray):Option Nd:=((l.find? fun k=>decide ((ns[k.toNat]!).key=key)).map Int.toNat).map fun k=>ns[k]!
def jq (key s:ByteArray):Nd:=⟨1,key,s,!ey s.data.toList,0,[]⟩
theorem aC {ns:List Nd} {k s:ByteArray} {nx:Fo} {i:Nat} (h:Fo.At ns (an k s nx) i) (key:ByteArray):jh ns ((an k s nx).heads i) key=if k=key then some (jq k s) else jh ns (nx.heads (i+1)) key:=by
 have h1:=dL h.head_sc.1;unfold jh an;rw[Fo.heads_sc,List.find?_cons,Int.toNat_natCast,h1];by_cases e:k=key
 ·rw[if_pos e,dT e];simp only[Option.map_some,Int.toNat_natCast];rw[h1];rfl
 ·rw[if_neg e,dF e]
theorem gM {ns:List Nd} {kd:Int} {k:ByteArray} {kids nx:Fo} {i:Nat} (h:Fo.At ns (.br kd k kids nx) i) (key:ByteArray):jh ns ((Fo.br kd k kids nx).heads i) key=if k=key then some ⟨kd,k,⟨#[]⟩,false,0,kids.heads (i+1)⟩ else jh ns (nx.heads (i+1+kids.size)) key:=by
 have h1:=dL h.head_br.1;unfold jh;rw[Fo.heads_br,List.find?_cons,Int.toNat_natCast,h1];by_cases e:k=key
 ·rw[if_pos e,dT e];simp only[Option.map_some,Int.toNat_natCast];rw[h1]
 ·rw[if_neg e,dF e]
theorem fN (ns:List Nd) (i:Nat) (key:ByteArray):jh ns (Fo.nil.heads i) key=none:=rfl
theorem iy {ns:List Nd} {m:Nd} {key:ByteArray} {n:Nd} (h:jh ns m.kids key=some n):bt ns m key= .ok n:=by
 unfold bt;rw[show aY ns m key=some n from h]
theorem iG {ns:List Nd} {keys:List ByteArray}:∀(F:Fo) (i:Nat),Fo.At ns F i->(∀x∈F.keys,x∈keys)->bE ns keys (F.heads i)= .ok ()
 | .nil,_,_,_=>rfl
 | .sc key text q nx,i,h,hk=>by
  rw[Fo.heads_sc];unfold bE;rw[Int.toNat_natCast,dL h.head_sc.1,if_pos (hk _ (List.mem_cons_self ..))];exact iG nx _ h.head_sc.2 fun x hx=>hk x (List.mem_cons_of_mem _ hx)
 | .br kd key kids nx,i,h,hk=>by
  rw[Fo.heads_br];unfold bE;rw[Int.toNat_natCast,dL h.head_br.1,if_pos (hk _ (List.mem_cons_self ..))];exact iG nx _ h.head_br.2.2 fun x hx=>hk x (List.mem_cons_of_mem _ hx)
theorem dV {key s:ByteArray} {so:ByteArray->Bool} (h:so s=true):aO (jq key s) so= .ok s:=by
 unfold aO jq;rw[if_neg (by rintro (q|q);exact q rfl;rw[h]at q;cases q)]
theorem u6 {ns:List Nd} {key:ByteArray} {l:List Int} {a b:Nat} (h1:a<=l.length) (h2:l.length<=b):cp ns ⟨3,key,⟨#[]⟩,false,0,l⟩ a b= .ok (l.map fun k=>ns[k.toNat]!):=by
 unfold cp;rw[if_neg (fun q=>q rfl),if_neg (show ¬(l.length<a\/b<l.length) by omega)]
theorem tR {ns:List Nd}:∀(l:List ByteArray) (i:Nat),Fo.At ns (bQ l) i->(((bQ l).heads i).map fun k=>ns[k.toNat]!)=l.map (jq ⟨#[]⟩)
 |[],_,_=>rfl
 |e::r,i,h=>by
  obtain ⟨h1,h2⟩:=Fo.At.head_sc (show Fo.At ns (.sc ⟨#[]⟩ e (!ey e.data.toList) (bQ r)) i from h)
  show (ns[((i:Int)).toNat]! ::((bQ r).heads (i+1)).map fun k=>ns[k.toNat]!)=_
  rw[Int.toNat_natCast,dL h1,tR r (i+1) h2];rfl
theorem uk:∀(l out:List ByteArray),(∀e∈l,aD e=true)->(out++l).Nodup->dQ (l.map (jq ⟨#[]⟩)) out= .ok (out++l)
 |[],out,_,_=>by rw[List.append_nil];rfl
 |e::r,out,h,hn=>by
  rw[List.map_cons];unfold dQ;rw[dV (h e (List.mem_cons_self ..))];have hm:¬e∈out:=fun q=>(List.nodup_append.1 hn).2.2 e q e (List.mem_cons_self ..) rfl;simp only;rw[if_neg hm,uk r (out++[e]) (fun x hx=>h x (List.mem_cons_of_mem _ hx)) (by rw[List.append_assoc];exact hn),List.append_assoc];rfl
def rC (wt:Nat->ByteArray) (t:Tgt):Prop:=
 ((aD t.service=true/\t.split=⟨#[]⟩)\/(t.service=⟨#[]⟩/\aD t.split=true))/\bD (jq aR (wt t.weight))= .ok t.weight
theorem ND:aD ⟨#[]⟩=false:=by decide
theorem Jh {ns:List Nd} {wt:Nat->ByteArray} {t:Tgt} (ht:rC wt t) {i:Nat} (h:Fo.At ns (jt wt t) i):cX ns ⟨2,⟨#[]⟩,⟨#[]⟩,false,0,(jt wt t).heads i⟩= .ok t:=by
 obtain ⟨sv,sp,x⟩:=t;obtain ⟨h1,h2⟩:=ht;dsimp only at h1 h2;have ho:=iG (keys:=[aT,aH,aR]) _ _ h (by
  unfold jt
  split<;>(intro x hx;simp only[an,Fo.keys]at hx;revert hx;simp;rintro (q|q)<;>simp[q]))
 unfold cX;rw[ho];rcases h1 with ⟨h1,rfl⟩|⟨rfl,h1⟩
 ·have hne:sv≠⟨#[]⟩:=fun e=>by rw[e,ND]at h1;cases h1
  unfold jt at h |-;dsimp only at h |-;rw[if_pos hne]at h |-;have hb:=h.head_sc.2;have g1:=aC h aT;rw[if_pos rfl]at g1;have g2:=aC h aH;rw[if_neg (by decide),aC hb,if_neg (by decide),fN]at g2;have g3:=aC h aR;rw[if_neg (by decide),aC hb,if_pos rfl]at g3;have f1:aY ns ⟨2,⟨#[]⟩,⟨#[]⟩,false,0,(an aT sv (an aR (wt x) .nil)).heads i⟩ aT=_:=g1
  have f2:aY ns ⟨2,⟨#[]⟩,⟨#[]⟩,false,0,(an aT sv (an aR (wt x) .nil)).heads i⟩ aH=_:=g2;rw[f1,f2,iy (m:=⟨2,⟨#[]⟩,⟨#[]⟩,false,0,(an aT sv (an aR (wt x) .nil)).heads i⟩) g3];simp only[dg,dV h1,h2];rfl
 ·unfold jt at h |-;dsimp only at h |-;rw[if_neg (by simp)]at h |-;have hb:=h.head_sc.2;have g1:=aC h aH;rw[if_pos rfl]at g1;have g2:=aC h aT;rw[if_neg (by decide),aC hb,if_neg (by decide),fN]at g2;have g3:=aC h aR;rw[if_neg (by decide),aC hb,if_pos rfl]at g3;have f1:aY ns ⟨2,⟨#[]⟩,⟨#[]⟩,false,0,(an aH sp (an aR (wt x) .nil)).heads i⟩ aH=_:=g1
  have f2:aY ns ⟨2,⟨#[]⟩,⟨#[]⟩,false,0,(an aH sp (an aR (wt x) .nil)).heads i⟩ aT=_:=g2;rw[f1,f2,iy (m:=⟨2,⟨#[]⟩,⟨#[]⟩,false,0,(an aH sp (an aR (wt x) .nil)).heads i⟩) g3];simp only[dg,dV h1,h2];rfl
theorem vK {ns:List Nd} {wt:Nat->ByteArray}:∀(l:List Tgt) (i:Nat) (out:List Tgt),Fo.At ns (dI wt l) i->(∀t∈l,rC wt t)->ba ns (((dI wt l).heads i).map fun k=>ns[k.toNat]!) out= .ok (out++l)
 |[],_,out,_,_=>by rw[List.append_nil];rfl
 |t::r,i,out,h,ho=>by
  obtain ⟨h1,h2,h3⟩:=Fo.At.head_br (show Fo.At ns (.br 2 ⟨#[]⟩ (jt wt t) (dI wt r)) i from h)
  show ba ns (ns[((i:Int)).toNat]! ::(((dI wt r).heads (i+1+(jt wt t).size)).map fun k=>ns[k.toNat]!)) out=_
  unfold ba;rw[Int.toNat_natCast,dL h1,Jh (ho t (List.mem_cons_self ..)) h2];simp only;rw[vK r _ (out++[t]) h3 fun x hx=>ho x (List.mem_cons_of_mem _ hx),List.append_assoc];rfl
def rE (act:Bool) (x:Rul):Prop:=
 ja x.path=true/\gK x.method=true/\(act=true->x.split=⟨#[]⟩)/\(act=false->aD x.split=true/\x.allow=false)
theorem Rr {ns:List Nd} {act:Bool} {x:Rul} (ht:rE act x) {i:Nat} (h:Fo.At ns (ju act x) i):fy ns act ⟨2,⟨#[]⟩,⟨#[]⟩,false,0,(ju act x).heads i⟩= .ok x:=by
 obtain ⟨p,me,sp,al⟩:=x;obtain ⟨h1,h2,h3,h4⟩:=ht;dsimp only at h1 h2 h3 h4;have ho:=iG (keys:=[bS,a9,if act=true then ca else aH]) _ _ h (by
  cases act<;>(intro x hx;simp only[ju,an,Fo.keys]at hx;revert hx;simp[an,Fo.keys];try (rintro (q|q|q)<;>simp[q])))
 unfold fy;rw[ho];cases act with
 |true=>
  obtain rfl:=h3 rfl;unfold ju at h |-;dsimp only at h |-;rw[if_pos rfl]at h |-;obtain ⟨a,ha⟩:=ex ((if al=true then kAllow else kDeny));rw[<-ha]at h |-;have hb:=h.head_sc.2;have hc:=hb.head_sc.2;obtain ⟨M,hM⟩:∃M:Nd,M=⟨2,⟨#[]⟩,⟨#[]⟩,false,0,(an ca a (an bS p (an a9 me .nil))).heads i⟩:=⟨_,rfl⟩;have g1:=aC h ca;rw[if_pos rfl]at g1;have g2:=aC h bS;rw[if_neg (by decide),aC hb,if_pos rfl]at g2
  have g3:=aC h a9;rw[if_neg (by decide),aC hb,if_neg (by decide),aC hc,if_pos rfl]at g3;have e:M.kids=(an ca a (an bS p (an a9 me .nil))).heads i:=by rw[hM]
  rw[<-e]at g1 g2 g3;have hk:M.kind=2:=by rw[hM]
  have w1:il a=true:=by rw[ha];cases al<;>decide
  have w2:decide (a=kAllow)=al:=by rw[ha];cases al<;>decide
  have f3:aY ns M a9=_:=g3;have hm:dg M= .ok ():=by unfold dg;rw[if_neg (fun q=>q hk)]
  rw[<-hM,iy g1,iy g2,f3,hm];simp[dV w1,dV h1,dV h2,w2]
 |false=>
  obtain ⟨n1,rfl⟩:=h4 rfl;unfold ju at h |-;dsimp only at h |-;rw[if_neg (by decide)]at h |-;have hb:=h.head_sc.2;have hc:=hb.head_sc.2;obtain ⟨M,hM⟩:∃M:Nd,M=⟨2,⟨#[]⟩,⟨#[]⟩,false,0,(an bS p (an a9 me (an aH sp .nil))).heads i⟩:=⟨_,rfl⟩;have g2:=aC h bS;rw[if_pos rfl]at g2;have g3:=aC h a9;rw[if_neg (by decide),aC hb,if_pos rfl]at g3;have g4:=aC h aH
  rw[if_neg (by decide),aC hb,if_neg (by decide),aC hc,if_pos rfl]at g4;have e:M.kids=(an bS p (an a9 me (an aH sp .nil))).heads i:=by rw[hM]
  rw[<-e]at g2 g3 g4;have hk:M.kind=2:=by rw[hM]
  have w2:decide ((⟨#[]⟩:ByteArray)=kAllow)=false:=by decide
  have f3:aY ns M a9=_:=g3;have hm:dg M= .ok ():=by unfold dg;rw[if_neg (fun q=>q hk)]
  rw[<-hM,iy g2,iy g4,f3,hm];simp[dV h1,dV h2,dV n1,w2]
theorem vU {ns:List Nd} {act:Bool}:∀(l:List Rul) (i:Nat) (out:List Rul),Fo.At ns (b7 act l) i->(∀t∈l,rE act t)->cc ns act (((b7 act l).heads i).map fun k=>ns[k.toNat]!) out= .ok (out++l)
 |[],_,out,_,_=>by rw[List.append_nil];rfl
 |t::r,i,out,h,ho=>by
  obtain ⟨h1,h2,h3⟩:=Fo.At.head_br (show Fo.At ns (.br 2 ⟨#[]⟩ (ju act t) (b7 act r)) i from h)
  show cc ns act (ns[((i:Int)).toNat]! ::(((b7 act r).heads (i+1+(ju act t).size)).map fun k=>ns[k.toNat]!)) out=_
  unfold cc;rw[Int.toNat_natCast,dL h1,Rr (ho t (List.mem_cons_self ..)) h2];simp only;rw[vU r _ (out++[t]) h3 fun x hx=>ho x (List.mem_cons_of_mem _ hx),List.append_assoc];rfl
inductive SaidR (wt:Nat->ByteArray):Res->Prop where
 |del (k:Nat) (s:ByteArray) (h1:1<=k) (h2:k<=4) (hs:aD s=true):SaidR wt {Res.zero with kind:=(k:Int),name:=s,del:=true}
 |serv (s:ByteArray) (l:List ByteArray) (hs:aD s=true) (h:∀e∈l,aD e=true) (hn:l.Nodup) (hl:l.length<=16):SaidR wt {Res.zero with kind:=1,name:=s,endps:=l}
 |split (s:ByteArray) (l:List Tgt) (hs:aD s=true) (h:∀t∈l,rC wt t) (h1:1<=l.length) (hl:l.length<=8):SaidR wt {Res.zero with kind:=2,name:=s,targets:=l}
 |route (s:ByteArray) (l:List Rul) (h:ByteArray) (hs:aD s=true) (hh:kJ h=true) (hf:(⟨(h.data.toList.map cq).toArray⟩:ByteArray)=h) (ho:∀t∈l,rE false t) (h1:1<=l.length) (hl:l.length<=16):SaidR wt {Res.zero with kind:=3,name:=s,host:=h,rules:=l}
 |policy (s:ByteArray) (l:List Rul) (h:ByteArray) (hs:aD s=true) (hh:aD h=true) (ho:∀t∈l,rE true t) (h1:1<=l.length) (hl:l.length<=16):SaidR wt {Res.zero with kind:=4,name:=s,route:=h,rules:=l}
theorem yy (wt:Nat->ByteArray):∀l:List Tgt,(dI wt l).keys.length=l.length
 |[]=>rfl
 |_::r=>by show (dI wt r).keys.length+1=_;rw[yy wt r,aBk]
theorem r9 (act:Bool):∀l:List Rul,(b7 act l).keys.length=l.length
 |[]=>rfl
 |_::r=>by show (b7 act r).keys.length+1=_;rw[r9 act r,aBk]
theorem tS:∀l:List ByteArray,(bQ l).keys.length=l.length
 |[]=>rfl
 |_::r=>by show (bQ r).keys.length+1=_;rw[tS r,aBk]
theorem ru {ns:List Nd} {m:Nd} {r:Res} {k:Nat} (h:bE ns (kKind::bJ::oM k) m.kids= .ok ()):nS ns m r k=if k=1 then dX ns m r else if k=2 then iu ns m r else if k=3 then gH ns m r else eV ns m r:=by
 unfold nS;rw[h]
theorem nQ {wt:Nat->ByteArray} {r:Res} (k:Nat) (hk:r.kind=(k:Int)) (h1:1<=k) (h2:k<=4) (hs:aD r.name=true) (hg:DocG (dS wt r)):
 ∃(m:Nd) (ns:List Nd),ns=(dS wt r).doc/\m.kids=(dS wt r).heads 1/\Fo.At ns (dS wt r) 1/\Fo.At ns (gg wt r) 3/\
  dO ns=(match (if kKind=bu then none else jh ns ((gg wt r).heads 3) bu) with
   |some x=>if isTrue x=false then .error (x.line,123) else (match bE ns [kKind,bJ,bu] m.kids with| .error e=> .error e| .ok ()=> .ok {Res.zero with kind:=(k:Int),name:=r.name,del:=true})
   |none=>nS ns m {Res.zero with kind:=(k:Int),name:=r.name} k)/\∀key,kKind≠key->bJ≠key->aY ns m key=jh ns ((gg wt r).heads 3) key:=by
 obtain ⟨ns,uE⟩:=ex ((dS wt r).doc);have ha:=(dS wt r).doc_at;rw[<-uE]at ha;obtain ⟨q1,q2,-⟩:=ha.head_br;have h0:=dL q1;obtain ⟨m,hm⟩:∃m,m=(⟨2,⟨#[]⟩,⟨#[]⟩,false,0,(dS wt r).heads 1⟩:Nd):=⟨_,rfl⟩;rw[show (0+1:Nat)=1 from rfl,<-hm]at h0;have A0:Fo.At ns (an kKind (oT r.kind) (an bJ r.name (gg wt r))) 1:=q2;have A1:=A0.head_sc.2;have A2:=A1.head_sc.2;have nJ:m.kids=(an kKind (oT r.kind) (an bJ r.name (gg wt r))).heads 1:=by rw[hm];rfl
 have cN:m.kind=2:=by rw[hm]
 have ht:dj ns=true:=by rw[uE];exact BT hg
 have g1:=aC A0 kKind;rw[if_pos rfl,<-nJ]at g1;have g2:=aC A0 bJ;rw[if_neg (by decide),aC A1,if_pos rfl,<-nJ]at g2;have g3:∀key,kKind≠key->bJ≠key->aY ns m key=jh ns ((gg wt r).heads 3) key:=fun key a b=>by
  have:=aC A0 key;rw[if_neg a,aC A1,if_neg b,<-nJ]at this;exact this
 have cg:kindN (jq kKind (oT r.kind))=k:=by
  rw[hk];rcases (show k=1\/k=2\/k=3\/k=4 by omega) with rfl|rfl|rfl|rfl<;>decide
 refine ⟨m,ns,uE,nJ,q2,A2,?_,g3⟩;unfold dO;rw[if_neg (by rw[ht];decide),h0,show dg m= .ok () by unfold dg;rw[if_neg (fun q=>q cN)]];simp only;rw[iy g1];simp only;rw[if_neg (by omega),iy g2];simp only;rw[dV hs];simp only;rw[g3 bu (by decide) (by decide),cg,if_neg (show ¬kKind=bu by decide)];cases jh ns ((gg wt r).heads 3) bu<;>rfl
theorem lA (wt:Nat->ByteArray) {r:Res} (hk:1<=r.kind) (hn:ResN0 r) (h1:r.endps.length<=16) (h2:r.targets.length<=8) (h3:r.rules.length<=16):DocG (dS wt r):=by
 obtain ⟨a1,a2,a3,a4⟩:=Ch wt hk hn;refine ⟨a4,a1,a2,by omega,?_⟩;have s1:=(nC r.endps).1;have s2:=(zX wt r.targets).2.1;have s3:=fun act=>(uU act r.rules).2.1;unfold dS gg
 repeat' split
 all_goals (simp only[an,Fo.size,s1,s2,s3];omega)
theorem CN:isTrue (jq bu kTrue)=true:=by decide+kernel
theorem xq {wt:Nat->ByteArray} {r:Res} (h:SaidR wt r):DocG (dS wt r)/\dO (dS wt r).doc= .ok r:=by
 cases h with
 |del k s h1 h2 hs=>
  have hg:=lA wt (r:={Res.zero with kind:=(k:Int),name:=s,del:=true}) (by show (1:Int)<=k;omega) ⟨fun q=>absurd q (by simp),fun q=>absurd q (by simp)⟩ (Nat.zero_le _) (Nat.zero_le _) (Nat.zero_le _);refine ⟨hg,?_⟩;obtain ⟨m,ns,rfl,e2,A,A2,hd,hf⟩:=nQ (wt:=wt) k rfl h1 h2 hs hg;rw[hd,if_neg (by decide)];have e3:gg wt {Res.zero with kind:=(k:Int),name:=s,del:=true}=an bu kTrue .nil:=rfl
  rw[e3]at A2 |-;rw[aC A2,if_pos rfl];simp only;rw[if_neg (by rw[CN];decide),e2,iG _ _ A (by
   intro x hx;simp only[dS,e3,an,Fo.keys]at hx;exact hx)]
 |serv s l hs h hn hl=>
  have hg:=lA wt (r:={Res.zero with kind:=1,name:=s,endps:=l}) (by show (1:Int)<=1;decide) ⟨fun _ q=>absurd q (by simp),fun _ q=>absurd q (by simp)⟩ hl (Nat.zero_le _) (Nat.zero_le _);refine ⟨hg,?_⟩;obtain ⟨m,ns,rfl,e2,A,A2,hd,hf⟩:=nQ (wt:=wt) (r:={Res.zero with kind:=1,name:=s,endps:=l}) 1 rfl (by decide) (by decide) hs hg;rw[hd,if_neg (by decide)];by_cases he:l=[]
  ·subst he;have e3:gg wt {Res.zero with kind:=1,name:=s,endps:=[]}= .nil:=rfl;rw[e3,fN];simp only;rw[ru (by rw[e2];exact iG _ _ A (by intro x hx;simp only[dS,e3,an,Fo.keys]at hx;revert hx;simp;try (rintro (q|q)<;>simp[q]))),if_pos rfl];unfold dX;rw[hf bd (by decide) (by decide),e3,fN];rfl
  ·have e3:gg wt {Res.zero with kind:=1,name:=s,endps:=l}= .br 3 bd (bQ l) .nil:=by
    unfold gg;rw[if_neg (by simp[Res.zero]),if_pos rfl];dsimp only;rw[if_neg he]
   rw[e3]at A2 |-;rw[gM A2,if_neg (by decide),fN];simp only;rw[ru (by rw[e2];exact iG _ _ A (by intro x hx;simp only[dS,e3,an,Fo.keys]at hx;revert hx;simp[oM];try (rintro (q|q|q)<;>simp[q]))),if_pos rfl];unfold dX;rw[hf bd (by decide) (by decide),e3,gM A2,if_pos rfl];simp only;have hh:=Fo.heads_keys (bQ l) (3+1);rw[tS]at hh;rw[u6 (Nat.zero_le _) (by omega),tR l _ A2.head_br.2.1,]
   simp only;rw[uk l [] h (by simpa using hn)];rfl
 |split s l hs h h1 hl=>
  have hne:l≠[]:=fun e=>by rw[e]at h1;exact absurd h1 (by decide)
  have hg:=lA wt (r:={Res.zero with kind:=2,name:=s,targets:=l}) (by show (1:Int)<=2;decide) ⟨fun _ _=>hne,fun _ q=>absurd q (by simp)⟩ (Nat.zero_le _) hl (Nat.zero_le _);refine ⟨hg,?_⟩;obtain ⟨m,ns,rfl,e2,A,A2,hd,hf⟩:=nQ (wt:=wt) (r:={Res.zero with kind:=2,name:=s,targets:=l}) 2 rfl (by decide) (by decide) hs hg;rw[hd,if_neg (by decide)];have e3:gg wt {Res.zero with kind:=2,name:=s,targets:=l}= .br 3 cD (dI wt l) .nil:=rfl
  rw[e3]at A2 |-;rw[gM A2,if_neg (by decide),fN];simp only;rw[ru (by rw[e2];exact iG _ _ A (by intro x hx;simp only[dS,e3,an,Fo.keys]at hx;revert hx;simp[oM];try (rintro (q|q|q)<;>simp[q]))),if_neg (by decide),if_pos rfl];have g:=hf cD (by decide) (by decide);rw[e3,gM A2,if_pos rfl]at g;unfold iu;rw[iy g];simp only;have hh:=Fo.heads_keys (dI wt l) (3+1)
  rw[yy]at hh;rw[u6 (by omega) (by omega)];simp only;rw[vK l _ [] A2.head_br.2.1 h];rfl
 |route s l h hs hh mG ho h1 hl=>
  have hne:l≠[]:=fun e=>by rw[e]at h1;exact absurd h1 (by decide)
  have hg:=lA wt (r:={Res.zero with kind:=3,name:=s,host:=h,rules:=l}) (by show (1:Int)<=3;decide) ⟨fun _ q=>absurd q (by simp),fun _ _=>hne⟩ (Nat.zero_le _) (Nat.zero_le _) hl;refine ⟨hg,?_⟩;obtain ⟨m,ns,rfl,e2,A,A2,hd,hf⟩:=nQ (wt:=wt) (r:={Res.zero with kind:=3,name:=s,host:=h,rules:=l}) 3 rfl (by decide) (by decide) hs hg;rw[hd,if_neg (by decide)];have e3:gg wt {Res.zero with kind:=3,name:=s,host:=h,rules:=l}=an gL h (.br 3 bZ (b7 false l) .nil):=rfl
  rw[e3]at A2 |-;have A3:=A2.head_sc.2;rw[aC A2,if_neg (by decide),gM A3,if_neg (by decide),fN];simp only;rw[ru (by rw[e2];exact iG _ _ A (by intro x hx;simp only[dS,e3,an,Fo.keys]at hx;revert hx;simp[oM];try (rintro (q|q|q|q)<;>simp[q]))),if_neg (by decide),if_neg (by decide),if_pos rfl];have g1:=hf gL (by decide) (by decide);rw[e3,aC A2,if_pos rfl]at g1
  have g2:=hf bZ (by decide) (by decide);rw[e3,aC A2,if_neg (by decide),gM A3,if_pos rfl]at g2;unfold gH;rw[iy g1];simp only;rw[dV hh];simp only;unfold gG;rw[iy g2];simp only;have hk:=Fo.heads_keys (b7 false l) (3+1+1);rw[r9]at hk;rw[u6 (by omega) (by omega)];simp only;rw[vU l _ [] A3.head_br.2.1 ho,mG];rfl
 |policy s l h hs hh ho h1 hl=>
  have hne:l≠[]:=fun e=>by rw[e]at h1;exact absurd h1 (by decide)
  have hg:=lA wt (r:={Res.zero with kind:=4,name:=s,route:=h,rules:=l}) (by show (1:Int)<=4;decide) ⟨fun _ q=>absurd q (by simp),fun _ _=>hne⟩ (Nat.zero_le _) (Nat.zero_le _) hl;refine ⟨hg,?_⟩;obtain ⟨m,ns,rfl,e2,A,A2,hd,hf⟩:=nQ (wt:=wt) (r:={Res.zero with kind:=4,name:=s,route:=h,rules:=l}) 4 rfl (by decide) (by decide) hs hg;rw[hd,if_neg (by decide)];have e3:gg wt {Res.zero with kind:=4,name:=s,route:=h,rules:=l}=an eK h (.br 3 bZ (b7 true l) .nil):=rfl
  rw[e3]at A2 |-;have A3:=A2.head_sc.2;rw[aC A2,if_neg (by decide),gM A3,if_neg (by decide),fN];simp only;rw[ru (by rw[e2];exact iG _ _ A (by intro x hx;simp only[dS,e3,an,Fo.keys]at hx;revert hx;simp[oM];try (rintro (q|q|q|q)<;>simp[q]))),if_neg (by decide),if_neg (by decide),if_neg (by decide)];have g1:=hf eK (by decide) (by decide);rw[e3,aC A2,if_pos rfl]at g1
  have g2:=hf bZ (by decide) (by decide);rw[e3,aC A2,if_neg (by decide),gM A3,if_pos rfl]at g2;unfold eV;rw[iy g1];simp only;rw[dV hh];simp only;unfold gG;rw[iy g2];simp only;have hk:=Fo.heads_keys (b7 true l) (3+1+1);rw[r9]at hk;rw[u6 (by omega) (by omega)];simp only;rw[vU l _ [] A3.head_br.2.1 ho];rfl
theorem gS {n:Nd} {so:ByteArray->Bool} {s:ByteArray} (h:aO n so= .ok s):so s=true:=by
 unfold aO at h
 split at h
 ·cases h
 ·rename_i q
  injection h with h
  subst h;cases hs:so n.text with
  |true=>rfl
  |false=>exact absurd (.inr hs) q
theorem wN {ns:List Nd} {n:Nd} {a b:Nat} {l:List Nd} (h:cp ns n a b= .ok l):a<=l.length/\l.length<=b:=by
 unfold cp at h
 split at h
 ·cases h
 ·split at h
  ·cases h
  ·injection h with h
   subst h;rw[List.length_map];omega
theorem Dj:∀(l:List Nd) (out r:List ByteArray),dQ l out= .ok r->(∀e∈out,aD e=true)->out.Nodup->(∀e∈r,aD e=true)/\r.Nodup/\r.length=out.length+l.length
 |[],out,r,h,ho,hn=>by
  unfold dQ at h;injection h with h
  subst h;exact ⟨ho,hn,rfl⟩
 |k::l,out,r,h,ho,hn=>by
  unfold dQ at h;cases hw:aO k aD with
  |error e=>rw[hw]at h;cases h
  |ok s=>
   rw[hw]at h;simp only at h
   split at h
   ·cases h
   ·rename_i hm
    obtain ⟨a,b,c⟩:=Dj l _ r h (fun e he=>by
     rcases List.mem_append.1 he with q|q
     ·exact ho e q
     ·rw[List.mem_singleton.1 q];exact gS hw) (List.nodup_append.2 ⟨hn,by simp,fun x hx y hy=>by
      rw[List.mem_singleton.1 hy];exact fun e=>hm (e ▸ hx)⟩)
    exact ⟨a,b,by rw[c];simp;omega⟩
theorem Ek {wt:Nat->ByteArray} (hw:∀n x,bD n= .ok x->bD (jq aR (wt x))= .ok x) {ns:List Nd} {k:Nd} {t:Tgt} (h:cX ns k= .ok t):rC wt t:=by
 unfold cX at h;cases h1:dg k with
 |error e=>rw[h1]at h;cases h
 |ok u=>
  rw[h1]at h;simp only at h;cases h2:bE ns [aT,aH,aR] k.kids with
  |error e=>rw[h2]at h;cases h
  |ok u=>
   rw[h2]at h;simp only at h;have tail:∀a b:ByteArray,(match bt ns k aR with| .error e=>(.error e:R Tgt)| .ok n=>match bD n with| .error e=> .error e| .ok x=> .ok ⟨a,b,x⟩)= .ok t->((aD a=true/\b=⟨#[]⟩)\/(a=⟨#[]⟩/\aD b=true))->rC wt t:=fun a b q Yg=>by
    cases h3:bt ns k aR with
    |error e=>rw[h3]at q;cases q
    |ok n=>
     rw[h3]at q;simp only at q;cases h4:bD n with
     |error e=>rw[h4]at q;cases q
     |ok x=>
      rw[h4]at q;injection q with q
      subst q;exact ⟨Yg,hw n x h4⟩
   cases h3:aY ns k aT with
   |none=>
    cases h4:aY ns k aH with
    |none=>rw[h3,h4]at h;cases h
    |some b=>
     rw[h3,h4]at h;simp only at h;cases h5:aO b aD with
     |error e=>rw[h5]at h;cases h
     |ok s=>rw[h5]at h;exact tail _ _ h (.inr ⟨rfl,gS h5⟩)
   |some a=>
    cases h4:aY ns k aH with
    |some b=>rw[h3,h4]at h;cases h
    |none=>
     rw[h3,h4]at h;simp only at h;cases h5:aO a aD with
     |error e=>rw[h5]at h;cases h
     |ok s=>rw[h5]at h;exact tail _ _ h (.inl ⟨gS h5,rfl⟩)
theorem tB {wt:Nat->ByteArray} (hw:∀n x,bD n= .ok x->bD (jq aR (wt x))= .ok x) {ns:List Nd}:∀(l:List Nd) (out r:List Tgt),ba ns l out= .ok r->(∀t∈out,rC wt t)->(∀t∈r,rC wt t)/\r.length=out.length+l.length
 |[],out,r,h,ho=>by
  unfold ba at h;injection h with h
  subst h;exact ⟨ho,rfl⟩
 |k::l,out,r,h,ho=>by
  unfold ba at h;cases ht:cX ns k with
  |error e=>rw[ht]at h;cases h
  |ok t=>
   rw[ht]at h;obtain ⟨a,b⟩:=tB hw l _ r h fun x hx=>by
    rcases List.mem_append.1 hx with q|q
    ·exact ho x q
    ·rw[List.mem_singleton.1 q];exact Ek hw ht
   exact ⟨a,by rw[b];simp;omega⟩
theorem yN {ns:List Nd} {k:Nd} {x:Rul} (a:ByteArray) (X:R ByteArray)
 (h:(match bt ns k bS with| .error e=>(.error e:R Rul)| .ok n=>match aO n ja with| .error e=> .error e| .ok p=>match (match aY ns k a9 with|some n=>aO n gK|none=>(.ok oW:R ByteArray)) with| .error e=> .error e| .ok m=>match X with| .error e=> .error e| .ok s=> .ok ⟨p,m,s,decide (a=kAllow)⟩)= .ok x):
 ja x.path=true/\gK x.method=true/\X= .ok x.split/\x.allow=decide (a=kAllow):=by
 cases h4:bt ns k bS with
 |error e=>rw[h4]at h;cases h
 |ok n=>
  rw[h4]at h;simp only at h;cases h5:aO n ja with
  |error e=>rw[h5]at h;cases h
  |ok p=>
   rw[h5]at h;simp only at h;have fin:∀m,gK m=true->(match X with| .error e=>(.error e:R Rul)| .ok s=> .ok ⟨p,m,s,decide (a=kAllow)⟩)= .ok x->ja x.path=true/\gK x.method=true/\X= .ok x.split/\x.allow=decide (a=kAllow):=fun m hm q=>by
    cases X with
    |error e=>cases q
    |ok s=>injection q with q;subst q;exact ⟨gS h5,hm,rfl,rfl⟩
   cases h6:aY ns k a9 with
   |none=>rw[h6]at h;exact fin _ (by unfold gK;rw[ia (s:=oW) (l:=[42]) rfl];rfl) h
   |some n=>
    rw[h6]at h;simp only at h;cases h7:aO n gK with
    |error e=>rw[h7]at h;cases h
    |ok m=>rw[h7]at h;exact fin _ (gS h7) h
theorem MF {ns:List Nd} {act:Bool} {k:Nd} {x:Rul} (h:fy ns act k= .ok x):rE act x:=by
 unfold fy at h;cases h1:dg k with
 |error e=>rw[h1]at h;cases h
 |ok u=>
  rw[h1]at h;simp only at h;cases h2:bE ns [bS,a9,if act=true then ca else aH] k.kids with
  |error e=>rw[h2]at h;cases h
  |ok u=>
   rw[h2]at h;cases act with
   |true=>
    simp only[if_true]at h;cases hA:bt ns k ca with
    |error e=>rw[hA]at h;cases h
    |ok nA=>
     rw[hA]at h;simp only at h;cases hW:aO nA il with
     |error e=>rw[hW]at h;cases h
     |ok a=>
      rw[hW]at h;obtain ⟨p1,p2,p3,p4⟩:=yN (k:=k) (ns:=ns) a (.ok ⟨#[]⟩) h;injection p3 with p3
      exact ⟨p1,p2,fun _=>p3.symm,fun q=>absurd q (by decide)⟩
   |false=>
    simp only[Bool.false_eq_true,if_false]at h;obtain ⟨p1,p2,p3,p4⟩:=yN (k:=k) (ns:=ns) ⟨#[]⟩ (match bt ns k aH with| .error e=> .error e| .ok n=>aO n aD) h;refine ⟨p1,p2,fun q=>absurd q (by decide),fun _=>⟨?_,p4.trans (dF (by decide))⟩⟩;cases h8:bt ns k aH with
    |error e=>rw[h8]at p3;cases p3
    |ok n=>rw[h8]at p3;exact gS p3
theorem vV {ns:List Nd} {act:Bool}:∀(l:List Nd) (out r:List Rul),cc ns act l out= .ok r->(∀t∈out,rE act t)->(∀t∈r,rE act t)/\r.length=out.length+l.length
 |[],out,r,h,ho=>by
  unfold cc at h;injection h with h
  subst h;exact ⟨ho,rfl⟩
 |k::l,out,r,h,ho=>by
  unfold cc at h;cases ht:fy ns act k with
  |error e=>rw[ht]at h;cases h
  |ok t=>
   rw[ht]at h;obtain ⟨a,b⟩:=vV l _ r h fun x hx=>by
    rcases List.mem_append.1 hx with q|q
    ·exact ho x q
    ·rw[List.mem_singleton.1 q];exact MF ht
   exact ⟨a,by rw[b];simp;omega⟩
theorem yI {ns:List Nd} {act:Bool} {m:Nd} {r0 r:Res} (h:gG ns act m r0= .ok r):∃l,r={r0 with rules:=l}/\(∀t∈l,rE act t)/\1<=l.length/\l.length<=16:=by
 unfold gG at h;cases h1:bt ns m bZ with
 |error e=>rw[h1]at h;cases h
 |ok n=>
  rw[h1]at h;simp only at h;cases h2:cp ns n 1 16 with
  |error e=>rw[h2]at h;cases h
  |ok l=>
   rw[h2]at h;simp only at h;cases h3:cc ns act l [] with
   |error e=>rw[h3]at h;cases h
   |ok out=>
    rw[h3]at h;injection h with h
    have a:=wN h2;obtain ⟨b,c⟩:=vV l [] out h3 (fun _ h=>nomatch h);exact ⟨out,h.symm,b,by rw[c];simp;omega,by rw[c];simp;omega⟩
theorem fold_fold (c:UInt8):cq (cq c)=cq c:=by
 have key:∀n<256,cq (cq (UInt8.ofNat n))=cq (UInt8.ofNat n):=by decide+kernel
 have:=key c.toNat c.toNat_lt
 rwa [UInt8.ofNat_toNat]at this
theorem AZ (s:ByteArray):(⟨((⟨(s.data.toList.map cq).toArray⟩:ByteArray).data.toList.map cq).toArray⟩:ByteArray)=⟨(s.data.toList.map cq).toArray⟩:=by
 show (⟨((s.data.toList.map cq).map cq).toArray⟩:ByteArray)=_
 rw[List.map_map,show (cq ∘ cq)=cq from funext fold_fold]
theorem N3 (n:Nd):kindN n<=4:=by
 unfold kindN
 repeat' split
 all_goals omega
def rM (l:List UInt8):Prop:=1<=l.length/\l.length<=64/\l.all cO=true
theorem KV (s:ByteArray):(iR s).2=true↔rM s.data.toList:=by
 unfold iR rM;rw[aj]
 split
 ·rename_i h;exact ⟨fun _=>h,fun _=>rfl⟩
 ·rename_i h;exact ⟨(fun q=>by cases q),(fun q=>absurd q h)⟩
theorem zo (s rest:ByteArray) {k:Int} (hk:k≠3):(oY s rest k).1≠3↔rM rest.data.toList:=by
 rw[<-KV];unfold oY;cases h:(iR rest).2 with
 |true=>exact ⟨fun _=>rfl,fun _=>hk⟩
 |false=>exact ⟨(fun q=>absurd rfl q),(fun q=>by cases q)⟩
theorem xe (s:ByteArray):kJ s=true↔s.data.toList=[42]\/(∃r,s.data.toList=42::46::r/\rM r)\/rM s.data.toList:=by
 have fq:∀r,¬rM (42::r):=fun r h=>absurd (List.all_eq_true.1 h.2.2 42 (List.mem_cons_self ..)) (by decide);unfold kJ nI;rw[decide_eq_true_iff];by_cases h1:s.data.toList=[42]
 ·rw[if_pos (ia h1)];exact ⟨fun _=> .inl h1,fun _=>by decide⟩
 ·rw[if_neg (by rw[ji h1];decide)];by_cases h2:Lib.hasPrefix s.data.toList [42,46]=true
  ·rw[if_pos h2,zo _ _ (by decide)];obtain ⟨r,hr⟩:∃r,s.data.toList=42::46::r:=by
    unfold Lib.hasPrefix at h2;obtain ⟨r,hr⟩:=List.isPrefixOf_iff_prefix.1 h2;exact ⟨r,hr.symm⟩
   have he:(s.extract 2 s.size).data.toList=r:=by
    rw[ByteArray.data_extract,Array.toList_extract,List.extract_eq_take_drop,hr,<-aj,hr];simp
   rw[he];constructor
   ·exact fun q=> .inr (.inl ⟨r,hr,q⟩)
   ·rintro (q|⟨r',q,g⟩|q)
    ·exact absurd q h1
    ·rw[hr]at q;injection q with _ q
     injection q with _ q
     rw[q];exact g
    ·rw[hr]at q;exact absurd q (fq _)
  ·rw[if_neg h2,zo _ _ (by decide)];constructor
   ·exact fun q=> .inr (.inr q)
   ·rintro (q|⟨r',q,g⟩|q)
    ·exact absurd q h1
    ·exact absurd (by rw[q];rfl) h2
    ·exact q
theorem Db {c:UInt8} (h:cO c=true):cO (cq c)=true:=by
 have key:∀n<256,cO (UInt8.ofNat n)=true->cO (cq (UInt8.ofNat n))=true:=by decide+kernel
 have:=key c.toNat c.toNat_lt;rw[UInt8.ofNat_toNat]at this;exact this h
theorem rM.fold {l:List UInt8} (h:rM l):rM (l.map cq):=by
 refine ⟨by rw[List.length_map];exact h.1,by rw[List.length_map];exact h.2.1,?_⟩;rw[List.all_eq_true];intro x hx;obtain ⟨c,hc,rfl⟩:=List.mem_map.1 hx;exact Db (List.all_eq_true.1 h.2.2 c hc)
theorem KH {s:ByteArray} (h:kJ s=true):kJ ⟨(s.data.toList.map cq).toArray⟩=true:=by
 rw[xe]at h |-;rcases h with h|⟨r,h,g⟩|h
 ·exact .inl (by show s.data.toList.map cq=_;rw[h];decide)
 ·exact .inr (.inl ⟨r.map cq,by show s.data.toList.map cq=_;rw[h,List.map_cons,List.map_cons,show cq 42=42 by decide,show cq 46=46 by decide],g.fold⟩)
 ·exact .inr (.inr h.fold)
theorem Rp {wt:Nat->ByteArray} (hw:∀n x,bD n= .ok x->bD (jq aR (wt x))= .ok x) {ns:List Nd} {r:Res} (h:dO ns= .ok r):SaidR wt r:=by
 unfold dO at h
 split at h
 ·cases h
 cases h1:dg (ns[0]!) with
 |error e=>rw[h1]at h;cases h
 |ok u=>
 rw[h1]at h;simp only at h;cases h2:bt ns (ns[0]!) kKind with
 |error e=>rw[h2]at h;cases h
 |ok k=>
 rw[h2]at h;simp only at h
 split at h
 ·cases h
 rename_i uH
 have ue:=N3 k;cases h3:bt ns (ns[0]!) bJ with
 |error e=>rw[h3]at h;cases h
 |ok n=>
 rw[h3]at h;simp only at h;cases h4:aO n aD with
 |error e=>rw[h4]at h;cases h
 |ok s=>
 rw[h4]at h;simp only at h;have hs:aD s=true:=gS h4;cases h5:aY ns (ns[0]!) bu with
 |some x=>
  rw[h5]at h;simp only at h
  split at h
  ·cases h
  ·split at h
   ·cases h
   ·injection h with h
    rw[<-h];exact .del _ _ (by omega) ue hs
 |none=>
  rw[h5]at h;simp only at h;unfold nS at h
  split at h
  ·cases h
  ·split at h
   ·rename_i e
    rw[e]at h;unfold dX at h
    split at h
    ·injection h with h
     rw[<-h];exact .serv s [] hs (fun _ q=>nomatch q) List.nodup_nil (Nat.zero_le _)
    ·split at h
     ·cases h
     ·rename_i l hl
      split at h
      ·cases h
      ·rename_i out ho
       injection h with h
       rw[<-h];obtain ⟨a,b,c⟩:=Dj _ _ _ ho (fun _ q=>nomatch q) List.nodup_nil;have:=wN hl;exact .serv s out hs a b (by rw[c];simp;omega)
   ·split at h
    ·rename_i e
     rw[e]at h;unfold iu at h
     split at h
     ·cases h
     ·split at h
      ·cases h
      ·rename_i l hl
       split at h
       ·cases h
       ·rename_i out ho
        injection h with h
        rw[<-h];obtain ⟨a,c⟩:=tB hw _ _ _ ho (fun _ q=>nomatch q);have:=wN hl;exact .split s out hs a (by rw[c];simp;omega) (by rw[c];simp;omega)
    ·split at h
     ·rename_i e
      rw[e]at h;unfold gH at h
      split at h
      ·cases h
      ·split at h
       ·cases h
       ·rename_i q hq
        obtain ⟨l,rfl,a,b,c⟩:=yI h;exact .route s l _ hs (KH (gS hq)) (AZ q) a b c
     ·have e:kindN k=4:=by omega
      rw[e]at h;unfold eV at h
      split at h
      ·cases h
      ·split at h
       ·cases h
       ·rename_i q hq
        obtain ⟨l,rfl,a,b,c⟩:=yI h;exact .policy s l _ hs (gS hq) a b c
