/-
Parts of a proof, one behind the other (laid dense by a program of mine: pack.py).
-/
import Derived.Test.YtfenoaeoedobmaaGreatDoorRd21
set_option linter.unusedVariables false
set_option linter.unusedSimpArgs false
set_option maxHeartbeats 4000000
set_option maxRecDepth 20000
namespace Go.Proofs.YtfenoaeoedobmaaGreatDoor
open Go Go.RowKit
abbrev St:=Option Stop
def failR (st:St) (line e:Int):St:=
 match st with
 |none=>some (line,e)
 |some x=>some x
def needR (ns:List Nd) (m:Nd) (key:ByteArray) (st:St):Option Nat×St:=
 match fieldN ns m key with
 |some k=>(some k,st)
 |none=>(none,failR st m.line 122)
def onlyR (ns:List Nd) (keys:List ByteArray):List Int→St→St
 |[],st=>st
 |k::r,st=>onlyR ns keys r (if (ns[k.toNat]!).key∈keys then st else failR st (ns[k.toNat]!).line 121)
def textR (ns:List Nd) (k:Option Nat):ByteArray:=
 match k with
 |none=>⟨#[]⟩
 |some k=>(ns[k]!).text
def wordR (ns:List Nd) (k:Option Nat) (so:Bool) (st:St):ByteArray×St:=
 match k,st with
 |none,st=>(⟨#[]⟩,st)
 |some _,some e=>(⟨#[]⟩,some e)
 |some k,none=>if (ns[k]!).kind≠1∨so=false then (⟨#[]⟩,some ((ns[k]!).line,123)) else ((ns[k]!).text,none)
def listR (ns:List Nd) (k:Option Nat) (least most:Nat) (st:St):List Int×St:=
 match k,st with
 |none,st=>([],st)
 |some _,some e=>([],some e)
 |some k,none=>
  if (ns[k]!).kind≠3 then ([],some ((ns[k]!).line,123))
  else if (ns[k]!).kids.length<least∨most<(ns[k]!).kids.length then ([],some ((ns[k]!).line,124))
  else ((ns[k]!).kids,none)
def isMapR (n:Nd) (st:St):St:=if n.kind≠2 then failR st n.line 123 else st
def weightR (ns:List Nd) (k:Option Nat) (st:St):Nat×St:=
 match k,st with
 |none,st=>(0,st)
 |some _,some e=>(0,some e)
 |some k,none=>
  match weightP (ns[k]!) with
  | .ok x=>(x,none)
  | .error e=>(0,some e)
def whichR (ns:List Nd) (k:Nat) (a b:Option Nat) (st:St):Option Nat×St:=
 match a,b with
 |none,none=>(none,failR st (ns[k]!).line 122)
 |some x,some y=>(some (if x>y then x else y),failR st (ns[if x>y then x else y]!).line 121)
 |some _,none=>(none,st)
 |none,some y=>(some y,st)
def targetT (ns:List Nd) (k:Nat) (st:St):Tgt×St:=
 let a:=fieldN ns (ns[k]!) kService
 let b:=whichR ns k a (fieldN ns (ns[k]!) kSplit) st
 let p:=wordR ns a (isName (textR ns a)) b.2
 let q:=wordR ns b.1 (isName (textR ns b.1)) p.2
 let n:=needR ns (ns[k]!) kWeight q.2
 let x:=weightR ns n.1 n.2
 (⟨p.1,q.1,x.1⟩,x.2)
def targetR (ns:List Nd) (k:Nat) (st:St):Tgt×St:=
 if isMapR (ns[k]!) st≠none then (⟨⟨#[]⟩,⟨#[]⟩,0⟩,isMapR (ns[k]!) st)
 else targetT ns k (onlyR ns [kService,kSplit,kWeight] (ns[k]!).kids (isMapR (ns[k]!) st))
def actR (ns:List Nd) (act:Bool) (k:Nat) (st:St):ByteArray×St:=
 if act=true then wordR ns (needR ns (ns[k]!) kAction st).1 (isAct (textR ns (needR ns (ns[k]!) kAction st).1)) (needR ns (ns[k]!) kAction st).2 else (⟨#[]⟩,st)
def pathR (ns:List Nd) (k:Nat) (st:St):ByteArray×St:=
 wordR ns (needR ns (ns[k]!) kPath st).1 (patB (textR ns (needR ns (ns[k]!) kPath st).1)) (needR ns (ns[k]!) kPath st).2
def methR (ns:List Nd) (k:Nat) (st:St):ByteArray×St:=
 if fieldN ns (ns[k]!) kMethod=none then (kStar,st) else wordR ns (fieldN ns (ns[k]!) kMethod) (methB (textR ns (fieldN ns (ns[k]!) kMethod))) st
def splR (ns:List Nd) (act:Bool) (k:Nat) (st:St):ByteArray×St:=
 if act=true then (⟨#[]⟩,st) else wordR ns (needR ns (ns[k]!) kSplit st).1 (isName (textR ns (needR ns (ns[k]!) kSplit st).1)) (needR ns (ns[k]!) kSplit st).2
def ruleT (ns:List Nd) (act:Bool) (k:Nat) (st:St):Rul×St:=
 let a:=actR ns act k st
 let p:=pathR ns k a.2
 let m:=methR ns k p.2
 let s:=splR ns act k m.2
 (⟨p.1,m.1,s.1,decide (a.1=kAllow)⟩,s.2)
def ruleR (ns:List Nd) (act:Bool) (k:Nat) (st:St):Rul×St:=
 if isMapR (ns[k]!) st≠none then (⟨⟨#[]⟩,kStar,⟨#[]⟩,false⟩,isMapR (ns[k]!) st)
 else ruleT ns act k (onlyR ns [kPath,kMethod,if act=true then kAction else kSplit] (ns[k]!).kids (isMapR (ns[k]!) st))
def Keeps {α:Type} (x:R α) (y:α×St):Prop:=
 match x with
 | .ok a=>y=(a,none)
 | .error e=>y.2=some e
theorem onlyR_some (ns:List Nd) (keys:List ByteArray) (e:Stop):∀l,onlyR ns keys l (some e)=some e
 |[]=>rfl
 |k::r=>by
  unfold onlyR
  split
  ·exact onlyR_some ns keys e r
  ·exact onlyR_some ns keys e r
theorem onlyR_none (ns:List Nd) (keys:List ByteArray):∀l,onlyR ns keys l none=(match onlyP ns keys l with| .ok _=>none| .error e=>some e)
 |[]=>rfl
 |k::r=>by
  unfold onlyR onlyP
  split
  ·exact onlyR_none ns keys r
  ·exact onlyR_some ns keys _ r
theorem wordR_some (ns:List Nd) (k:Option Nat) (so:Bool) (e:Stop):wordR ns k so (some e)=(⟨#[]⟩,some e):=by
 cases k<;>rfl
theorem wordR_none (ns:List Nd) (k:Nat) (so:ByteArray→Bool):Keeps (wordP (ns[k]!) so) (wordR ns (some k) (so (textR ns (some k))) none):=by
 unfold wordP wordR textR;simp only
 split<;>rfl
theorem weightR_some (ns:List Nd) (k:Option Nat) (e:Stop):weightR ns k (some e)=(0,some e):=by
 cases k<;>rfl
theorem needR_some (ns:List Nd) (m:Nd) (key:ByteArray) (e:Stop):(needR ns m key (some e)).2=some e:=by
 unfold needR
 split<;>rfl
theorem needP_some {ns:List Nd} {m:Nd} {key:ByteArray} {k:Nat} (h:fieldN ns m key=some k):needP ns m key= .ok (ns[k]!):=by
 unfold needP fieldP;rw[h];rfl
theorem needP_none {ns:List Nd} {m:Nd} {key:ByteArray} (h:fieldN ns m key=none):needP ns m key= .error (m.line,122):=by
 unfold needP fieldP;rw[h];rfl
theorem needR_of {ns:List Nd} {m:Nd} {key:ByteArray} {k:Nat} (h:fieldN ns m key=some k) (st:St):needR ns m key st=(some k,st):=by
 unfold needR;rw[h]
theorem needR_no {ns:List Nd} {m:Nd} {key:ByteArray} (h:fieldN ns m key=none) (st:St):needR ns m key st=(none,failR st m.line 122):=by
 unfold needR;rw[h]
theorem needWord (ns:List Nd) (m:Nd) (key:ByteArray) (so:ByteArray→Bool):
 Keeps (match needP ns m key with| .error e=> .error e| .ok n=>wordP n so) (wordR ns (needR ns m key none).1 (so (textR ns (needR ns m key none).1)) (needR ns m key none).2):=by
 cases h:fieldN ns m key with
 |none=>
  rw[needP_none h,needR_no h];rfl
 |some k=>
  rw[needP_some h,needR_of h];exact wordR_none ns k so
theorem Keeps.ok {α:Type} {a:α} {y:α×St} (h:Keeps (.ok a:R α) y):y=(a,none):=h
theorem Keeps.error {α:Type} {e:Stop} {y:α×St} (h:Keeps (.error e:R α) y):y.2=some e:=h
theorem kidsR_keys {ns:List Nd}:∀{l:List Int} {last:Int} {had:List ByteArray},kidsR ns 2 l last had=true→
 (∀a∈l,¬(ns[a.toNat]!).key∈had)∧l.Pairwise (fun a b=>(ns[a.toNat]!).key≠(ns[b.toNat]!).key)
 |[],_,_,_=>⟨(fun _ h=>nomatch h),List.Pairwise.nil⟩
 |k::r,last,had,h=>by
  unfold kidsR at h
  split at h
  ·cases h
  ·split at h
   ·cases h
   ·rename_i h1 h2
    obtain ⟨h3,h4⟩:=kidsR_keys h;have h5:¬(ns[k.toNat]!).key∈had:=fun hm=>h2 (by unfold keyOk;rw[dT (show (2:Int)=2∧(ns[k.toNat]!).key∈had from ⟨rfl,hm⟩)];simp);refine ⟨fun a ha=> ?_,List.Pairwise.cons (fun a ha he=> ?_) h4⟩
    ·rcases List.mem_cons.1 ha with rfl|ha
     ·exact h5
     ·exact fun hm=>h3 a ha (List.mem_cons_of_mem _ hm)
    ·exact h3 a ha (by rw[←he];exact List.mem_cons_self ..)
theorem pair_eq {α:Type} {f:α→ByteArray}:∀{l:List α},l.Pairwise (fun a b=>f a≠f b)→∀a∈l,∀b∈l,f a=f b→a=b
 |[],_,a,ha,_,_,_=>nomatch ha
 |x::r,h,a,ha,b,hb,e=>by
  obtain ⟨h1,h2⟩:=List.pairwise_cons.1 h;rcases List.mem_cons.1 ha with ha'|ha'
  ·rcases List.mem_cons.1 hb with hb'|hb'
   ·rw[ha',hb']
   ·rw[ha']at e;exact absurd e (h1 b hb')
  ·rcases List.mem_cons.1 hb with hb'|hb'
   ·rw[hb']at e;exact absurd e.symm (h1 a ha')
   ·exact pair_eq h2 a ha' b hb' e
theorem fieldN_some {ns:List Nd} {m:Nd} {key:ByteArray} {x:Nat} (h:fieldN ns m key=some x):∃z∈m.kids,z.toNat=x∧(ns[z.toNat]!).key=key:=by
 unfold fieldN at h;cases hf:m.kids.find? (fun k=>decide ((ns[k.toNat]!).key=key)) with
 |none=>rw[hf]at h;cases h
 |some z=>
  rw[hf]at h;refine ⟨z,List.mem_of_find?_eq_some hf,by simpa using h,?_⟩;have:=List.find?_some hf
  simpa using this
theorem fold_none (ns:List Nd):∀(l:List Int) (b:Nd),(∀z∈l,¬((ns[z.toNat]!).key=kService∨(ns[z.toNat]!).key=kSplit))→secondN ns l b=b
 |[],_,_=>rfl
 |k::r,b,h=>by
  show secondN ns r (if (ns[k.toNat]!).key=kService∨(ns[k.toNat]!).key=kSplit then ns[k.toNat]! else b)=b
  rw[if_neg (h k (List.mem_cons_self ..))];exact fold_none ns r b fun z hz=>h z (List.mem_cons_of_mem _ hz)
theorem fold_last (ns:List Nd) (M:Int):∀(l:List Int) (b:Nd),l.Pairwise (· <·)→(∀z∈l,(ns[z.toNat]!).key=kService∨(ns[z.toNat]!).key=kSplit→z≤M)→M∈l→
 ((ns[M.toNat]!).key=kService∨(ns[M.toNat]!).key=kSplit)→secondN ns l b=ns[M.toNat]!
 |[],_,_,_,h,_=>nomatch h
 |k::r,b,hp,hle,hm,hM=>by
  obtain ⟨h1,h2⟩:=List.pairwise_cons.1 hp
  show secondN ns r (if (ns[k.toNat]!).key=kService∨(ns[k.toNat]!).key=kSplit then ns[k.toNat]! else b)=_
  rcases List.mem_cons.1 hm with rfl|hm
  ·rw[if_pos hM];exact fold_none ns r _ fun z hz hq=>by
    have:=h1 z hz;have:=hle z (List.mem_cons_of_mem _ hz) hq;omega
  ·exact fold_last ns M r _ h2 (fun z hz=>hle z (List.mem_cons_of_mem _ hz)) hm hM
structure MapOk (ns:List Nd) (m:Nd):Prop where
 up:m.kids.Pairwise (· <·)
 low:∀z∈m.kids,0≤z∧z<(ns.length:Int)
 keys:m.kind=2→m.kids.Pairwise (fun a b=>(ns[a.toNat]!).key≠(ns[b.toNat]!).key)
theorem mapOk_of {ns:List Nd} {i:Nat} (h:nodeR ns i (ns[i]!)=true):MapOk ns (ns[i]!):=by
 unfold nodeR at h
 split at h
 ·cases h
 ·rename_i h0
  split at h
  ·cases h
  ·rename_i h1
   split at h
   ·cases h
   ·rename_i h2
    by_cases hk:(ns[i]!).kind=1
    ·have hs:scalarOk (ns[i]!)=true:=Decidable.not_not.1 fun hh=>h1 ⟨hk,hh⟩;have e:=scalar_kids hs;exact ⟨(by rw[e];exact List.Pairwise.nil),(by rw[e];exact fun z hz=>nomatch hz),(fun _=>by rw[e];exact List.Pairwise.nil)⟩
    ·have hR:kidsR ns (ns[i]!).kind (ns[i]!).kids (i:Int) []=true:=Decidable.not_not.1 fun hh=>h2 ⟨by omega,.inr (.inr (.inr hh))⟩;obtain ⟨s1,s2⟩:=kidsR_spec hR;exact ⟨s2,fun z hz=>⟨by have:=(s1 z hz).1;omega,(s1 z hz).2⟩,fun h2k=>(kidsR_keys (by rw[h2k]at hR;exact hR)).2⟩
theorem second_is {ns:List Nd} {m:Nd} (h:MapOk ns m) (hk:m.kind=2) {x y:Nat} (hx:fieldN ns m kService=some x) (hy:fieldN ns m kSplit=some y) (b:Nd):
 secondN ns m.kids b=ns[(if x>y then x else y)]! :=by
 obtain ⟨zx,mx,ex,qx⟩:=fieldN_some hx;obtain ⟨zy,my,ey,qy⟩:=fieldN_some hy;have lx:=h.low zx mx;have ly:=h.low zy my;have hle:∀z∈m.kids,(ns[z.toNat]!).key=kService∨(ns[z.toNat]!).key=kSplit→z=zx∨z=zy:=fun z hz hq=>by
  rcases hq with hq|hq
  ·exact .inl (pair_eq (h.keys hk) z hz zx mx (hq.trans qx.symm))
  ·exact .inr (pair_eq (h.keys hk) z hz zy my (hq.trans qy.symm))
 by_cases hg:x>y
 ·rw[if_pos hg,←ex];exact fold_last ns zx m.kids b h.up (fun z hz hq=>by rcases hle z hz hq with rfl|rfl<;>omega) mx (.inl qx)
 ·rw[if_neg hg,←ey];exact fold_last ns zy m.kids b h.up (fun z hz hq=>by rcases hle z hz hq with rfl|rfl<;>omega) my (.inr qy)
theorem isMapR_eq (n:Nd):isMapR n none=(match mapP n with| .ok _=>none| .error e=>some e):=by
 unfold isMapR mapP
 split<;>rfl
theorem mapP_kind {n:Nd} (h:mapP n= .ok ()):n.kind=2:=by
 unfold mapP at h
 split at h
 ·cases h
 ·rename_i hh
  exact Decidable.not_not.1 hh
theorem needWeight_some (ns:List Nd) (m:Nd) (e:Stop):(weightR ns (needR ns m kWeight (some e)).1 (needR ns m kWeight (some e)).2).2=some e:=by
 rw[needR_some,weightR_some]
theorem needWeight (ns:List Nd) (m:Nd):
 Keeps (match needP ns m kWeight with| .error e=> .error e| .ok n=>weightP n) (weightR ns (needR ns m kWeight none).1 (needR ns m kWeight none).2):=by
 cases h:fieldN ns m kWeight with
 |none=>
  rw[needP_none h,needR_no h];rfl
 |some k=>
  rw[needP_some h,needR_of h];unfold weightR;simp only;cases hw:weightP (ns[k]!) with
  |ok x=>rfl
  |error e=>rfl
theorem needWord_some (ns:List Nd) (m:Nd) (key:ByteArray) (so:Option Nat→Bool) (e:Stop):
 (wordR ns (needR ns m key (some e)).1 (so (needR ns m key (some e)).1) (needR ns m key (some e)).2).2=some e:=by
 rw[needR_some,wordR_some]
theorem targetT_some (ns:List Nd) (k:Nat) (e:Stop):(targetT ns k (some e)).2=some e:=by
 have h:(whichR ns k (fieldN ns (ns[k]!) kService) (fieldN ns (ns[k]!) kSplit) (some e)).2=some e:=by
  unfold whichR
  split<;>rfl
 unfold targetT;simp only[h,wordR_some];exact needWeight_some ns _ e
theorem ruleT_some (ns:List Nd) (act:Bool) (k:Nat) (e:Stop):(ruleT ns act k (some e)).2=some e:=by
 have h1:(actR ns act k (some e)).2=some e:=by
  unfold actR
  split
  ·exact needWord_some ns _ _ (fun o=>isAct (textR ns o)) e
  ·rfl
 have h2:(pathR ns k (some e)).2=some e:=needWord_some ns _ _ (fun o=>patB (textR ns o)) e;have h3:(methR ns k (some e)).2=some e:=by
  unfold methR
  split
  ·rfl
  ·rw[wordR_some]
 have h4:(splR ns act k (some e)).2=some e:=by
  unfold splR
  split
  ·rfl
  ·exact needWord_some ns _ _ (fun o=>isName (textR ns o)) e
 unfold ruleT;simp only[h1,h2,h3,h4]
theorem keeps_cases {α:Type} {x:R α} {y:α×St} (h:Keeps x y):(∃a,x= .ok a∧y=(a,none))∨∃e,x= .error e∧y.2=some e:=by
 cases x with
 |ok a=>exact .inl ⟨a,rfl,h⟩
 |error e=>exact .inr ⟨e,rfl,h⟩
theorem targetT_none {ns:List Nd} {k:Nat} (h:MapOk ns (ns[k]!)) (hk:(ns[k]!).kind=2):
 Keeps (match (match fieldP ns (ns[k]!) kService,fieldP ns (ns[k]!) kSplit with
  |none,none=>(.error ((ns[k]!).line,122):R (ByteArray×ByteArray))
  |some _,some b=> .error ((secondN ns (ns[k]!).kids b).line,121)
  |some a,none=>(match wordP a isName with| .error e=> .error e| .ok s=> .ok (s,⟨#[]⟩))
  |none,some b=>(match wordP b isName with| .error e=> .error e| .ok s=> .ok (⟨#[]⟩,s))) with
 | .error e=> .error e
 | .ok (a,b)=>
 match needP ns (ns[k]!) kWeight with
 | .error e=> .error e
 | .ok n=>
 match weightP n with
 | .error e=> .error e
 | .ok x=> .ok ⟨a,b,x⟩) (targetT ns k none):=by
 have hw:=keeps_cases (needWeight ns (ns[k]!));unfold targetT;simp only;unfold fieldP;cases ha:fieldN ns (ns[k]!) kService with
 |none=>
  cases hb:fieldN ns (ns[k]!) kSplit with
  |none=>
   simp only[whichR,Option.map_none,failR,wordR_some];exact needWeight_some ns _ _
  |some y=>
   have h1:=keeps_cases (wordR_none ns y isName);simp only[whichR,Option.map_none,Option.map_some];rcases h1 with ⟨s,e1,e2⟩|⟨e,e1,e2⟩
   ·rw[e1,show wordR ns none (isName (textR ns none)) none=(⟨#[]⟩,none) from rfl,e2];simp only;rcases hw with ⟨x,e3,e4⟩|⟨e,e3,e4⟩
    ·cases hn:needP ns (ns[k]!) kWeight with
     |error e=>rw[hn]at e3;cases e3
     |ok n=>
      rw[hn]at e3;simp only at e3 ⊢;rw[e3,e4];rfl
    ·cases hn:needP ns (ns[k]!) kWeight with
     |error e'=>rw[hn]at e3;simp only at e3 ⊢;cases e3;exact e4
     |ok n=>
      rw[hn]at e3;simp only at e3 ⊢;rw[e3];exact e4
   ·rw[e1,show wordR ns none (isName (textR ns none)) none=(⟨#[]⟩,none) from rfl];simp only[e2];exact needWeight_some ns _ _
 |some x=>
  cases hb:fieldN ns (ns[k]!) kSplit with
  |some y=>
   simp only[whichR,Option.map_some,failR,wordR_some];rw[second_is h hk ha hb];exact needWeight_some ns _ _
  |none=>
   have h1:=keeps_cases (wordR_none ns x isName);simp only[whichR,Option.map_none,Option.map_some];rcases h1 with ⟨s,e1,e2⟩|⟨e,e1,e2⟩
   ·rw[e1,e2,show wordR ns none (isName (textR ns none)) none=(⟨#[]⟩,none) from rfl];simp only;rcases hw with ⟨x,e3,e4⟩|⟨e,e3,e4⟩
    ·cases hn:needP ns (ns[k]!) kWeight with
     |error e=>rw[hn]at e3;cases e3
     |ok n=>
      rw[hn]at e3;simp only at e3 ⊢;rw[e3,e4];rfl
    ·cases hn:needP ns (ns[k]!) kWeight with
     |error e'=>rw[hn]at e3;simp only at e3 ⊢;cases e3;exact e4
     |ok n=>
      rw[hn]at e3;simp only at e3 ⊢;rw[e3];exact e4
   ·rw[e1];simp only[e2,wordR_some];exact needWeight_some ns _ _
theorem target_keeps {ns:List Nd} {k:Nat} (h:MapOk ns (ns[k]!)):Keeps (targetP ns (ns[k]!)) (targetR ns k none):=by
 unfold targetP targetR;rw[isMapR_eq];cases hm:mapP (ns[k]!) with
 |error e=>
  simp only;rw[if_pos (show (some e:St)≠none from fun h=>by cases h)];rfl
 |ok u=>
  cases u;have hk:=mapP_kind hm;simp only[ne_eq,not_true_eq_false,if_false];rw[onlyR_none];cases ho:onlyP ns [kService,kSplit,kWeight] (ns[k]!).kids with
  |error e=>exact targetT_some ns k e
  |ok u=>
   cases u;exact targetT_none h hk
theorem ruleT_none (ns:List Nd) (act:Bool) (k:Nat):
 Keeps (match (if act=true then (match needP ns (ns[k]!) kAction with| .error e=> .error e| .ok n=>wordP n isAct) else (.ok ⟨#[]⟩:R ByteArray)) with
 | .error e=> .error e
 | .ok a=>
 match needP ns (ns[k]!) kPath with
 | .error e=> .error e
 | .ok n=>
 match wordP n patB with
 | .error e=> .error e
 | .ok p=>
 match (match fieldP ns (ns[k]!) kMethod with|some n=>wordP n methB|none=>(.ok kStar:R ByteArray)) with
 | .error e=> .error e
 | .ok m=>
 match (if act=true then (.ok ⟨#[]⟩:R ByteArray) else (match needP ns (ns[k]!) kSplit with| .error e=> .error e| .ok n=>wordP n isName)) with
 | .error e=> .error e
 | .ok s=>(.ok ⟨p,m,s,decide (a=kAllow)⟩:R Rul)) (ruleT ns act k none):=by
 have q1:Keeps (if act=true then (match needP ns (ns[k]!) kAction with| .error e=> .error e| .ok n=>wordP n isAct) else (.ok ⟨#[]⟩:R ByteArray)) (actR ns act k none):=by
  unfold actR;cases act with
  |true=>exact needWord ns _ _ isAct
  |false=>rfl
 have q2:Keeps (match needP ns (ns[k]!) kPath with| .error e=> .error e| .ok n=>wordP n patB) (pathR ns k none):=needWord ns _ _ patB;have q3:Keeps (match fieldP ns (ns[k]!) kMethod with|some n=>wordP n methB|none=>(.ok kStar:R ByteArray)) (methR ns k none):=by
  unfold methR fieldP;cases hm:fieldN ns (ns[k]!) kMethod with
  |none=>rfl
  |some y=>exact wordR_none ns y methB
 have q4:Keeps (if act=true then (.ok ⟨#[]⟩:R ByteArray) else (match needP ns (ns[k]!) kSplit with| .error e=> .error e| .ok n=>wordP n isName)) (splR ns act k none):=by
  unfold splR;cases act with
  |true=>rfl
  |false=>exact needWord ns _ _ isName
 have s2:∀e,(pathR ns k (some e)).2=some e:=fun e=>needWord_some ns _ _ (fun o=>patB (textR ns o)) e;have s3:∀e,(methR ns k (some e)).2=some e:=fun e=>by
  unfold methR
  split
  ·rfl
  ·rw[wordR_some]
 have s4:∀e,(splR ns act k (some e)).2=some e:=fun e=>by
  unfold splR
  split
  ·rfl
  ·exact needWord_some ns _ _ (fun o=>isName (textR ns o)) e
 unfold ruleT;simp only;rcases keeps_cases q1 with ⟨a,e1,f1⟩|⟨e,e1,f1⟩
 ·rw[e1,f1];simp only;rcases keeps_cases q2 with ⟨p,e2,f2⟩|⟨e,e2,f2⟩
  ·cases hn:needP ns (ns[k]!) kPath with
   |error e=>rw[hn]at e2;cases e2
   |ok n=>
    rw[hn]at e2;simp only at e2 ⊢;rw[e2,f2];simp only;rcases keeps_cases q3 with ⟨m,e3,f3⟩|⟨e,e3,f3⟩
    ·rw[e3,f3];simp only;rcases keeps_cases q4 with ⟨s,e4,f4⟩|⟨e,e4,f4⟩
     ·rw[e4,f4];rfl
     ·rw[e4];exact f4
    ·rw[e3];simp only[f3];exact s4 e
  ·cases hn:needP ns (ns[k]!) kPath with
   |error e'=>
    rw[hn]at e2;simp only at e2 ⊢;cases e2;simp only[f2,s3];exact s4 _
   |ok n=>
    rw[hn]at e2;simp only at e2 ⊢;rw[e2];simp only[f2,s3];exact s4 _
 ·rw[e1];simp only[f1,s2,s3];exact s4 _
theorem rule_keeps (ns:List Nd) (act:Bool) (k:Nat):Keeps (ruleP ns act (ns[k]!)) (ruleR ns act k none):=by
 unfold ruleP ruleR;rw[isMapR_eq];cases hm:mapP (ns[k]!) with
 |error e=>
  simp only;rw[if_pos (show (some e:St)≠none from fun h=>by cases h)];rfl
 |ok u=>
  cases u;simp only[ne_eq,not_true_eq_false,if_false];rw[onlyR_none];cases ho:onlyP ns [kPath,kMethod,if act=true then kAction else kSplit] (ns[k]!).kids with
  |error e=>exact ruleT_some ns act k e
  |ok u=>
   cases u;exact ruleT_none ns act k
def endpR (ns:List Nd):List Int→List ByteArray→St→List ByteArray×St
 |[],out,st=>(out,st)
 |k::r,out,st=>
  let p:=wordR ns (some k.toNat) (isName (ns[k.toNat]!).text) st
  endpR ns r (out++[p.1]) (if p.2=none∧p.1∈out then some ((ns[k.toNat]!).line,91) else p.2)
def targetsR (ns:List Nd):List Int→List Tgt→St→List Tgt×St
 |[],out,st=>(out,st)
 |k::r,out,st=>
  match st with
  |some e=>(out,some e)
  |none=>targetsR ns r (out++[(targetR ns k.toNat none).1]) (targetR ns k.toNat none).2
def rulesR (ns:List Nd) (act:Bool):List Int→List Rul→St→List Rul×St
 |[],out,st=>(out,st)
 |k::r,out,st=>
  match st with
  |some e=>(out,some e)
  |none=>rulesR ns act r (out++[(ruleR ns act k.toNat none).1]) (ruleR ns act k.toNat none).2
theorem endpR_some (ns:List Nd) (e:Stop):∀(l:List Int) (out:List ByteArray),(endpR ns l out (some e)).2=some e
 |[],_=>rfl
 |k::r,out=>by
  unfold endpR;simp only[wordR_some];rw[if_neg (by simp)];exact endpR_some ns e r _
theorem endp_keeps (ns:List Nd):∀(l:List Int) (out:List ByteArray),Keeps (endpP (l.map fun k=>ns[k.toNat]!) out) (endpR ns l out none)
 |[],out=>rfl
 |k::r,out=>by
  have h1:=keeps_cases (wordR_none ns k.toNat isName);unfold endpR;simp only[List.map_cons];unfold endpP;rcases h1 with ⟨s,e1,e2⟩|⟨e,e1,e2⟩
  ·have e3:wordR ns (some k.toNat) (isName (ns[k.toNat]!).text) none=(s,none):=e2;rw[e1,e3];simp only[true_and];by_cases hm:s∈out
   ·rw[if_pos hm,if_pos hm];exact endpR_some ns _ r _
   ·rw[if_neg hm,if_neg hm];exact endp_keeps ns r _
  ·have e3:(wordR ns (some k.toNat) (isName (ns[k.toNat]!).text) none).2=some e:=e2;rw[e1];simp only[e3];rw[if_neg (by simp)];exact endpR_some ns _ r _
theorem targetsR_some (ns:List Nd) (e:Stop) (l:List Int) (out:List Tgt):targetsR ns l out (some e)=(out,some e):=by
 cases l<;>rfl
theorem rulesR_some (ns:List Nd) (act:Bool) (e:Stop) (l:List Int) (out:List Rul):rulesR ns act l out (some e)=(out,some e):=by
 cases l<;>rfl
theorem targets_keeps {ns:List Nd} (hn:∀j,j<ns.length→MapOk ns (ns[j]!)):∀(l:List Int) (out:List Tgt),(∀k∈l,0≤k∧k<(ns.length:Int))→
 Keeps (targetsP ns (l.map fun k=>ns[k.toNat]!) out) (targetsR ns l out none)
 |[],out,_=>rfl
 |k::r,out,h=>by
  have hk:=h k (List.mem_cons_self ..);have h1:=keeps_cases (target_keeps (hn k.toNat (by omega)));unfold targetsR;simp only[List.map_cons];unfold targetsP;rcases h1 with ⟨t,e1,e2⟩|⟨e,e1,e2⟩
  ·rw[e1,e2];exact targets_keeps hn r _ fun z hz=>h z (List.mem_cons_of_mem _ hz)
  ·rw[e1,e2,targetsR_some];rfl
theorem rules_keeps (ns:List Nd) (act:Bool):∀(l:List Int) (out:List Rul),Keeps (rulesL ns act (l.map fun k=>ns[k.toNat]!) out) (rulesR ns act l out none)
 |[],out=>rfl
 |k::r,out=>by
  have h1:=keeps_cases (rule_keeps ns act k.toNat);unfold rulesR;simp only[List.map_cons];unfold rulesL;rcases h1 with ⟨t,e1,e2⟩|⟨e,e1,e2⟩
  ·rw[e1,e2];exact rules_keeps ns act r _
  ·rw[e1,e2,rulesR_some];rfl
theorem listR_some (ns:List Nd) (k:Option Nat) (a b:Nat) (e:Stop):listR ns k a b (some e)=([],some e):=by
 cases k<;>rfl
theorem listR_none (ns:List Nd) (k a b:Nat):
 (∃e,listP ns (ns[k]!) a b= .error e∧listR ns (some k) a b none=([],some e))∨
 (listP ns (ns[k]!) a b= .ok ((ns[k]!).kids.map fun k=>ns[k.toNat]!)∧listR ns (some k) a b none=((ns[k]!).kids,none)):=by
 unfold listP listR;simp only
 split
 ·exact .inl ⟨_,rfl,rfl⟩
 ·split
  ·exact .inl ⟨_,rfl,rfl⟩
  ·exact .inr ⟨rfl,rfl⟩
def serviceR (ns:List Nd) (r:Res) (st:St):Res×St:=
 let st1:=onlyR ns [kKind,kName,kEndpoints] (ns[0]!).kids st
 let l:=listR ns (fieldN ns (ns[0]!) kEndpoints) 0 16 st1
 let o:=endpR ns l.1 [] l.2
 ({r with endps:=o.1},o.2)
def splitR (ns:List Nd) (r:Res) (st:St):Res×St:=
 let st1:=onlyR ns [kKind,kName,kTargets] (ns[0]!).kids st
 let n:=needR ns (ns[0]!) kTargets st1
 let l:=listR ns n.1 1 8 n.2
 let o:=targetsR ns l.1 [] l.2
 ({r with targets:=o.1},o.2)
def rulesT (ns:List Nd) (act:Bool) (r:Res) (st:St):Res×St:=
 let n:=needR ns (ns[0]!) kRules st
 let l:=listR ns n.1 1 16 n.2
 let o:=rulesR ns act l.1 [] l.2
 ({r with rules:=o.1},o.2)
def foldB (s:ByteArray):ByteArray:=⟨(s.data.toList.map foldC).toArray⟩
def routeR (ns:List Nd) (r:Res) (st:St):Res×St:=
 let st1:=onlyR ns [kKind,kName,kHost,kRules] (ns[0]!).kids st
 let n:=needR ns (ns[0]!) kHost st1
 let w:=wordR ns n.1 (hostB (textR ns n.1)) n.2
 rulesT ns false {r with host:=foldB w.1} w.2
def policyR (ns:List Nd) (r:Res) (st:St):Res×St:=
 let st1:=onlyR ns [kKind,kName,kRoute,kRules] (ns[0]!).kids st
 let n:=needR ns (ns[0]!) kRoute st1
 let w:=wordR ns n.1 (isName (textR ns n.1)) n.2
 rulesT ns true {r with route:=w.1} w.2
def restR (ns:List Nd) (r:Res) (k:Nat) (st:St):Res×St:=
 if k=1 then serviceR ns r st else if k=2 then splitR ns r st else if k=3 then routeR ns r st else policyR ns r st
theorem rulesT_some (ns:List Nd) (act:Bool) (r:Res) (e:Stop):(rulesT ns act r (some e)).2=some e:=by
 unfold rulesT;simp only[needR_some,listR_some,rulesR_some]
theorem rulesT_none (ns:List Nd) (act:Bool) (r:Res):Keeps (rulesP ns act (ns[0]!) r) (rulesT ns act r none):=by
 unfold rulesP rulesT;simp only;cases hf:fieldN ns (ns[0]!) kRules with
 |none=>
  rw[needP_none hf,needR_no hf];rfl
 |some k=>
  rw[needP_some hf,needR_of hf];simp only;rcases listR_none ns k 1 16 with ⟨e,e1,e2⟩|⟨e1,e2⟩
  ·rw[e1,e2];rfl
  ·rw[e1,e2];simp only;rcases keeps_cases (rules_keeps ns act (ns[k]!).kids []) with ⟨o,e3,e4⟩|⟨e,e3,e4⟩
   ·rw[e3,e4];rfl
   ·rw[e3];exact e4
theorem rest_keeps {ns:List Nd} (hn:∀j,j<ns.length→MapOk ns (ns[j]!)) (h0:0<ns.length) (r:Res) (k:Nat) (hr:r.endps=[]∧r.targets=[]∧r.rules=[]):
 Keeps (bodyP ns (ns[0]!) r k) (restR ns r k none):=by
 unfold bodyP restR;by_cases k1:k=1
 ·subst k1;rw[if_pos rfl,if_pos rfl];unfold serviceR;simp only[onlyR_none];rw[show (kKind::kName::ownF 1)=[kKind,kName,kEndpoints] from rfl];cases ho:onlyP ns [kKind,kName,kEndpoints] (ns[0]!).kids with
  |error e=>
   simp only[listR_some];rfl
  |ok u=>
   simp only;unfold serviceP fieldP;cases hf:fieldN ns (ns[0]!) kEndpoints with
   |none=>
    simp only[Option.map_none]
    show ({r with endps:=[]},none)=(r,none)
    rw[←hr.1]
   |some k=>
    simp only[Option.map_some];rcases listR_none ns k 0 16 with ⟨e,e1,e2⟩|⟨e1,e2⟩
    ·rw[e1,e2];rfl
    ·rw[e1,e2];simp only;rcases keeps_cases (endp_keeps ns (ns[k]!).kids []) with ⟨o,e3,e4⟩|⟨e,e3,e4⟩
     ·rw[e3,e4];rfl
     ·rw[e3];exact e4
 ·rw[if_neg k1,if_neg k1];by_cases k2:k=2
  ·subst k2;rw[if_pos rfl,if_pos rfl];unfold splitR;simp only[onlyR_none];rw[show (kKind::kName::ownF 2)=[kKind,kName,kTargets] from rfl];cases ho:onlyP ns [kKind,kName,kTargets] (ns[0]!).kids with
   |error e=>
    simp only[needR_some,listR_some];rfl
   |ok u=>
    simp only;unfold splitP;cases hf:fieldN ns (ns[0]!) kTargets with
    |none=>
     rw[needP_none hf,needR_no hf];rfl
    |some k=>
     rw[needP_some hf,needR_of hf];simp only;have hlow:∀z∈(ns[k]!).kids,0≤z∧z<(ns.length:Int):=by
      obtain ⟨z,hz,ez,_⟩:=fieldN_some hf;have:=(hn 0 h0).low z hz;exact (hn k (by omega)).low
     rcases listR_none ns k 1 8 with ⟨e,e1,e2⟩|⟨e1,e2⟩
     ·rw[e1,e2];rfl
     ·rw[e1,e2];simp only;rcases keeps_cases (targets_keeps hn (ns[k]!).kids [] hlow) with ⟨o,e3,e4⟩|⟨e,e3,e4⟩
      ·rw[e3,e4];rfl
      ·rw[e3];exact e4
  ·rw[if_neg k2,if_neg k2];by_cases k3:k=3
   ·subst k3;rw[if_pos rfl,if_pos rfl];unfold routeR;simp only[onlyR_none];rw[show (kKind::kName::ownF 3)=[kKind,kName,kHost,kRules] from rfl];cases ho:onlyP ns [kKind,kName,kHost,kRules] (ns[0]!).kids with
    |error e=>
     simp only[needR_some,wordR_some];exact rulesT_some ns false _ e
    |ok u=>
     simp only;unfold routeP;rcases keeps_cases (needWord ns (ns[0]!) kHost hostB) with ⟨s,e3,e4⟩|⟨e,e3,e4⟩
     ·cases hm:needP ns (ns[0]!) kHost with
      |error e=>rw[hm]at e3;cases e3
      |ok n=>
       rw[hm]at e3;simp only at e3 ⊢;rw[e3,e4];exact rulesT_none ns false _
     ·cases hm:needP ns (ns[0]!) kHost with
      |error e'=>
       rw[hm]at e3;simp only at e3 ⊢;cases e3;simp only[e4];exact rulesT_some ns false _ _
      |ok n=>
       rw[hm]at e3;simp only at e3 ⊢;rw[e3];simp only[e4];exact rulesT_some ns false _ _
   ·rw[if_neg k3,if_neg k3];unfold policyR;simp only[onlyR_none];rw[show (kKind::kName::ownF k)=[kKind,kName,kRoute,kRules] from by unfold ownF;rw[if_neg k1,if_neg k2,if_neg k3]];cases ho:onlyP ns [kKind,kName,kRoute,kRules] (ns[0]!).kids with
    |error e=>
     simp only[needR_some,wordR_some];exact rulesT_some ns true _ e
    |ok u=>
     simp only;unfold policyP;rcases keeps_cases (needWord ns (ns[0]!) kRoute isName) with ⟨s,e3,e4⟩|⟨e,e3,e4⟩
     ·cases hm:needP ns (ns[0]!) kRoute with
      |error e=>rw[hm]at e3;cases e3
      |ok n=>
       rw[hm]at e3;simp only at e3 ⊢;rw[e3,e4];exact rulesT_none ns true _
     ·cases hm:needP ns (ns[0]!) kRoute with
      |error e'=>
       rw[hm]at e3;simp only at e3 ⊢;cases e3;simp only[e4];exact rulesT_some ns true _ _
      |ok n=>
       rw[hm]at e3;simp only at e3 ⊢;rw[e3];simp only[e4];exact rulesT_some ns true _ _
def endR (r:Res) (st:St):Res×Int×Int:=
 match st with
 |none=>(r,0,0)
 |some (l,e)=>(Res.zero,l,e)
def headR (ns:List Nd):Res×St:=
 let k:=needR ns (ns[0]!) kKind none
 let kd:=match k.1 with|none=>0|some x=>kindN (ns[x]!)
 let st1:=match k.1 with|none=>k.2|some x=>if kindN (ns[x]!)=0 then failR k.2 (ns[x]!).line 120 else k.2
 let n:=if st1=none then needR ns (ns[0]!) kName st1 else (none,st1)
 let w:=wordR ns n.1 (isName (textR ns n.1)) n.2
 ({Res.zero with kind:=(kd:Int),name:=w.1},w.2)
def tailR (ns:List Nd) (r:Res):Res×St:=
 match fieldN ns (ns[0]!) kDelete with
 |some x=>({r with del:=true},onlyR ns [kKind,kName,kDelete] (ns[0]!).kids (if isTrue (ns[x]!)=false then some ((ns[x]!).line,123) else none))
 |none=>restR ns r r.kind.toNat none
def docR (ns:List Nd):Res×Int×Int:=
 if treeR ns=false then (Res.zero,0,100)
 else if isMapR (ns[0]!) none≠none then endR Res.zero (isMapR (ns[0]!) none)
 else if (headR ns).2≠none then endR Res.zero (headR ns).2
 else endR (tailR ns (headR ns).1).1 (tailR ns (headR ns).1).2
def outR (x:R Res):Res×Int×Int:=
 match x with
 | .ok r=>(r,0,0)
 | .error (l,e)=>(Res.zero,l,e)
theorem endR_keeps {x:R Res} {y:Res×St} (h:Keeps x y):endR y.1 y.2=outR x:=by
 rcases keeps_cases h with ⟨a,rfl,rfl⟩|⟨⟨l,e⟩,rfl,h2⟩
 ·rfl
 ·rw[h2];rfl
theorem headR_none {ns:List Nd} (h:fieldN ns (ns[0]!) kKind=none):(headR ns).2=some ((ns[0]!).line,122):=by
 unfold headR;simp only[needR_no h,failR,reduceCtorEq,if_false,wordR_some]
theorem headR_bad {ns:List Nd} {k:Nat} (h:fieldN ns (ns[0]!) kKind=some k) (hz:kindN (ns[k]!)=0):(headR ns).2=some ((ns[k]!).line,120):=by
 unfold headR;simp only[needR_of h,hz,if_true,failR,reduceCtorEq,if_false,wordR_some]
theorem headR_ok {ns:List Nd} {k:Nat} (h:fieldN ns (ns[0]!) kKind=some k) (hz:¬kindN (ns[k]!)=0):
 headR ns=({Res.zero with kind:=(kindN (ns[k]!):Int),name:=(wordR ns (needR ns (ns[0]!) kName none).1 (isName (textR ns (needR ns (ns[0]!) kName none).1)) (needR ns (ns[0]!) kName none).2).1},(wordR ns (needR ns (ns[0]!) kName none).1 (isName (textR ns (needR ns (ns[0]!) kName none).1)) (needR ns (ns[0]!) kName none).2).2):=by
 unfold headR;simp only[needR_of h,if_neg hz,if_true]
theorem docR_head {ns:List Nd} {l e:Int} (ht:treeR ns=true) (hm:mapP (ns[0]!)= .ok ()) (h:(headR ns).2=some (l,e)):docR ns=(Res.zero,l,e):=by
 unfold docR;rw[if_neg (by rw[ht];decide),isMapR_eq,hm];simp only[ne_eq,not_true_eq_false,if_false,h,reduceCtorEq,not_false_eq_true,if_true];rfl
theorem docR_tail {ns:List Nd} (ht:treeR ns=true) (hm:mapP (ns[0]!)= .ok ()) (h:(headR ns).2=none):docR ns=endR (tailR ns (headR ns).1).1 (tailR ns (headR ns).1).2:=by
 unfold docR;rw[if_neg (by rw[ht];decide),isMapR_eq,hm];simp only[ne_eq,not_true_eq_false,if_false,h]
theorem doc_same (ns:List Nd):docR ns=outR (docP ns):=by
 cases ht:treeR ns with
 |false=>
  unfold docR docP;rw[treeP_treeR,ht];rfl
 |true=>
  obtain ⟨⟨hne,_,_⟩,hg⟩:=(treeR_iff ns).1 ht;have h0:0<ns.length:=List.length_pos_iff.2 hne;have hn:∀j,j<ns.length→MapOk ns (ns[j]!):=fun j hj=>mapOk_of (hg.node j hj);unfold docP;rw[treeP_treeR,ht,if_neg (by decide)];cases hm:mapP (ns[0]!) with
  |error e=>
   unfold docR;rw[if_neg (by rw[ht];decide),isMapR_eq,hm];simp only[ne_eq,reduceCtorEq,not_false_eq_true,if_true];obtain ⟨l,c⟩:=e;rfl
  |ok u=>
   cases u;simp only;cases hk:fieldN ns (ns[0]!) kKind with
   |none=>
    rw[needP_none hk,docR_head ht hm (headR_none hk)];rfl
   |some k=>
    rw[needP_some hk];simp only;by_cases hz:kindN (ns[k]!)=0
    ·rw[if_pos hz,docR_head ht hm (headR_bad hk hz)];rfl
    ·rw[if_neg hz];have hH:=headR_ok hk hz;rcases keeps_cases (needWord ns (ns[0]!) kName isName) with ⟨s,e3,e4⟩|⟨⟨l,e⟩,e3,e4⟩
     ·rw[e4]at hH;simp only at hH;rw[docR_tail ht hm (by rw[hH]),hH];cases hnn:needP ns (ns[0]!) kName with
      |error e=>rw[hnn]at e3;cases e3
      |ok n=>
       rw[hnn]at e3;simp only at e3 ⊢;rw[e3];simp only;unfold tailR fieldP;cases hd:fieldN ns (ns[0]!) kDelete with
       |some x=>
        simp only[Option.map_some];cases hi:isTrue (ns[x]!) with
        |false=>
         rw[if_pos rfl,if_pos rfl,onlyR_some];rfl
        |true=>
         simp only[Bool.true_eq_false,if_false];rw[onlyR_none];cases ho:onlyP ns [kKind,kName,kDelete] (ns[0]!).kids with
         |ok u=>rfl
         |error e=>rfl
       |none=>
        simp only[Option.map_none];exact endR_keeps (rest_keeps hn h0 _ _ ⟨rfl,rfl,rfl⟩)
     ·have h2:(headR ns).2=some (l,e):=by rw[hH];exact e4
      rw[docR_head ht hm h2];cases hnn:needP ns (ns[0]!) kName with
      |error e'=>
       rw[hnn]at e3;simp only at e3 ⊢;cases e3;rfl
      |ok n=>
       rw[hnn]at e3;simp only at e3 ⊢;rw[e3];rfl
def Pan (e:Stop):Ending:= .panicked [{v:= .iface 76 (.agg #[.int .i64 e.1,.int .i64 e.2]),recovered:=false}]
theorem fail_c (w:World) (l e:Int):Calls Tryz.prog 40 #[.int .i64 l,.int .i64 e] w fun r w'=>r=Pan (l,e)∧w'=w:=by
 go_enter Tryz.func40,Tryz.ntmps40;go_wp2;exact ⟨rfl,rfl,rfl⟩
structure DocM (w:World) (db b o cap:Nat) (ms:List NdM):Prop where
 nod:Nds w (.slice (some ⟨b,o,none⟩) ms.length cap) ms
 blt:b<w.heap.size
 doc:w.heap[db]? =some (.cells #[.slice (some ⟨b,o,none⟩) ms.length cap] 79 (0,0))
 tree:treeP (nds ms)=true
theorem DocM.later {w w2:World} {db b o cap:Nat} {ms:List NdM} (h:DocM w db b o cap ms) (hb:Below w.heap.size w w2):DocM w2 db b o cap ms:=
 ⟨h.nod.later hb,Nat.lt_of_lt_of_le h.blt hb.size,(hb.block _ (lt_of_heap h.doc)).trans h.doc,h.tree⟩
theorem DocM.at {w:World} {db b o cap:Nat} {ms:List NdM} (h:DocM w db b o cap ms) {i:Nat} {m:NdM} (hm:ms[i]? =some m):NdAt w b (o+i*6) m∧m.Ok w:=by
 obtain ⟨ao,cap',hv,hl,hat⟩:=h.nod.open;have h0:0<ms.length:=by have:=(List.getElem?_eq_some_iff.1 hm).1;omega
 obtain ⟨b',o',rfl,hlt,hat⟩:=hat h0;simp only[Value.slice.injEq,Option.some.injEq,Addr.mk.injEq,and_true,true_and]at hv;obtain ⟨⟨rfl,rfl⟩,rfl⟩:=hv;exact hat i m hm
theorem DocM.ok {w:World} {db b o cap:Nat} {ms:List NdM} (h:DocM w db b o cap ms) {m:NdM} (hm:m∈ms):m.Ok w:=h.nod.each m hm
theorem DocM.mapOk {w:World} {db b o cap:Nat} {ms:List NdM} (h:DocM w db b o cap ms) {m:NdM} (hm:m∈ms):MapOk (nds ms) m.nd:=by
 obtain ⟨i,hi,e⟩:=List.getElem_of_mem hm;have h2:ms[i]? =some m:=by rw[List.getElem?_eq_getElem hi,e]
 obtain ⟨_,hg⟩:=(treeP_iff _).1 h.tree;have:=mapOk_of (hg.node i (by rw[nds_len];exact hi));rw[nds_at h2]at this;exact this
theorem DocM.kid {w:World} {db b o cap:Nat} {ms:List NdM} (h:DocM w db b o cap ms) {m:NdM} (hm:m∈ms) {x:Int} (hx:x∈m.nd.kids):∃(k:Nat) (mk:NdM),x=(k:Int)∧ms[k]? =some mk∧mk∈ms:=by
 obtain ⟨h1,h2⟩:=(h.mapOk hm).low x hx;rw[nds_len]at h2;obtain ⟨mk,hmk⟩:∃mk,ms[x.toNat]? =some mk:=at_of_lt (by omega);exact ⟨x.toNat,mk,by omega,hmk,List.mem_of_getElem? hmk⟩
def fieldA (b o:Nat) (x:Option Nat):Value:= .pointer (x.map fun k=>⟨b,o+k*6,none⟩)
def findK (ns:List Nd) (l:List Int) (key:ByteArray):Option Nat:=(l.find? fun k=>decide ((ns[k.toNat]!).key=key)).map Int.toNat
theorem fieldN_find (ns:List Nd) (m:Nd) (key:ByteArray):fieldN ns m key=findK ns m.kids key:=rfl
theorem findK_yes {ns:List Nd} {k:Nat} {r:List Int} {key:ByteArray} (h:(ns[k]!).key=key):findK ns ((k:Int)::r) key=some k:=by
 unfold findK;rw[List.find?_cons_of_pos (by simpa using h)];simp
theorem findK_no {ns:List Nd} {k:Nat} {r:List Int} {key:ByteArray} (h:¬(ns[k]!).key=key):findK ns ((k:Int)::r) key=findK ns r key:=by
 unfold findK;rw[List.find?_cons_of_neg (by simpa using h)]
theorem drop_at {α:Type} {l:List α} {j:Nat} {x:α} (h:l[j]? =some x):l.drop j=x::l.drop (j+1):=by
 obtain ⟨hlt,he⟩:=List.getElem?_eq_some_iff.1 h;rw[List.drop_eq_getElem_cons hlt,he]
theorem field_c (w:World) (db b o cap:Nat) (ms:List NdM) (h:DocM w db b o cap ms) (m:NdM) (hm:m∈ms) (key:ByteArray):
 Calls Tryz.prog 43 #[.pointer (some ⟨db,0,none⟩),m.v,.string key] w fun r w'=>r= .returned (fieldA b o (fieldN (nds ms) m.nd key))∧Below w.heap.size w w':=by
 have hok:=h.ok hm;obtain ⟨ao2,c2,hkv,hl2,hks⟩:=ints_open hok.kids;obtain ⟨q,hq⟩:∃q,q=m.nd.kids.length:=⟨_,rfl⟩;rw[←hq]at hkv hl2 hks;have HD:=hid h;obtain ⟨n,hn⟩:∃n,n=ms.length:=⟨_,rfl⟩;have hdoc:=h.doc;rw[←hn]at hdoc;have d0:∀ob,(w.alloc ob).cell? ⟨db,0,none⟩=some (.slice (some ⟨b,o,none⟩) n cap):=fun ob=>(World.cell?_of_block (alloc_old ob (lt_of_heap hdoc))).trans (cell_blk hdoc 0);have Hkid:=hid (fun j (hj:j<q)=>show ∃(k:Nat) (mk:NdM),m.nd.kids[j]? =some (k:Int)∧ms[k]? =some mk∧k<n from by
  obtain ⟨x,hx⟩:∃x,m.nd.kids[j]? =some x:=at_of_lt (by omega);obtain ⟨k,mk,e,hk,_⟩:=h.kid hm (List.mem_of_getElem? hx);exact ⟨k,mk,by rw[hx,e],hk,by rw[hn];exact (List.getElem?_eq_some_iff.1 hk).1⟩)
 have Hks:=hid hks;have Hq:=hid hq;have Hl2:=hid hl2;have hv:m.v= .agg #[.int .i64 m.nd.kind,.string m.nd.key,.string m.nd.text,.bool m.nd.quoted,.int .i64 m.nd.line,.slice ao2 q c2]:=by unfold NdM.v;rw[hkv]
 rw[hv,fieldN_find];have Hbn:=hid (fun o=>(Below.refl w.heap.size w).alloc (Nat.le_refl _) o);obtain ⟨kind,hkind⟩:∃kind,kind=m.nd.kind:=⟨_,rfl⟩;rw[←hkind];clear h hm hok hkv hq hks hl2 hn hdoc hv hkind;go_enter Tryz.func43,Tryz.ntmps43;go_wp2
 go_loopw [12] (fun vi wr=>∃j:Nat,vi= .int .i64 (j:Int)∧(w.alloc (.cells #[.int .i64 kind,.string m.nd.key,.string m.nd.text,.bool m.nd.quoted,.int .i64 m.nd.line,.slice ao2 q c2] 55))=wr∧Hid (j≤q∧findK (nds ms) m.nd.kids key=findK (nds ms) (m.nd.kids.drop j) key)) (fun vi _=>q-(intOf vi).toNat)
 case atStart=>exact ⟨0,rfl,rfl,hid ⟨Nat.zero_le _,rfl⟩⟩
 case round=>
  obtain ⟨j,rfl,rfl,H⟩:=hrel;by_cases hj:j<q
  ·have tj:decide (j<q)=true:=dT hj;have bj:(j:Int)<(q:Int):=by omega
   obtain ⟨k,mk,hx,hk,hkn⟩:=Hkid.out j hj;obtain ⟨b2,o2,rfl,hb2,hc⟩:=Hks.out (by omega);have x1:∀ob,(w.alloc ob).cell? ⟨b2,o2+j,none⟩=some (.int .i64 (k:Int)):=fun ob=>(World.cell?_of_block (alloc_old ob hb2)).trans (hc j _ hx);have y1:∀ob,(w.alloc ob).cell? ⟨b,o+k*6+1,none⟩=some (.string mk.nd.key):=fun ob=>(World.cell?_of_block (alloc_old ob HD.out.blt)).trans (HD.out.at hk).1.c1;have bk:(k:Int)<(n:Int):=by omega
   have hst:=H.out.2;rw[drop_at hx]at hst;have hkd:=nds_at hk;by_cases e:mk.nd.key=key
   ·have te:=same_yes e;rw[findK_yes (by rw[hkd];exact e)]at hst;have Hst:=hid hst;clear hst hkd hk hx hc hb2 H Hkid Hks hj hkn e HD;go_wp2;go_ret;exact ⟨by rw[Hst.out];rfl,Hbn.out _⟩
   ·have te:=same_no e;rw[findK_no (by rw[hkd];exact e)]at hst;have Hst:=hid (show j+1≤q∧findK (nds ms) m.nd.kids key=findK (nds ms) (m.nd.kids.drop (j+1)) key from ⟨hj,hst⟩);obtain ⟨Hms,Hgo⟩:=step_two (k:=j) (n:=q) hj (by have:=Hl2.out;omega);clear hst hkd hk hx hc hb2 H Hkid Hks hj hkn e HD;go_wp2;go_roundw
    case rel=>exact ⟨j+1,Hgo.out,trivial,Hst⟩
    case measure=>exact Hms.out
  ·have tj:decide (j<q)=false:=dF hj;have Hst:=hid (show findK (nds ms) m.nd.kids key=none from by
    rw[H.out.2,List.drop_eq_nil_of_le (by have:=Hq.out;omega)];rfl)
   clear H Hkid Hks hj HD;go_wp2;go_ret;exact ⟨by rw[Hst.out];rfl,Hbn.out _⟩
end Go.Proofs.YtfenoaeoedobmaaGreatDoor
