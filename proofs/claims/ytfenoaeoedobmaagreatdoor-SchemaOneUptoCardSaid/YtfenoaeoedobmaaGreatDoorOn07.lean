/-
Parts of a proof.
-/
import Derived.ScopeJumps
import Derived.Outline
import Derived.Test.YtfenoaeoedobmaaGreatDoorOn06
set_option linter.unusedVariables false
set_option linter.unusedSimpArgs false
set_option maxHeartbeats 1000000
set_option maxRecDepth 20000
namespace Go.Proofs.YtfenoaeoedobmaaGreatDoor
open Go Go.RowKit
theorem BL {r:List UInt8} (h:bY r=true):r.takeWhile isD=r:=kz (iq h)
theorem xI {l r:List UInt8} {b:Bool} (hm:bn l=(r,b)) (h:bY (r.takeWhile isD)=false):nF l=none/\kx l=none:=by
 refine ⟨sG hm ?_,sT hm ?_⟩
 ·cases hq:bY r with
  |false=>rfl
  |true=>rw[BL hq,hq]at h;cases h
 ·rintro ⟨t,_,q⟩;rw[q]at h;cases h
theorem eu (r:List UInt8):(r.takeWhile isD).all isD=true:=List.all_takeWhile
theorem BM {r:List UInt8} (h0:(r.takeWhile isD).length≠0) (h:¬(1<(r.takeWhile isD).length/\(r.takeWhile isD).head? =some 48)):bY (r.takeWhile isD)=true:=by
 have hd:=eu r;generalize r.takeWhile isD=d at*;unfold bY ky;rw[hd];cases d with
 |nil=>exact absurd rfl h0
 |cons c q=>
  simp only[List.isEmpty_cons,Bool.not_false,Bool.and_true,Bool.true_and,Bool.or_eq_true,decide_eq_true_eq];rcases Nat.lt_or_ge 1 (c::q).length with h1|h1
  ·exact .inl fun e=>h ⟨h1,e⟩
  ·exact .inr (by simp at h1 |-;exact h1)
theorem J0 {r:List UInt8} (h:1<(r.takeWhile isD).length) (h2:(r.takeWhile isD).head? =some 48):bY (r.takeWhile isD)=false:=by
 cases hq:bY (r.takeWhile isD) with
 |false=>rfl
 |true=>
  unfold bY at hq;simp only[Bool.and_eq_true,Bool.or_eq_true,decide_eq_true_eq]at hq;rcases hq.2 with h3|h3
  ·exact absurd h2 h3
  ·omega
theorem QQ {r:List UInt8} (h:0<(r.takeWhile isD).length):(r.takeWhile isD).head? =r.head? :=by
 cases r with
 |nil=>rfl
 |cons c q=>
  rw[List.takeWhile_cons]at h |-
  split
  ·rfl
  ·rename_i hn
   rw[if_neg hn]at h;simp at h
theorem rU (r:List UInt8):(r.takeWhile isD).length<=r.length:=List.IsPrefix.length_le (List.takeWhile_prefix isD)
theorem uS {r:List UInt8} (h:(r.takeWhile isD).length=r.length):r.takeWhile isD=r:=
 List.IsPrefix.eq_of_length (List.takeWhile_prefix isD) h
theorem RN {l r:List UInt8} {b:Bool} (hm:bn l=(r,b)) (h:(r.takeWhile isD).length≠r.length):nF l=none:=by
 refine sG hm ?_;cases hq:bY r with
 |false=>rfl
 |true=>exact absurd (by rw[BL hq]) h
theorem vL (t:List UInt8):∃u,t=t.takeWhile isD++u/\(u=[]\/∃c v,u=c::v/\isD c=false):=by
 refine ⟨t.dropWhile isD,List.takeWhile_append_dropWhile.symm,?_⟩;cases hd:t.dropWhile isD with
 |nil=>exact .inl rfl
 |cons c v=>
  have:=List.head?_dropWhile_not (p:=isD) (l:=t);rw[hd]at this;exact .inr ⟨c,v,rfl,by simpa using this⟩
theorem Pd {s:ByteArray} {pre post:List UInt8} {c:UInt8} (h:s.data.toList=pre++c::post) {k:Nat} (hk:k=pre.length) (aN:k<s.size):s[k]=c:=by
 subst hk;rw[kh s _ aN];simp[h]
theorem B4 {s:ByteArray} {k:Nat} (aN:k<s.size):s.data.toList=s.data.toList.take k++s[k]::s.data.toList.drop (k+1):=by
 rw[kh s k aN,<-List.drop_eq_getElem_cons (by rw[aj];exact aN),List.take_append_drop]
theorem uR (r:List UInt8):r.takeWhile isD=r.take (r.takeWhile isD).length:=List.prefix_iff_eq_take.1 (List.takeWhile_prefix isD)
theorem Nx {l:List UInt8} {r:ByteArray} {b:Bool} {n:Nat} (hm:bn l=(r.data.toList,b)) (hn:n=(r.data.toList.takeWhile isD).length) (aN:n<r.size) (h:r[n]≠46):kx l=none:=by
 refine sT hm ?_;rintro ⟨t,e,_⟩;exact h (Pd e hn aN)
theorem EV {r:ByteArray} {n:Nat} (hn:n=(r.data.toList.takeWhile isD).length) (aN:n<r.size) (h:r[n]=46):
 r.data.toList=r.data.toList.takeWhile isD++46::(r.extract (n+1) r.size).data.toList:=by
 have e:=B4 aN;rw[h]at e;rw[eL];have:=uR r.data.toList;rw[<-hn]at this;rw[this];exact e
theorem sm {l d t:List UInt8} {b:Bool} (hm:bn l=(d++46::t,b)) (hd:d.all isD=true) (h:(t.takeWhile isD).length=0):kx l=none:=by
 obtain ⟨x,y,ok,hc⟩:∃x y ok,fE t 101=(x,y,ok):=⟨_,_,_,rfl⟩;rw[oF hm hd hc,if_neg];rintro ⟨_,q⟩;obtain ⟨u,e,hu⟩:=vL t;rw[List.eq_nil_of_length_eq_zero h,List.nil_append]at e;have hx:x=(fE t 101).1:=by rw[hc]
 have hall:([]:List UInt8).all isD=true:=rfl;rcases hu with hu|⟨c,v,hu,hcd⟩
 ·rw[e,hu]at hx;rw[hx]at q;cases q
 ·by_cases AW:c=101
  ·have:=Ug (b:=[]) (v:=v) hall;rw[List.nil_append]at this;rw[e,hu,AW,this]at hx;rw[hx]at q;cases q
  ·have:=IF (b:=[]) (v:=v) hall hcd AW;rw[List.nil_append]at this;rw[e,hu]at hx;rw[hx,this]at q;cases q
def DB (d b:List UInt8) (neg:Bool) (k:Option Int):Option (Nat×Int×Bool):=
 match k with
 |some k=>if numN (d++b)<=999999999999999/\b.length<=200/\¬Bad (numN (d++b)) (k-(b.length:Int)) then some (numN (d++b),k-(b.length:Int),neg) else none
 |none=>none
theorem vB {b:List UInt8} (h:b.all isD=true) (h0:b.length≠0):ky b=true:=by
 unfold ky;rw[h];cases b with
 |nil=>exact absurd rfl h0
 |cons c r=>rfl
theorem Bh {l d t:List UInt8} {neg:Bool} (hm:bn l=(d++46::t,neg)) (hw:bY d=true) (h0:(t.takeWhile isD).length≠0) (h:(t.takeWhile isD).length=t.length):
 kx l=DB d (t.takeWhile isD) neg (some 0):=by
 have ht:=uS h;rw[ht]at h0 |-;have hall:t.all isD=true:=by rw[<-ht];exact eu t
 rw[oF hm (iq hw) (S7 hall),if_pos ⟨hw,vB hall h0⟩];rfl
theorem Bg {l d t v:List UInt8} {neg:Bool} (hm:bn l=(d++46::t,neg)) (hw:bY d=true) (h0:(t.takeWhile isD).length≠0) (h:t=t.takeWhile isD++101::v):
 kx l=DB d (t.takeWhile isD) neg (Ct true v):=by
 have hall:=eu t;generalize t.takeWhile isD=b at*;subst h;rw[oF hm (iq hw) (Ug hall),if_pos ⟨hw,vB hall h0⟩];rfl
theorem S2 {l d t v:List UInt8} {c:UInt8} {neg:Bool} (hm:bn l=(d++46::t,neg)) (hd:d.all isD=true) (h:t=t.takeWhile isD++c::v) (hc:isD c=false) (hne:c≠101):
 kx l=none:=by
 obtain ⟨x,y,ok,hcu⟩:∃x y ok,fE t 101=(x,y,ok):=⟨_,_,_,rfl⟩;rw[oF hm hd hcu,if_neg];rintro ⟨_,q⟩;have:=IF (v:=v) (eu t) hc hne;rw[<-h,hcu]at this;simp only at this;rw[this]at q;cases q
theorem DN {t:ByteArray} {k:Nat} (hk:k=(t.data.toList.takeWhile isD).length) (aN:k<t.size):t.data.toList=t.data.toList.takeWhile isD++t[k]::(t.extract (k+1) t.size).data.toList/\isD t[k]=false:=by
 have e:=B4 aN;have h2:=uR t.data.toList;rw[<-hk]at h2;rw[eL];refine ⟨by rw[h2];exact e,?_⟩;obtain ⟨u,e2,hu⟩:=vL t.data.toList;have hlen:=congrArg List.length e2;rw[aBj,<-hk,aj]at hlen;rcases hu with rfl|⟨c,v,rfl,hc⟩
 ·simp at hlen;omega
 ·rw[Pd e2 hk aN];exact hc
theorem P2 {r:ByteArray} {n k N:Nat} (hk:k=((r.extract (n+1) r.size).data.toList.takeWhile isD).length) (hN:N=n+1+k) (aN:N<r.size):
 (r.extract (n+1) r.size).data.toList=(r.extract (n+1) r.size).data.toList.takeWhile isD++r[N]::(r.extract (N+1) r.size).data.toList/\isD r[N]=false:=by
 have hT:(r.extract (n+1) r.size).size=r.size-(n+1):=by
  rw[<-aj,eL,List.length_drop,aj]
 have Sv:k<(r.extract (n+1) r.size).size:=by omega
 have h:=DN hk Sv;have e1:(r.extract (n+1) r.size)[k]=r[N]:=by
  rw[kh _ _ Sv,kh _ _ aN];simp only[eL,List.getElem_drop];congr 1;exact hN.symm
 have e2:((r.extract (n+1) r.size).extract (k+1) (r.extract (n+1) r.size).size).data.toList=(r.extract (N+1) r.size).data.toList:=by
  rw[eL,eL,eL,List.drop_drop];congr 1;omega
 rw[e1,e2]at h;exact h
theorem Cs {v p:List UInt8} {down:Bool} (hm:bn v=(p,down)):Ct true v=if (p.takeWhile isD).length≠0/\(p.takeWhile isD).length<=2/\(p.takeWhile isD).length=p.length then some (if down=true then -(numN p:Int) else (numN p:Int)) else none:=by
 unfold Ct;rw[if_pos rfl,hm];simp only;by_cases h:ky p=true/\p.length<=2
 ·have ht:=kz (nW h.1);have hc:p.length≠0/\p.length<=2/\p.length=p.length:=⟨by intro q;exact IN h.1 (List.eq_nil_of_length_eq_zero q),h.2,rfl⟩;rw[if_pos h,ht,if_pos hc]
 ·rw[if_neg h,if_neg];rintro ⟨h0,h1,h2⟩;have ht:=uS h2;apply h;rw[ht]at h1 h0;refine ⟨vB ?_ h0,h1⟩;rw[<-ht];exact eu p
theorem Eh {l:List UInt8} (h:l.all isD=true) (hl:l.length<=2):mZ l=numN l/\numN l<=99:=by
 have h1:=RM h;have h2:10 ^ l.length<=10 ^ 2:=Nat.pow_le_pow_right (by decide) hl;rw[zU];omega
theorem PO {d b:List UInt8} {neg:Bool} {p:Int} (hp:p<=99) (k:Int) (hk:k=p-(b.length:Int)):
 (Bad (mZ (d++b)) k->DB d b neg (some p)=none)/\(¬Bad (mZ (d++b)) k->DB d b neg (some p)=some (mZ (d++b),k,neg)):=by
 have hb:=P4 (d++b) k b.length p hp hk;unfold DB;simp only;rw[<-hk];constructor
 ·intro h;rw[if_neg (hb.1 h)]
 ·intro h;have h2:=Decidable.of_not_not (fun q=>h (hb.2 q));rw[if_pos h2,SB _ _ h]
theorem zQ {P:Program} {a:Act} {w:World} {Q:Exit->Act->World->Prop} {c rest:Code} (l:Nat) (hf:findLabel c l=some rest)
 (h:∀J:Act->World->Prop,(∀a' w',rest.wp P (Exit.noGoto Q) a' w'->J a' w')->c.wp P (Exit.jump l J Q) a w):(Code.scope c).wp P Q a w:=by
 refine wp_scope_jumps l (fun a' w'=>rest.wp P (Exit.noGoto Q) a' w') (fun _ _=>0) hf (h _ fun _ _ q=>q) ?_;intro a' w' hJ;refine wp_mono hJ ?_;intro e a2 w2 q;cases e<;>first|exact q|exact q.elim
def Tk (l:List UInt8) (w:World) (e:Ending) (w':World):Prop:=
 ∃(V:Value) (ok:Bool),e= .returned (.tuple #[V,.bool ok])/\Below w.heap.size w w'/\
  (ok=false/\(∃kd i,V=b8 kd false i 0 ⟨#[]⟩)/\nF l=none/\kx l=none\/ok=true/\(∃i,nF l=some i/\V=b8 3 false i 0 ⟨#[]⟩)\/
   ok=true/\nF l=none/\∃m k b,kx l=some (m,k,b)/\V=b8 4 false 0 (if b=true then mL (scW m k) else scW m k) ⟨#[]⟩)
structure NW (w w':World) (x:Nat):Prop where
 below:Below w.heap.size w w'
 r:w'.heap[w.heap.size]? =some (.cells #[.int .i64 0,.bool false,.int .i64 0,.float .f64 0,.string ⟨#[]⟩] 91 (0,0))
 v:w'.heap[w.heap.size+1]? =some (.cells #[.int .i64 4,.bool false,.int .i64 0,.float .f64 x,.string ⟨#[]⟩] 91 (0,0))
theorem NW.first (w:World):NW w ((w.alloc (Obj.cells #[.int .i64 0,.bool false,.int .i64 0,.float .f64 0,.string ⟨#[]⟩] 91)).alloc (Obj.cells #[.int .i64 4,.bool false,.int .i64 0,.float .f64 0,.string ⟨#[]⟩] 91)) 0 where
 below:=((aBi _ _).alloc (aBh _) _).alloc (by simp) _
 r:=by simp[World.alloc,-World.alloc_eq,Array.getElem?_push]
 v:=by
  show ((w.heap.push _).push _)[w.heap.size+1]? =_
  rw[Array.getElem?_push,if_pos (by simp)]
theorem NW.drewN {w w':World} {x:Nat} (h:NW w w' x) (n:Nat):NW w (w'.drewN n) x:=
 ⟨h.below.trans ⟨rfl,rfl,rfl,aBh _,fun _ _=>rfl⟩,h.r,h.v⟩
theorem NW.later {w w' w2:World} {x:Nat} (h:NW w w' x) (hb:Below w'.heap.size w' w2):NW w w2 x:=by
 have aN:w.heap.size+1<w'.heap.size:=by
  rcases Nat.lt_or_ge (w.heap.size+1) w'.heap.size with q|q
  ·exact q
  ·have:=h.v;rw[Array.getElem?_eq_none q]at this;cases this
 exact ⟨h.below.trans (hb.mono h.below.size),(hb.block _ (by omega)).trans h.r,(hb.block _ aN).trans h.v⟩
theorem NW.real {w w':World} {x:Nat} (h:NW w w' x) (y:Nat):NW w (w'.setCell ⟨w.heap.size+1,3,none⟩ (.float .f64 y)) y:=by
 refine ⟨h.below.setCell (Nat.le_succ _) _,?_,?_⟩
 ·rw[Below.heap_setCell _ _ _ _ (by simp)];exact h.r
 ·have:=h.v;simp only[World.setCell,Array.getElem?_modify,this];simp
theorem de {w:World} {b:Nat} {v0 v1 v2 v3 v4:Value} (h:w.heap[b]? =some (.cells #[v0,v1,v2,v3,v4] 91 (0,0))):
 (w.cell? ⟨b,0,none⟩=some v0/\w.cell? ⟨b,1,none⟩=some v1/\w.cell? ⟨b,2,none⟩=some v2/\w.cell? ⟨b,3,none⟩=some v3/\w.cell? ⟨b,4,none⟩=some v4)/\
 (w.frozen? ⟨b,0,none⟩=false/\w.frozen? ⟨b,1,none⟩=false/\w.frozen? ⟨b,2,none⟩=false/\w.frozen? ⟨b,3,none⟩=false/\w.frozen? ⟨b,4,none⟩=false):=by
 refine ⟨⟨?_,?_,?_,?_,?_⟩,?_,?_,?_,?_,?_⟩<;>simp[World.cell?,World.frozen?,h]
theorem wJ {s:ByteArray} (h:Lib.hasPrefix s.data.toList [45]=true):1<=s.size/\bn s.data.toList=((s.extract 1 s.size).data.toList,true):=by
 rw[eL];have gQ:=aj s;cases hl:s.data.toList with
 |nil=>rw[hl]at h;cases h
 |cons c r=>
  rw[hl]at h gQ;refine ⟨by simp at gQ;omega,?_⟩;have hc:c=45:=by
   simp[Lib.hasPrefix,List.isPrefixOf]at h;exact h.symm
  simp[bn,hc]
theorem y8 {s:ByteArray} (h:Lib.hasPrefix s.data.toList [45]=false):bn s.data.toList=(s.data.toList,false):=by
 cases hl:s.data.toList with
 |nil=>rfl
 |cons c r=>
  rw[hl]at h;have hc:c≠45:=by
   simp[Lib.hasPrefix,List.isPrefixOf]at h;exact fun q=>h q.symm
  simp[bn,hc]
theorem Aq (w:World) (s:ByteArray) (CY:s.size<=2097152) (hv:dW w):
 Calls Tryz.prog 78 #[.string s] w fun e w'=>Tk s.data.toList w e w':=by
 have Hv:=hid hv;have cw:= @kA;clear hv;go_enter Tryz.func78,Tryz.ntmps78;go_wp2;refine zQ 0 rfl ?_;intro J hJ0;have hJ:=hid hJ0;clear hJ0;have Hp:=hid (fun w=> Tryz.strings_HasPrefix s ⟨#[45]⟩ w)
 go_wp2_with fail
 refine (Hp.o _).mono ?_;rintro e w1 ⟨rfl,hw⟩;obtain rfl:=hw.symm;clear Hp;generalize mO:Lib.hasPrefix s.data.toList (⟨#[45]⟩:ByteArray).data.toList=below;have Hpre:=hid mO;clear mO;have hNW:=NW.first w;obtain ⟨w1,gP⟩:=ex ((w.alloc (Obj.cells #[.int .i64 0,.bool false,.int .i64 0,.float .f64 0,.string ⟨#[]⟩] 91)).alloc (Obj.cells #[.int .i64 4,.bool false,.int .i64 0,.float .f64 0,.string ⟨#[]⟩] 91))
 rw[<-gP];rw[<-gP]at hNW;clear gP;have HN:=hid hNW;clear hNW
 go_upto_if 18 with (fail)
 go_cut [0] from 18 (fun s0 L0=>∃r:ByteArray,s0= .string r/\L0=w1/\Hid (bn s.data.toList=(r.data.toList,below)/\r.size<=s.size))
 case first=>
  cases below with
  |true=>
   have h1:=wJ Hpre.o;have Hm:=hid h1.2;have h2:(1:Int)<=(s.size:Int):=by have:=h1.1;omega
   clear h1;go_wp2
   go_meet
   case rel=>exact ⟨_,(by first|rfl|trivial),(by first|rfl|trivial),Hm.o,iS _ _ _⟩
  |false=>
   go_wp2
   go_meet
   case rel=>exact ⟨_,(by first|rfl|trivial),(by first|rfl|trivial),y8 Hpre.o,aBh _⟩
 case rest=>
  obtain ⟨r,rfl,rfl,hr⟩:=hcut;have TV:r.size<=2097152:=aBl hr.o.2 CY;have Ou:r.size<=maxLen:=aBl TV (by decide);obtain ⟨n,hn⟩:=ex ((r.data.toList.takeWhile isD).length);have Hd:=hid (kL wc r Ou n _ hn.symm rfl);have Hn:=hid hn;clear hn
  go_wp2_with fail
  refine Hd.o.mono ?_;rintro e w1 ⟨rfl,hw⟩;obtain rfl:=hw.symm;clear Hd;have FF:n<=r.size:=by rw[Hn.o,<-aj];exact rU _
  go_upto_region 9 with (fail)
  go_cut [36] from 15 (fun s36 L0=>∃b:Bool,s36= .bool b/\L0=wc/\Hid ((b=true->nF s.data.toList=none/\kx s.data.toList=none)/\(b=false->bY (r.data.toList.takeWhile isD)=true)))
  case first=>
   by_cases j8:n=0
   ·have n1:((n:Int)==0)=true:=by simp[j8]
    have Hr:=hid (xI hr.o.1 (by
     rw[List.eq_nil_of_length_eq_zero (Hn.o.symm.trans j8)];rfl))
    clear j8 FF;go_wp2
    go_meet
    case rel=>exact ⟨true,(by first|rfl|trivial),(by first|rfl|trivial),fun _=>Hr.o,fun q=>by cases q⟩
   ·have n1:((n:Int)==0)=false:=by simp;omega
    have Ow:0<r.size:=by omega
    have C0:(r.data.toList.takeWhile isD).head? =some r[0]:=by
     rw[QQ (by rw[<-Hn.o];omega),Kd r Ow];rfl
    by_cases oB:1<n
    ·have n2:(1:Int)<(n:Int):=by omega
     by_cases LK:r[0]=48
     ·have n3:((r[0].toNat:Int)==48)=true:=by rw[LK];rfl
      have Hr:=hid (xI hr.o.1 (J0 (by rw[<-Hn.o];exact oB) (by rw[C0,LK])));clear j8 oB FF C0 LK;go_wp2
      go_meet
      case rel=>exact ⟨true,(by first|rfl|trivial),(by first|rfl|trivial),fun _=>Hr.o,fun q=>by cases q⟩
     ·have n3:((r[0].toNat:Int)==48)=false:=by
       simp;intro e;exact LK (UInt8.toNat_inj.1 (by simpa using (by omega:r[0].toNat=48)))
      have Hr:=hid (BM (by rw[<-Hn.o];exact j8) (by rw[C0];intro q;exact LK (aBm q.2)));clear j8 oB FF C0 LK;go_wp2
      go_meet
      case rel=>exact ⟨false,(by first|rfl|trivial),(by first|rfl|trivial),fun q=>(by cases q),fun _=>Hr.o⟩
    ·have n2:¬(1:Int)<(n:Int):=by omega
     have Hr:=hid (BM (by rw[<-Hn.o];exact j8) (by rw[<-Hn.o];intro q;exact oB q.1));clear j8 oB FF C0;go_wp2
     go_meet
     case rel=>exact ⟨false,(by first|rfl|trivial),(by first|rfl|trivial),fun q=>(by cases q),fun _=>Hr.o⟩
  case rest=>
   obtain ⟨b36,rfl,hw,hwd⟩:=hcut;obtain rfl:=hw.symm;cases b36 with
   |true=>
    have Hr:=hid (hwd.o.1 rfl);clear hwd FF;go_wp2
    go_step3
    show 0=0/\J _ _
    refine ⟨rfl,hJ.o _ _ ?_⟩;obtain ⟨⟨c0,c1,c2,c3,c4⟩,f0,f1,f2,f3,f4⟩:=de HN.o.r;go_wp2;rw[Exit.noGoto_ret];refine bodyPost_ret (v:= .tuple #[b8 0 false 0 0 ⟨#[]⟩,.bool false]) (by simp[results,Tryz.results78,go_sem,b8,f0,f1,f2,f3,f4,c0,c1,c2,c3,c4]) rfl ?_;exact ⟨_,false,rfl,(((((HN.o.below).setCell (aBh _) _).setCell (aBh _) _).setCell (aBh _) _).setCell (aBh _) _).setCell (aBh _) _,.inl ⟨rfl,⟨0,0,rfl⟩,Hr.o⟩⟩
   |false=>
    have Hwd:=hid (hwd.o.2 rfl);clear hwd;by_cases zr:n=r.size
    ·have n1:((n:Int)==(r.size:Int))=true:=by simp[zr]
     have Ol:=uS (by rw[<-Hn.o,aj];exact zr:(r.data.toList.takeWhile isD).length=r.data.toList.length);have Zk:=Hwd.o;rw[Ol]at Zk;have T0:dW wc:=by
      obtain ⟨ev,q1,q2⟩:=Hv.o;exact ⟨ev,by rw[HN.o.below.cell (eW q1)];exact q1,q2⟩
     have Hi:=hid (AJ wc r TV below (mY Zk) T0);have HI:=hid (And.intro (Fx hr.o.1 Zk) (DA hr.o.1 (iq Zk)));clear zr Ol Zk T0 FF
     go_wp2_with fail
     refine Hi.o.mono ?_;rintro e w2 ⟨i,ok,rfl,hb,hio⟩;have XO:=hid (HN.o.later hb);have Hio:=hid hio;clear Hi hb hio;dsimp only[b8];obtain ⟨⟨c0,c1,c2,c3,c4⟩,f0,f1,f2,f3,f4⟩:=de XO.o.r;go_wp2;refine bodyPost_ret (v:= .tuple #[b8 3 false i 0 ⟨#[]⟩,.bool ok]) (by simp[results,Tryz.results78,go_sem,b8,f0,f1,f2,f3,f4,c0,c1,c2,c3,c4]) rfl ?_;refine ⟨_,ok,rfl,(((((XO.o.below).setCell (aBh _) _).setCell (aBh _) _).setCell (aBh _) _).setCell (aBh _) _).setCell (aBh _) _,?_⟩
     rcases Hio.o with ⟨q1,q2⟩|⟨q1,q2⟩
     ·exact .inr (.inl ⟨q1,i,HI.o.1.trans q2,rfl⟩)
     ·exact .inl ⟨q1,⟨3,i,rfl⟩,HI.o.1.trans q2,HI.o.2⟩
    ·have n1:((n:Int)==(r.size:Int))=false:=by simp;omega
     have aN:n<r.size:=by omega
     have HI:=hid (RN hr.o.1 (by rw[<-Hn.o,aj];exact zr));by_cases Yi:r[n]=46
     ·have n2:((r[n].toNat:Int) != 46)=false:=by rw[Yi];rfl
      have gp:=EV Hn.o aN Yi;have hm:=hr.o.1;rw[gp]at hm;have Hm:=hid hm;have hTs:(r.extract (n+1) r.size).size=r.size-(n+1):=by rw[<-aj,eL,List.length_drop,aj]
      obtain ⟨k,hk⟩:=ex (((r.extract (n+1) r.size).data.toList.takeWhile isD).length);have OK:k<=r.size-(n+1):=by rw[<-hTs,<-aj,hk];exact rU _
      have Hd:=hid (kL wc (r.extract (n+1) r.size) (aBl (iS _ _ _) Ou) k _ hk.symm rfl);have Hk:=hid hk;have m1:(n:Int)+1<=(r.size:Int):=by omega
      clear zr Yi gp hm hTs hk
      go_wp2_with fail
      refine Hd.o.mono ?_;rintro e w1 ⟨rfl,hw⟩;obtain rfl:=hw.symm;clear Hd;obtain ⟨N,hN⟩:=ex (n+1+k);have hNr:N<=r.size:=by omega
      go_upto_region 14 with (fail)
      go_cut [12] from 15 (fun s12 L0=>s12= .int .i64 (N:Int)/\L0=wc)
      case first=>
       go_wp2
       go_meet
       case rel=>exact ⟨by first|(congr 1;omega)|(rw[hN];rfl),(by first|rfl|trivial)⟩
      case rest=>
       obtain ⟨rfl,hw⟩:=hcut;obtain rfl:=hw.symm;by_cases uH:k=0
       ·have n3:((k:Int)==0)=true:=by simp[uH]
        have Hr:=hid (And.intro HI.o (sm Hm.o (eu _) (Hk.o.symm.trans uH)));clear uH hN hNr OK;go_wp2
        go_step3
        show 0=0/\J _ _
        refine ⟨rfl,hJ.o _ _ ?_⟩;obtain ⟨⟨c0,c1,c2,c3,c4⟩,f0,f1,f2,f3,f4⟩:=de HN.o.r;go_wp2;rw[Exit.noGoto_ret];refine bodyPost_ret (v:= .tuple #[b8 0 false 0 0 ⟨#[]⟩,.bool false]) (by simp[results,Tryz.results78,go_sem,b8,f0,f1,f2,f3,f4,c0,c1,c2,c3,c4]) rfl ?_;exact ⟨_,false,rfl,(((((HN.o.below).setCell (aBh _) _).setCell (aBh _) _).setCell (aBh _) _).setCell (aBh _) _).setCell (aBh _) _,.inl ⟨rfl,⟨0,0,rfl⟩,Hr.o⟩⟩
       ·have n3:((k:Int)==0)=false:=by simp;omega
        have hA:(r.extract 0 n).data.toList=r.data.toList.takeWhile isD:=by
         rw[lK,List.drop_zero,Nat.sub_zero,Hn.o];exact (uR _).symm
        have hB:(r.extract (n+1) N).data.toList=(r.extract (n+1) r.size).data.toList.takeWhile isD:=by
         rw[lK,show N-(n+1)=k by omega,<-eL,Hk.o];exact (uR _).symm
        have hAB:(r.extract 0 n++r.extract (n+1) N).data.toList=r.data.toList.takeWhile isD++(r.extract (n+1) r.size).data.toList.takeWhile isD:=by
         rw[<-hA,<-hB];exact ByteArray.toList_data_append
        have FW:(r.extract 0 n++r.extract (n+1) N).data.toList.all isD=true:=by
         rw[hAB,List.all_append,eu,eu];rfl
        have hAs:(r.extract 0 n).size=n:=by rw[<-aj,hA,<-Hn.o]
        have hBs:(r.extract (n+1) N).size=k:=by rw[<-aj,hB,<-Hk.o]
        have WM:(r.extract 0 n++r.extract (n+1) N).size=n+k:=by
         rw[<-aj,hAB,aBj,<-Hn.o,<-Hk.o]
        obtain ⟨m,hm⟩:=ex (mZ (r.data.toList.takeWhile isD++(r.extract (n+1) r.size).data.toList.takeWhile isD));have Hd:=hid (fun w=>kL w (r.extract 0 n++r.extract (n+1) N) (by rw[WM];exact aBl (by omega:n+k<=2097152) (by decide)) (n+k) m (by rw[kz FW,aj,WM]) (by rw[kz FW,hAB,hm]));have Hmm:=hid hm;have hcat:(r.extract 0 n).size+(r.extract (n+1) N).size<=9223372036854775807:=by rw[hAs,hBs];omega
        have Hk0:=hid uH;have m2:(n:Int)<=(r.size:Int):=by omega
        have m3:(N:Int)<=(r.size:Int):=by omega
        have m4:(n:Int)+1<=(N:Int):=by omega
        have m5:IntKind.i64.wrap ((n:Int)+1)=(n:Int)+1:=by rw[IntKind.wrap_i64];omega
        have jg:∀w,(Instr.slice 9 (.string r) (some (.int .i64 ((n:Int)+1))) (some (.int .i64 (N:Int))) none).run Tryz.prog w= .ok (.string (r.extract (n+1) N)) w:=by
         intro w;have q:=run_slice_string (P:= Tryz.prog) w 9 r .i64 .i64 ((n:Int)+1) (N:Int) Tryz.underlying9 (by omega) m4 m3;rw[show ((n:Int)+1).toNat=n+1 by omega,show ((N:Int)).toNat=N by omega]at q;exact q
        have HNN:=hid hN;clear hA hB hAB FW WM hm uH hN hAs hBs;go_upto_region 16 with (fail)
        go_quiet (refine Calls.quiet_of_same (Hd.o _));generalize Zn:wc.drewN nq=wc2;have XO:=hid (Zn ▸ HN.o.drewN nq);clear Hd hcat jg m5 Zn;have mw:IntKind.i64.wrap ((N:Int)+1)=(N:Int)+1:=by rw[IntKind.wrap_i64];omega
        go_upto_if 80 with (fail)
        go_cut [10,11] from 15 (fun s10 s11 L0=>∃(pw:Nat) (sg:Int),s10= .int .u64 (pw:Int)/\s11= .int .i64 sg/\(∃nq,L0=wc2.drewN nq)/\Hid (pw<=99/\(sg=1\/sg= -1)/\kx s.data.toList=DB (r.data.toList.takeWhile isD) ((r.extract (n+1) r.size).data.toList.takeWhile isD) below (some (sg*(pw:Int)))))
        case first=>
         by_cases FK:N<r.size
         ·have n4:(N:Int)<(r.size:Int):=by omega
          have QC:=P2 Hk.o HNN.o FK;have m6:(N:Int)+1<=(r.size:Int):=by omega
          by_cases AW:r[N]=101
          ·have n5:((r[N].toNat:Int) != 101)=false:=by rw[AW];rfl
           rw[AW]at QC;have Hpw:=hid (Bg Hm.o Hwd.o (fun q=>Hk0.o (Hk.o.trans q)) QC.1);have hVs:(r.extract (N+1) r.size).size<=r.size:=iS _ _ _;clear QC AW OK hNr;have Hp:=hid (fun w=> Tryz.strings_HasPrefix (r.extract (N+1) r.size) ⟨#[45]⟩ w)
           go_wp2_with fail
           refine (Hp.o _).mono ?_;rintro e w1 ⟨rfl,hw⟩;obtain rfl:=hw.symm;clear Hp;generalize r.extract (N+1) r.size=V at*;generalize mO:Lib.hasPrefix V.data.toList (⟨#[45]⟩:ByteArray).data.toList=down;have Uz:=hid mO;clear mO
           go_upto_if 90 with (fail)
           go_cut [0,11] from 15 (fun s0 s11 L0=>∃(p:ByteArray) (sg:Int),s0= .string p/\s11= .int .i64 sg/\(∃nq,L0=wc2.drewN nq)/\p.size<=V.size/\Hid (bn V.data.toList=(p.data.toList,down)/\sg=if down=true then -1 else 1))
           case first=>
            cases down with
            |true=>
             have h1:=wJ Uz.o;have mJ:=hid h1.2;have h2:(1:Int)<=(V.size:Int):=by have:=h1.1;omega
             clear h1;go_wp2;go_quiet (fail);go_wp2
             go_meet
             case rel=>exact ⟨_,-1,(by first|rfl|trivial),(by first|rfl|trivial),⟨_,rfl⟩,iS _ _ _,mJ.o,rfl⟩
            |false=>
             go_wp2
             go_meet
             case rel=>exact ⟨_,1,(by first|rfl|trivial),(by first|rfl|trivial),⟨0,rfl⟩,aBh _,y8 Uz.o,rfl⟩
           case rest=>
            obtain ⟨p,sg,rfl,rfl,⟨X2,rfl⟩,Zy,hsg⟩:=hcut;have ZA:p.size<=2097152:=by omega
            have Gl:=hid (Cs hsg.o.1);obtain ⟨Fg,uG⟩:∃q,q=(p.data.toList.takeWhile isD).length:=⟨_,rfl⟩;have hn2le:Fg<=p.size:=by rw[uG,<-aj];exact rU _
            obtain ⟨pw,hpw⟩:∃q,q=mZ (p.data.toList.takeWhile isD):=⟨_,rfl⟩;have Hd:=hid (kL (wc2.drewN X2) p (aBl ZA (by decide)) Fg pw uG.symm hpw.symm);have Ym:=hid uG;have Hpv:=hid hpw;clear uG hpw hVs Zy
            go_wp2_with fail
            refine Hd.o.mono ?_;rintro e w1 ⟨rfl,hw⟩;obtain rfl:=hw.symm;clear Hd;by_cases hz:Fg=0\/2<Fg\/Fg<p.size
            ·have Oz:Ct true V.data.toList=none:=by
              rw[Gl.o,if_neg];rw[<-Ym.o,aj];omega
             have BE:=Hpw.o;rw[Oz]at BE;have Hr:=hid (And.intro HI.o BE);have LQ:=hid (XO.o.drewN X2);clear Oz BE;by_cases qL:Fg=0
             ·have n6:((Fg:Int)==0)=true:=by simp[qL]
              clear hz qL;go_wp2
              go_step3
              show 0=0/\J _ _
              refine ⟨rfl,hJ.o _ _ ?_⟩;obtain ⟨⟨c0,c1,c2,c3,c4⟩,f0,f1,f2,f3,f4⟩:=de LQ.o.r;go_wp2;rw[Exit.noGoto_ret];refine bodyPost_ret (v:= .tuple #[b8 0 false 0 0 ⟨#[]⟩,.bool false]) (by simp[results,Tryz.results78,go_sem,b8,f0,f1,f2,f3,f4,c0,c1,c2,c3,c4]) rfl ?_;exact ⟨_,false,rfl,(((((LQ.o.below).setCell (aBh _) _).setCell (aBh _) _).setCell (aBh _) _).setCell (aBh _) _).setCell (aBh _) _,.inl ⟨rfl,⟨0,0,rfl⟩,Hr.o⟩⟩
             ·have n6:((Fg:Int)==0)=false:=by simp;omega
              by_cases uC:2<Fg
              ·have n7:(2:Int)<(Fg:Int):=by omega
               clear hz qL uC;go_wp2
               go_step3
               show 0=0/\J _ _
               refine ⟨rfl,hJ.o _ _ ?_⟩;obtain ⟨⟨c0,c1,c2,c3,c4⟩,f0,f1,f2,f3,f4⟩:=de LQ.o.r;go_wp2;rw[Exit.noGoto_ret];refine bodyPost_ret (v:= .tuple #[b8 0 false 0 0 ⟨#[]⟩,.bool false]) (by simp[results,Tryz.results78,go_sem,b8,f0,f1,f2,f3,f4,c0,c1,c2,c3,c4]) rfl ?_;exact ⟨_,false,rfl,(((((LQ.o.below).setCell (aBh _) _).setCell (aBh _) _).setCell (aBh _) _).setCell (aBh _) _).setCell (aBh _) _,.inl ⟨rfl,⟨0,0,rfl⟩,Hr.o⟩⟩
              ·have n7:¬(2:Int)<(Fg:Int):=by omega
               have n8:(Fg:Int)<(p.size:Int):=by omega
               clear hz qL uC;go_wp2
               go_step3
               show 0=0/\J _ _
               refine ⟨rfl,hJ.o _ _ ?_⟩;obtain ⟨⟨c0,c1,c2,c3,c4⟩,f0,f1,f2,f3,f4⟩:=de LQ.o.r;go_wp2;rw[Exit.noGoto_ret];refine bodyPost_ret (v:= .tuple #[b8 0 false 0 0 ⟨#[]⟩,.bool false]) (by simp[results,Tryz.results78,go_sem,b8,f0,f1,f2,f3,f4,c0,c1,c2,c3,c4]) rfl ?_;exact ⟨_,false,rfl,(((((LQ.o.below).setCell (aBh _) _).setCell (aBh _) _).setCell (aBh _) _).setCell (aBh _) _).setCell (aBh _) _,.inl ⟨rfl,⟨0,0,rfl⟩,Hr.o⟩⟩
            ·have n6:((Fg:Int)==0)=false:=by simp;omega
             have n7:¬(2:Int)<(Fg:Int):=by omega
             have n8:¬(Fg:Int)<(p.size:Int):=by omega
             have FI:p.data.toList.takeWhile isD=p.data.toList:=uS (by rw[<-Ym.o,aj];omega);have Ih:=Eh (l:=p.data.toList) (by rw[<-FI];exact eu _) (by rw[aj];omega);have hpv:=Hpv.o;rw[FI,Ih.1]at hpv;have Oz:Ct true V.data.toList=some (sg*(pw:Int)):=by
              rw[Gl.o,if_pos (by rw[<-Ym.o,aj];omega),<-hpv,hsg.o.2];cases down<;>simp
             have BE:=Hpw.o;rw[Oz]at BE;have pV:=hid (show pw<=99/\(sg=1\/sg= -1)/\_ from ⟨by rw[hpv];exact Ih.2,by rw[hsg.o.2];cases down<;>simp,BE⟩);clear hz FI Ih hpv Oz BE;go_wp2
             go_meet
             case rel=>exact ⟨pw,sg,(by first|rfl|trivial),(by first|rfl|trivial),⟨X2,rfl⟩,pV.o⟩
          ·have n5:((r[N].toNat:Int) != 101)=true:=by
            simp;intro e;exact AW (UInt8.toNat_inj.1 (by simpa using (by omega:r[N].toNat=101)))
           have Hr:=hid (And.intro HI.o (S2 Hm.o (eu _) QC.1 QC.2 AW));clear QC AW OK hNr mw;go_wp2
           go_step3
           show 0=0/\J _ _
           refine ⟨rfl,hJ.o _ _ ?_⟩;obtain ⟨⟨c0,c1,c2,c3,c4⟩,f0,f1,f2,f3,f4⟩:=de XO.o.r;go_wp2;rw[Exit.noGoto_ret];refine bodyPost_ret (v:= .tuple #[b8 0 false 0 0 ⟨#[]⟩,.bool false]) (by simp[results,Tryz.results78,go_sem,b8,f0,f1,f2,f3,f4,c0,c1,c2,c3,c4]) rfl ?_;exact ⟨_,false,rfl,(((((XO.o.below).setCell (aBh _) _).setCell (aBh _) _).setCell (aBh _) _).setCell (aBh _) _).setCell (aBh _) _,.inl ⟨rfl,⟨0,0,rfl⟩,Hr.o⟩⟩
         ·have n4:¬(N:Int)<(r.size:Int):=by omega
          have hde:=Bh Hm.o Hwd.o (fun q=>Hk0.o (Hk.o.trans q)) (by
           rw[<-Hk.o,aj,<-aj,eL,List.length_drop,aj];have:=HNN.o;omega)
          have Hde:=hid hde;clear hde FK OK hNr;go_wp2
          go_meet
          case rel=>exact ⟨0,1,(by first|rfl|trivial),(by first|rfl|trivial),⟨0,rfl⟩,by decide,.inl rfl,Hde.o⟩
        case rest=>
         obtain ⟨pw,sg,rfl,rfl,⟨X2,rfl⟩,hq⟩:=hcut;have LQ:=hid (XO.o.drewN X2);generalize wc2.drewN X2=wc3 at*;obtain ⟨kk,AS⟩:∃kk:Int,kk=sg*(pw:Int)-(k:Int):=⟨_,rfl⟩;have hpw99:=hq.o.1;have j9:=PO (d:=r.data.toList.takeWhile isD) (b:=(r.extract (n+1) r.size).data.toList.takeWhile isD) (neg:=below) (p:=sg*(pw:Int)) (by rcases hq.o.2.1 with q|q<;>rw[q]<;>omega) kk (by rw[AS,<-Hk.o])
         rw[<-Hmm.o,<-hq.o.2.2]at j9;have Us:=hid j9;clear j9;have mw1:IntKind.i64.wrap (pw:Int)=(pw:Int):=by rw[IntKind.wrap_i64];omega
         have mw2:IntKind.i64.wrap (sg*(pw:Int))=sg*(pw:Int):=by
          rcases hq.o.2.1 with q|q<;>rw[q,IntKind.wrap_i64]<;>omega
         have mw3:IntKind.i64.wrap (sg*(pw:Int)-(k:Int))=kk:=by
          rw[AS];rcases hq.o.2.1 with q|q<;>rw[q,IntKind.wrap_i64]<;>omega
         have Hs:=hid (nh wc3 m kk);have Hkk:=hid AS;clear AS hq OK hNr
         go_wp2_with fail
         refine Hs.o.mono ?_;rintro e w1 ⟨rfl,hw⟩;obtain rfl:=hw.symm;clear Hs;obtain ⟨⟨d0,d1,d2,d3,d4⟩,g0,g1,g2,g3,g4⟩:=de LQ.o.v;by_cases WG:Bad m kk
         ·have hE:(scE m kk != 0)=true:=by unfold scE;rw[if_pos WG];rfl
          have Hr:=hid (And.intro HI.o (Us.o.1 WG));have HN4:=hid (LQ.o.real (scR m kk));clear WG;go_wp2
          go_step3
          show 0=0/\J _ _
          refine ⟨rfl,hJ.o _ _ ?_⟩;obtain ⟨⟨c0,c1,c2,c3,c4⟩,f0,f1,f2,f3,f4⟩:=de HN4.o.r;go_wp2;rw[Exit.noGoto_ret];refine bodyPost_ret (v:= .tuple #[b8 0 false 0 0 ⟨#[]⟩,.bool false]) (by simp[results,Tryz.results78,go_sem,b8,f0,f1,f2,f3,f4,c0,c1,c2,c3,c4]) rfl ?_;exact ⟨_,false,rfl,(((((HN4.o.below).setCell (aBh _) _).setCell (aBh _) _).setCell (aBh _) _).setCell (aBh _) _).setCell (aBh _) _,.inl ⟨rfl,⟨0,0,rfl⟩,Hr.o⟩⟩
         ·have hE:(scE m kk != 0)=false:=by unfold scE;rw[if_neg WG];rfl
          have hR:scR m kk=scW m kk:=if_neg WG;have Hd:=hid (Us.o.2 WG);have HR:=hid hR;clear WG hR;have hng:=GW (scR m kk);obtain ⟨⟨c0,c1,c2,c3,c4⟩,f0,f1,f2,f3,f4⟩:=de LQ.o.r;cases below with
          |false=>
           go_wp2;refine bodyPost_ret (v:= .tuple #[b8 4 false 0 (scR m kk) ⟨#[]⟩,.bool true]) (by simp[results,Tryz.results78,go_sem,b8,f0,f1,f2,f3,f4,c0,c1,c2,c3,c4]) rfl ?_;exact ⟨_,true,rfl,(((((LQ.o.below.setCell (Nat.le_succ _) _).setCell (aBh _) _).setCell (aBh _) _).setCell (aBh _) _).setCell (aBh _) _).setCell (aBh _) _,.inr (.inr ⟨rfl,HI.o,_,_,_,Hd.o,by rw[HR.o];rfl⟩)⟩
          |true=>
           go_wp2;refine bodyPost_ret (v:= .tuple #[b8 4 false 0 (mL (scR m kk)) ⟨#[]⟩,.bool true]) (by simp[results,Tryz.results78,go_sem,b8,f0,f1,f2,f3,f4,c0,c1,c2,c3,c4]) rfl ?_;exact ⟨_,true,rfl,((((((LQ.o.below.setCell (Nat.le_succ _) _).setCell (Nat.le_succ _) _).setCell (aBh _) _).setCell (aBh _) _).setCell (aBh _) _).setCell (aBh _) _).setCell (aBh _) _,.inr (.inr ⟨rfl,HI.o,_,_,_,Hd.o,by rw[HR.o];rfl⟩)⟩
     ·have n2:((r[n].toNat:Int) != 46)=true:=by
       simp;intro e;exact Yi (UInt8.toNat_inj.1 (by simpa using (by omega:r[n].toNat=46)))
      have Hr:=hid (And.intro HI.o (Nx hr.o.1 Hn.o aN Yi));clear zr Yi FF;go_wp2
      go_step3
      show 0=0/\J _ _
      refine ⟨rfl,hJ.o _ _ ?_⟩;obtain ⟨⟨c0,c1,c2,c3,c4⟩,f0,f1,f2,f3,f4⟩:=de HN.o.r;go_wp2;rw[Exit.noGoto_ret];refine bodyPost_ret (v:= .tuple #[b8 0 false 0 0 ⟨#[]⟩,.bool false]) (by simp[results,Tryz.results78,go_sem,b8,f0,f1,f2,f3,f4,c0,c1,c2,c3,c4]) rfl ?_;exact ⟨_,false,rfl,(((((HN.o.below).setCell (aBh _) _).setCell (aBh _) _).setCell (aBh _) _).setCell (aBh _) _).setCell (aBh _) _,.inl ⟨rfl,⟨0,0,rfl⟩,Hr.o⟩⟩
