/-
Parts of a proof.
-/
import Derived.Lib.ItoaLen
import Derived.Test.YtfenoaeoedobmaaGreatDoorOn42
set_option linter.unusedVariables false
set_option linter.unusedSimpArgs false
namespace Go.Proofs.YtfenoaeoedobmaaGreatDoor
open Go Go.RowKit
theorem JF {x:Nat} {l l':List UInt8} {er er':Int} (h:o8 x l er) (h':o8 x l' er'):l=l':=by
 rcases h with ⟨a1,a2,a3⟩|⟨a1,a2,a3⟩|⟨a1,a2,a3⟩|⟨a1,a2,M,k,e,a3,a4⟩<;>rcases h' with ⟨b1,b2,b3⟩|⟨b1,b2,b3⟩|⟨b1,b2,b3⟩|⟨b1,b2,M',k',e',b3,b4⟩<;>
  first|(exfalso;unfold INF at *;omega)|exact a2.trans b2.symm|skip
 obtain ⟨rfl,rfl,rfl⟩:=Dec.unique a3 b3;rcases a4 with ⟨q1,q2,q3⟩|⟨q1,q2,q3⟩<;>rcases b4 with ⟨r1,r2,r3⟩|⟨r1,r2,r3⟩<;>first|(exfalso;omega)|exact q2.trans r2.symm
theorem WT.unique {x:Nat} {l l':List UInt8} (h:WT x l) (h':WT x l'):l=l':=by
 unfold WT at h h';cases hw:p9 x with
 |some n=>rw[hw]at h h';exact h.trans h'.symm
 |none=>rw[hw]at h h';obtain ⟨e,h⟩:=h;obtain ⟨e',h'⟩:=h';exact JF h h'
theorem MW {M:Nat} {k:Int} (h1:1<=M) (h2:M<1000000000000000) (eP: -22<=k) (eZ:k<=22):(gx M k).length<=60:=by
 have ZH:=iz 14 M h2;have hlen:=Lib.decDigits_length M;unfold gx
 split
 ·split
  ·rw[aBj,aBj,List.length_replicate,hlen]
   show _+_+2<=60
   omega
  ·have hp:(Lib.decDigits (k+(Lib.nDigits M:Int)-1).toNat).length<=2:=by
    rw[Lib.decDigits_length];exact iz 1 _ (by omega)
   rw[aBj,aBj,aBj,aBj,List.length_take,hlen];have:(if Lib.nDigits M=1 then [48] else (Lib.decDigits M).drop 1:List UInt8).length<=15:=by
    split
    ·show 1<=15;decide
    ·rw[List.length_drop,hlen];omega
   show min 1 (Lib.nDigits M)+1+_+1+_<=60
   omega
 ·rw[aBj,aBj,List.length_take,List.length_drop,aBj,List.length_replicate,hlen]
  show _+1+_<=60
  omega
theorem WT.len {x:Nat} (hx:x<18446744073709551616) {l:List UInt8} (h:WT x l):l.length<=100:=by
 unfold WT at h;cases hw:p9 x with
 |some n=>
  rw[hw]at h;simp only at h;unfold p9 at hw
  split at hw
  ·rename_i hc
   obtain ⟨m,hm,hv⟩:=xE hx hc;rw[hv]at hw;simp only at hw
   split at hw
   ·have hw:=aBm hw;have:=Lib.itoa_length_le (n:Int) (by omega) (by omega);rw[h];omega
   ·cases hw
  ·cases hw
 |none=>
  rw[hw]at h;simp only at h;obtain ⟨e,h⟩:=h;have hsg:(ng x).length<=1:=by unfold ng;split<;>decide
  rcases h with ⟨b1,b2,b3⟩|⟨b1,b2,b3⟩|⟨b1,b2,b3⟩|⟨b1,b2,M,k,e,b3,b4⟩
  ·rw[b2];decide
  ·rw[b2,aBj];show _+4<=_;omega
  ·rw[b2,aBj];show _+3<=_;omega
  ·rcases b4 with ⟨c1,c2,c3⟩|⟨c1,c2,c3⟩
   ·rw[c2];decide
   ·rw[c2,aBj];rcases b3 with ⟨_,k1,k2,⟨s1,s2,_⟩,_⟩|⟨q,_⟩
    ·have:=MW s1 s2 k1 k2;omega
    ·omega
open Classical in
noncomputable def wtF (x:Nat):ByteArray:=if h:∃s:ByteArray,WT x s.data.toList then h.choose else ⟨#[]⟩
theorem zP {x:Nat} {s:ByteArray} (h:WT x s.data.toList):wtF x=s:=by
 unfold wtF;have he:∃s:ByteArray,WT x s.data.toList:=⟨s,h⟩;rw[dif_pos he];have h2:=WT.unique he.choose_spec h;exact ByteArray.ext (Array.ext' h2)
theorem LV {x:Nat} (hx:x<18446744073709551616):(wtF x).size<=100:=by
 by_cases he:∃s:ByteArray,WT x s.data.toList
 ·obtain ⟨s,h⟩:=he;rw[zP h,<-aj];exact WT.len hx h
 ·unfold wtF;rw[dif_neg he]
  decide
theorem I2 (w:World) (x:Nat) (hx:x<18446744073709551616) (hg:GlobT w):
 Calls Tryz.prog 72 #[.float .f64 x] w fun r w'=>r= .returned (.string (wtF x))/\Below w.heap.size w w':=by
 refine (I3 w x hx hg).mono ?_;rintro r w' ⟨⟨s,rfl,h⟩,hb⟩;rw[zP h];exact ⟨rfl,hb⟩
def Few (ns:List Nd):Prop:=∀x∈ns,x.kids.length<=ns.length
theorem Dg {ns:List Nd} (h:Few ns) {p:Option Nat} {x:Nd} (hx:x.kids=[]):Few (Ko ns p x):=by
 have h1:∀y∈ns++[x],y.kids.length<=ns.length:=by
  intro y hy;rcases List.mem_append.1 hy with q|q
  ·exact h y q
  ·rw[List.mem_singleton.1 q,hx];exact Nat.zero_le _
 cases p with
 |none=>
  intro y hy;have:=h1 y hy
  show y.kids.length<=(ns++[x]).length
  rw[aBj];omega
 |some p=>
  intro y hy
  show y.kids.length<=(cF (ns++[x]) p ns.length).length
  have hl:(cF (ns++[x]) p ns.length).length=ns.length+1:=by
   unfold cF
   split<;>simp
  rw[hl];have hy2:y∈cF (ns++[x]) p ns.length:=hy;unfold cF at hy2
  split at hy2
  ·rename_i z hz
   rcases List.mem_or_eq_of_mem_set hy2 with q|q
   ·have:=h1 y q;omega
   ·have:=h1 z (List.mem_of_getElem? hz);rw[q]
    show (z.kids++[_]).length<=_
    rw[aBj];simp only[aBk,List.length_nil];omega
  ·have:=h1 y hy2;omega
def HasB (w:World) (tb:Nat) (ob:Obj):Prop:=w.heap[tb]? =some ob
structure TrS (w1 w:World) (r:Res) (ev tv rv:Value) (bb wb:Nat) (T:Option (Nat×Obj)) (ns:List Nd):Prop where
 bbl:bb<w1.heap.size
 box:w1.heap[bb]? =some (.cells (bV r ev tv rv) 49 (0,0))
 lists:ResL w1 r ev tv rv
 g:GlobT w1
 few:Few ns
 wr:∃nv ms,WrS w1 w wb nv ms/\nds ms=ns/\∀tb ob,T=some (tb,ob)->HasB w tb ob/\¬RdF wb nv ms tb
theorem TrS.below {w1 w:World} {r:Res} {ev tv rv:Value} {bb wb:Nat} {T:Option (Nat×Obj)} {ns:List Nd} (h:TrS w1 w r ev tv rv bb wb T ns):Below w1.heap.size w1 w:=by
 obtain ⟨nv,ms,hw,_,_⟩:=h.wr;exact hw.below
theorem TrS.later {w1 w w2:World} {r:Res} {ev tv rv:Value} {bb wb:Nat} {T:Option (Nat×Obj)} {ns:List Nd} (h:TrS w1 w r ev tv rv bb wb T ns) (hb:Below w.heap.size w w2):TrS w1 w2 r ev tv rv bb wb T ns:=by
 obtain ⟨nv,ms,hw,e,ht⟩:=h.wr;exact ⟨h.bbl,h.box,h.lists,h.g,h.few,nv,ms,hw.later hb,e,fun tb ob q=>⟨(hb.block _ (af (ht tb ob q).1)).trans (ht tb ob q).1,(ht tb ob q).2⟩⟩
theorem TrS.glob {w1 w:World} {r:Res} {ev tv rv:Value} {bb wb:Nat} {T:Option (Nat×Obj)} {ns:List Nd} (h:TrS w1 w r ev tv rv bb wb T ns):GlobT w:=h.g.later h.below
theorem TrS.cells {w1 w:World} {r:Res} {ev tv rv:Value} {bb wb:Nat} {T:Option (Nat×Obj)} {ns:List Nd} (h:TrS w1 w r ev tv rv bb wb T ns):
 w.cell? ⟨bb,0,none⟩=some (.int .i64 r.kind)/\w.cell? ⟨bb,1,none⟩=some (.string r.name)/\w.cell? ⟨bb,2,none⟩=some ev/\w.cell? ⟨bb,3,none⟩=some tv/\w.cell? ⟨bb,4,none⟩=some (.string r.host)/\w.cell? ⟨bb,5,none⟩=some rv/\w.cell? ⟨bb,6,none⟩=some (.string r.route)/\w.cell? ⟨bb,7,none⟩=some (.bool r.del):=by
 have hb:w.heap[bb]? =some (.cells (bV r ev tv rv) 49 (0,0)):=(h.below.block _ h.bbl).trans h.box;exact ⟨aa hb 0,aa hb 1,aa hb 2,aa hb 3,aa hb 4,aa hb 5,aa hb 6,aa hb 7⟩
theorem TrS.kid {w1 w:World} {r:Res} {ev tv rv:Value} {bb wb:Nat} {T:Option (Nat×Obj)} {ns:List Nd} (h:TrS w1 w r ev tv rv bb wb T ns) {ms:List NdM} (e:nds ms=ns) {p:Nat} (hp:p<ns.length) (hl:ns.length<1048576):∃m,ms[p]? =some m/\m.nd.kids.length<1048576:=by
 have CU:p<ms.length:=by rw[<-bP,e];exact hp
 obtain ⟨m,hm⟩:∃m,ms[p]? =some m:=aF CU;refine ⟨m,hm,?_⟩;have h1:=gI hm;have h2:m.nd∈nds ms:=by unfold nds;exact List.mem_map_of_mem (List.mem_of_getElem? hm)
 rw[e]at h2;have:=h.few _ h2;omega
theorem TrS.put {w1 w w':World} {r:Res} {ev tv rv:Value} {bb wb:Nat} {T:Option (Nat×Obj)} {ns ns2:List Nd} (h:TrS w1 w r ev tv rv bb wb T ns) (hf:Few ns2) {nv:Value} {ms:List NdM} (ht:∀tb ob,T=some (tb,ob)->HasB w tb ob/\¬RdF wb nv ms tb) (hp:jk w1 w wb nv ms ns2 w'):TrS w1 w' r ev tv rv bb wb T ns2:=by
 obtain ⟨l9,ij,a,b,c,d⟩:=hp;refine ⟨h.bbl,h.box,h.lists,h.g,hf,l9,ij,a,b,fun tb ob q=> ?_⟩;obtain ⟨q1,q2⟩:=ht tb ob q;have aN:=af q1;refine ⟨(c.block _ aN q2).trans q1,fun e=> ?_⟩;rcases e with e|e
 ·exact q2 (.inl e)
 ·rcases d tb e with z|z
  ·exact q2 (.inr z)
  ·omega
theorem TrS.copy {w1 w:World} {r:Res} {ev tv rv:Value} {bb wb:Nat} {ns:List Nd} (h:TrS w1 w r ev tv rv bb wb none ns) (c:Array Value) (t:TypeId):TrS w1 (w.alloc (.cells c t)) r ev tv rv bb wb (some (w.heap.size,.cells c t (0,0))) ns:=by
 obtain ⟨nv,ms,hw,e,ht⟩:=h.wr;refine ⟨h.bbl,h.box,h.lists,h.g,h.few,nv,ms,hw.later ((aBi _ _).alloc (aBh _) _),e,fun tb ob q=> ?_⟩;obtain ⟨rfl,rfl⟩:=Prod.mk.inj (aBm q);exact ⟨ag _,fun q=>Nat.lt_irrefl _ (hw.rd_lt q).2⟩
theorem TrS.drop {w1 w:World} {r:Res} {ev tv rv:Value} {bb wb:Nat} {T:Option (Nat×Obj)} {ns:List Nd} (h:TrS w1 w r ev tv rv bb wb T ns):TrS w1 w r ev tv rv bb wb none ns:=by
 obtain ⟨nv,ms,hw,e,ht⟩:=h.wr;exact ⟨h.bbl,h.box,h.lists,h.g,h.few,nv,ms,hw,e,nofun⟩
theorem TrS.held {w1 w:World} {r:Res} {ev tv rv:Value} {bb wb tb:Nat} {ob:Obj} {ns:List Nd} (h:TrS w1 w r ev tv rv bb wb (some (tb,ob)) ns):w.heap[tb]? =some ob:=by
 obtain ⟨nv,ms,hw,e,ht⟩:=h.wr;exact (ht tb ob rfl).1
theorem TrS.eq {w1 w:World} {r:Res} {ev tv rv:Value} {bb wb:Nat} {T:Option (Nat×Obj)} {ns ns2:List Nd} (h:TrS w1 w r ev tv rv bb wb T ns) (e:ns=ns2):TrS w1 w r ev tv rv bb wb T ns2:=by rw[<-e];exact h
theorem fQ {w1 w:World} {r:Res} {ev tv rv:Value} {bb wb:Nat} {T:Option (Nat×Obj)} {ns:List Nd} (h:TrS w1 w r ev tv rv bb wb T ns) (hl:ns.length<1048576) (p:Nat) (hp:p<ns.length) (key:ByteArray) (cl:key.size<=1048576) (s:ByteArray) (hs:s.size<=1048576):
 Calls Tryz.prog 71 #[.pointer (some ⟨wb,0,none⟩),.int .i64 (p:Int),.string key,.string s] w
  fun x w'=>(∃v,x= .returned v)/\TrS w1 w' r ev tv rv bb wb T (aK ns p (an key s .nil)):=by
 obtain ⟨nv,ms,hw,e,ht⟩:=h.wr;refine (QK hw h.glob.gl p (h.kid e hp hl) key cl s hs (by rw[<-bP,e];exact hl)).mono ?_;rintro x w' ⟨hx,CU⟩;rw[e]at CU;refine ⟨hx,h.put ?_ ht CU⟩;unfold an;rw[<-G7 hp];exact Dg h.few rfl
theorem qc {w1 w:World} {r:Res} {ev tv rv:Value} {bb wb:Nat} {T:Option (Nat×Obj)} {ns:List Nd} (h:TrS w1 w r ev tv rv bb wb T ns) (hl:ns.length<1048576) (p:Nat) (hp:p<ns.length) (kind:Int) (hk:I64 kind) (key:ByteArray) (cl:key.size<=1048576):
 Calls Tryz.prog 70 #[.pointer (some ⟨wb,0,none⟩),.int .i64 (p:Int),.int .i64 kind,.string key] w
  fun x w'=>x= .returned (.int .i64 (ns.length:Int))/\TrS w1 w' r ev tv rv bb wb T (aK ns p (.br kind key .nil .nil)):=by
 obtain ⟨nv,ms,hw,e,ht⟩:=h.wr;have hn:ms.length=ns.length:=by rw[<-bP,e]
 refine (Gu hw (some p) (fun i hi=>by cases hi;exact h.kid e hp hl) kind hk key cl (by rw[hn];exact hl)).mono ?_;rintro x w' ⟨hx,CU⟩;rw[e,G8 hp]at CU;rw[hn]at hx;refine ⟨hx,h.put ?_ ht CU⟩;rw[<-G8 hp];exact Dg h.few rfl
theorem CH (l:List ByteArray) (e:ByteArray):bQ (l++[e])=(bQ l).app (an ⟨#[]⟩ e .nil):=by
 induction l with
 |nil=>rfl
 |cons a r ih=>show an ⟨#[]⟩ a (bQ (r++[e]))=_;rw[ih];rfl
theorem Jf (wt:Nat->ByteArray) (l:List Tgt) (e:Tgt):dI wt (l++[e])=(dI wt l).app (.br 2 ⟨#[]⟩ (jt wt e) .nil):=by
 induction l with
 |nil=>rfl
 |cons a r ih=>show Fo.br 2 ⟨#[]⟩ (jt wt a) (dI wt (r++[e]))=_;rw[ih];rfl
theorem yH (act:Bool) (l:List Rul) (e:Rul):b7 act (l++[e])=(b7 act l).app (.br 2 ⟨#[]⟩ (ju act e) .nil):=by
 induction l with
 |nil=>rfl
 |cons a r ih=>show Fo.br 2 ⟨#[]⟩ (ju act a) (b7 act (r++[e]))=_;rw[ih];rfl
theorem Kl (l:List ByteArray):(bQ l).size=l.length:=by
 induction l with
 |nil=>exact Fo.size_nil
 |cons a r ih=>show (an ⟨#[]⟩ a (bQ r)).size=_;unfold an;rw[Fo.size_sc,ih,aBk];omega
theorem Vb (wt:Nat->ByteArray) (t:Tgt):(jt wt t).size=2:=by
 unfold jt an
 split<;>rw[Fo.size_sc,Fo.size_sc,Fo.size_nil]
theorem Vt (act:Bool) (t:Rul):(ju act t).size=3:=by
 unfold ju an
 split<;>rw[Fo.size_sc,Fo.size_sc,Fo.size_sc,Fo.size_nil]
theorem Q6 (wt:Nat->ByteArray) (l:List Tgt):(dI wt l).size=3*l.length:=by
 induction l with
 |nil=>exact Fo.size_nil
 |cons a r ih=>show (Fo.br 2 ⟨#[]⟩ (jt wt a) (dI wt r)).size=_;rw[Fo.size_br,Vb,ih,aBk];omega
theorem GJ (act:Bool) (l:List Rul):(b7 act l).size=4*l.length:=by
 induction l with
 |nil=>exact Fo.size_nil
 |cons a r ih=>show (Fo.br 2 ⟨#[]⟩ (ju act a) (b7 act r)).size=_;rw[Fo.size_br,Vt,ih,aBk];omega
structure ResZ (r:Res):Prop where
 kind:I64 r.kind
 name:r.name.size<=1048576
 host:r.host.size<=1048576
 route:r.route.size<=1048576
 e:∀x∈r.endps,x.size<=1048576
 t:∀x∈r.targets,x.service.size<=1048576/\x.split.size<=1048576/\x.weight<18446744073709551616
 u:∀x∈r.rules,x.path.size<=1048576/\x.method.size<=1048576/\x.split.size<=1048576
 n:r.endps.length+3*r.targets.length+4*r.rules.length+8<=1048576
end Go.Proofs.YtfenoaeoedobmaaGreatDoor
namespace Go.Proofs.YtfenoaeoedobmaaGreatDoor
open Go Ieee
def rhe (a b:Nat):Nat:=a / b+(decide (b<2*(a % b))||(b==2*(a % b)&&a / b % 2==1)).toNat
theorem S6 (n d:Nat) (hd:d<=n.log2+2):Toward.even.cut false n d=rhe n (2 ^ d):=by
 have KI:min d (n.log2+2)=d:=Nat.min_eq_left hd;unfold Toward.cut rhe;simp only[KI,Nat.one_shiftLeft]
theorem iv (a b c:Nat) (hc:0<c):rhe (a*c) (b*c)=rhe a b:=by
 unfold rhe;rw[Nat.mul_div_mul_right _ _ hc,Nat.mul_mod_mul_right];have e1:decide (b*c<2*(a % b*c))=decide (b<2*(a % b)):=by
  rw[<-Nat.mul_assoc];congr 1;simp only[eq_iff_iff];exact Nat.mul_lt_mul_right hc
 have e2:(b*c==2*(a % b*c))=(b==2*(a % b)):=by
  rw[<-Nat.mul_assoc,Bool.eq_iff_iff,beq_iff_eq,beq_iff_eq];exact Nat.mul_left_inj (Nat.pos_iff_ne_zero.1 hc)
 rw[e1,e2]
theorem yP {a b a' b':Nat} (hb:0<b) (QD:0<b') (h:a*b'=a'*b):rhe a b=rhe a' b':=by
 rw[<-iv a b b' QD,<-iv a' b' b hb,h,Nat.mul_comm b b']
theorem Ax {a b x y:Nat} (h1:a=b) (h2:x=y):a*4503599627370496+x=b*4503599627370496+y:=by rw[h1,h2]
theorem alg3 (A B A' B' c pg X0 pT TH:Nat) (h:A*B'*TH=A'*B*pT) (ZW:pg*TH=X0*pT):A*c*(B'*X0)*TH=A'*c*(B*pg)*TH:=by
 calc A*c*(B'*X0)*TH=A*B'*TH*(c*X0):=by ac_rfl
  _=A'*B*pT*(c*X0):=by rw[h]
  _=A'*c*B*(X0*pT):=by ac_rfl
  _=A'*c*B*(pg*TH):=by rw[ZW]
  _=A'*c*(B*pg)*TH:=by ac_rfl
theorem alg4 (D m n c s JL pua U pg pgq:Nat) (hD:D=m*s) (h:pg*(JL*s)=pgq*(pua*U)):D*c*(n*JL*pg)=m*pua*U*c*(n*pgq):=by
 calc D*c*(n*JL*pg)=m*c*n*(pg*(JL*s)):=by rw[hD];ac_rfl
  _=m*c*n*(pgq*(pua*U)):=by rw[h]
  _=m*pua*U*c*(n*pgq):=by ac_rfl
theorem alg5 (n pg JL s X:Nat) (h1:n*JL*pg<=X):n*(pg*(JL*s))<=X*s:=by
 calc n*(pg*(JL*s))=n*JL*pg*s:=by ac_rfl
  _<=_:=Nat.mul_le_mul_right _ h1
theorem alg6 (n pg JL s X:Nat) (hs:0<s) (h1:X<n*JL*pg):X*s<n*(pg*(JL*s)):=by
 calc X*s<n*JL*pg*s:=Nat.mul_lt_mul_of_pos_right h1 hs
  _=_:=by ac_rfl
theorem alg7 (n q a U m s D:Nat) (hD:D=m*s) (r1:n*q<=D):n*(q*(a*U))<=m*a*U*s:=by
 calc n*(q*(a*U))=n*q*(a*U):=by ac_rfl
  _<=D*(a*U):=Nat.mul_le_mul_right _ r1
  _=_:=by rw[hD];ac_rfl
theorem alg8 (n q a U m s D:Nat) (hD:D=m*s) (ha:0<a*U) (r1:D<n*q):m*a*U*s<n*(q*(a*U)):=by
 calc m*a*U*s=D*(a*U):=by rw[hD];ac_rfl
  _<n*q*(a*U):=Nat.mul_lt_mul_of_pos_right r1 ha
  _=_:=by ac_rfl
theorem alg9 (m t U:Nat):m*U*(t*U)=m*t*(U*U):=by ac_rfl
theorem alg10 (N U:Nat):N*(U*U)*1*U=N*U*1*(U*U):=by ac_rfl
theorem alg11 (m U N:Nat):m*U*U*N*U=m*U*(N*U)*U:=by ac_rfl
theorem EC (D n G:Nat) (hn:0<n) (hG:0<G) (he:G % 2=0):rhe (2*(D / n)+(D % n != 0).toNat) (2*G)=rhe D (n*G):=by
 obtain ⟨q,hq⟩:=ex (D / n);obtain ⟨r,hr⟩:=ex (D % n);have hD:D=n*q+r:=by rw[hq,hr];exact (Nat.div_add_mod D n).symm
 have hrn:r<n:=by rw[hr];exact Nat.mod_lt _ hn
 rw[<-hq,<-hr];clear hq hr;obtain ⟨a,ha⟩:=ex (q / G);obtain ⟨b,hb⟩:=ex (q % G);have hqe:q=G*a+b:=by rw[ha,hb];exact (Nat.div_add_mod q G).symm
 have hbG:b<G:=by rw[hb];exact Nat.mod_lt _ hG
 clear ha hb;obtain ⟨H,rfl⟩:∃H,G=2*H:=⟨G / 2,by omega⟩;have cw:(r != 0).toNat<=1:=by cases (r != 0)<;>decide
 obtain ⟨s,hs⟩:=ex ((r != 0).toNat);have Zv:s=0↔r=0:=by
  rw[hs];by_cases h:r=0
  ·simp[h]
  ·have:(r != 0)=true:=bne_iff_ne.2 h;rw[this];simp[h]
 rw[<-hs];rw[<-hs]at cw;clear hs;have h1:n*b+r<n*(2*H):=by
  have:n*(b+1)<=n*(2*H):=Nat.mul_le_mul_left _ hbG;rw[Nat.mul_add,Nat.mul_one]at this;omega
 have e1:D=n*(2*H)*a+(n*b+r):=by
  rw[hD,hqe,Nat.mul_add,Nat.mul_assoc n,Nat.add_assoc]
 have e2:2*q+s=2*(2*H)*a+(2*b+s):=by
  rw[hqe,Nat.mul_add,<-Nat.mul_assoc 2 (2*H) a,Nat.add_assoc]
 have h2:2*b+s<2*(2*H):=by omega
 unfold rhe;have d1:D / (n*(2*H))=a:=by
  rw[e1,Nat.mul_add_div (by omega),Nat.div_eq_of_lt h1,Nat.add_zero]
 have m1:D % (n*(2*H))=n*b+r:=by
  rw[e1,Nat.mul_add_mod,Nat.mod_eq_of_lt h1]
 have d2:(2*q+s) / (2*(2*H))=a:=by
  rw[e2,Nat.mul_add_div (by omega),Nat.div_eq_of_lt h2,Nat.add_zero]
 have m2:(2*q+s) % (2*(2*H))=2*b+s:=by
  rw[e2,Nat.mul_add_mod,Nat.mod_eq_of_lt h2]
 rw[d1,m1,d2,m2];have c0:n*(2*H)=2*(n*H):=by rw[Nat.mul_left_comm]
 have hHb:H<=b->n*H<=n*b:=fun h=>Nat.mul_le_mul_left _ h;have hbH:b<H->n*b+n<=n*H:=fun h=>by
  have:n*(b+1)<=n*H:=Nat.mul_le_mul_left _ h;rw[Nat.mul_add,Nat.mul_one]at this;exact this
 have hHb2:H<b->n*H+n<=n*b:=fun h=>by
  have:n*(H+1)<=n*b:=Nat.mul_le_mul_left _ h;rw[Nat.mul_add,Nat.mul_one]at this;exact this
 have hHe:H=b->n*H=n*b:=fun h=>by rw[h]
 rw[c0];have t1:decide (2*(2*H)<2*(2*b+s))=decide (2*(n*H)<2*(n*b+r)):=by
  congr 1;simp only[eq_iff_iff];rcases Nat.lt_trichotomy b H with h|h|h
  ·have:=hbH h;constructor<;>intro<;>omega
  ·have:=hHe h.symm;constructor<;>intro<;>omega
  ·have:=hHb2 h;constructor<;>intro<;>omega
 have t2:(2*(2*H)==2*(2*b+s))=(2*(n*H)==2*(n*b+r)):=by
  rw[Bool.eq_iff_iff,beq_iff_eq,beq_iff_eq];rcases Nat.lt_trichotomy b H with h|h|h
  ·have:=hbH h;constructor<;>intro<;>omega
  ·have:=hHe h.symm;constructor<;>intro<;>omega
  ·have:=hHb2 h;constructor<;>intro<;>omega
 rw[t1,t2]
def Cc (A B T g:Nat):Nat:=(g+1022-T)*4503599627370496+rhe (A*4503599627370496) (B*2 ^ g)
theorem tN (gz:Nat) (place:Int) (T P g:Nat) (hP:place=(P:Int)-T) (hT:1074<=T) (hg1:2 ^ g<=gz) (ZZ:gz<2 ^ (g+1)) (lo:T<=P+g+1022) (hi:P+g<T+1023):
 double.nearest false gz place=(P+g+1022-T)*4503599627370496+rhe (gz*4503599627370496) (2 ^ g):=by
 have hm:gz≠0:=by
  rintro rfl;have:=Nat.two_pow_pos g;omega
 have ln:gz.log2=g:=(Nat.log2_eq_iff hm).2 ⟨hg1,ZZ⟩;have j9:max (place+(gz.log2:Int)-(double.fractionBits:Int)) double.leastPlace=(P:Int)-T+g-52:=by
  rw[Bo,jD,ln,hP];omega
 obtain ⟨L,hL⟩:=ex (P+g+1022-T);have hLz:((P:Int)-T+g-52-double.leastPlace).toNat=L:=by rw[jD];omega
 have CW:∀kept,Toward.even.cut false (gz <<< (place-((P:Int)-T+g-52)).toNat) (((P:Int)-T+g-52)-place).toNat=kept->kept<=9007199254740992->double.nearest false gz place=L*4503599627370496+kept:=by
  intro kept hk eZ;unfold Format.nearest;rw[if_neg hm];dsimp only;rw[j9,hLz,hk,rq,mI,ep];exact Nat.min_eq_left (by unfold INF;omega)
 rw[<-hL];by_cases hg:g<=52
 ·have s1:(place-((P:Int)-T+g-52)).toNat=52-g:=by omega
  have s2:(((P:Int)-T+g-52)-place).toNat=0:=by omega
  have OL:Toward.even.cut false (gz <<< (52-g)) 0=gz*2 ^ (52-g):=by rw[lh,Nat.shiftLeft_eq]
  have k2:gz*2 ^ (52-g)<=9007199254740992:=by
   have:2 ^ (g+1)*2 ^ (52-g)=2 ^ 53:=bR (by omega);have h:=Nat.mul_le_mul_right (2 ^ (52-g)) (Nat.le_of_lt ZZ);omega
  have k3:rhe (gz*4503599627370496) (2 ^ g)=gz*2 ^ (52-g):=by
   have:(2:Nat) ^ (52-g)*2 ^ g=4503599627370496:=bR (c:=52) (by omega);rw[<-this,<-Nat.mul_assoc];have:=iv (gz*2 ^ (52-g)) 1 (2 ^ g) (Nat.two_pow_pos _);rw[Nat.one_mul]at this;rw[this];unfold rhe;simp[Nat.mod_one]
  rw[k3];exact CW _ (by rw[s1,s2];exact OL) k2
 ·have s1:(place-((P:Int)-T+g-52)).toNat=0:=by omega
  have s2:(((P:Int)-T+g-52)-place).toNat=g-52:=by omega
  have hk:Toward.even.cut false gz (g-52)=rhe gz (2 ^ (g-52)):=S6 _ _ (by omega);obtain ⟨c1,c2⟩:=rh gz (g-52) (by omega);rw[hk]at c1 c2;have k3:rhe (gz*4503599627370496) (2 ^ g)=rhe gz (2 ^ (g-52)):=by
   have:(2:Nat) ^ (g-52)*4503599627370496=2 ^ g:=bR (b:=52) (by omega);rw[<-this];exact iv _ _ _ (by decide)
  rw[k3];have e2:2 ^ (g-52)*9007199254740992=2 ^ (g+1):=bR (b:=53) (by omega);have hd:0<2 ^ (g-52):=Nat.two_pow_pos _;have k2:rhe gz (2 ^ (g-52))<=9007199254740992:=by
   rcases Nat.lt_or_ge 9007199254740992 (rhe gz (2 ^ (g-52))) with h|h
   ·have:=Nat.mul_le_mul_right (2 ^ (g-52)) h;have q:(9007199254740992).succ*2 ^ (g-52)=2 ^ (g+1)+2 ^ (g-52):=by rw[<-e2];omega
    omega
   ·exact h
  exact CW _ (by rw[s1,s2];simpa using hk) k2
theorem si {A B g g':Nat} (h1:B*2 ^ g<=A) (h2:A<B*2 ^ (g+1)) (h3:B*2 ^ g'<=A) (h4:A<B*2 ^ (g'+1)):g=g':=by
 have a:=Nat.lt_of_mul_lt_mul_left (Nat.lt_of_le_of_lt h1 h4);have b:=Nat.lt_of_mul_lt_mul_left (Nat.lt_of_le_of_lt h3 h2);have a':=dA a;have b':=dA b;omega
theorem pq {A B T g A' B' T' g':Nat} (hB:0<B) (hB':0<B') (h1:B*2 ^ g<=A) (h2:A<B*2 ^ (g+1)) (h1':B'*2 ^ g'<=A') (h2':A'<B'*2 ^ (g'+1))
 (h:A*B'*2 ^ T'=A'*B*2 ^ T):Cc A B T g=Cc A' B' T' g':=by
 have hp:∀n,0<2 ^ n:=Nat.two_pow_pos;have hg:g+T'=g'+T:=by
  refine si (A:=A*B'*2 ^ T') (B:=B*B') ?_ ?_ ?_ ?_
  ·have:=Nat.mul_le_mul_right (B'*2 ^ T') h1;rw[Nat.pow_add]
   calc _=B*2 ^ g*(B'*2 ^ T'):=by ac_rfl
    _<=A*(B'*2 ^ T'):=this
    _=_:=by ac_rfl
  ·have:=Nat.mul_lt_mul_of_pos_right h2 (Nat.mul_pos hB' (hp T'));rw[Nat.add_right_comm,Nat.pow_add _ _ T']
   calc _=A*(B'*2 ^ T'):=by ac_rfl
    _<B*2 ^ (g+1)*(B'*2 ^ T'):=this
    _=_:=by ac_rfl
  ·rw[h];have:=Nat.mul_le_mul_right (B*2 ^ T) h1';rw[Nat.pow_add]
   calc _=B'*2 ^ g'*(B*2 ^ T):=by ac_rfl
    _<=A'*(B*2 ^ T):=this
    _=_:=by ac_rfl
  ·rw[h];have:=Nat.mul_lt_mul_of_pos_right h2' (Nat.mul_pos hB (hp T));rw[Nat.add_right_comm,Nat.pow_add _ _ T]
   calc _=A'*(B*2 ^ T):=by ac_rfl
    _<B'*2 ^ (g'+1)*(B*2 ^ T):=this
    _=_:=by ac_rfl
 unfold Cc;have e1:g+1022-T=g'+1022-T':=by omega
 refine Ax e1 ?_;refine yP (Nat.mul_pos hB (hp g)) (Nat.mul_pos hB' (hp g')) ?_;refine Nat.eq_of_mul_eq_mul_right (hp T') ?_;have ZW:(2:Nat) ^ g*2 ^ T'=2 ^ g'*2 ^ T:=by rw[<-Nat.pow_add,<-Nat.pow_add,hg]
 exact alg3 _ _ _ _ _ _ _ _ _ h ZW
theorem Af (n:Nat) (h:0<n):∃g,2 ^ g<=n/\n<2 ^ (g+1):=⟨n.log2,Nat.log2_self_le (by omega),Nat.lt_log2_self⟩
theorem M7 {A B:Nat} (hB:0<B) (h:B<=A):∃g,B*2 ^ g<=A/\A<B*2 ^ (g+1):=by
 have hq:0<A / B:=Nat.div_pos h hB;obtain ⟨g,h1,h2⟩:=Af _ hq;refine ⟨g,?_,?_⟩
 ·rw[Nat.mul_comm];exact (Nat.le_div_iff_mul_le hB).1 h1
 ·rw[Nat.mul_comm];exact (Nat.div_lt_iff_lt_mul hB).1 h2
theorem NJ {a b g:Nat} (ha:a<INF) (hb:b<INF) (h1:2 ^ g<=FV a*FV b) (h2:FV a*FV b<2 ^ (g+1)) (lo:kU+kU<=g+1022) (hi:g<kU+kU+1023):
 floatBits .mul .f64 a b=some (Cc (FV a*FV b) 1 (kU+kU) g):=by
 have hk:=mE;obtain ⟨m,ua,Ii,KC⟩:=du a ha;obtain ⟨n,ub,hrb,CQ⟩:=du b hb;have e:FV a*FV b=m*n*2 ^ (ua+ub):=by rw[KC,CQ,Nat.pow_add,Nat.mul_mul_mul_comm]
 rw[e]at h1 h2 |-;have ZJ:0<m*n:=by
  rcases Nat.eq_zero_or_pos (m*n) with q|q
  ·rw[q,Nat.zero_mul]at h1;have:=Nat.two_pow_pos g;omega
  ·exact q
 obtain ⟨gm,g1,g2⟩:=Af _ ZJ;have hP:=Nat.two_pow_pos (ua+ub);have hgg:g=gm+(ua+ub):=by
  refine si (A:=m*n*2 ^ (ua+ub)) (B:=1) (by rw[Nat.one_mul];exact h1) (by rw[Nat.one_mul];exact h2) ?_ ?_
  ·rw[Nat.one_mul,Nat.pow_add 2 gm];exact Nat.mul_le_mul_right _ g1
  ·rw[Nat.one_mul,Nat.add_right_comm,Nat.pow_add 2 (gm+1)];exact Nat.mul_lt_mul_of_pos_right g2 hP
 rw[Fh Ii hrb,tN (m*n) _ (kU+kU) (ua+ub) gm rfl (by omega) g1 g2 (by omega) (by omega)];unfold Cc;refine congrArg some (Ax (by omega) ?_);rw[Nat.one_mul,hgg,Nat.pow_add 2 gm,Nat.mul_right_comm (m*n)];exact (iv _ _ _ hP).symm
theorem R7 {m n:Nat} (hm:m.log2<=53):m.log2+(54+n.log2-m.log2)=54+n.log2:=by omega
theorem PL {a b g:Nat} (ha:a<INF) (hb:b<INF) (cK:0<FV b) (h1:FV b*2 ^ g<=FV a*2 ^ kU) (h2:FV a*2 ^ kU<FV b*2 ^ (g+1)) (lo:kU<=g+1022) (hi:g<kU+1023):
 floatBits .quo .f64 a b=some (Cc (FV a*2 ^ kU) (FV b) kU g):=by
 have hk:=mE;obtain ⟨m,ua,Ii,KC⟩:=du a ha;obtain ⟨n,ub,hrb,CQ⟩:=du b hb;have hn:n≠0:=by rintro rfl;rw[Nat.zero_mul]at CQ;omega
 have j8:0<n:=by omega
 have hm53:m<9007199254740992:=by
  have:=Ii;unfold Format.read at this;rw[xF,rq,mI]at this;dsimp only at this
  split at this
  ·simp only[Datum.number.injEq]at this;omega
  ·split at this
   ·simp only[Datum.number.injEq]at this;omega
   ·split at this<;>cases this
 have mP:m≠0:=by
  rintro rfl;rw[KC,Nat.zero_mul,Nat.zero_mul]at h1;have:=Nat.mul_pos cK (Nat.two_pow_pos g);omega
 have mj:m.log2<=53:=by
  have:2 ^ m.log2<2 ^ 53:=Nat.lt_of_le_of_lt (Nat.log2_self_le mP) hm53;exact Nat.le_of_lt (dA this)
 rw[F8 Ii hrb hn];have hls:=R7 (n:=n) mj;obtain ⟨s,hs⟩:=ex (54+n.log2-m.log2);rw[<-hs]at hls |-;obtain ⟨D,hD⟩:=ex (m <<< s);rw[<-hD];rw[Nat.shiftLeft_eq]at hD;have hDn:2 ^ 53<=D / n:=by
  rw[Nat.le_div_iff_mul_le j8];have e1:2 ^ (54+n.log2)<=D:=by
   rw[hD,<-hls,Nat.pow_add];exact Nat.mul_le_mul_right _ (Nat.log2_self_le mP)
  have e2:n<2 ^ (n.log2+1):=Nat.lt_log2_self;have e3:2 ^ 53*n<=2 ^ 53*2 ^ (n.log2+1):=Nat.mul_le_mul_left _ (Nat.le_of_lt e2);rw[<-Nat.pow_add]at e3;refine aBl e3 ?_;rw[show 53+(n.log2+1)=54+n.log2 by omega];exact e1
 obtain ⟨gq,q1,q2⟩:=Af (D / n) (by omega);have hgq:53<=gq:=by
  have:2 ^ 53<2 ^ (gq+1):=Nat.lt_of_le_of_lt hDn q2;have:=dA this;omega
 have r1:n*2 ^ gq<=D:=by rw[Nat.mul_comm];exact (Nat.le_div_iff_mul_le j8).1 q1
 have r2:D<n*2 ^ (gq+1):=by rw[Nat.mul_comm];exact (Nat.div_lt_iff_lt_mul j8).1 q2
 have hp:∀n,0<2 ^ n:=Nat.two_pow_pos;rw[KC,CQ]at h1 h2 |-;have hg:g+(ub+s)=gq+(ua+kU):=by
  refine si (A:=m*2 ^ ua*2 ^ kU*2 ^ s) (B:=n) ?_ ?_ ?_ ?_
  ·rw[Nat.pow_add 2 g,Nat.pow_add 2 ub];exact alg5 _ _ _ _ _ h1
  ·rw[Nat.add_right_comm,Nat.pow_add 2 (g+1),Nat.pow_add 2 ub];exact alg6 _ _ _ _ _ (hp s) h2
  ·rw[Nat.pow_add 2 gq,Nat.pow_add 2 ua];exact alg7 _ _ _ _ _ _ D hD r1
  ·rw[Nat.add_right_comm,Nat.pow_add 2 (gq+1),Nat.pow_add 2 ua];exact alg8 _ _ _ _ _ _ D hD (Nat.mul_pos (hp _) (hp _)) r2
 obtain ⟨S,hS⟩:=ex (2*(D / n)+(D % n != 0).toNat);have cw:(D % n != 0).toNat<=1:=by cases (D % n != 0)<;>decide
 have s1:2 ^ (gq+1)<=S:=by rw[hS,Nat.pow_succ];omega
 have s2:S<2 ^ (gq+1+1):=by rw[hS,Nat.pow_succ _ (gq+1)];omega
 have Wc:rhe S (2*2 ^ (gq-52))=rhe D (n*2 ^ (gq-52)):=by
  rw[hS];refine EC D n _ j8 (hp _) ?_;rw[show gq-52=(gq-53)+1 by omega,Nat.pow_succ];omega
 rw[<-hS];rw[tN S _ (ub+s+kU+1) (ua+kU) (gq+1) (by omega) (by omega) s1 s2 (by omega) (by omega)];unfold Cc;refine congrArg some (Ax (by omega) ?_);have e0:(2:Nat) ^ (gq-52)*4503599627370496=2 ^ gq:=bR (b:=52) (by omega);have e1:(2:Nat) ^ (gq+1)=2*2 ^ (gq-52)*4503599627370496:=by
  rw[Nat.mul_assoc,e0,Nat.pow_succ,Nat.mul_comm]
 rw[e1,iv _ _ _ (by decide),Wc,<-iv D _ 4503599627370496 (by decide)];have e2:n*2 ^ (gq-52)*4503599627370496=n*2 ^ gq:=by
  rw[Nat.mul_assoc,e0]
 rw[e2];refine yP (Nat.mul_pos j8 (hp _)) (Nat.mul_pos (Nat.mul_pos j8 (hp _)) (hp _)) ?_;have ZW:(2:Nat) ^ g*(2 ^ ub*2 ^ s)=2 ^ gq*(2 ^ ua*2 ^ kU):=by rw[<-Nat.pow_add,<-Nat.pow_add,<-Nat.pow_add,<-Nat.pow_add,hg]
 exact alg4 _ _ _ _ _ _ _ _ _ _ hD ZW
theorem GG {m:Nat} {k:Int} (mP:1<=m) (hm:m<1000000000000000) (eP: -22<=k) (eZ:k<=22):
 ∃g,10 ^ (-k).toNat*2 ^ g<=m*10 ^ k.toNat*2 ^ kU/\m*10 ^ k.toNat*2 ^ kU<10 ^ (-k).toNat*2 ^ (g+1)/\scW m k=Cc (m*10 ^ k.toNat*2 ^ kU) (10 ^ (-k).toNat) kU g:=by
 have hk:=mE;obtain ⟨a1,a2⟩:=Ao (show m<9007199254740992 by omega);have FG:m<=2 ^ 50:=aBl (Nat.le_of_lt hm) (by decide);have hp:∀n,0<2 ^ n:=Nat.two_pow_pos;have Om:∀j,0<10 ^ j:=fun j=>Nat.pow_pos (by decide);by_cases h0:0<=k
 ·obtain ⟨b1,b2,_⟩:=gD k.toNat (by omega);have e0:(-k).toNat=0:=by omega
  have ht:=m8 (show k.toNat<23 by omega);obtain ⟨g1,g2⟩:=Ew hm h0 eZ;rw[e0,Nat.pow_zero];have hN:1<=m*10 ^ k.toNat:=Nat.mul_pos mP (Om _);have hN2:m*10 ^ k.toNat<=2 ^ 124:=aBl (Nat.mul_le_mul FG ht) (by decide);have hX:FV (floatOfInt .f64 (m:Int))*FV (lx k.toNat)=m*10 ^ k.toNat*2 ^ (kU+kU):=by rw[a2,b2,Nat.pow_add 2 kU];exact alg9 _ _ _
  generalize m*10 ^ k.toNat=N at*;obtain ⟨n,n1,n2⟩:=Af N hN;have hn:n<=124:=Nat.le_of_lt_succ (dA (Nat.lt_of_le_of_lt (aBl n1 hN2) (Nat.pow_lt_pow_right (by decide) (by omega))));have q1:2 ^ (n+(kU+kU))<=N*2 ^ (kU+kU):=by rw[Nat.pow_add];exact Nat.mul_le_mul_right _ n1
  have q2:N*2 ^ (kU+kU)<2 ^ (n+(kU+kU)+1):=by rw[Nat.add_right_comm,Nat.pow_add _ (n+1)];exact Nat.mul_lt_mul_of_pos_right n2 (hp _)
  have p1:1*2 ^ (n+kU)<=N*2 ^ kU:=by rw[Nat.one_mul,Nat.pow_add];exact Nat.mul_le_mul_right _ n1
  have p2:N*2 ^ kU<1*2 ^ (n+kU+1):=by rw[Nat.one_mul,Nat.add_right_comm,Nat.pow_add _ (n+1)];exact Nat.mul_lt_mul_of_pos_right n2 (hp _)
  refine ⟨n+kU,p1,p2,?_⟩;have h:=NJ a1 b1 (by rw[hX];exact q1) (by rw[hX];exact q2) (by omega) (by omega);rw[aBm (g1.symm.trans h),hX];refine pq (by decide) (by decide) (by rw[Nat.one_mul];exact q1) (by rw[Nat.one_mul];exact q2) p1 p2 ?_;rw[Nat.pow_add 2 kU];exact alg10 _ _
 ·obtain ⟨b1,b2,_⟩:=gD (-k).toNat (by omega);have e0:k.toNat=0:=by omega
  have ht:=m8 (show (-k).toNat<23 by omega);have cK:=lY (show (-k).toNat<23 by omega);obtain ⟨g1,g2⟩:=Ex hm h0 eP;rw[e0,Nat.pow_zero,Nat.mul_one];have hN:=Om (-k).toNat;generalize 10 ^ (-k).toNat=N at*;have hNU:N<=m*2 ^ kU:=by
   refine aBl ht ?_;refine aBl (Nat.pow_le_pow_right (by decide) (show 74<=kU by omega)) ?_;exact Nat.le_mul_of_pos_left _ mP
  obtain ⟨g,p1,p2⟩:=M7 hN hNU;refine ⟨g,p1,p2,?_⟩;have gl:kU<=g+1022:=by
   have a:2 ^ kU<2 ^ (g+75):=by
    have b1:2 ^ kU<=m*2 ^ kU:=Nat.le_mul_of_pos_left _ mP;have b2:N*2 ^ (g+1)<=2 ^ 74*2 ^ (g+1):=Nat.mul_le_mul_right _ ht;rw[<-Nat.pow_add,show 74+(g+1)=g+75 by omega]at b2;exact Nat.lt_of_le_of_lt b1 (Nat.lt_of_lt_of_le p2 b2)
   have:=dA a;clear a p1 p2 hNU ht;omega
  have gh:g<kU+1023:=by
   have a:2 ^ g<2 ^ (kU+51):=by
    have b1:2 ^ g<=N*2 ^ g:=Nat.le_mul_of_pos_left _ hN;have b2:m*2 ^ kU<=2 ^ 50*2 ^ kU:=Nat.mul_le_mul_right _ FG;rw[<-Nat.pow_add]at b2;have b3:2 ^ (50+kU)<2 ^ (kU+51):=Nat.pow_lt_pow_right (by decide) (by omega);exact Nat.lt_of_le_of_lt (aBl b1 (aBl p1 b2)) b3
   exact Nat.lt_of_lt_of_le (dA a) (Nat.add_le_add_left (by decide) kU)
  have h:=PL a1 b1 cK (by rw[a2,b2,Nat.mul_right_comm];exact Nat.mul_le_mul_right _ p1) (by rw[a2,b2,Nat.mul_right_comm N];exact Nat.mul_lt_mul_of_pos_right p2 (hp _)) gl gh;rw[aBm (g1.symm.trans h),a2,b2];refine pq (Nat.mul_pos hN (hp _)) hN ?_ ?_ p1 p2 ?_
  ·rw[Nat.mul_right_comm];exact Nat.mul_le_mul_right _ p1
  ·rw[Nat.mul_right_comm N];exact Nat.mul_lt_mul_of_pos_right p2 (hp _)
  ·exact alg11 _ _ _
theorem Ev {m:Nat} {k:Int} (mP:1<=m) (hm:m*10<1000000000000000) (eP: -22<=k) (eZ:k+1<=22):scW (m*10) k=scW m (k+1):=by
 obtain ⟨g,a1,a2,a3⟩:=GG (m:=m*10) (k:=k) (by omega) hm eP (by omega);obtain ⟨g',b1,b2,b3⟩:=GG (m:=m) (k:=k+1) mP (by omega) (by omega) eZ;rw[a3,b3];have Om:∀j,0<10 ^ j:=fun j=>Nat.pow_pos (by decide);refine pq (Om _) (Om _) a1 a2 b1 b2 ?_;by_cases h0:0<=k
 ·have e1:(k+1).toNat=k.toNat+1:=by omega
  have e2:(-k).toNat=0:=by omega
  have e3:(-(k+1)).toNat=0:=by omega
  rw[e1,e2,e3,Nat.pow_succ 10];refine congrArg (fun z=>z*2 ^ kU*10 ^ 0*2 ^ kU) ?_
  ac_rfl
 ·have e1:(-k).toNat=(-(k+1)).toNat+1:=by omega
  have e2:k.toNat=0:=by omega
  have e3:(k+1).toNat=0:=by omega
  rw[e1,e2,e3,Nat.pow_succ 10];generalize 10 ^ (-(k+1)).toNat=N;generalize (2:Nat) ^ kU=V
  show m*10*1*V*N*V=m*1*V*(N*10)*V
  ac_rfl
theorem Qq {a b:Nat} (h:FV a=FV b):a=b:=by
 have key:∀x y:Nat,x / 4503599627370496<y / 4503599627370496->FV x<FV y:=by
  intro x y hxy;obtain ⟨kept,k1,k2,k0,k3⟩:=mB (b:=y) rfl (by omega);rw[k3];have OI:4503599627370496*2 ^ (y / 4503599627370496-1)<=kept*2 ^ (y / 4503599627370496-1):=Nat.mul_le_mul_right _ k1;refine Nat.lt_of_lt_of_le ?_ OI;by_cases hx:1<=x / 4503599627370496
  ·obtain ⟨c,c1,c2,c0,c3⟩:=mB (b:=x) rfl hx;rw[c3];have hp:=Nat.two_pow_pos (x / 4503599627370496-1);refine Nat.lt_of_lt_of_le (Nat.mul_lt_mul_of_pos_right c2 hp) ?_;have e:9007199254740992*2 ^ (x / 4503599627370496-1)=4503599627370496*2 ^ (x / 4503599627370496):=by
    rw[show x / 4503599627370496=(x / 4503599627370496-1)+1 by omega,Nat.pow_succ,Nat.add_sub_cancel];omega
   rw[e];exact Nat.mul_le_mul_left _ (Nat.pow_le_pow_right (by decide) (by omega))
  ·have:FV x=x:=by unfold FV;rw[if_pos (by omega)]
   rw[this];have hp:=Nat.two_pow_pos (y / 4503599627370496-1);refine Nat.lt_of_lt_of_le (show x<4503599627370496 by omega) ?_;exact Nat.le_mul_of_pos_right _ hp
 rcases Nat.lt_trichotomy (a / 4503599627370496) (b / 4503599627370496) with q|q|q
 ·have:=key _ _ q;omega
 ·by_cases hx:1<=a / 4503599627370496
  ·obtain ⟨c,c1,c2,c0,c3⟩:=mB (b:=a) rfl hx;obtain ⟨d,d1,d2,d0,d3⟩:=mB (b:=b) rfl (by omega);rw[c3,d3,q]at h;have:=Nat.eq_of_mul_eq_mul_right (Nat.two_pow_pos _) h;omega
  ·have h1:FV a=a:=by unfold FV;rw[if_pos (by omega)]
   have h2:FV b=b:=by unfold FV;rw[if_pos (by omega)]
   omega
 ·have:=key _ _ q;omega
