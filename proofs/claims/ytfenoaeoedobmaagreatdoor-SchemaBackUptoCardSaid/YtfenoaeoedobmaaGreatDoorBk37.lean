/-
Parts of a proof.
-/
import Derived.Lib.ItoaLen
import Derived.Test.YtfenoaeoedobmaaGreatDoorBk36
set_option maxRecDepth 20000
set_option linter.unusedVariables false
set_option linter.unusedSimpArgs false
namespace Go.Proofs.YtfenoaeoedobmaaGreatDoor
open Go Go.RowKit
theorem aXy {x:Nat} {l l':List UInt8} {er er':Int} (h:RealS x l er) (h':RealS x l' er'):l=l':=by
 rcases h with ⟨a1,a2,a3⟩|⟨a1,a2,a3⟩|⟨a1,a2,a3⟩|⟨a1,a2,M,k,e,a3,a4⟩<;>rcases h' with ⟨b1,b2,b3⟩|⟨b1,b2,b3⟩|⟨b1,b2,b3⟩|⟨b1,b2,M',k',e',b3,b4⟩<;>
  first|(exfalso;unfold INF at *;omega)|exact a2.trans b2.symm|skip
 obtain ⟨rfl,rfl,rfl⟩:=Dec.unique a3 b3;rcases a4 with ⟨q1,q2,q3⟩|⟨q1,q2,q3⟩<;>rcases b4 with ⟨r1,r2,r3⟩|⟨r1,r2,r3⟩<;>first|(exfalso;omega)|exact q2.trans r2.symm
theorem WT.unique {x:Nat} {l l':List UInt8} (h:WT x l) (h':WT x l'):l=l':=by
 unfold WT at h h';cases hw:wInt x with
 |some n=>rw[hw]at h h';exact h.trans h'.symm
 |none=>rw[hw]at h h';obtain ⟨e,h⟩:=h;obtain ⟨e',h'⟩:=h';exact aXy h h'
theorem a1y {M:Nat} {k:Int} (h1:1<=M) (h2:M<1000000000000000) (hk1: -22<=k) (hk2:k<=22):(realT M k).length<=60:=by
 have hn15:=aF5 14 M h2;have hlen:=Lib.decDigits_length M;unfold realT
 split
 ·split
  ·rw[a7e,a7e,List.length_replicate,hlen]
   show _+_+2<=60
   omega
  ·have hp:(Lib.decDigits (k+(Lib.nDigits M:Int)-1).toNat).length<=2:=by
    rw[Lib.decDigits_length];exact aF5 1 _ (by omega)
   rw[a7e,a7e,a7e,a7e,List.length_take,hlen];have:(if Lib.nDigits M=1 then [48] else (Lib.decDigits M).drop 1:List UInt8).length<=15:=by
    split
    ·show 1<=15;decide
    ·rw[List.length_drop,hlen];omega
   show min 1 (Lib.nDigits M)+1+_+1+_<=60
   omega
 ·rw[a7e,a7e,List.length_take,List.length_drop,a7e,List.length_replicate,hlen]
  show _+1+_<=60
  omega
theorem WT.len {x:Nat} (hx:x<18446744073709551616) {l:List UInt8} (h:WT x l):l.length<=100:=by
 unfold WT at h;cases hw:wInt x with
 |some n=>
  rw[hw]at h;simp only at h;unfold wInt at hw
  split at hw
  ·rename_i hc
   obtain ⟨m,hm,hv⟩:=aSk hx hc;rw[hv]at hw;simp only at hw
   split at hw
   ·have hw:=a7h hw;have:=Lib.itoa_length_le (n:Int) (by omega) (by omega);rw[h];omega
   ·cases hw
  ·cases hw
 |none=>
  rw[hw]at h;simp only at h;obtain ⟨e,h⟩:=h;have hsg:(signL x).length<=1:=by unfold signL;split<;>decide
  rcases h with ⟨b1,b2,b3⟩|⟨b1,b2,b3⟩|⟨b1,b2,b3⟩|⟨b1,b2,M,k,e,b3,b4⟩
  ·rw[b2];decide
  ·rw[b2,a7e];show _+4<=_;omega
  ·rw[b2,a7e];show _+3<=_;omega
  ·rcases b4 with ⟨c1,c2,c3⟩|⟨c1,c2,c3⟩
   ·rw[c2];decide
   ·rw[c2,a7e];rcases b3 with ⟨_,k1,k2,⟨s1,s2,_⟩,_⟩|⟨q,_⟩
    ·have:=a1y s1 s2 k1 k2;omega
    ·omega
open Classical in
noncomputable def wtF (x:Nat):ByteArray:=if h:∃s:ByteArray,WT x s.data.toList then h.choose else ⟨#[]⟩
theorem a32 {x:Nat} {s:ByteArray} (h:WT x s.data.toList):wtF x=s:=by
 unfold wtF;have he:∃s:ByteArray,WT x s.data.toList:=⟨s,h⟩;rw[dif_pos he];have h2:=WT.unique he.choose_spec h;exact ByteArray.ext (Array.ext' h2)
theorem a1z {x:Nat} (hx:x<18446744073709551616):(wtF x).size<=100:=by
 by_cases he:∃s:ByteArray,WT x s.data.toList
 ·obtain ⟨s,h⟩:=he;rw[a32 h,<-aAf];exact WT.len hx h
 ·unfold wtF;rw[dif_neg he]
  decide
theorem aXz (w:World) (x:Nat) (hx:x<18446744073709551616) (hg:GlobT w):
 Calls Tryz.prog 72 #[.float .f64 x] w fun r w'=>r= .returned (.string (wtF x))/\Below w.heap.size w w':=by
 refine (aXx w x hx hg).mono ?_;rintro r w' ⟨⟨s,rfl,h⟩,hb⟩;rw[a32 h];exact ⟨rfl,hb⟩
def Few (ns:List Nd):Prop:=∀x∈ns,x.kids.length<=ns.length
theorem aSl {ns:List Nd} (h:Few ns) {p:Option Nat} {x:Nd} (hx:x.kids=[]):Few (layN ns p x):=by
 have h1:∀y∈ns++[x],y.kids.length<=ns.length:=by
  intro y hy;rcases List.mem_append.1 hy with q|q
  ·exact h y q
  ·rw[List.mem_singleton.1 q,hx];exact Nat.zero_le _
 cases p with
 |none=>
  intro y hy;have:=h1 y hy
  show y.kids.length<=(ns++[x]).length
  rw[a7e];omega
 |some p=>
  intro y hy
  show y.kids.length<=(aBx (ns++[x]) p ns.length).length
  have hl:(aBx (ns++[x]) p ns.length).length=ns.length+1:=by
   unfold aBx
   split<;>simp
  rw[hl];have hy2:y∈aBx (ns++[x]) p ns.length:=hy;unfold aBx at hy2
  split at hy2
  ·rename_i z hz
   rcases List.mem_or_eq_of_mem_set hy2 with q|q
   ·have:=h1 y q;omega
   ·have:=h1 z (List.mem_of_getElem? hz);rw[q]
    show (z.kids++[_]).length<=_
    rw[a7e];simp only[a7f,List.length_nil];omega
  ·have:=h1 y hy2;omega
def HasB (w:World) (tb:Nat) (ob:Obj):Prop:=w.heap[tb]? =some ob
structure TrS (w1 w:World) (r:Res) (ev tv rv:Value) (bb wb:Nat) (T:Option (Nat×Obj)) (ns:List Nd):Prop where
 bbl:bb<w1.heap.size
 box:w1.heap[bb]? =some (.cells (resA r ev tv rv) 49 (0,0))
 lists:ResL w1 r ev tv rv
 g:GlobT w1
 few:Few ns
 wr:∃nv ms,WrS w1 w wb nv ms/\nds ms=ns/\∀tb ob,T=some (tb,ob)->HasB w tb ob/\¬RdF wb nv ms tb
theorem TrS.below {w1 w:World} {r:Res} {ev tv rv:Value} {bb wb:Nat} {T:Option (Nat×Obj)} {ns:List Nd} (h:TrS w1 w r ev tv rv bb wb T ns):Below w1.heap.size w1 w:=by
 obtain ⟨nv,ms,hw,_,_⟩:=h.wr;exact hw.below
theorem TrS.later {w1 w w2:World} {r:Res} {ev tv rv:Value} {bb wb:Nat} {T:Option (Nat×Obj)} {ns:List Nd} (h:TrS w1 w r ev tv rv bb wb T ns) (hb:Below w.heap.size w w2):TrS w1 w2 r ev tv rv bb wb T ns:=by
 obtain ⟨nv,ms,hw,e,ht⟩:=h.wr;exact ⟨h.bbl,h.box,h.lists,h.g,h.few,nv,ms,hw.later hb,e,fun tb ob q=>⟨(hb.block _ (aAb (ht tb ob q).1)).trans (ht tb ob q).1,(ht tb ob q).2⟩⟩
theorem TrS.glob {w1 w:World} {r:Res} {ev tv rv:Value} {bb wb:Nat} {T:Option (Nat×Obj)} {ns:List Nd} (h:TrS w1 w r ev tv rv bb wb T ns):GlobT w:=h.g.later h.below
theorem TrS.cells {w1 w:World} {r:Res} {ev tv rv:Value} {bb wb:Nat} {T:Option (Nat×Obj)} {ns:List Nd} (h:TrS w1 w r ev tv rv bb wb T ns):
 w.cell? ⟨bb,0,none⟩=some (.int .i64 r.kind)/\w.cell? ⟨bb,1,none⟩=some (.string r.name)/\w.cell? ⟨bb,2,none⟩=some ev/\w.cell? ⟨bb,3,none⟩=some tv/\w.cell? ⟨bb,4,none⟩=some (.string r.host)/\w.cell? ⟨bb,5,none⟩=some rv/\w.cell? ⟨bb,6,none⟩=some (.string r.route)/\w.cell? ⟨bb,7,none⟩=some (.bool r.del):=by
 have hb:w.heap[bb]? =some (.cells (resA r ev tv rv) 49 (0,0)):=(h.below.block _ h.bbl).trans h.box;exact ⟨aAa hb 0,aAa hb 1,aAa hb 2,aAa hb 3,aAa hb 4,aAa hb 5,aAa hb 6,aAa hb 7⟩
theorem TrS.kid {w1 w:World} {r:Res} {ev tv rv:Value} {bb wb:Nat} {T:Option (Nat×Obj)} {ns:List Nd} (h:TrS w1 w r ev tv rv bb wb T ns) {ms:List NdM} (e:nds ms=ns) {p:Nat} (hp:p<ns.length) (hl:ns.length<1048576):∃m,ms[p]? =some m/\m.nd.kids.length<1048576:=by
 have hp2:p<ms.length:=by rw[<-aBa,e];exact hp
 obtain ⟨m,hm⟩:∃m,ms[p]? =some m:=aAh hp2;refine ⟨m,hm,?_⟩;have h1:=aDv hm;have h2:m.nd∈nds ms:=by unfold nds;exact List.mem_map_of_mem (List.mem_of_getElem? hm)
 rw[e]at h2;have:=h.few _ h2;omega
theorem TrS.put {w1 w w':World} {r:Res} {ev tv rv:Value} {bb wb:Nat} {T:Option (Nat×Obj)} {ns ns2:List Nd} (h:TrS w1 w r ev tv rv bb wb T ns) (hf:Few ns2) {nv:Value} {ms:List NdM} (ht:∀tb ob,T=some (tb,ob)->HasB w tb ob/\¬RdF wb nv ms tb) (hp:aFh w1 w wb nv ms ns2 w'):TrS w1 w' r ev tv rv bb wb T ns2:=by
 obtain ⟨nv2,ms2,a,b,c,d⟩:=hp;refine ⟨h.bbl,h.box,h.lists,h.g,hf,nv2,ms2,a,b,fun tb ob q=> ?_⟩;obtain ⟨q1,q2⟩:=ht tb ob q;have hlt:=aAb q1;refine ⟨(c.block _ hlt q2).trans q1,fun e=> ?_⟩;rcases e with e|e
 ·exact q2 (.inl e)
 ·rcases d tb e with z|z
  ·exact q2 (.inr z)
  ·omega
theorem TrS.copy {w1 w:World} {r:Res} {ev tv rv:Value} {bb wb:Nat} {ns:List Nd} (h:TrS w1 w r ev tv rv bb wb none ns) (c:Array Value) (t:TypeId):TrS w1 (w.alloc (.cells c t)) r ev tv rv bb wb (some (w.heap.size,.cells c t (0,0))) ns:=by
 obtain ⟨nv,ms,hw,e,ht⟩:=h.wr;refine ⟨h.bbl,h.box,h.lists,h.g,h.few,nv,ms,hw.later ((a7d _ _).alloc (a7c _) _),e,fun tb ob q=> ?_⟩;obtain ⟨rfl,rfl⟩:=Prod.mk.inj (a7h q);exact ⟨aAc _,fun q=>Nat.lt_irrefl _ (hw.rd_lt q).2⟩
theorem TrS.drop {w1 w:World} {r:Res} {ev tv rv:Value} {bb wb:Nat} {T:Option (Nat×Obj)} {ns:List Nd} (h:TrS w1 w r ev tv rv bb wb T ns):TrS w1 w r ev tv rv bb wb none ns:=by
 obtain ⟨nv,ms,hw,e,ht⟩:=h.wr;exact ⟨h.bbl,h.box,h.lists,h.g,h.few,nv,ms,hw,e,nofun⟩
theorem TrS.held {w1 w:World} {r:Res} {ev tv rv:Value} {bb wb tb:Nat} {ob:Obj} {ns:List Nd} (h:TrS w1 w r ev tv rv bb wb (some (tb,ob)) ns):w.heap[tb]? =some ob:=by
 obtain ⟨nv,ms,hw,e,ht⟩:=h.wr;exact (ht tb ob rfl).1
theorem TrS.eq {w1 w:World} {r:Res} {ev tv rv:Value} {bb wb:Nat} {T:Option (Nat×Obj)} {ns ns2:List Nd} (h:TrS w1 w r ev tv rv bb wb T ns) (e:ns=ns2):TrS w1 w r ev tv rv bb wb T ns2:=by rw[<-e];exact h
theorem aDc {w1 w:World} {r:Res} {ev tv rv:Value} {bb wb:Nat} {T:Option (Nat×Obj)} {ns:List Nd} (h:TrS w1 w r ev tv rv bb wb T ns) (hl:ns.length<1048576) (p:Nat) (hp:p<ns.length) (key:ByteArray) (hkey:key.size<=1048576) (s:ByteArray) (hs:s.size<=1048576):
 Calls Tryz.prog 71 #[.pointer (some ⟨wb,0,none⟩),.int .i64 (p:Int),.string key,.string s] w
  fun x w'=>(∃v,x= .returned v)/\TrS w1 w' r ev tv rv bb wb T (addFo ns p (leafF key s .nil)):=by
 obtain ⟨nv,ms,hw,e,ht⟩:=h.wr;refine (a59 hw h.glob.gl p (h.kid e hp hl) key hkey s hs (by rw[<-aBa,e];exact hl)).mono ?_;rintro x w' ⟨hx,hp2⟩;rw[e]at hp2;refine ⟨hx,h.put ?_ ht hp2⟩;unfold leafF;rw[<-aXt hp];exact aSl h.few rfl
theorem aJ9 {w1 w:World} {r:Res} {ev tv rv:Value} {bb wb:Nat} {T:Option (Nat×Obj)} {ns:List Nd} (h:TrS w1 w r ev tv rv bb wb T ns) (hl:ns.length<1048576) (p:Nat) (hp:p<ns.length) (kind:Int) (hk:I64 kind) (key:ByteArray) (hkey:key.size<=1048576):
 Calls Tryz.prog 70 #[.pointer (some ⟨wb,0,none⟩),.int .i64 (p:Int),.int .i64 kind,.string key] w
  fun x w'=>x= .returned (.int .i64 (ns.length:Int))/\TrS w1 w' r ev tv rv bb wb T (addFo ns p (.br kind key .nil .nil)):=by
 obtain ⟨nv,ms,hw,e,ht⟩:=h.wr;have hn:ms.length=ns.length:=by rw[<-aBa,e]
 refine (aXv hw (some p) (fun i hi=>by cases hi;exact h.kid e hp hl) kind hk key hkey (by rw[hn];exact hl)).mono ?_;rintro x w' ⟨hx,hp2⟩;rw[e,aXu hp]at hp2;rw[hn]at hx;refine ⟨hx,h.put ?_ ht hp2⟩;rw[<-aXu hp];exact aSl h.few rfl
theorem aQj (l:List ByteArray) (e:ByteArray):aBp (l++[e])=(aBp l).app (leafF ⟨#[]⟩ e .nil):=by
 induction l with
 |nil=>rfl
 |cons a r ih=>show leafF ⟨#[]⟩ a (aBp (r++[e]))=_;rw[ih];rfl
theorem aX0 (wt:Nat->ByteArray) (l:List Tgt) (e:Tgt):tgtsF wt (l++[e])=(tgtsF wt l).app (.br 2 ⟨#[]⟩ (tgtF wt e) .nil):=by
 induction l with
 |nil=>rfl
 |cons a r ih=>show Fo.br 2 ⟨#[]⟩ (tgtF wt a) (tgtsF wt (r++[e]))=_;rw[ih];rfl
theorem aO3 (act:Bool) (l:List Rul) (e:Rul):rulsF act (l++[e])=(rulsF act l).app (.br 2 ⟨#[]⟩ (rulF act e) .nil):=by
 induction l with
 |nil=>rfl
 |cons a r ih=>show Fo.br 2 ⟨#[]⟩ (rulF act a) (rulsF act (r++[e]))=_;rw[ih];rfl
theorem aX1 (l:List ByteArray):(aBp l).size=l.length:=by
 induction l with
 |nil=>exact Fo.a1d
 |cons a r ih=>show (leafF ⟨#[]⟩ a (aBp r)).size=_;unfold leafF;rw[Fo.aH2,ih,a7f];omega
theorem tgt_sz (wt:Nat->ByteArray) (t:Tgt):(tgtF wt t).size=2:=by
 unfold tgtF leafF
 split<;>rw[Fo.aH2,Fo.aH2,Fo.a1d]
theorem rul_sz (act:Bool) (t:Rul):(rulF act t).size=3:=by
 unfold rulF leafF
 split<;>rw[Fo.aH2,Fo.aH2,Fo.aH2,Fo.a1d]
theorem a6e (wt:Nat->ByteArray) (l:List Tgt):(tgtsF wt l).size=3*l.length:=by
 induction l with
 |nil=>exact Fo.a1d
 |cons a r ih=>show (Fo.br 2 ⟨#[]⟩ (tgtF wt a) (tgtsF wt r)).size=_;rw[Fo.aH3,tgt_sz,ih,a7f];omega
theorem aX2 (act:Bool) (l:List Rul):(rulsF act l).size=4*l.length:=by
 induction l with
 |nil=>exact Fo.a1d
 |cons a r ih=>show (Fo.br 2 ⟨#[]⟩ (rulF act a) (rulsF act r)).size=_;rw[Fo.aH3,rul_sz,ih,a7f];omega
structure ResZ (r:Res):Prop where
 kind:I64 r.kind
 name:r.name.size<=1048576
 host:r.host.size<=1048576
 route:r.route.size<=1048576
 e:∀x∈r.endps,x.size<=1048576
 t:∀x∈r.targets,x.service.size<=1048576/\x.split.size<=1048576/\x.weight<18446744073709551616
 u:∀x∈r.rules,x.path.size<=1048576/\x.method.size<=1048576/\x.split.size<=1048576
 n:r.endps.length+3*r.targets.length+4*r.rules.length+8<=1048576
noncomputable def twA:Code:=(ncl (ncr (ncr (ncx Tryz.f29.body))))
noncomputable def twB:Code:=(ncl (ncr (ncr (ncr (ncx Tryz.f29.body)))))
noncomputable def twC:Code:=(ncl (ncr (ncr (ncr (ncr (ncx Tryz.f29.body))))))
noncomputable def twD:Code:=(ncl (ncr (ncr (ncr (ncr (ncr (ncx Tryz.f29.body)))))))
noncomputable def twZ:Code:=(ncr (ncr (ncr (ncr (ncr (ncr (ncr (ncx Tryz.f29.body))))))))
noncomputable def twDel:Code:=(nct (ncr (ncb (ncl (ncr (ncr (ncr (ncr (ncr (ncr (ncx Tryz.f29.body)))))))))))
noncomputable def twQ9:Code:=(ncl (nce (ncr (ncb (ncl (ncr (ncr (ncr (ncr (ncr (ncr (ncx Tryz.f29.body))))))))))))
noncomputable def twQ16:Code:=(ncl (nce (ncr (nce (ncr (ncb (ncl (ncr (ncr (ncr (ncr (ncr (ncr (ncx Tryz.f29.body))))))))))))))
noncomputable def twQ27:Code:=(ncl (nce (ncr (nce (ncr (nce (ncr (ncb (ncl (ncr (ncr (ncr (ncr (ncr (ncr (ncx Tryz.f29.body))))))))))))))))
noncomputable def twE1:Code:=(ncl (nct (ncr (nce (ncr (ncb (ncl (ncr (ncr (ncr (ncr (ncr (ncr (ncx Tryz.f29.body))))))))))))))
noncomputable def twE2:Code:=(ncl (ncr (nct (ncr (nce (ncr (ncb (ncl (ncr (ncr (ncr (ncr (ncr (ncr (ncx Tryz.f29.body)))))))))))))))
noncomputable def twEl:Code:=(ncb (ncr (ncr (nct (ncr (nce (ncr (ncb (ncl (ncr (ncr (ncr (ncr (ncr (ncr (ncx Tryz.f29.body))))))))))))))))
noncomputable def twEh:Code:=(ncl (nco (ncb (ncr (ncr (nct (ncr (nce (ncr (ncb (ncl (ncr (ncr (ncr (ncr (ncr (ncr (ncx Tryz.f29.body))))))))))))))))))
noncomputable def twEi:Code:=(ncl (ncr (nco (ncb (ncr (ncr (nct (ncr (nce (ncr (ncb (ncl (ncr (ncr (ncr (ncr (ncr (ncr (ncx Tryz.f29.body)))))))))))))))))))
noncomputable def twEa:Code:=(ncl (ncb (ncl (ncr (ncr (nco (ncb (ncr (ncr (nct (ncr (nce (ncr (ncb (ncl (ncr (ncr (ncr (ncr (ncr (ncr (ncx Tryz.f29.body))))))))))))))))))))))
noncomputable def twEc:Code:=(ncr (ncb (ncl (ncr (ncr (nco (ncb (ncr (ncr (nct (ncr (nce (ncr (ncb (ncl (ncr (ncr (ncr (ncr (ncr (ncr (ncx Tryz.f29.body))))))))))))))))))))))
noncomputable def twEo:Code:=(ncb (ncl (ncr (ncr (nco (ncb (ncr (ncr (nct (ncr (nce (ncr (ncb (ncl (ncr (ncr (ncr (ncr (ncr (ncr (ncx Tryz.f29.body)))))))))))))))))))))
noncomputable def twEn:Code:=(ncr (ncr (ncr (nco (ncb (ncr (ncr (nct (ncr (nce (ncr (ncb (ncl (ncr (ncr (ncr (ncr (ncr (ncr (ncx Tryz.f29.body))))))))))))))))))))
noncomputable def twT1:Code:=(ncl (nct (ncr (nce (ncr (nce (ncr (ncb (ncl (ncr (ncr (ncr (ncr (ncr (ncr (ncx Tryz.f29.body))))))))))))))))
noncomputable def twT2:Code:=(ncl (ncr (nct (ncr (nce (ncr (nce (ncr (ncb (ncl (ncr (ncr (ncr (ncr (ncr (ncr (ncx Tryz.f29.body)))))))))))))))))
noncomputable def twTl:Code:=(ncb (ncr (ncr (nct (ncr (nce (ncr (nce (ncr (ncb (ncl (ncr (ncr (ncr (ncr (ncr (ncr (ncx Tryz.f29.body))))))))))))))))))
noncomputable def twTh:Code:=(ncl (nco (ncb (ncr (ncr (nct (ncr (nce (ncr (nce (ncr (ncb (ncl (ncr (ncr (ncr (ncr (ncr (ncr (ncx Tryz.f29.body))))))))))))))))))))
noncomputable def twTi:Code:=(ncl (ncr (nco (ncb (ncr (ncr (nct (ncr (nce (ncr (nce (ncr (ncb (ncl (ncr (ncr (ncr (ncr (ncr (ncr (ncx Tryz.f29.body)))))))))))))))))))))
noncomputable def twTa:Code:=(ncl (ncb (ncl (ncr (ncr (nco (ncb (ncr (ncr (nct (ncr (nce (ncr (nce (ncr (ncb (ncl (ncr (ncr (ncr (ncr (ncr (ncr (ncx Tryz.f29.body))))))))))))))))))))))))
noncomputable def twTb:Code:=(ncl (ncr (ncb (ncl (ncr (ncr (nco (ncb (ncr (ncr (nct (ncr (nce (ncr (nce (ncr (ncb (ncl (ncr (ncr (ncr (ncr (ncr (ncr (ncx Tryz.f29.body)))))))))))))))))))))))))
noncomputable def twTc:Code:=(ncl (ncr (ncr (ncb (ncl (ncr (ncr (nco (ncb (ncr (ncr (nct (ncr (nce (ncr (nce (ncr (ncb (ncl (ncr (ncr (ncr (ncr (ncr (ncr (ncx Tryz.f29.body))))))))))))))))))))))))))
noncomputable def twTd:Code:=(ncr (ncr (ncr (ncb (ncl (ncr (ncr (nco (ncb (ncr (ncr (nct (ncr (nce (ncr (nce (ncr (ncb (ncl (ncr (ncr (ncr (ncr (ncr (ncr (ncx Tryz.f29.body))))))))))))))))))))))))))
noncomputable def twTo:Code:=(ncb (ncl (ncr (ncr (nco (ncb (ncr (ncr (nct (ncr (nce (ncr (nce (ncr (ncb (ncl (ncr (ncr (ncr (ncr (ncr (ncr (ncx Tryz.f29.body)))))))))))))))))))))))
noncomputable def twTn:Code:=(ncr (ncr (ncr (nco (ncb (ncr (ncr (nct (ncr (nce (ncr (nce (ncr (ncb (ncl (ncr (ncr (ncr (ncr (ncr (ncr (ncx Tryz.f29.body))))))))))))))))))))))
noncomputable def twU0:Code:=(ncl (nct (ncr (nce (ncr (nce (ncr (nce (ncr (ncb (ncl (ncr (ncr (ncr (ncr (ncr (ncr (ncx Tryz.f29.body))))))))))))))))))
noncomputable def twU1:Code:=(ncl (ncr (nct (ncr (nce (ncr (nce (ncr (nce (ncr (ncb (ncl (ncr (ncr (ncr (ncr (ncr (ncr (ncx Tryz.f29.body)))))))))))))))))))
noncomputable def twU2:Code:=(ncl (ncr (ncr (nct (ncr (nce (ncr (nce (ncr (nce (ncr (ncb (ncl (ncr (ncr (ncr (ncr (ncr (ncr (ncx Tryz.f29.body))))))))))))))))))))
noncomputable def twUl:Code:=(ncb (ncr (ncr (ncr (nct (ncr (nce (ncr (nce (ncr (nce (ncr (ncb (ncl (ncr (ncr (ncr (ncr (ncr (ncr (ncx Tryz.f29.body)))))))))))))))))))))
noncomputable def twUh:Code:=(ncl (nco (ncb (ncr (ncr (ncr (nct (ncr (nce (ncr (nce (ncr (nce (ncr (ncb (ncl (ncr (ncr (ncr (ncr (ncr (ncr (ncx Tryz.f29.body)))))))))))))))))))))))
noncomputable def twUi:Code:=(ncl (ncr (nco (ncb (ncr (ncr (ncr (nct (ncr (nce (ncr (nce (ncr (nce (ncr (ncb (ncl (ncr (ncr (ncr (ncr (ncr (ncr (ncx Tryz.f29.body))))))))))))))))))))))))
noncomputable def twUo:Code:=(ncb (ncl (ncr (ncr (nco (ncb (ncr (ncr (ncr (nct (ncr (nce (ncr (nce (ncr (nce (ncr (ncb (ncl (ncr (ncr (ncr (ncr (ncr (ncr (ncx Tryz.f29.body))))))))))))))))))))))))))
noncomputable def twUa:Code:=(ncl (ncb (ncl (ncr (ncr (nco (ncb (ncr (ncr (ncr (nct (ncr (nce (ncr (nce (ncr (nce (ncr (ncb (ncl (ncr (ncr (ncr (ncr (ncr (ncr (ncx Tryz.f29.body)))))))))))))))))))))))))))
noncomputable def twUb:Code:=(ncl (ncr (ncb (ncl (ncr (ncr (nco (ncb (ncr (ncr (ncr (nct (ncr (nce (ncr (nce (ncr (nce (ncr (ncb (ncl (ncr (ncr (ncr (ncr (ncr (ncr (ncx Tryz.f29.body))))))))))))))))))))))))))))
noncomputable def twUc:Code:=(ncl (ncr (ncr (ncb (ncl (ncr (ncr (nco (ncb (ncr (ncr (ncr (nct (ncr (nce (ncr (nce (ncr (nce (ncr (ncb (ncl (ncr (ncr (ncr (ncr (ncr (ncr (ncx Tryz.f29.body)))))))))))))))))))))))))))))
noncomputable def twUd:Code:=(ncl (ncr (ncr (ncr (ncb (ncl (ncr (ncr (nco (ncb (ncr (ncr (ncr (nct (ncr (nce (ncr (nce (ncr (nce (ncr (ncb (ncl (ncr (ncr (ncr (ncr (ncr (ncr (ncx Tryz.f29.body))))))))))))))))))))))))))))))
noncomputable def twUe:Code:=(ncl (ncr (ncr (ncr (ncr (ncb (ncl (ncr (ncr (nco (ncb (ncr (ncr (ncr (nct (ncr (nce (ncr (nce (ncr (nce (ncr (ncb (ncl (ncr (ncr (ncr (ncr (ncr (ncr (ncx Tryz.f29.body)))))))))))))))))))))))))))))))
noncomputable def twUf:Code:=(ncr (ncr (ncr (ncr (ncr (ncb (ncl (ncr (ncr (nco (ncb (ncr (ncr (ncr (nct (ncr (nce (ncr (nce (ncr (nce (ncr (ncb (ncl (ncr (ncr (ncr (ncr (ncr (ncr (ncx Tryz.f29.body)))))))))))))))))))))))))))))))
noncomputable def twUn:Code:=(ncr (ncr (ncr (nco (ncb (ncr (ncr (ncr (nct (ncr (nce (ncr (nce (ncr (nce (ncr (ncb (ncl (ncr (ncr (ncr (ncr (ncr (ncr (ncx Tryz.f29.body)))))))))))))))))))))))))
def tw_L (v:Nat->Value):Act:=⟨#[v 0,v 1,v 2,v 3,v 4,v 5,v 6,v 7,v 8,v 9,v 10,v 11,v 12,v 13,v 14,v 15,v 16,v 17,v 18,v 19,v 20,v 21,v 22,v 23,v 24,v 25,v 26,v 27,v 28,v 29,v 30,v 31,v 32,v 33,v 34,v 35,v 36,v 37,v 38,v 39,v 40,v 41,v 42,v 43,v 44,v 45,v 46,v 47,v 48,v 49,v 50,v 51,v 52,v 53,v 54,v 55,v 56,v 57,v 58,v 59,v 60,v 61,v 62,v 63,v 64,v 65,v 66,v 67,v 68,v 69,v 70,v 71,v 72,v 73,v 74,v 75,v 76,v 77,v 78,v 79,v 80,v 81,v 82,v 83,v 84,v 85,v 86,v 87,v 88,v 89,v 90,v 91,v 92,v 93,v 94,v 95,v 96,v 97,v 98,v 99,v 100,v 101,v 102,v 103,v 104,v 105,v 106,v 107,v 108,v 109,v 110,v 111,v 112,v 113,v 114,v 115,v 116,v 117,v 118,v 119,v 120,v 121,v 122,v 123,v 124,v 125,v 126,v 127,v 128,v 129,v 130,v 131,v 132,v 133,v 134,v 135,v 136,v 137,v 138,v 139,v 140,v 141,v 142,v 143,v 144,v 145,v 146,v 147,v 148,v 149,v 150,v 151,v 152,v 153,v 154,v 155,v 156,v 157,v 158,v 159,v 160,v 161,v 162,v 163,v 164,v 165,v 166,v 167,v 168,v 169,v 170,v 171],[]⟩
theorem aEp (a:Act) (hs:a.tmps.size=172) (hd:a.defers=[]):∃v:Nat->Value,(∀(i:Nat) (x:Value),a.tmps[i]? =some x->v i=x)/\a=tw_L v:=by
 obtain ⟨t,d⟩:=a;obtain ⟨l⟩:=t;obtain rfl:d=[]:=hd;have hl:l.length=172:=hs;refine ⟨fun i=>l.getD i undef,fun i x hx=> ?_,?_⟩
 ·have hx':l[i]? =some x:=by simpa using hx
  simp[List.getD,hx']
 ·have e:l=(List.range 172).map (fun i=>l.getD i undef):=by
   apply List.ext_getElem
   ·simp[hl]
   ·intro i h1 h2;simp[List.getD,h1]
  generalize (fun i=>l.getD i undef)=v at e |-;subst e;rfl
structure TwO (a:Act) (bb:Nat) (wb:Nat):Prop where
 size:a.tmps.size=172
 dfr:a.defers=[]
 s1:a.tmps[1]? =some (.pointer (some ⟨bb,0,none⟩))
 s3:a.tmps[3]? =some (.pointer (some ⟨wb,0,none⟩))
theorem TwO.shape {a:Act} {bb:Nat} {wb:Nat} (h:TwO a bb wb):∃v:Nat->Value,a=tw_L v/\v 1= .pointer (some ⟨bb,0,none⟩)/\v 3= .pointer (some ⟨wb,0,none⟩):=by
 obtain ⟨v,hv,hd⟩:=aEp a h.size h.dfr;exact ⟨v,hd,hv 1 _ h.s1,hv 3 _ h.s3⟩
structure TwP (a:Act) (bb:Nat) (wb:Nat) (k0:Nat):Prop where
 size:a.tmps.size=172
 dfr:a.defers=[]
 s1:a.tmps[1]? =some (.pointer (some ⟨bb,0,none⟩))
 s3:a.tmps[3]? =some (.pointer (some ⟨wb,0,none⟩))
 s4:a.tmps[4]? =some (.int .i64 (k0:Int))
theorem TwP.shape {a:Act} {bb:Nat} {wb:Nat} {k0:Nat} (h:TwP a bb wb k0):∃v:Nat->Value,a=tw_L v/\v 1= .pointer (some ⟨bb,0,none⟩)/\v 3= .pointer (some ⟨wb,0,none⟩)/\v 4= .int .i64 (k0:Int):=by
 obtain ⟨v,hv,hd⟩:=aEp a h.size h.dfr;exact ⟨v,hd,hv 1 _ h.s1,hv 3 _ h.s3,hv 4 _ h.s4⟩
structure TwL5 (a:Act) (bb:Nat) (wb:Nat) (lv:Nat):Prop where
 size:a.tmps.size=172
 dfr:a.defers=[]
 s1:a.tmps[1]? =some (.pointer (some ⟨bb,0,none⟩))
 s3:a.tmps[3]? =some (.pointer (some ⟨wb,0,none⟩))
 s5:a.tmps[5]? =some (.int .i64 (lv:Int))
theorem TwL5.shape {a:Act} {bb:Nat} {wb:Nat} {lv:Nat} (h:TwL5 a bb wb lv):∃v:Nat->Value,a=tw_L v/\v 1= .pointer (some ⟨bb,0,none⟩)/\v 3= .pointer (some ⟨wb,0,none⟩)/\v 5= .int .i64 (lv:Int):=by
 obtain ⟨v,hv,hd⟩:=aEp a h.size h.dfr;exact ⟨v,hd,hv 1 _ h.s1,hv 3 _ h.s3,hv 5 _ h.s5⟩
structure TwL8 (a:Act) (bb:Nat) (wb:Nat) (lv:Nat):Prop where
 size:a.tmps.size=172
 dfr:a.defers=[]
 s1:a.tmps[1]? =some (.pointer (some ⟨bb,0,none⟩))
 s3:a.tmps[3]? =some (.pointer (some ⟨wb,0,none⟩))
 s8:a.tmps[8]? =some (.int .i64 (lv:Int))
theorem TwL8.shape {a:Act} {bb:Nat} {wb:Nat} {lv:Nat} (h:TwL8 a bb wb lv):∃v:Nat->Value,a=tw_L v/\v 1= .pointer (some ⟨bb,0,none⟩)/\v 3= .pointer (some ⟨wb,0,none⟩)/\v 8= .int .i64 (lv:Int):=by
 obtain ⟨v,hv,hd⟩:=aEp a h.size h.dfr;exact ⟨v,hd,hv 1 _ h.s1,hv 3 _ h.s3,hv 8 _ h.s8⟩
structure TwL12 (a:Act) (bb:Nat) (wb:Nat) (lv:Nat):Prop where
 size:a.tmps.size=172
 dfr:a.defers=[]
 s1:a.tmps[1]? =some (.pointer (some ⟨bb,0,none⟩))
 s3:a.tmps[3]? =some (.pointer (some ⟨wb,0,none⟩))
 s12:a.tmps[12]? =some (.int .i64 (lv:Int))
theorem TwL12.shape {a:Act} {bb:Nat} {wb:Nat} {lv:Nat} (h:TwL12 a bb wb lv):∃v:Nat->Value,a=tw_L v/\v 1= .pointer (some ⟨bb,0,none⟩)/\v 3= .pointer (some ⟨wb,0,none⟩)/\v 12= .int .i64 (lv:Int):=by
 obtain ⟨v,hv,hd⟩:=aEp a h.size h.dfr;exact ⟨v,hd,hv 1 _ h.s1,hv 3 _ h.s3,hv 12 _ h.s12⟩
structure TwE (a:Act) (bb:Nat) (wb:Nat) (lv:Nat) (ev:Value) (n:Nat) (j:Nat):Prop where
 size:a.tmps.size=172
 dfr:a.defers=[]
 s1:a.tmps[1]? =some (.pointer (some ⟨bb,0,none⟩))
 s3:a.tmps[3]? =some (.pointer (some ⟨wb,0,none⟩))
 s5:a.tmps[5]? =some (.int .i64 (lv:Int))
 s60:a.tmps[60]? =some (ev)
 s61:a.tmps[61]? =some (.int .i64 (n:Int))
 s62:a.tmps[62]? =some (.int .i64 (j:Int))
theorem TwE.shape {a:Act} {bb:Nat} {wb:Nat} {lv:Nat} {ev:Value} {n:Nat} {j:Nat} (h:TwE a bb wb lv ev n j):∃v:Nat->Value,a=tw_L v/\v 1= .pointer (some ⟨bb,0,none⟩)/\v 3= .pointer (some ⟨wb,0,none⟩)/\v 5= .int .i64 (lv:Int)/\v 60=ev/\v 61= .int .i64 (n:Int)/\v 62= .int .i64 (j:Int):=by
 obtain ⟨v,hv,hd⟩:=aEp a h.size h.dfr;exact ⟨v,hd,hv 1 _ h.s1,hv 3 _ h.s3,hv 5 _ h.s5,hv 60 _ h.s60,hv 61 _ h.s61,hv 62 _ h.s62⟩
structure TwEs (a:Act) (bb:Nat) (wb:Nat) (lv:Nat) (ev:Value) (n:Nat) (j:Nat) (sx:ByteArray):Prop where
 size:a.tmps.size=172
 dfr:a.defers=[]
 s1:a.tmps[1]? =some (.pointer (some ⟨bb,0,none⟩))
 s3:a.tmps[3]? =some (.pointer (some ⟨wb,0,none⟩))
 s5:a.tmps[5]? =some (.int .i64 (lv:Int))
 s7:a.tmps[7]? =some (.string sx)
 s60:a.tmps[60]? =some (ev)
 s61:a.tmps[61]? =some (.int .i64 (n:Int))
 s62:a.tmps[62]? =some (.int .i64 (j:Int))
theorem TwEs.shape {a:Act} {bb:Nat} {wb:Nat} {lv:Nat} {ev:Value} {n:Nat} {j:Nat} {sx:ByteArray} (h:TwEs a bb wb lv ev n j sx):∃v:Nat->Value,a=tw_L v/\v 1= .pointer (some ⟨bb,0,none⟩)/\v 3= .pointer (some ⟨wb,0,none⟩)/\v 5= .int .i64 (lv:Int)/\v 7= .string sx/\v 60=ev/\v 61= .int .i64 (n:Int)/\v 62= .int .i64 (j:Int):=by
 obtain ⟨v,hv,hd⟩:=aEp a h.size h.dfr;exact ⟨v,hd,hv 1 _ h.s1,hv 3 _ h.s3,hv 5 _ h.s5,hv 7 _ h.s7,hv 60 _ h.s60,hv 61 _ h.s61,hv 62 _ h.s62⟩
structure TwT (a:Act) (bb:Nat) (wb:Nat) (lv:Nat) (ev:Value) (n:Nat) (j:Nat):Prop where
 size:a.tmps.size=172
 dfr:a.defers=[]
 s1:a.tmps[1]? =some (.pointer (some ⟨bb,0,none⟩))
 s3:a.tmps[3]? =some (.pointer (some ⟨wb,0,none⟩))
 s8:a.tmps[8]? =some (.int .i64 (lv:Int))
 s79:a.tmps[79]? =some (ev)
 s80:a.tmps[80]? =some (.int .i64 (n:Int))
 s81:a.tmps[81]? =some (.int .i64 (j:Int))
theorem TwT.shape {a:Act} {bb:Nat} {wb:Nat} {lv:Nat} {ev:Value} {n:Nat} {j:Nat} (h:TwT a bb wb lv ev n j):∃v:Nat->Value,a=tw_L v/\v 1= .pointer (some ⟨bb,0,none⟩)/\v 3= .pointer (some ⟨wb,0,none⟩)/\v 8= .int .i64 (lv:Int)/\v 79=ev/\v 80= .int .i64 (n:Int)/\v 81= .int .i64 (j:Int):=by
 obtain ⟨v,hv,hd⟩:=aEp a h.size h.dfr;exact ⟨v,hd,hv 1 _ h.s1,hv 3 _ h.s3,hv 8 _ h.s8,hv 79 _ h.s79,hv 80 _ h.s80,hv 81 _ h.s81⟩
structure TwTb (a:Act) (bb:Nat) (wb:Nat) (lv:Nat) (ev:Value) (n:Nat) (j:Nat) (tb:Nat):Prop where
 size:a.tmps.size=172
 dfr:a.defers=[]
 s1:a.tmps[1]? =some (.pointer (some ⟨bb,0,none⟩))
 s3:a.tmps[3]? =some (.pointer (some ⟨wb,0,none⟩))
 s8:a.tmps[8]? =some (.int .i64 (lv:Int))
 s10:a.tmps[10]? =some (.pointer (some ⟨tb,0,none⟩))
 s79:a.tmps[79]? =some (ev)
 s80:a.tmps[80]? =some (.int .i64 (n:Int))
 s81:a.tmps[81]? =some (.int .i64 (j:Int))
theorem TwTb.shape {a:Act} {bb:Nat} {wb:Nat} {lv:Nat} {ev:Value} {n:Nat} {j:Nat} {tb:Nat} (h:TwTb a bb wb lv ev n j tb):∃v:Nat->Value,a=tw_L v/\v 1= .pointer (some ⟨bb,0,none⟩)/\v 3= .pointer (some ⟨wb,0,none⟩)/\v 8= .int .i64 (lv:Int)/\v 10= .pointer (some ⟨tb,0,none⟩)/\v 79=ev/\v 80= .int .i64 (n:Int)/\v 81= .int .i64 (j:Int):=by
 obtain ⟨v,hv,hd⟩:=aEp a h.size h.dfr;exact ⟨v,hd,hv 1 _ h.s1,hv 3 _ h.s3,hv 8 _ h.s8,hv 10 _ h.s10,hv 79 _ h.s79,hv 80 _ h.s80,hv 81 _ h.s81⟩
structure TwTk (a:Act) (bb:Nat) (wb:Nat) (lv:Nat) (ev:Value) (n:Nat) (j:Nat) (tb:Nat) (k:Nat):Prop where
 size:a.tmps.size=172
 dfr:a.defers=[]
 s1:a.tmps[1]? =some (.pointer (some ⟨bb,0,none⟩))
 s3:a.tmps[3]? =some (.pointer (some ⟨wb,0,none⟩))
 s8:a.tmps[8]? =some (.int .i64 (lv:Int))
 s10:a.tmps[10]? =some (.pointer (some ⟨tb,0,none⟩))
 s11:a.tmps[11]? =some (.int .i64 (k:Int))
 s79:a.tmps[79]? =some (ev)
 s80:a.tmps[80]? =some (.int .i64 (n:Int))
 s81:a.tmps[81]? =some (.int .i64 (j:Int))
theorem TwTk.shape {a:Act} {bb:Nat} {wb:Nat} {lv:Nat} {ev:Value} {n:Nat} {j:Nat} {tb:Nat} {k:Nat} (h:TwTk a bb wb lv ev n j tb k):∃v:Nat->Value,a=tw_L v/\v 1= .pointer (some ⟨bb,0,none⟩)/\v 3= .pointer (some ⟨wb,0,none⟩)/\v 8= .int .i64 (lv:Int)/\v 10= .pointer (some ⟨tb,0,none⟩)/\v 11= .int .i64 (k:Int)/\v 79=ev/\v 80= .int .i64 (n:Int)/\v 81= .int .i64 (j:Int):=by
 obtain ⟨v,hv,hd⟩:=aEp a h.size h.dfr;exact ⟨v,hd,hv 1 _ h.s1,hv 3 _ h.s3,hv 8 _ h.s8,hv 10 _ h.s10,hv 11 _ h.s11,hv 79 _ h.s79,hv 80 _ h.s80,hv 81 _ h.s81⟩
structure TwU (a:Act) (bb:Nat) (wb:Nat) (lv:Nat) (ev:Value) (n:Nat) (j:Nat):Prop where
 size:a.tmps.size=172
 dfr:a.defers=[]
 s1:a.tmps[1]? =some (.pointer (some ⟨bb,0,none⟩))
 s3:a.tmps[3]? =some (.pointer (some ⟨wb,0,none⟩))
 s12:a.tmps[12]? =some (.int .i64 (lv:Int))
 s129:a.tmps[129]? =some (ev)
 s130:a.tmps[130]? =some (.int .i64 (n:Int))
 s131:a.tmps[131]? =some (.int .i64 (j:Int))
theorem TwU.shape {a:Act} {bb:Nat} {wb:Nat} {lv:Nat} {ev:Value} {n:Nat} {j:Nat} (h:TwU a bb wb lv ev n j):∃v:Nat->Value,a=tw_L v/\v 1= .pointer (some ⟨bb,0,none⟩)/\v 3= .pointer (some ⟨wb,0,none⟩)/\v 12= .int .i64 (lv:Int)/\v 129=ev/\v 130= .int .i64 (n:Int)/\v 131= .int .i64 (j:Int):=by
 obtain ⟨v,hv,hd⟩:=aEp a h.size h.dfr;exact ⟨v,hd,hv 1 _ h.s1,hv 3 _ h.s3,hv 12 _ h.s12,hv 129 _ h.s129,hv 130 _ h.s130,hv 131 _ h.s131⟩
structure TwUb (a:Act) (bb:Nat) (wb:Nat) (lv:Nat) (ev:Value) (n:Nat) (j:Nat) (tb:Nat):Prop where
 size:a.tmps.size=172
 dfr:a.defers=[]
 s1:a.tmps[1]? =some (.pointer (some ⟨bb,0,none⟩))
 s3:a.tmps[3]? =some (.pointer (some ⟨wb,0,none⟩))
 s12:a.tmps[12]? =some (.int .i64 (lv:Int))
 s14:a.tmps[14]? =some (.pointer (some ⟨tb,0,none⟩))
 s129:a.tmps[129]? =some (ev)
 s130:a.tmps[130]? =some (.int .i64 (n:Int))
 s131:a.tmps[131]? =some (.int .i64 (j:Int))
theorem TwUb.shape {a:Act} {bb:Nat} {wb:Nat} {lv:Nat} {ev:Value} {n:Nat} {j:Nat} {tb:Nat} (h:TwUb a bb wb lv ev n j tb):∃v:Nat->Value,a=tw_L v/\v 1= .pointer (some ⟨bb,0,none⟩)/\v 3= .pointer (some ⟨wb,0,none⟩)/\v 12= .int .i64 (lv:Int)/\v 14= .pointer (some ⟨tb,0,none⟩)/\v 129=ev/\v 130= .int .i64 (n:Int)/\v 131= .int .i64 (j:Int):=by
 obtain ⟨v,hv,hd⟩:=aEp a h.size h.dfr;exact ⟨v,hd,hv 1 _ h.s1,hv 3 _ h.s3,hv 12 _ h.s12,hv 14 _ h.s14,hv 129 _ h.s129,hv 130 _ h.s130,hv 131 _ h.s131⟩
structure TwUk (a:Act) (bb:Nat) (wb:Nat) (lv:Nat) (ev:Value) (n:Nat) (j:Nat) (tb:Nat) (k:Nat):Prop where
 size:a.tmps.size=172
 dfr:a.defers=[]
 s1:a.tmps[1]? =some (.pointer (some ⟨bb,0,none⟩))
 s3:a.tmps[3]? =some (.pointer (some ⟨wb,0,none⟩))
 s12:a.tmps[12]? =some (.int .i64 (lv:Int))
 s14:a.tmps[14]? =some (.pointer (some ⟨tb,0,none⟩))
 s15:a.tmps[15]? =some (.int .i64 (k:Int))
 s129:a.tmps[129]? =some (ev)
 s130:a.tmps[130]? =some (.int .i64 (n:Int))
 s131:a.tmps[131]? =some (.int .i64 (j:Int))
theorem TwUk.shape {a:Act} {bb:Nat} {wb:Nat} {lv:Nat} {ev:Value} {n:Nat} {j:Nat} {tb:Nat} {k:Nat} (h:TwUk a bb wb lv ev n j tb k):∃v:Nat->Value,a=tw_L v/\v 1= .pointer (some ⟨bb,0,none⟩)/\v 3= .pointer (some ⟨wb,0,none⟩)/\v 12= .int .i64 (lv:Int)/\v 14= .pointer (some ⟨tb,0,none⟩)/\v 15= .int .i64 (k:Int)/\v 129=ev/\v 130= .int .i64 (n:Int)/\v 131= .int .i64 (j:Int):=by
 obtain ⟨v,hv,hd⟩:=aEp a h.size h.dfr;exact ⟨v,hd,hv 1 _ h.s1,hv 3 _ h.s3,hv 12 _ h.s12,hv 14 _ h.s14,hv 15 _ h.s15,hv 129 _ h.s129,hv 130 _ h.s130,hv 131 _ h.s131⟩
