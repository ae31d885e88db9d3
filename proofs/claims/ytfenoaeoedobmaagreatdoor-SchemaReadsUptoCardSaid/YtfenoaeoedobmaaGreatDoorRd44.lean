/-
Parts of a proof, one behind the other (laid dense by a program of mine: pack.py).
-/
import Derived.Test.YtfenoaeoedobmaaGreatDoorRd43
set_option linter.unusedVariables false
set_option linter.unusedSimpArgs false
set_option maxHeartbeats 4000000
set_option maxRecDepth 20000
namespace Go.Proofs.YtfenoaeoedobmaaGreatDoor
open Go Go.RowKit
section
variable {w0 w:World} {Q:Exit→Act→World→Prop} {a:Act} {ms:List NdM} {st:St} {b o q cap rn db rb:Nat} {kd:Int} {nm:ByteArray} {m0:NdM}
theorem xr_bad {x:Res×Int×Int} {e:Stop} {w1:World} (hx:x=(Res.zero,e.1,e.2)) (f:XrE a rn e.1 e.2) (hb:Below w0.heap.size w0 w1) (hm:Mod (fun k=>k=rn) w1 w) (hn:w0.heap.size≤rn) (hz:w.heap[rn]? =some (.cells (resD 0 ⟨#[]⟩ false) 49 (0,0))):
 bodyPost Tryz.prog Tryz.f22 (SReadR w0 x) .ret a w:=by
 subst hx;refine bodyPost_ret (results_xr (arr:=(resD 0 ⟨#[]⟩ false).toList) f.s2 f.s3 f.s4 hz rfl) f.dfr ?_;exact ⟨.slice none 0 0,.slice none 0 0,.slice none 0 0,rfl,resN_nil _ _ _ _ _,hb.trans (hm.below hb.size fun k hk=>by omega)⟩
theorem xr_good {x:Res×Int×Int} {r:Res} {ev tv rv:Value} (hx:x=(r,0,0)) (f:XrE a rn 0 0) (hz:w.heap[rn]? =some (.cells (resA r ev tv rv) 49 (0,0))) (hn:ResN w w0.heap.size r ev tv rv) (hb:Below w0.heap.size w0 w):
 bodyPost Tryz.prog Tryz.f22 (SReadR w0 x) .ret a w:=by
 subst hx;refine bodyPost_ret (results_xr (arr:=(resA r ev tv rv).toList) f.s2 f.s3 f.s4 hz rfl) f.dfr ?_;exact ⟨ev,tv,rv,rfl,hn,hb⟩
theorem xr_last {x:Res×Int×Int} {r:Res} {ev tv rv:Value} (hx:x=endR r st) (hf:XrA a b o q cap rn db rb) (h:YQ w0 w db b o cap ms st rn rb r ev tv rv) (hq:q=ms.length):
 (Code.seq xr30 xrE).wp Tryz.prog (bodyPost Tryz.prog Tryz.f22 (SReadR w0 x)) a w:=by
 refine xr_c30 _ hf h.dq h.rnk h.nd h.nb hq ?_ ?_
 ·intro e a' w' he f' hm hz;exact xr_bad (e:=e) (by rw[hx,he];obtain ⟨l,c⟩:=e;rfl) f' h.dq.below hm h.nlo hz
 ·intro a' he f';refine xr_end f' h ?_;intro a2 w2 f2 h2 h3 h4;exact xr_good (by rw[hx,he];rfl) f2 h2 h3 h4
theorem xr_23 {x:Res×Int×Int} {kn:Nat} (hf:XrX a b o q cap rn db rb (fieldN (nds ms) m0.nd kDelete)) (h:XQ w0 w db b o cap ms none rn rb (kn:Int) nm false) (hq:q=ms.length) (h0:ms[0]? =some m0) (hk1:1≤kn) (hk4:kn≤4)
 (hx:x=endR (tailR (nds ms) (resK (kn:Int) nm)).1 (tailR (nds ms) (resK (kn:Int) nm)).2):
 (Code.seq (Code.seq xr23h (Code.cond (.tmp 102) xrD xrF)) (Code.seq xr30 xrE)).wp Tryz.prog (bodyPost Tryz.prog Tryz.f22 (SReadR w0 x)) a w:=by
 have hm0:=nds_at h0;cases hfn:fieldN (nds ms) m0.nd kDelete with
 |none=>
  have ht:tailR (nds ms) (resK (kn:Int) nm)=restR (nds ms) (resK (kn:Int) nm) kn none:=by
   unfold tailR;rw[hm0,hfn];simp[resK]
  rw[ht]at hx;rw[hfn]at hf;have HT:=hid (fun (Q':Exit→Act→World→Prop) (a':Act) (f':XrA a' b o q cap rn db rb) (ok':∀a2 w2,(Code.seq xr30 xrE).wp Tryz.prog (bodyPost Tryz.prog Tryz.f22 (SReadR w0 x)) a2 w2→Q' .normal a2 w2)=>show xrF.wp Tryz.prog Q' a' w from xr_f f' h h0 hk1 hk4 (fun a2 w2 ev tv rv f2 h2=>ok' a2 w2 (xr_last hx f2 h2 hq)));obtain ⟨vv,rfl⟩:=hf.shape;have hv:fldV none= -1:=rfl
  rw[hv];clear hf h hq h0 hk1 hk4 hx hfn ht hm0 hv;obtain ⟨X,hX⟩:∃X,X=Code.seq xr30 xrE:=⟨_,rfl⟩;rw[←hX]at HT ⊢;clear hX;generalize bodyPost Tryz.prog Tryz.f22 (SReadR w0 x)=QQ at*;dsimp only[xr23h,ncs,ncl,ncr,ncb,nco,nct,nce,ncx,Tryz.f22];go_wp2
  rename_i K1 hK1
  exact HT.out _ _ ⟨rfl,rfl,rfl,rfl,rfl,rfl⟩ (fun a2 w2 h2=>hK1 _ _ h2)
 |some k=>
  obtain ⟨mk,hk,hmem,hnd⟩:=h.dq.fld (List.mem_of_getElem? h0) hfn;have ht:tailR (nds ms) (resK (kn:Int) nm)=({resK (kn:Int) nm with del:=true},onlyR (nds ms) [kKind,kName,kDelete] m0.nd.kids (if isTrue mk.nd=false then some (mk.nd.line,123) else none)):=by
   unfold tailR;rw[hm0,hfn];simp only[hnd]
  rw[ht]at hx;simp only at hx;rw[hfn]at hf;have HT:=hid (fun (Q':Exit→Act→World→Prop) (a':Act) (f':XrX a' b o q cap rn db rb (some k)) (ok':∀a2 w2,(Code.seq xr30 xrE).wp Tryz.prog (bodyPost Tryz.prog Tryz.f22 (SReadR w0 x)) a2 w2→Q' .normal a2 w2)=>show xrD.wp Tryz.prog Q' a' w from by
   show (Code.seq xrD24 (Code.seq xrD25 (Code.seq xrD27 xrD28))).wp Tryz.prog Q' a' w
   refine xr_d24 _ f' h hq hk (fun a3 w3 vb f3 h3 hv3=>wp_seq ?_);refine xr_d25 f3 h3 hq hk hv3 (fun a4 w4 f4 h4=> ?_)
   show (Code.seq xrD27 xrD28).wp Tryz.prog Q' a4 w4
   refine xr_d27 _ f4 h4 h0 (fun a5 w5 f5 h5=> ?_);refine xr_d28 f5 h5 (fun a6 w6 f6 h6=>ok' a6 w6 ?_);exact xr_last hx f6 ⟨h6.dq,h6.rnk,h6.rbk,⟨rn+1,Nat.lt_succ_self _,by have:=h6.nlo;omega,resN_nil _ _ _ _ _⟩,h6.nlo,h6.nd,h6.nb⟩ hq)
  obtain ⟨vv,rfl⟩:=hf.shape;have hv:fldV (some k)=(k:Int):=rfl;rw[hv];have tk:decide ((0:Int)≤(k:Int))=true:=dT (by omega);clear hf h hq h0 hk1 hk4 hx hfn ht hm0 hv hk hmem hnd;obtain ⟨X,hX⟩:∃X,X=Code.seq xr30 xrE:=⟨_,rfl⟩;rw[←hX]at HT ⊢;clear hX;generalize bodyPost Tryz.prog Tryz.f22 (SReadR w0 x)=QQ at*;dsimp only[xr23h,ncs,ncl,ncr,ncb,nco,nct,nce,ncx,Tryz.f22]
  go_wp2
  rename_i K1 hK1
  exact HT.out _ _ ⟨rfl,rfl,rfl,rfl,rfl,rfl,rfl⟩ (fun a2 w2 h2=>hK1 _ _ h2)
noncomputable def xrRest:Code:=(ncr (ncr (ncr (ncr (ncx Tryz.f22.body)))))
theorem xrRest_eq:xrRest=Code.seq xr5 (Code.seq xr7 (Code.seq xr8 (Code.seq xr16 (Code.seq xr17 (Code.seq xr19 (Code.seq xr20 (Code.seq xr22 (Code.seq (Code.seq xr23h (Code.cond (.tmp 102) xrD xrF)) (Code.seq xr30 xrE))))))))):=rfl
theorem xr_chain (hf:XrA a b o q cap rn db rb) (h:XQ w0 w db b o cap ms none rn rb 0 ⟨#[]⟩ false) (hq:q=ms.length) (h0:ms[0]? =some m0) (ht:treeR (nds ms)=true):
 xrRest.wp Tryz.prog (bodyPost Tryz.prog Tryz.f22 (SReadR w0 (docR (nds ms)))) a w:=by
 have hm0:=nds_at h0;have hmem:=List.mem_of_getElem? h0;rw[xrRest_eq];refine xr_map _ hf h hq h0 ?_ ?_
 ·intro e a' w1 w' he f' h1 hm hz;refine xr_bad (e:=e) ?_ f' h1.dq.below hm h1.nlo hz;unfold docR;rw[if_neg (by rw[ht];simp),hm0,he,if_pos nofun];obtain ⟨l,c⟩:=e;rfl
 intro a1 w1 hmap f1 h1;have hd:docR (nds ms)=if (headR (nds ms)).2≠none then endR Res.zero (headR (nds ms)).2 else endR (tailR (nds ms) (headR (nds ms)).1).1 (tailR (nds ms) (headR (nds ms)).1).2:=by
  unfold docR;rw[if_neg (by rw[ht];simp),hm0,hmap,if_neg (fun q=>q rfl)]
 rw[hd];have hnr:∀n2,needR (nds ms) m0.nd kKind none≠(none,(n2:St))∨n2≠none:=fun n2=>by
  cases hx:fieldN (nds ms) m0.nd kKind with
  |none=>rw[needR_no hx];exact (Classical.em (n2=none)).elim (fun e=> .inl (by rw[e];nofun)) .inr
  |some k=>rw[needR_of hx];exact .inl nofun
 refine xr_kind _ f1 h1 h0 ?_;intro a2 w2 f2 h2;have hlt:∀k,(needR (nds ms) m0.nd kKind none).1=some k→k<ms.length:=fun k hk=>h1.dq.fldlt hmem k (need_lt hk);refine xr_knum _ f2 h2 hq hlt ?_;intro a3 w3 f3 h3;refine xr_name0 _ f3 h3 h0 ?_;intro a4 w4 f4 h4;generalize hs1:kstR (nds ms) (needR (nds ms) m0.nd kKind none).1 (needR (nds ms) m0.nd kKind none).2=s1 at*;generalize hn:(if s1=none then needR (nds ms) m0.nd kName s1 else (none,s1))=nn at*
 have hlt2:∀k,nn.1=some k→k<ms.length:=fun k hk=>by
  by_cases e:s1=none
  ·rw[if_pos e]at hn;exact h3.dq.fldlt hmem k (need_lt (by rw[hn];exact hk))
  ·rw[if_neg e]at hn;rw[←hn]at hk;cases hk
 refine xr_name _ f4 h4 hlt2 ?_;intro a5 w5 f5 h5;have hh:headR (nds ms)=(resK (kkdR (nds ms) (needR (nds ms) m0.nd kKind none).1:Int) (wordR (nds ms) nn.1 (isName (textR (nds ms) nn.1)) nn.2).1,(wordR (nds ms) nn.1 (isName (textR (nds ms) nn.1)) nn.2).2):=by
  unfold headR;simp only[hm0];clear h2 h3 h4 h5 f2 f3 f4 f5 hlt hlt2;generalize needR (nds ms) m0.nd kKind none=nd at hs1 ⊢;obtain ⟨n1,n2⟩:=nd;cases n1 with
  |none=>
   simp only[kstR]at hs1;subst hs1;simp only[hn];rfl
  |some z=>
   simp only[kstR]at hs1;simp only[hs1,hn];rfl
 rw[hh];simp only;generalize hww:wordR (nds ms) nn.1 (isName (textR (nds ms) nn.1)) nn.2=ww at*;obtain ⟨nm,s2⟩:=ww;simp only at h5 hh ⊢;refine xr_c20 _ f5 h5.dq h5.rnk h5.nd h5.nb hq ?_ ?_
 ·intro e a' w' he f' hm hz;refine xr_bad (e:=e) ?_ f' h5.dq.below hm h5.nlo hz;rw[he,if_pos nofun];obtain ⟨l,c⟩:=e;rfl
 intro a6 he f6;subst he;rw[if_neg (fun q=>q rfl)];refine xr_del0 _ f6 h5 h0 ?_;intro a7 f7;have hkn:1≤kkdR (nds ms) (needR (nds ms) m0.nd kKind none).1∧kkdR (nds ms) (needR (nds ms) m0.nd kKind none).1≤4:=by
  have e1:s1=none:=by
   cases s1 with
   |none=>rfl
   |some e=>
    rw[if_neg nofun]at hn;rw[←hn]at hww;have:wordR (nds ms) none (isName (textR (nds ms) none)) (some e)=(⟨#[]⟩,some e):=rfl;rw[this]at hww;injection hww with _ h8
    first|cases h8|skip
  rw[e1]at hs1;generalize needR (nds ms) m0.nd kKind none=nd at hs1 hnr ⊢;obtain ⟨n1,n2⟩:=nd;cases n1 with
  |none=>
   exfalso
   simp only[kstR]at hs1;exact (hnr n2).elim (fun q=>q rfl) (fun q=>q hs1)
  |some z=>
   simp only[kstR,kkdR]at hs1 ⊢;have hz:¬kindN ((nds ms)[z]!)=0:=fun q=>by
    rw[if_pos q]at hs1;cases n2<;>cases hs1
   have:=kindN_le ((nds ms)[z]!);omega
 exact xr_23 f7 h5 hq h0 hkn.1 hkn.2 rfl
end
theorem rread_bad (w:World) (V:Value) (ms:List NdM) (h:Nds w V ms) (ht:treeR (nds ms)=false):
 Calls Tryz.prog 22 #[V] w (SReadR w (docR (nds ms))):=by
 have hd:docR (nds ms)=(Res.zero,(0,100)):=by unfold docR;rw[if_pos ht]
 rw[hd];have hb1:Below w.heap.size w (w.alloc (.cells (resD 0 ⟨#[]⟩ false) 49 (0,0))):=(Below.refl _ _).alloc (Nat.le_refl _) _;have hn1:(w.alloc (.cells (resD 0 ⟨#[]⟩ false) 49 (0,0))).heap[w.heap.size]? =some (.cells (resD 0 ⟨#[]⟩ false) 49 (0,0)):=alloc_new _;have hm:=rtree_c (w.alloc (.cells (resD 0 ⟨#[]⟩ false) 49 (0,0))) V ms (h.later hb1)
 rw[ht]at hm;have Hm:=hid hm;have Hb1:=hid hb1;have Hn1:=hid hn1;clear h ht hd hm hb1 hn1;unfold resD at Hm Hb1 Hn1;go_enter Tryz.func22,Tryz.ntmps22
 go_wp2_with fail
 refine Hm.out.mono ?_;rintro r w2 ⟨rfl,hb2⟩;have hrn:=(hb2.block _ (lt_of_heap Hn1.out)).trans Hn1.out;have hbb:Below w.heap.size w w2:=Hb1.out.trans (hb2.mono Hb1.out.size);obtain ⟨rn,hr⟩:∃rn,rn=w.heap.size:=⟨_,rfl⟩;rw[←hr]at hrn ⊢;have c0:=cell_blk hrn 0;have c1:=cell_blk hrn 1;have c2:=cell_blk hrn 2;have c3:=cell_blk hrn 3;have c4:=cell_blk hrn 4;have c5:=cell_blk hrn 5;have c6:=cell_blk hrn 6
 have c7:=cell_blk hrn 7;have fz:=fun j=>frozen_blk hrn j;simp at c0 c1 c2 c3 c4 c5 c6 c7;have HE:=hid (over8 (v0:= .int .i64 0) (v1:= .string ⟨#[]⟩) (v2:= .slice none 0 0) (v3:= .slice none 0 0) (v4:= .string ⟨#[]⟩) (v5:= .slice none 0 0) (v6:= .string ⟨#[]⟩) (v7:= .bool false) (w:=w2) hrn rfl);have HB:=hid hbb;have Hr:=hid (show w.heap.size≤rn by omega);clear Hm Hb1 Hn1 hb2 hrn hbb hr;go_wp2;obtain ⟨m1,m2⟩:=HE.out _ rfl
 exact xr_bad (e:=(0,100)) rfl ⟨rfl,rfl,rfl,rfl,rfl⟩ HB.out m1 Hr.out m2
theorem rread_good (w:World) (V:Value) (ms:List NdM) (h:Nds w V ms) (hg:Glob w) (ht:treeR (nds ms)=true) (hp:treeP (nds ms)=true):
 Calls Tryz.prog 22 #[V] w (SReadR w (docR (nds ms))):=by
 have hb1:Below w.heap.size w (w.alloc (.cells (resD 0 ⟨#[]⟩ false) 49 (0,0))):=(Below.refl _ _).alloc (Nat.le_refl _) _;have hn1:(w.alloc (.cells (resD 0 ⟨#[]⟩ false) 49 (0,0))).heap[w.heap.size]? =some (.cells (resD 0 ⟨#[]⟩ false) 49 (0,0)):=alloc_new _;have hm:=rtree_c (w.alloc (.cells (resD 0 ⟨#[]⟩ false) 49 (0,0))) V ms (h.later hb1)
 rw[ht]at hm;have hpos:0<ms.length:=by have:=tree_pos hp;unfold nds at this;simpa using this
 obtain ⟨m0,h0⟩:∃m0,ms[0]? =some m0:=at_of_lt hpos;have hN:=h;obtain ⟨ao,cap,rfl,_,hat⟩:=h.open;obtain ⟨b,o,rfl,hblt,hat⟩:=hat hpos;obtain ⟨q,hq⟩:∃q,q=ms.length:=⟨_,rfl⟩;rw[←hq]at hm;have hkey:∀w2,Below (w.alloc (.cells (resD 0 ⟨#[]⟩ false) 49 (0,0))).heap.size (w.alloc (.cells (resD 0 ⟨#[]⟩ false) 49 (0,0))) w2→XQ w ((w2.alloc (.cells #[.slice (some ⟨b,o,none⟩) q cap,.int .i64 0,.int .i64 0] 101)).alloc (.cells (resD 0 ⟨#[]⟩ false) 49 (0,0))) w2.heap.size b o cap ms none w.heap.size (w2.heap.size+1) 0 ⟨#[]⟩ false:=fun w2 hb2=>by
  have hb3:Below w2.heap.size w2 ((w2.alloc (.cells #[.slice (some ⟨b,o,none⟩) q cap,.int .i64 0,.int .i64 0] 101)).alloc (.cells (resD 0 ⟨#[]⟩ false) 49 (0,0))):=((Below.refl _ _).alloc (Nat.le_refl _) _).alloc (by simp) _;have hs2:w.heap.size+1≤w2.heap.size:=by have:=hb2.size;simpa using this
  have hbb:Below w.heap.size w w2:=hb1.trans (hb2.mono hb1.size);refine ⟨⟨hN,hblt,hbb.trans (hb3.mono (by omega)),by omega,?_,nofun,hp,hg⟩,(hb3.block _ (by omega)).trans ((hb2.block _ (lt_of_heap hn1)).trans hn1),alloc2_new _ _ _,Nat.le_refl _,by omega,by omega,by omega,by omega⟩;rw[←hq];exact alloc2_old _ _ _
 have HK:=hid hkey;have Hq:=hid hq;have HC:=hid (fun (a:Act) (w2:World) (db rb:Nat) (f:XrA a b o q cap w.heap.size db rb) (hx:XQ w w2 db b o cap ms none w.heap.size rb 0 ⟨#[]⟩ false)=>xr_chain f hx hq h0 ht);have Hm:=hid hm;rw[←hq];clear hm h hg ht hp hb1 hn1 hpos h0 hN hblt hat hq hkey;generalize docR (nds ms)=dx at*;refine calls_of_wp Tryz.func22 rfl ?_
 show Code.wp _ (Code.seq xr0 (Code.seq xr1 (Code.seq xr3 (Code.seq xr4 xrRest)))) _ _ _
 simp only[Tryz.ntmps22,List.size_toArray,List.length_cons,List.length_nil,Nat.reduceAdd,Nat.reduceSub,Array.replicate_succ,Array.replicate_zero,List.push_toArray,List.append_toArray,List.nil_append,List.cons_append];generalize bodyPost Tryz.prog Tryz.f22 (SReadR w dx)=QQ at*;unfold resD at Hm HK;dsimp only[xr0,xr1,xr3,xr4,ncs,ncl,ncr,ncb,nco,nct,nce,ncx,Tryz.f22]
 go_wp2_with fail
 refine Hm.out.mono ?_;rintro r w2 ⟨rfl,hb2⟩;have HX:=hid (HK.out w2 hb2);clear hb2 Hm HK;go_wp2;exact HC.out _ _ _ _ ⟨rfl,rfl,rfl,rfl,rfl,rfl⟩ HX.out
theorem rread_c (w:World) (V:Value) (ms:List NdM) (h:Nds w V ms) (hg:Glob w):
 Calls Tryz.prog 22 #[V] w (SReadR w (docR (nds ms))):=by
 cases ht:treeR (nds ms) with
 |false=>exact rread_bad w V ms h ht
 |true=>exact rread_good w V ms h hg ht (by rw[treeP_treeR];exact ht)
def SDecR (w0:World) (x:Except (Nat×Stop) (List Res)) (r:Ending) (w':World):Prop:=
 (match x with
  | .ok L=>∃V n ms,r= .returned (.tuple #[V,.int .i64 0,.int .i64 0,.int .i64 0])∧RsO w0 w' V n ms∧n=ms.length∧n≤1048576∧ms.map (·.r)=L
  | .error e=>r= .returned (.tuple #[.slice none 0 0,.int .i64 (e.1:Int),.int .i64 e.2.1,.int .i64 e.2.2]))∧Below w0.heap.size w0 w'
theorem results_tmp4' {w:World} {V a b c:Value} {tmps:Array Value} (h2:tmps[2]? =some V) (h3:tmps[3]? =some a) (h4:tmps[4]? =some b) (h5:tmps[5]? =some c):
 (results Tryz.f10 tmps).run Tryz.prog w= .ok (.tuple #[V,a,b,c]) w:=by
 rw[Array.getElem?_eq_some_iff]at h2 h3 h4 h5;obtain ⟨l2,e2⟩:=h2;obtain ⟨l3,e3⟩:=h3;obtain ⟨l4,e4⟩:=h4;obtain ⟨l5,e5⟩:=h5;simp[results,Tryz.results10,Array.getD,l2,e2,l3,e3,l4,e4,l5,e5]
theorem rdecode_c (w:World) (V:Value) (ds:List DocV) (h:DocsR w V ds) (hg:Glob w):
 Calls Tryz.prog 10 #[V] w (SDecR w (docsP (docsN ds) 0)):=by
 obtain ⟨ao,cap,rfl,hl,hat⟩:=h.sl;obtain ⟨q,hq⟩:∃q,q=ds.length:=⟨_,rfl⟩;rw[←hq]at hl hat ⊢;have hNl:(docsN ds).length=q:=by unfold docsN;rw[List.length_map,hq]
 have Hdoc:=hid (fun j (hj:j<q)=>show ∃d b o,ds[j]? =some d∧ao=some ⟨b,o,none⟩∧b<w.heap.size∧w.cell? ⟨b,o+j,none⟩=some d.v∧Nds w d.v d.ms∧(docsN ds)[j]? =some (nds d.ms) from by
  obtain ⟨d,hd⟩:∃d,ds[j]? =some d:=at_of_lt (by omega);obtain ⟨b,o,e,hb,hc⟩:=hat (by omega);have h1:=hc j d hd 0 d.v rfl;rw[Nat.mul_one,Nat.add_zero]at h1;exact ⟨d,b,o,hd,e,hb,h1,h.each d (List.mem_of_getElem? hd),by unfold docsN;rw[List.getElem?_map,hd];rfl⟩)
 have hd0:DecS w w (docsP (docsN ds) 0) (docsN ds) (.slice none 0 0) 0 q:=⟨Nat.zero_le _,[],rfl,RsO.first (Below.refl _ _),by
  rw[List.drop_zero];cases docsP (docsN ds) 0<;>rfl⟩
 have H0:=hid hd0;have Hl:=hid (And.intro hl hNl);have Hg:=hid hg;generalize docsP (docsN ds) 0=D at*;clear h hg hat hq hd0 hNl hl;go_enter Tryz.func10,Tryz.ntmps10;go_wp2
 go_loopw [6,7] (fun vv vi wr=>∃(v2:Value) (j:Nat),v2=vv∧vi= .int .i64 (j:Int)∧Hid (Below w.heap.size w wr∧DecS w wr D (docsN ds) v2 j q)) (fun _ vi _=>q-(intOf vi).toNat)
 case atStart=>exact ⟨_,0,rfl,rfl,hid ⟨Below.refl _ _,H0.out⟩⟩
 case round=>
  clear H0;obtain ⟨v2,j,rfl,rfl,H⟩:=hrel;by_cases hj:j<q
  ·have tj:decide (j<q)=true:=dT hj;have bj:(j:Int)<(q:Int):=by omega
   obtain ⟨d,b,o,hd,rfl,hblt,hc,hn,hN⟩:=Hdoc.out j hj;have hbw:=H.out.1;have x1:=(hbw.cell (p:=⟨b,o+j,none⟩) hblt).trans hc;obtain ⟨da,dq,dc,hdv⟩:∃da dq dc,d.v= .slice da dq dc:=by
    obtain ⟨a2,c2,e2,_⟩:=hn.sl;exact ⟨_,_,_,e2⟩
   have hr:=rread_c wr d.v d.ms (hn.later hbw) (Hg.out.later hbw);rw[hdv]at hr x1;rw[doc_same]at hr;have HN:=hid hN;have Hbw:=hid hbw;cases hdp:docP (nds d.ms) with
   |error e=>
    rw[hdp]at hr;obtain ⟨l,c⟩:=e;have Hr:=hid (show Calls Tryz.prog 22 #[.slice da dq dc] wr fun r w'=>∃ev tv rv,r= .returned (.tuple #[.agg (resA Res.zero ev tv rv),.int .i64 l,.int .i64 c])∧ResL w' Res.zero ev tv rv∧Below wr.heap.size wr w' from hr.mono (fun r w' hh=>by
     obtain ⟨ev,tv,rv,he,hn,hb⟩:=hh;exact ⟨ev,tv,rv,he,hn.toL,hb⟩))
    have tc:(c==0)=false:=beq_eq_false_iff_ne.2 (nz_doc _ _ hdp);have HD:=hid (DecS.bad H.out.2 hN hdp);clear hr hdp hN hbw hn hc hdv hd hj H Hdoc HN
    go_wp2_with fail
    refine Hr.out.mono ?_;rintro r w4 ⟨ev,tv,rv,rfl,hL,hb4⟩;obtain ⟨ea,ec,he,_⟩:=hL.e;obtain ⟨ta,tc',ht,_⟩:=hL.t;obtain ⟨ra,rc,hru,_⟩:=hL.r;have Hb4:=hid (Hbw.out.trans (hb4.mono Hbw.out.size));unfold resA;rw[he,ht,hru];clear hb4 Hr Hbw hL he ht hru;go_wp2;refine bodyPost_ret (results_tmp4' rfl rfl rfl rfl) rfl ?_;rw[HD.out];exact ⟨rfl,Hb4.out.alloc Hb4.out.size _⟩
   |ok x=>
    rw[hdp]at hr;have Hr:=hid (show Calls Tryz.prog 22 #[.slice da dq dc] wr fun r w'=>∃ev tv rv,r= .returned (.tuple #[.agg (resA x ev tv rv),.int .i64 0,.int .i64 0])∧ResN w' wr.heap.size x ev tv rv∧Below wr.heap.size wr w' from hr.mono (fun r w' hh=>by
     obtain ⟨ev,tv,rv,he,hn,hb⟩:=hh;exact ⟨ev,tv,rv,he,hn,hb⟩))
    have Hdp:=hid hdp;have Hl2:=hid (show j≤2000000 by have:=Hl.out.1;omega);obtain ⟨Hms,Hgo⟩:=step_two (k:=j) (n:=q) hj (by have:=Hl.out.1;omega);have HH:=hid H.out.2;have Hj:=hid hj;clear hr hdp hN hbw hn hc hdv hd hj H Hdoc
    go_wp2_with fail
    refine Hr.out.mono ?_;rintro r w4 ⟨ev,tv,rv,rfl,hN4,hb4⟩;obtain ⟨ea,ec,he,_⟩:=hN4.toL.e;obtain ⟨ta,tc,ht,_⟩:=hN4.toL.t;obtain ⟨ra,rc,hru,_⟩:=hN4.toL.r;obtain ⟨_,ms,hml,hro,hDD⟩:=HH.out;have hb4w:∀o1 o2,Below w4.heap.size w4 ((w4.alloc o1).alloc o2):=fun o1 o2=>((Below.refl _ _).alloc (Nat.le_refl _) o1).alloc (by simp) o2;have Hown:=hid (fun o1 o2=>(hro.later (hb4.trans ((hb4w o1 o2).mono hb4.size))).row.row)
    have Hend:=hid (fun o1 o2 v' w2 a1 a2 a3=>show Below w.heap.size w w2∧DecS w w2 D (docsN ds) v' (j+1) q from by
     have h6:=RsO.app (w1:=(w4.alloc o1).alloc o2) (v':=v') (w2:=w2) (q:=j+1) (ms:=ms) (m:=⟨x,ev,tv,rv⟩) hro (hb4.trans ((hb4w o1 o2).mono hb4.size)) (hN4.modM (m:=⟨x,ev,tv,rv⟩) (mod_below (hb4w o1 o2)) (fun _ _ q=>q)) a1 a2 a3;exact ⟨h6.row.below,DecS.step hml hDD Hj.out HN.out Hdp.out h6⟩)
    have Hone:=hid (rs_one (m:=⟨x,ev,tv,rv⟩) hN4);have Harr:=hid (show (resA x ev tv rv).toList=(RsM.mk x ev tv rv).cells from rfl);unfold resA at Harr;rw[he,ht,hru]at Hend Hone Harr;rw[he,ht,hru];unfold resA;have hz:(Value.agg resZ.toArray)= .agg #[.int .i64 0,.string ⟨#[]⟩,.slice none 0 0,.slice none 0 0,.string ⟨#[]⟩,.slice none 0 0,.string ⟨#[]⟩,.bool false]:=rfl;have Hinfo:=hid res_info;rw[hz]at Hinfo
    clear hz hN4 he ht hru hml hro hDD hb4w hb4 HH Hdp HN Hbw Hr Hj
    go_wp2_with (at_builtin;refine rowAppendB 49 24 (.agg #[.int .i64 0,.string ⟨#[]⟩,.slice none 0 0,.slice none 0 0,.string ⟨#[]⟩,.slice none 0 0,.string ⟨#[]⟩,.bool false]) 8 136 Tryz.underlying24 Hinfo.out rfl (by decide) (by decide) rfl _ _ rfl v2 j _ rfl (Hown.out _ _) (w4.heap.size+1) _ _ rfl (alloc2_new _ _ _) Harr.out rfl Hone.out Hl2.out (j+1) rfl ?_;intro ao4 c4 w2 own2 gr2 new2;have HE:=hid (Hend.out _ _ _ _ own2 gr2 new2);clear own2 gr2 new2)
    go_roundw
    case rel=>exact ⟨_,j+1,rfl,Hgo.out,HE⟩
    case measure=>exact Hms.out
  ·have tj:decide (j<q)=false:=dF hj;obtain ⟨ms,hml,hro,hD⟩:=H.out.2.done (by rw[Hl.out.2];omega);have HD:=hid hD;have hjl:=H.out.2.1;have HE:=hid (And.intro hro H.out.1);have Hml:=hid (And.intro hml (show j≤1048576 by have:=Hl.out.1;omega));clear H Hdoc hro hD hml hjl hj;go_wp2;refine bodyPost_ret (results_tmp4' rfl rfl rfl rfl) rfl ?_;rw[HD.out];exact ⟨⟨_,_,ms,rfl,HE.out.1,Hml.out.1.symm,Hml.out.2,rfl⟩,HE.out.2⟩
structure Elt (α:Type) where
 cells:α→List Value
 own:α→Nat→Prop
 P:World→Nat→α→Prop
 mod:∀{w w2:World} {lo:Nat} {x:α} {F:Nat→Prop},P w lo x→Mod F w w2→(∀g,own x g→¬F g)→P w2 lo x
 down:∀{w:World} {lo lo':Nat} {x:α},P w lo x→lo'≤lo→P w lo' x
 lt:∀{w:World} {lo:Nat} {x:α},P w lo x→∀g,own x g→lo≤g∧g<w.heap.size
structure RowO {α:Type} (E:Elt α) (w wr:World) (e:TypeId) (sz:Nat) (v:Value) (n:Nat) (xs:List α):Prop where
 row:RO w wr e sz v n (xs.flatMap E.cells)
 each:∀x∈xs,E.P wr w.heap.size x
 apart:∀x∈xs,∀g,E.own x g→v.ownBlock≠some g
theorem RowO.first {α:Type} {E:Elt α} {w w1:World} {e:TypeId} {sz:Nat} (hb:Below w.heap.size w w1):RowO E w w1 e sz (.slice none 0 0) 0 []:=⟨RO.start hb,nofun,nofun⟩
theorem RowO.later {α:Type} {E:Elt α} {w wr w2:World} {e:TypeId} {sz:Nat} {v:Value} {n:Nat} {xs:List α} (h:RowO E w wr e sz v n xs) (hb:Below wr.heap.size wr w2):RowO E w w2 e sz v n xs:=
 ⟨h.row.later hb,fun m hm=>E.mod (h.each m hm) (mod_below hb) (fun _ _ q=>q),h.apart⟩
theorem RowO.app {α:Type} {E:Elt α} {w wr w1 w2:World} {e:TypeId} {sz:Nat} {v v':Value} {n q:Nat} {xs:List α} {m:α} (h:RowO E w wr e sz v n xs) (hb1:Below wr.heap.size wr w1) (hm:E.P w1 wr.heap.size m) (own2:w2.ownsRow 0 e sz v' q (xs.flatMap E.cells++E.cells m)) (gr2:w1.grownBy w2 v.ownBlock)
 (new2:∀g,v'.ownBlock=some g→v.ownBlock=some g∨w1.heap.size≤g):RowO E w w2 e sz v' q (xs++[m]):=by
 have hr2:=RO.app h.row hb1 own2 gr2 new2;have h1:=h.later hb1;have hM:Mod (fun k=>v.ownBlock=some k) w1 w2:=(Mod.refl _ _).grown gr2 (fun k e _=>e);have hlo:=h.row.below.size;have hap:∀y∈xs++[m],(∀g,E.own y g→v.ownBlock≠some g)∧E.P w1 w.heap.size y:=by
  intro y hy;rcases List.mem_append.1 hy with hy|hy
  ·exact ⟨h.apart y hy,h1.each y hy⟩
  ·obtain rfl:=List.mem_singleton.1 hy;refine ⟨fun g hg e=> ?_,E.down hm hlo⟩;have h3:=(E.lt hm g hg).1;have h4:=(h.row.row.lt g e).2;omega
 refine ⟨?_,fun y hy=> ?_,fun y hy g hg e=> ?_⟩
 ·rw[List.flatMap_append,List.flatMap_singleton];exact hr2
 ·exact E.mod (hap y hy).2 hM (fun g hg q=>(hap y hy).1 g hg q)
 ·rcases new2 g e with q|q
  ·exact (hap y hy).1 g hg q
  ·have:=(E.lt (hap y hy).2 g hg).2;omega
structure NdP (w:World) (lo:Nat) (m:NdM):Prop where
 row:w.ownsRow 0 3 1 m.kv m.nd.kids.length (m.nd.kids.flatMap intCell)
 fresh:∀g,m.kv.ownBlock=some g→lo≤g
 kind:I64 m.nd.kind
 line:I64 m.nd.line
 text:m.nd.text.size≤1048576
 key:m.nd.key.size≤1048576
 len:m.nd.kids.length≤1048576
def NdE:Elt NdM where
 cells:=NdM.cells
 own m g:=m.kv.ownBlock=some g
 P:=NdP
 mod h hm hF:=⟨ownsRow_mod h.row hm hF,h.fresh,h.kind,h.line,h.text,h.key,h.len⟩
 down h hl:=⟨h.row,fun g hg=>Nat.le_trans hl (h.fresh g hg),h.kind,h.line,h.text,h.key,h.len⟩
 lt h g hg:=⟨h.fresh g hg,(h.row.lt g hg).2⟩
theorem NdP.ok {w:World} {lo:Nat} {m:NdM} (h:NdP w lo m):m.Ok w:=
 ⟨h.kind,h.line,h.key,h.text,SlR.ofRow h.row rfl (fun _=>rfl) h.len (by decide)⟩
structure DocP (w:World) (lo:Nat) (d:DocV):Prop where
 row:w.ownsRow 0 55 6 d.v d.ms.length (d.ms.flatMap NdM.cells)
 fresh:∀g,d.v.ownBlock=some g→lo≤g
 each:∀m∈d.ms,NdP w lo m
 len:d.ms.length≤1048576
def DocE:Elt DocV where
 cells:=DocV.cells
 own d g:=d.v.ownBlock=some g∨∃m∈d.ms,m.kv.ownBlock=some g
 P:=DocP
 mod h hm hF:=⟨ownsRow_mod h.row hm (fun g hg=>hF g (.inl hg)),h.fresh,fun m hm'=>NdE.mod (h.each m hm') hm (fun g hg=>hF g (.inr ⟨m,hm',hg⟩)),h.len⟩
 down h hl:=⟨h.row,fun g hg=>Nat.le_trans hl (h.fresh g hg),fun m hm=>NdE.down (h.each m hm) hl,h.len⟩
 lt h g hg:=by
  rcases hg with hg|⟨m,hm,hg⟩
  ·exact ⟨h.fresh g hg,(h.row.lt g hg).2⟩
  ·exact NdE.lt (h.each m hm) g hg
theorem DocP.nds {w:World} {lo:Nat} {d:DocV} (h:DocP w lo d):Nds w d.v d.ms:=
 ⟨SlR.ofRow h.row rfl (fun _=>rfl) h.len (by decide),fun m hm=>(h.each m hm).ok⟩
theorem RowO.docs {w wr:World} {v:Value} {n:Nat} {ds:List DocV} (h:RowO DocE w wr 33 1 v n ds) (hn:n=ds.length) (hb:n≤1048576):DocsR wr v ds:=
 ⟨SlR.ofRow h.row.row hn (fun _=>rfl) hb (by decide),fun d hd=>(h.each d hd).nds⟩
theorem RowO.doc {w wr:World} {v:Value} {n:Nat} {ms:List NdM} (h:RowO NdE w wr 55 6 v n ms) (hn:n=ms.length) (hb:n≤1048576):DocP wr w.heap.size ⟨v,ms⟩:=
 ⟨by rw[←hn];exact h.row.row,h.row.new,h.each,by rw[←hn];exact hb⟩
theorem run_append_none {P:Program} {w:World} (base:Nat) (t ty e:TypeId) (i:TypeInfo) (size:Nat) (ht:P.underlying t=some (.slice e)) (hi:P.info? e=some i)
 (v:Value) (n:Nat) (xs:List Value) (c:Nat) (hown:w.ownsRow base e size v n xs):
 (Builtin.append_ #[t,t] ty #[v,.slice none 0 c]).run P w= .ok v w:=by
 rcases hown.2 with ⟨rfl,rfl⟩|⟨g,cap,cur,rfl,_,_,hnc,_⟩
 ·simp[Builtin.append_,run_underlying ht,sizeOf,typeInfo,hi,Builtin.lenOf,Builtin.firstCells]
 ·simp[Builtin.append_,run_underlying ht,sizeOf,typeInfo,hi,Builtin.lenOf,Builtin.firstCells,hnc,storeCells]
theorem slice_info:(Tryz.prog.info? 33).map (fun i=>(i.zero,i.size,i.bytes))=some (some (.slice none 0 0),1,24):=by kernel_rfl
theorem ints_one (ks:List Int):∀u∈ks.flatMap intCell,u.oneCell'=true:=by
 intro u hu;obtain ⟨x,_,hx⟩:=List.mem_flatMap.1 hu;unfold intCell at hx;rw[List.mem_singleton]at hx;subst hx;rfl
theorem intsAppend {w:World} {ops:Array Oper} {rest:List Oper} {o:Oper} {a:Act} {Q:Exit→Act→World→Prop} (hgd:o.guard=none) (s x:Operand)
 (ho:o.op= .call {callee:= .builtin .append,args:=#[s,x],argTypes:=#[53,53]})
 (v:Value) (hs:a.eval s=v) (hown:w.ownsRow 0 3 1 v 0 []) (ao:Option Addr) (m c:Nat) (ks:List Int) (hx:a.eval x= .slice ao m c) (hsl:SlR w (.slice ao m c) 1 ks intCell)
 (h:∀ao' c' w',w'.ownsRow 0 3 1 (.slice ao' m c') m (ks.flatMap intCell)→w.grownBy w' v.ownBlock→(∀g,(Value.slice ao' m c').ownBlock=some g→v.ownBlock=some g∨w.heap.size≤g)→
  wpList Tryz.prog ops Q rest (a.put o.dst (.slice ao' m c')) w'):wpList Tryz.prog ops Q (o::rest) a w:=by
 obtain ⟨ao1,c1,hv,hl,hat⟩:=ints_open hsl;injection hv with e1 e2 e3
 subst e1;subst e2;subst e3;cases ao with
 |none=>
  have h0:ks=[]:=by
   refine List.eq_nil_of_length_eq_zero ?_;rcases Nat.eq_zero_or_pos ks.length with q|q
   ·exact q
   ·obtain ⟨b,o,e,_⟩:=hat q;cases e
  subst h0;have hf:∃ao' c',v= .slice ao' 0 c':=by
   rcases hown.2 with ⟨hv,_⟩|⟨g,cap,cur,hv,_⟩
   ·exact ⟨none,0,hv⟩
   ·exact ⟨_,_,hv⟩
  obtain ⟨ao',c',rfl⟩:=hf;obtain ⟨i,hi,hz,hsize,hby⟩:=info_parts int_info;refine wpList_plain hgd fun K hK=> ?_;have hr:=run_append_none (P:= Tryz.prog) (w:=w) 0 53 o.type 3 i 1 Tryz.underlying53 hi _ 0 [] c hown;unfold Oper.wp execOp;simp only[ho,resolve,invoke,builtin,Sem.run_bind,Sem.run_pure,Result.andThen_ok,List.map_toArray,List.map_cons,List.map_nil,hs,hx,List.length_nil,hr]
  exact hK _ _ (h _ _ w hown ⟨rfl,rfl,rfl,Nat.le_refl _,fun _ _ _=>rfl⟩ fun g hg=> .inl hg)
 |some ad=>
  refine wpList_append_q hgd s x 53 ho 3 (.int .i64 0) 1 8 Tryz.underlying53 int_info rfl (by decide) v 0 [] hs hown (some ad) ks.length c (ks.flatMap intCell) hx (flat_len (sz:=1) (cells:=intCell) (fun _=>rfl) ks) nofun (fun ad' had j u hj=> ?_) (ints_one ks) (by unfold maxLen;omega) (by omega) ks.length (by omega) h;obtain rfl:=Option.some.inj had;have hj2:=(List.getElem?_eq_some_iff.1 hj).1
  rw[flat_len (sz:=1) (cells:=intCell) (fun _=>rfl) ks,Nat.mul_one]at hj2;obtain ⟨y,hy⟩:=at_of_lt hj2;obtain ⟨b,o,e,_,hc⟩:=hat (by omega);obtain rfl:=Option.some.inj e;have h3:=flat_get (sz:=1) (cells:=intCell) (fun _=>rfl) ks j y hy 0 (.int .i64 y) rfl;rw[Nat.mul_one,Nat.add_zero]at h3;rw[h3]at hj;obtain rfl:=Option.some.inj hj;have e2:Addr.add ⟨b,o,none⟩ j=⟨b,o+j,none⟩:=by simp[Addr.add]
  rw[e2];exact hc j y hy
end Go.Proofs.YtfenoaeoedobmaaGreatDoor
