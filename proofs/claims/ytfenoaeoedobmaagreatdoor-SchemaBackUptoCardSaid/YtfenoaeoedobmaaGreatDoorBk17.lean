/-
Parts of a proof.
-/
import Derived.OwnWalk
import Derived.Test.YtfenoaeoedobmaaGreatDoorBk16
set_option linter.unusedVariables false
set_option linter.unusedSimpArgs false
set_option maxHeartbeats 4000000
set_option maxRecDepth 20000
namespace Go.Proofs.YtfenoaeoedobmaaGreatDoor
open Go Go.RowKit
section
variable {w0 w:World} {Q:Exit->Act->World->Prop} {a:Act} {ms:List NdM} {b o n cap g:Nat} {d:List Nat}
theorem a5i (hN:Nds w0 (.slice (some ⟨b,o,none⟩) n cap) ms) (hb:b<w0.heap.size) (hat:∀i m,ms[i]? =some m->NdAt w0 b (o+i*6) m/\m.Ok w0) (hg:Glob w0) (hn:ms.length=n) (hn4:n<=4096) (hf:EtO a b o n cap g 0) (h:EM w0 w g n d)
 (ok:restP (nds ms) (nds ms) 0 d=true->∀a' w',EtO a' b o n cap g n->Below w0.heap.size w0 w'->Q (.exit 0) a' w')
 (bad:restP (nds ms) (nds ms) 0 d=false->∀a' w',Below w0.heap.size w0 w'->a'.defers=[]->a'.tmps[2]? =some (.bool false)->Q .ret a' w'):(ncb etLoop).wp Tryz.prog Q a w:=by
 show (Code.loop (Code.seq etO1 (Code.seq etO2 (Code.seq (Code.block 1 a3l) etO4)))).wp Tryz.prog Q a w
 have hnn:(nds ms).length=n:=by rw[aBa,hn]
 refine wp_loop (fun a' w'=>∃(i:Nat) (d':List Nat),i<=n/\EtO a' b o n cap g i/\EM w0 w' g n d'/\restP (nds ms) (nds ms) 0 d=restP (nds ms) ((nds ms).drop i) i d') (fun a' _=>n-(intOf (a'.tmps.getD 32 undef)).toNat) ⟨0,d,Nat.zero_le _,hf,h,rfl⟩ ?_;clear hf h;rintro a1 w1 ⟨i,d1,hi,hf1,h1,hs⟩;by_cases hin:i<n
 ·have hs2:=hs.trans (aZ1 (ns:=nds ms) (i:=i) (d:=d1) (by omega));have HK:=hid (fun (Q':Exit->Act->World->Prop) (a':Act) (hf':EtO a' b o n cap g i)=>a5h (Q:=Q') (w:=w1) hN hb hat hg hn hf' h1 hin);obtain ⟨Hms,Hgo⟩:=aA3 (k:=i) (n:=n) hin (by omega);have Hok:=hid (fun (d2:List Nat) (e:nodeP (nds ms) i ((nds ms)[i]!) d1=some d2)=>show restP (nds ms) (nds ms) 0 d=restP (nds ms) ((nds ms).drop (i+1)) (i+1) d2 from hs2.trans (by rw[e]))
  have Hbad:=hid (fun (e:nodeP (nds ms) i ((nds ms)[i]!) d1=none)=>bad (hs2.trans (by rw[e])));have Hin:=hid hin;have ti:decide (i<n)=true:=dT hin;have wi:wrap64 ((i:Int)+1)=(i:Int)+1:=aA1 (by omega) (by omega);obtain ⟨v,rfl,eE⟩:=hf1.shape;simp only[et_L,eE];clear eE;clear hf1 hs hs2 ok bad h1 hN hat hn hnn hi hin hg hb;dsimp only[etO1,etO2,ncs,ncl,ncr,ncb,nco,nct,nce,ncx,Tryz.f63]
  go_wp2
  rename_i Q1 K1 hK1
  have Hnext:∀(a2:Act) (w2:World) (d2:List Nat),nodeP (nds ms) i ((nds ms)[i]!) d1=some d2->EtO a2 b o n cap g i->EM w0 w2 g n d2->K1 a2 w2:=by
   intro a2 w2 d2 e2 f2 m2;refine hK1 _ _ ?_;have HE:=hid (show i+1<=n/\EM w0 w2 g n d2/\restP (nds ms) (nds ms) 0 d=restP (nds ms) ((nds ms).drop (i+1)) (i+1) d2 from ⟨Hin.out,m2,Hok.out d2 e2⟩);obtain ⟨v2,rfl,eE⟩:=f2.shape;simp only[et_L,eE];clear eE;clear f2 m2 e2 HK Hok Hbad;dsimp only[etO4,ncs,ncl,ncr,ncb,nco,nct,nce,ncx,Tryz.f63];go_wp2;obtain ⟨z1,z2,z3⟩:=HE.out;exact ⟨⟨i+1,_,z1,⟨rfl,rfl,rfl,rfl,rfl,rfl,congrArg some Hgo.out⟩,z2,z3⟩,Hms.out⟩
  refine HK.out _ _ ⟨rfl,rfl,rfl,rfl,rfl,rfl,rfl⟩ (fun a2 w2 d2 e2 f2 m2=>⟨Hnext a2 w2 d2 e2 f2 m2,?_⟩) (fun e2=>Hbad.out e2);exact Hnext a2 w2 d2 e2 f2 m2
 ·have ei:i=n:=by omega
  subst ei;have hfin:restP (nds ms) (nds ms) 0 d=true:=hs.trans (aVo (by omega));have HO:=hid (fun a' hf'=>ok hfin a' w1 hf' h1.below);have ti:decide (i<i)=false:=dF (Nat.lt_irrefl i);obtain ⟨v,rfl,eE⟩:=hf1.shape;simp only[et_L,eE];clear eE;clear hf1 hs ok bad h1 hN hat hn hfin hnn hi hg hb;dsimp only[etO1,etO2,ncs,ncl,ncr,ncb,nco,nct,nce,ncx,Tryz.f63];go_wp2;exact HO.out _ ⟨rfl,rfl,rfl,rfl,rfl,rfl,rfl⟩
end
theorem aMe {ns:List Nd} (h:¬(ns≠[]/\ns.length<=4096/\(ns[0]!).key=⟨#[]⟩)):treeP ns=false:=by unfold treeP;rw[dF h];rfl
theorem aVr {ns:List Nd} (h:ns≠[]/\ns.length<=4096/\(ns[0]!).key=⟨#[]⟩):treeP ns=restP ns ns 0 (1::List.replicate (ns.length-1) 0):=by unfold treeP;rw[dT h];rfl
theorem aVs (n:Nat):(madeCells (Value.int .i64 0).cells (n*1)).toList=dInts (List.replicate n 0):=by
 unfold dInts;rw[List.map_replicate,Nat.mul_one];apply List.ext_getElem
 ·simp[size_madeCells]
 ·intro i h1 h2;simp only[List.getElem_replicate];unfold madeCells;simp[Value.cells];rw[Nat.mod_one];rfl
theorem EM.make {w w1:World} {n:Nat} (h0:0<n) (own:w1.ownsRow w.heap.size 3 1 (.slice (some ⟨w.heap.size,0,none⟩) n n) n (madeCells (Value.int .i64 0).cells (n*1)).toList) (gr:w.grownBy w1 none):
 EM w w1 w.heap.size n (List.replicate n 0):=
 ⟨((Mod.refl (fun _=>False) w).grown gr nofun).below (a7c _) (fun _ f=>f.elim),by rw[<-aVs];exact aDz own 0 (Nat.zero_le _),a7c _,by simp,fun x hx=>by
  rw[List.mem_replicate]at hx;omega⟩
theorem EM.store {w0 w:World} {g n:Nat} {d:List Nat} (h:EM w0 w g n d) (k x:Nat) (hx:x<=17):EM w0 (w.setCell ⟨g,k,none⟩ (.int .i64 (x:Int))) g n (d.set k x):=by
 obtain ⟨s1,s2⟩:=h.row.stored k (.int .i64 (x:Int));have hm:Mod (fun q=>q=g) w (w.setCell ⟨g,k,none⟩ (.int .i64 (x:Int))):=(Mod.refl _ w).setCell _ _ (fun _=>rfl);refine ⟨h.below.trans (hm.below h.below.size fun q hq=>by rw[hq];exact h.new),by rw[<-aN0];exact s1,h.new,by rw[List.length_set];exact h.len,fun y hy=> ?_⟩;rcases List.mem_or_eq_of_mem_set hy with q|q
 ·exact h.low y q
 ·rw[q];exact hx
theorem aPw {n:Nat} (h0:0<n):(List.replicate n 0).set 0 1=1::List.replicate (n-1) 0:=by
 obtain ⟨m,rfl⟩:∃m,n=m+1:=⟨n-1,by omega⟩;rfl
theorem a5j (w:World) (V:Value) (ms:List NdM) (h:Nds w V ms) (hg:Glob w):
 Calls Tryz.prog 63 #[V] w fun r w'=>r= .returned (.bool (treeP (nds ms)))/\Below w.heap.size w w':=by
 obtain ⟨ao,cap,hv,hl,hat0⟩:=h.open;have hV:=h;obtain ⟨n,hn⟩:∃n,n=ms.length:=⟨_,rfl⟩;rw[<-hn]at hv hl hat0;have hnn:(nds ms).length=n:=by rw[aBa,hn]
 rw[hv]at hV;subst hv;by_cases h0:n=0
 ·have He:=hid (aMe (ns:=nds ms) (fun q=>q.1 (List.eq_nil_of_length_eq_zero (by omega))));have t0:((n:Int)==0)=true:=by rw[beq_iff_eq];omega
  clear hn hl hat0 h hnn hV hg;go_enter Tryz.func63,Tryz.ntmps63;go_wp2;go_ret;exact ⟨ret_b He.out.symm,a7d _ _⟩
 ·have t0:((n:Int)==0)=false:=bF (by omega);by_cases h1:4096<n
  ·have He:=hid (aMe (ns:=nds ms) (fun q=>by have:=q.2.1;omega));have t1:decide (4096<(n:Int))=true:=dT (by omega);clear hn hl hat0 h hnn hV hg h0;go_enter Tryz.func63,Tryz.ntmps63;go_wp2;go_ret;exact ⟨ret_b He.out.symm,a7d _ _⟩
  ·have t1:decide (4096<(n:Int))=false:=dF (by omega);obtain ⟨b,o,rfl,hlt,hat⟩:=hat0 (by omega);obtain ⟨m0,hm0⟩:∃m0,ms[0]? =some m0:=aAh (by omega);have f1:=(hat 0 m0 hm0).1.c1;rw[Nat.zero_mul,Nat.add_zero]at f1;have hk0:((nds ms)[0]!)=m0.nd:=aDv hm0;obtain ⟨key,hkey⟩:∃key,key=m0.nd.key:=⟨_,rfl⟩;rw[<-hkey]at f1;have b0:(0:Int)<(n:Int):=by omega
   by_cases hky:key=⟨#[]⟩
   ·obtain ⟨k1,k2,k3⟩:=aEf hky;have hok:=aVr (ns:=nds ms) ⟨fun q=>by rw[q]at hnn;exact h0 hnn.symm,by omega,by rw[hk0,<-hkey];exact hky⟩;rw[hnn]at hok;obtain ⟨i0,hi5,hz0,hz1,hz2⟩:=info_parts aIn;have Hby:=hid (show i0.bytes*n<=281474976710656 by rw[hz2];omega);have Hml:=hid (show n<=maxLen by unfold maxLen;omega);have Hi5:=hid hi5;have Hz0:=hid hz0;have Hz1:=hid hz1;have Hfirst:=hid (fun w1 own gr=>EM.make (w:=w) (w1:=w1) (n:=n) (by omega) own gr)
    have HR:=hid (show (List.replicate n 0)[0]? =some 0 by rw[List.getElem?_replicate,if_pos (by omega)]);have Hfd:=hid (aPw (n:=n) (by omega));have HL:=hid (fun (Q':Exit->Act->World->Prop) (a':Act) w' (hf':EtO a' b o n cap w.heap.size 0) h'=>a5i (Q:=Q') (w0:=w) (w:=w') (a:=a') (d:=1::List.replicate (n-1) 0) hV hlt hat hg hn.symm (by omega) hf' h');rw[<-hok]at HL;generalize treeP (nds ms)=tp at*
    clear hn hl hat0 hat hlt hm0 hk0 hkey h hV hnn hg h0 h1 hky hok hi5 hz0 hz1 hz2;go_enter Tryz.func63,Tryz.ntmps63
    go_wp2_with (at_make;refine wpList_make_full _ rfl _ _ 53 rfl w.heap.size 3 i0 (.int .i64 0) 1 Tryz.underlying53 Hi5.out Hz0.out Hz1.out _ _ _ _ n rfl rfl rfl rfl Hby.out Hml.out (a7c _) ?_;intro w1 own gr;have HF:=hid (Hfirst.out w1 own gr);have fz:=HF.out.frozen 0;have ce:=HF.out.at HR.out;clear own gr)
    have HE:=hid (show EM w (w1.setCell ⟨w.heap.size,0,none⟩ (.int .i64 1)) w.heap.size n (1::List.replicate (n-1) 0) from by
     have:=HF.out.store 0 1 (by omega);rw[Hfd.out]at this;exact this)
    rename_i Q1 K1 hK1
    refine HL.out _ _ _ ⟨rfl,rfl,rfl,rfl,rfl,rfl,rfl⟩ HE.out (fun e a2 w2 f2 b2=>aUz (hK1 _ _ ?_)) (fun e a2 w2 b2 d2 t2=> ?_)
    ·have Hb2:=hid b2;have He:=hid e;obtain ⟨v2,rfl,eE⟩:=f2.shape;simp only[et_L,eE];clear eE;clear f2 b2 e HL HE HF ce fz Hfirst;go_wp2;go_ret;exact ⟨ret_b He.out.symm,Hb2.out⟩
    ·refine ⟨d2,.bool false,?_,ret_b e.symm,b2⟩;rw[<-aMb t2];exact results_tmp rfl _ _ _
   ·obtain ⟨k1,k2,k3⟩:=aE2 hky;have He:=hid (aMe (ns:=nds ms) (fun q=>hky (by rw[hkey,<-hk0];exact q.2.2)));clear hn hl hat0 hat hlt hm0 hk0 hkey h hV hnn hg h0 h1 hky;go_enter Tryz.func63,Tryz.ntmps63;go_wp2;go_ret;exact ⟨ret_b He.out.symm,a7d _ _⟩
def emitV (ns:List Nd):ByteArray×Int:=
 if treeP ns=false then (⟨#[]⟩,100) else if 65536<(emitL ns).length then (⟨#[]⟩,3) else (⟨(emitL ns).toArray⟩,0)
theorem aVt {a b:ByteArray×Int} (h:a=b):Ending.returned (.tuple #[.string a.1,.int .i64 a.2])= .returned (.tuple #[.string b.1,.int .i64 b.2]):=by rw[h]
theorem a3n (w:World) (V:Value) (ms:List NdM) (h:Nds w V ms) (hg:Glob w):
 Calls Tryz.prog 24 #[V] w fun r w'=>r= .returned (.tuple #[.string (emitV (nds ms)).1,.int .i64 (emitV (nds ms)).2])/\Below w.heap.size w w':=by
 have Ht:=hid (a5j w V ms h hg);cases ht:treeP (nds ms) with
 |false=>
  have hv:(⟨#[]⟩,100)=emitV (nds ms):=by unfold emitV;rw[if_pos ht]
  rw[ht]at Ht;have Hv:=hid hv;clear h hg ht hv;go_enter Tryz.func24,Tryz.ntmps24
  go_wp2_with fail
  refine Ht.out.mono ?_;rintro r w1 ⟨rfl,hb⟩;have Hb:=hid hb;clear hb Ht;go_wp2;refine bodyPost_ret (results_tmp2 rfl _ _ _) rfl ?_;exact ⟨aVt Hv.out,Hb.out⟩
 |true=>
  have hlen:0<ms.length:=by
   have:=((aEe _).1 ht).1.1;rw[<-aBa];exact List.length_pos_iff.2 this
  have hnn:(nds ms).length=ms.length:=aBa ms;have HL:=hid (fun w1 (hb1:Below w.heap.size w w1)=>lay_c h ht ms.length 0 0 false (w1.alloc (.cells #[.slice none 0 0] 114)) w1.heap.size (.slice none 0 0) []
   ⟨hb1.alloc hb1.size _,hb1.size,(fun g hg=>by cases hg)⟩ ⟨aAc _,World.ownsRow_nil _ _ _ _,(fun g hg=>by cases hg),by decide⟩ hlen (by omega) (a7c _))
  have hE:layP (nds ms) ms.length 0 0 false []=emitL (nds ms):=by unfold emitL;rw[hnn]
  rw[hE]at HL;have hv:emitV (nds ms)=if 65536<(emitL (nds ms)).length then (⟨#[]⟩,3) else (⟨(emitL (nds ms)).toArray⟩,0):=by unfold emitV;rw[if_neg (by rw[ht];decide)]
  rw[hv];rw[ht]at Ht;have HV:=hid h;obtain ⟨e,he⟩:∃e,e=emitL (nds ms):=⟨_,rfl⟩;rw[<-he]at HL |-;obtain ⟨rv,hrv⟩:∃rv:ByteArray×Int,rv=if 65536<e.length then (⟨#[]⟩,3) else (⟨e.toArray⟩,0):=⟨_,rfl⟩
  rw[<-hrv];have Hrv:=hid hrv;clear h hg ht hlen hnn hE hv he hrv;go_enter Tryz.func24,Tryz.ntmps24
  go_wp2_with fail
  refine Ht.out.mono ?_;rintro r w1 ⟨rfl,hb⟩;have Hb:=hid hb;have Hl:=hid (HL.out w1 hb);have hs1:=hb.size;clear hb Ht HL
  go_wp2_with fail
  refine Hl.out.mono ?_;rintro r w2 ⟨rfl,v2,hp⟩;have hbn:=Hb.out;have HB:=hid (show Below w.heap.size w w2 from (hbn.alloc hbn.size (.cells #[.slice none 0 0] 114)).trans (hp.mod.below (hbn.alloc hbn.size _).size (fun k hk=>by
   rcases hk with e|e
   ·rw[e];exact hs1
   ·cases e)))
  have p0:=aAa hp.pg.blk 0;simp at p0;obtain ⟨ao1,c1v,hv1⟩:∃ao c,v2= .slice ao e.length c:=by
   rcases hp.pg.row.2 with ⟨hv,hn⟩|⟨g,cap,cur,hv,_⟩
   ·exact ⟨none,0,by rw[hv,hn]⟩
   ·exact ⟨_,_,hv⟩
  have hc:=aGw hp.pg.row;rw[hv1]at p0 hc;clear hp Hl hbn hs1 hv1 Hb;by_cases h65:65536<e.length
  ·have t1:decide (65536<(e.length:Int))=true:=dT (by omega);have He:=hid (show (⟨#[]⟩,3)=rv by rw[Hrv.out,if_pos h65]);clear h65;go_wp2;refine bodyPost_ret (results_tmp2 rfl _ _ _) rfl ?_;exact ⟨aVt He.out,HB.out⟩
  ·have t1:decide (65536<(e.length:Int))=false:=dF (by omega);have He:=hid (show (⟨e.toArray⟩,0)=rv by rw[Hrv.out,if_neg h65]);clear h65;go_wp2;refine bodyPost_ret (results_tmp2 rfl _ _ _) rfl ?_;exact ⟨aVt He.out,HB.out⟩
theorem a3o (w:World) (V:Value) (ms:List NdM) (h:Nds w V ms) (hg:Glob w):
 Calls Tryz.prog 34 #[V] w fun r w'=>r= .returned (.int .i64 (emitV (nds ms)).2)/\Below w.heap.size w w':=by
 have He:=hid (a3n w V ms h hg);generalize emitV (nds ms)=e at*;obtain ⟨e1,e2⟩:=e;clear h hg;go_enter Tryz.func34,Tryz.ntmps34
 go_wp2_with fail
 refine He.out.mono ?_;rintro r w1 ⟨rfl,hb⟩;have Hb:=hid hb;clear hb He;go_wp2;go_ret;exact ⟨rfl,Hb.out⟩
theorem aB7 {ns:List Nd} {m:Nd} {key:ByteArray} {k:Nat} (h:aA2 ns m key=some k):needP ns m key= .ok (ns[k]!):=by
 unfold needP aA9;rw[h];rfl
theorem aB8 {ns:List Nd} {m:Nd} {key:ByteArray} (h:aA2 ns m key=none):needP ns m key= .error (m.line,122):=by
 unfold needP aA9;rw[h];rfl
theorem aK5 {ns:List Nd}:∀{l:List Int} {last:Int} {had:List ByteArray},kidsR ns 2 l last had=true->
 (∀a∈l,¬(ns[a.toNat]!).key∈had)/\l.Pairwise (fun a b=>(ns[a.toNat]!).key≠(ns[b.toNat]!).key)
 |[],_,_,_=>⟨(fun _ h=>nomatch h),List.Pairwise.nil⟩
 |k::r,last,had,h=>by
  unfold kidsR at h
  split at h
  ·cases h
  ·split at h
   ·cases h
   ·rename_i h1 h2
    obtain ⟨h3,h4⟩:=aK5 h;have h5:¬(ns[k.toNat]!).key∈had:=fun hm=>h2 (by unfold keyOk;rw[dT (show (2:Int)=2/\(ns[k.toNat]!).key∈had from ⟨rfl,hm⟩)];simp);refine ⟨fun a ha=> ?_,List.Pairwise.cons (fun a ha he=> ?_) h4⟩
    ·rcases List.mem_cons.1 ha with rfl|ha
     ·exact h5
     ·exact fun hm=>h3 a ha (List.mem_cons_of_mem _ hm)
    ·exact h3 a ha (by rw[<-he];exact List.mem_cons_self ..)
theorem aGj {ns:List Nd} {m:Nd} {key:ByteArray} {x:Nat} (h:aA2 ns m key=some x):∃z∈m.kids,z.toNat=x/\(ns[z.toNat]!).key=key:=by
 unfold aA2 at h;cases hf:m.kids.find? (fun k=>decide ((ns[k.toNat]!).key=key)) with
 |none=>rw[hf]at h;cases h
 |some z=>
  rw[hf]at h;refine ⟨z,List.mem_of_find?_eq_some hf,by simpa using h,?_⟩;have:=List.find?_some hf
  simpa using this
structure MapOk (ns:List Nd) (m:Nd):Prop where
 up:m.kids.Pairwise (· <·)
 low:∀z∈m.kids,0<=z/\z<(ns.length:Int)
 keys:m.kind=2->m.kids.Pairwise (fun a b=>(ns[a.toNat]!).key≠(ns[b.toNat]!).key)
theorem aZ4 {ns:List Nd} {i:Nat} (h:nodeR ns i (ns[i]!)=true):MapOk ns (ns[i]!):=by
 unfold nodeR at h
 split at h
 ·cases h
 ·rename_i h0
  split at h
  ·cases h
  ·rename_i h1
   split at h
   ·cases h
   ·rename_i h2
    by_cases hk:(ns[i]!).kind=1
    ·have hs:aCf (ns[i]!)=true:=Decidable.not_not.1 fun hh=>h1 ⟨hk,hh⟩;have e:=aI3 hs;exact ⟨(by rw[e];exact List.Pairwise.nil),(by rw[e];exact fun z hz=>nomatch hz),(fun _=>by rw[e];exact List.Pairwise.nil)⟩
    ·have hR:kidsR ns (ns[i]!).kind (ns[i]!).kids (i:Int) []=true:=Decidable.not_not.1 fun hh=>h2 ⟨by omega,.inr (.inr (.inr hh))⟩;obtain ⟨s1,s2⟩:=aDp hR;exact ⟨s2,fun z hz=>⟨by have:=(s1 z hz).1;omega,(s1 z hz).2⟩,fun h2k=>(aK5 (by rw[h2k]at hR;exact hR)).2⟩
def foldB (s:ByteArray):ByteArray:=⟨(s.data.toList.map foldC).toArray⟩
def Pan (e:Stop):Ending:= .panicked [{v:= .iface 76 (.agg #[.int .i64 e.1,.int .i64 e.2]),recovered:=false}]
theorem aGa (w:World) (l e:Int):Calls Tryz.prog 40 #[.int .i64 l,.int .i64 e] w fun r w'=>r=Pan (l,e)/\w'=w:=by
 go_enter Tryz.func40,Tryz.ntmps40;go_wp2;exact ⟨rfl,rfl,rfl⟩
structure DocM (w:World) (db b o cap:Nat) (ms:List NdM):Prop where
 nod:Nds w (.slice (some ⟨b,o,none⟩) ms.length cap) ms
 blt:b<w.heap.size
 doc:w.heap[db]? =some (.cells #[.slice (some ⟨b,o,none⟩) ms.length cap] 79 (0,0))
 tree:treeP (nds ms)=true
theorem DocM.later {w w2:World} {db b o cap:Nat} {ms:List NdM} (h:DocM w db b o cap ms) (hb:Below w.heap.size w w2):DocM w2 db b o cap ms:=
 ⟨h.nod.later hb,Nat.lt_of_lt_of_le h.blt hb.size,(hb.block _ (aAb h.doc)).trans h.doc,h.tree⟩
theorem DocM.at {w:World} {db b o cap:Nat} {ms:List NdM} (h:DocM w db b o cap ms) {i:Nat} {m:NdM} (hm:ms[i]? =some m):NdAt w b (o+i*6) m/\m.Ok w:=by
 obtain ⟨ao,cap',hv,hl,hat⟩:=h.nod.open;have h0:0<ms.length:=by have:=(a7j hm).1;omega
 obtain ⟨b',o',rfl,hlt,hat⟩:=hat h0;simp only[Value.slice.injEq,Option.some.injEq,Addr.mk.injEq,and_true,true_and]at hv;obtain ⟨⟨rfl,rfl⟩,rfl⟩:=hv;exact hat i m hm
theorem DocM.ok {w:World} {db b o cap:Nat} {ms:List NdM} (h:DocM w db b o cap ms) {m:NdM} (hm:m∈ms):m.Ok w:=h.nod.each m hm
theorem DocM.mapOk {w:World} {db b o cap:Nat} {ms:List NdM} (h:DocM w db b o cap ms) {m:NdM} (hm:m∈ms):MapOk (nds ms) m.nd:=by
 obtain ⟨i,hi,e⟩:=List.getElem_of_mem hm;have h2:ms[i]? =some m:=by rw[a7i hi,e]
 obtain ⟨_,hg⟩:=(aEe _).1 h.tree;have:=aZ4 (hg.node i (by rw[aBa];exact hi));rw[aDv h2]at this;exact this
theorem DocM.kid {w:World} {db b o cap:Nat} {ms:List NdM} (h:DocM w db b o cap ms) {m:NdM} (hm:m∈ms) {x:Int} (hx:x∈m.nd.kids):∃(k:Nat) (mk:NdM),x=(k:Int)/\ms[k]? =some mk/\mk∈ms:=by
 obtain ⟨h1,h2⟩:=(h.mapOk hm).low x hx;rw[aBa]at h2;obtain ⟨mk,hmk⟩:∃mk,ms[x.toNat]? =some mk:=aAh (by omega);exact ⟨x.toNat,mk,by omega,hmk,List.mem_of_getElem? hmk⟩
def aDh (b o:Nat) (x:Option Nat):Value:= .pointer (x.map fun k=>⟨b,o+k*6,none⟩)
def findK (ns:List Nd) (l:List Int) (key:ByteArray):Option Nat:=(l.find? fun k=>decide ((ns[k.toNat]!).key=key)).map Int.toNat
theorem aPx (ns:List Nd) (m:Nd) (key:ByteArray):aA2 ns m key=findK ns m.kids key:=rfl
theorem aVu {ns:List Nd} {k:Nat} {r:List Int} {key:ByteArray} (h:(ns[k]!).key=key):findK ns ((k:Int)::r) key=some k:=by
 unfold findK;rw[List.find?_cons_of_pos (by simpa using h)];simp
theorem aZ5 {ns:List Nd} {k:Nat} {r:List Int} {key:ByteArray} (h:¬(ns[k]!).key=key):findK ns ((k:Int)::r) key=findK ns r key:=by
 unfold findK;rw[List.find?_cons_of_neg (by simpa using h)]
theorem aEc {α:Type} {l:List α} {j:Nat} {x:α} (h:l[j]? =some x):l.drop j=x::l.drop (j+1):=by
 obtain ⟨hlt,he⟩:=a7j h;rw[List.drop_eq_getElem_cons hlt,he]
theorem aHv (w:World) (db b o cap:Nat) (ms:List NdM) (h:DocM w db b o cap ms) (m:NdM) (hm:m∈ms) (key:ByteArray):
 Calls Tryz.prog 43 #[.pointer (some ⟨db,0,none⟩),m.v,.string key] w fun r w'=>r= .returned (aDh b o (aA2 (nds ms) m.nd key))/\Below w.heap.size w w':=by
 have hok:=h.ok hm;obtain ⟨ao2,c2,hkv,hl2,hks⟩:=aAj hok.kids;obtain ⟨q,hq⟩:∃q,q=m.nd.kids.length:=⟨_,rfl⟩;rw[<-hq]at hkv hl2 hks;have HD:=hid h;obtain ⟨n,hn⟩:∃n,n=ms.length:=⟨_,rfl⟩;have hdoc:=h.doc;rw[<-hn]at hdoc;have d0:∀ob,(w.alloc ob).cell? ⟨db,0,none⟩=some (.slice (some ⟨b,o,none⟩) n cap):=fun ob=>(World.cell?_of_block (aAe ob (aAb hdoc))).trans (aAa hdoc 0);have Hkid:=hid (fun j (hj:j<q)=>show ∃(k:Nat) (mk:NdM),m.nd.kids[j]? =some (k:Int)/\ms[k]? =some mk/\k<n from by
  obtain ⟨x,hx⟩:∃x,m.nd.kids[j]? =some x:=aAh (by omega);obtain ⟨k,mk,e,hk,_⟩:=h.kid hm (List.mem_of_getElem? hx);exact ⟨k,mk,by rw[hx,e],hk,by rw[hn];exact (a7j hk).1⟩)
 have Hks:=hid hks;have Hq:=hid hq;have Hl2:=hid hl2;have hv:m.v= .agg #[.int .i64 m.nd.kind,.string m.nd.key,.string m.nd.text,.bool m.nd.quoted,.int .i64 m.nd.line,.slice ao2 q c2]:=by unfold NdM.v;rw[hkv]
 rw[hv,aPx];have Hbn:=hid (fun o=>(a7d w.heap.size w).alloc (a7c _) o);obtain ⟨kind,hkind⟩:∃kind,kind=m.nd.kind:=⟨_,rfl⟩;rw[<-hkind];clear h hm hok hkv hq hks hl2 hn hdoc hv hkind;go_enter Tryz.func43,Tryz.ntmps43;go_wp2
 go_loopw [12] (fun vi wr=>∃j:Nat,vi= .int .i64 (j:Int)/\(w.alloc (.cells #[.int .i64 kind,.string m.nd.key,.string m.nd.text,.bool m.nd.quoted,.int .i64 m.nd.line,.slice ao2 q c2] 55))=wr/\Hid (j<=q/\findK (nds ms) m.nd.kids key=findK (nds ms) (m.nd.kids.drop j) key)) (fun vi _=>q-(intOf vi).toNat)
 case atStart=>exact ⟨0,rfl,rfl,hid ⟨Nat.zero_le _,rfl⟩⟩
 case round=>
  obtain ⟨j,rfl,rfl,H⟩:=hrel;by_cases hj:j<q
  ·have tj:decide (j<q)=true:=dT hj;have bj:(j:Int)<(q:Int):=by omega
   obtain ⟨k,mk,hx,hk,hkn⟩:=Hkid.out j hj;obtain ⟨b2,o2,rfl,hb2,hc⟩:=Hks.out (by omega);have x1:∀ob,(w.alloc ob).cell? ⟨b2,o2+j,none⟩=some (.int .i64 (k:Int)):=fun ob=>(World.cell?_of_block (aAe ob hb2)).trans (hc j _ hx);have y1:∀ob,(w.alloc ob).cell? ⟨b,o+k*6+1,none⟩=some (.string mk.nd.key):=fun ob=>(World.cell?_of_block (aAe ob HD.out.blt)).trans (HD.out.at hk).1.c1;have bk:(k:Int)<(n:Int):=by omega
   have hst:=H.out.2;rw[aEc hx]at hst;have hkd:=aDv hk;by_cases e:mk.nd.key=key
   ·have te:=aZs e;rw[aVu (by rw[hkd];exact e)]at hst;have Hst:=hid hst;clear hst hkd hk hx hc hb2 H Hkid Hks hj hkn e HD;go_wp2;go_ret;exact ⟨by rw[Hst.out];rfl,Hbn.out _⟩
   ·have te:=a48 e;rw[aZ5 (by rw[hkd];exact e)]at hst;have Hst:=hid (show j+1<=q/\findK (nds ms) m.nd.kids key=findK (nds ms) (m.nd.kids.drop (j+1)) key from ⟨hj,hst⟩);obtain ⟨Hms,Hgo⟩:=aA3 (k:=j) (n:=q) hj (by have:=Hl2.out;omega);clear hst hkd hk hx hc hb2 H Hkid Hks hj hkn e HD;go_wp2;go_roundw
    case rel=>exact ⟨j+1,Hgo.out,trivial,Hst⟩
    case measure=>exact Hms.out
  ·have tj:decide (j<q)=false:=dF hj;have Hst:=hid (show findK (nds ms) m.nd.kids key=none from by
    rw[H.out.2,List.drop_eq_nil_of_le (by have:=Hq.out;omega)];rfl)
   clear H Hkid Hks hj HD;go_wp2;go_ret;exact ⟨by rw[Hst.out];rfl,Hbn.out _⟩
def aJi (c:Array Value) (o:Nat):List Value->Array Value
 |[]=>c
 |v::r=>aJi (c.setIfInBounds o v) (o+1) r
theorem aIe {b:Nat} {t:TypeId}:∀(vs:List Value) (o:Nat) (w:World) (c:Array Value),w.heap[b]? =some (.cells c t (0,0))->(w.setCells b o vs).heap[b]? =some (.cells (aJi c o vs) t (0,0))
 |[],_,_,_,h=>h
 |v::r,o,w,c,h=>by
  rw[World.setCells];exact aIe r (o+1) _ _ (aAk h o v)
theorem aJj:∀(new old pre post:List Value),old.length=new.length->aJi (pre++old++post).toArray pre.length new=(pre++new++post).toArray
 |[],[],pre,post,_=>rfl
 |[],_::_,_,_,h=>by cases h
 |_::_,[],_,_,h=>by cases h
 |v::r,u::o,pre,post,h=>by
  have h1:((pre++u::o++post).toArray).setIfInBounds pre.length v=((pre++[v])++o++post).toArray:=by
   rw[List.setIfInBounds_toArray];congr 1;simp
  have h2:=aJj r o (pre++[v]) post (by simpa using h);rw[aJi,h1];rw[a7e,List.length_singleton]at h2;rw[h2];simp
theorem aPy {old new:List Value} (h:old.length=new.length):aJi old.toArray 0 new=new.toArray:=by
 have:=aJj new old [] [] h
 simpa using this
theorem aIf {F:Nat->Prop} {a:World} {pe:Nat} (hF:pe<a.heap.size->F pe):∀(vs:List Value) (o:Nat) (b:World),Mod F a b->Mod F a (b.setCells pe o vs)
 |[],_,_,h=>h
 |v::r,o,b,h=>by
  rw[World.setCells];exact aIf hF r (o+1) _ (h.setCell ⟨pe,o,none⟩ v hF)
theorem aEh {w:World} {b:Nat} {t:TypeId} {l:List Value} (h:w.heap[b]? =some (.cells l.toArray t (0,0))):w.rangeAt b 0 l:=fun j v hv=>by
 rw[aAa h (0+j),Nat.zero_add]
 simpa using hv
theorem aN1 {fn:Func} {w:World} {b t:Nat} {m:NdM} {tmps:Array Value} (h:fn.results=#[.cell t 55]) (h2:tmps[t]? =some (.pointer (some ⟨b,0,none⟩))) (hb:w.heap[b]? =some (NdO m)):
 (results fn tmps).run Tryz.prog w= .ok m.v w:=by
 have hl:=run_loadVar_mid (P:= Tryz.prog) w b 0 55 m.cells _ (aEh hb) Tryz.underlying55 rfl (show (Tryz.prog.info? 55).map (·.size)=some 6 by kernel_rfl);rw[Array.getElem?_eq_some_iff]at h2;obtain ⟨l2,e2⟩:=h2;simp[results,h,asAddr,Array.getD,l2,e2,hl];rfl
theorem aVv (w:World) (m:NdM) (hm:m.Ok w):
 Calls Tryz.prog 36 #[m.v] w fun r w'=>(match mapP m.nd with| .ok _=>r= .returned (.tuple #[])| .error e=>r=Pan e)/\Below w.heap.size w w':=by
 obtain ⟨ao,c,hkv,_⟩:=aEg hm.kids;obtain ⟨⟨kind,key,text,quoted,line,kids⟩,kv⟩:=m;simp only at hkv;subst hkv;unfold NdM.v mapP;simp only;generalize kids.length=n at*;have Hb0:=hid (fun o=>(a7d w.heap.size w).alloc (a7c _) o);clear hm;by_cases hk:kind=2
 ·have t1:(kind==2)=true:=by rw[beq_iff_eq];exact hk
  rw[if_neg (fun q=>q hk)];clear hk;go_enter Tryz.func36,Tryz.ntmps36;go_wp2
  first|go_end0|refine bodyPost_ret (results_none rfl _ _ _) rfl ?_
  exact ⟨rfl,Hb0.out _⟩
 ·have t1:(kind==2)=false:=by rw[beq_eq_false_iff_ne];exact hk
  rw[if_pos hk];have Hf:=hid (fun w1=>aGa w1 line 123);have p1:¬kind=2:=hk;clear hk;go_enter Tryz.func36,Tryz.ntmps36
  go_wp2_with fail
  refine (Hf.out _).mono ?_;rintro r w1 ⟨rfl,rfl⟩;exact ⟨rfl,rfl,Hb0.out _⟩
def aJk (F:FuncId):Prop:=∀(args:Array Value) (w:World),(callFunc F args).run Tryz.prog w= .ok (.enter F args) w
theorem aEi {F:FuncId} {fn:Func} (hf: Tryz.prog.funcs[F]? =some fn) (hname:(fn.name=="runtime.NumGoroutine")=false) (hb:fn.body.isNone=false):aJk F:=by
 intro args w;have h1:fn.name≠"runtime.NumGoroutine":=by simpa using hname
 have h3:¬fn.body=none:=by intro h;simp[h]at hb
 simp[callFunc,hf,h1,h3]
theorem aHw (w:World) (o o':Obj):((w.alloc o).alloc o').heap[w.heap.size+1]? =some o':=by
 have h:=aAc (w:=w.alloc o) o';have e:(w.alloc o).heap.size=w.heap.size+1:=by simp
 rw[e]at h;exact h
theorem aN2 (w:World) (m:NdM) (hm:m.Ok w) (F:FuncId) (hF:aJk F) (so:ByteArray->Bool) (hso:∀w1,Below w.heap.size w w1->Calls Tryz.prog F #[.string m.nd.text] w1 fun r w'=>r= .returned (.bool (so m.nd.text))/\Below w1.heap.size w1 w'):
 Calls Tryz.prog 41 #[m.v,.func (.func F) #[] #[]] w fun r w'=>(match wordP m.nd so with| .ok s=>r= .returned (.string s)| .error e=>r=Pan e)/\Below w.heap.size w w':=by
 obtain ⟨ao,c,hkv,_⟩:=aEg hm.kids;obtain ⟨⟨kind,key,text,quoted,line,kids⟩,kv⟩:=m;simp only at hkv hso;subst hkv;unfold NdM.v wordP;simp only;generalize kids.length=n at*;have Hb0:=hid (fun o=>(a7d w.heap.size w).alloc (a7c _) o);have Hs:=hid hso;have Hf:=hid (fun w1=>aGa w1 line 123);have hFx:∀(args:Array Value) (w:World),(callFunc F args).run Tryz.prog w= .ok (.enter F args) w:=hF
 clear hm hso hF;by_cases hk:kind=1
 ·have t1:(kind==1)=true:=by rw[beq_iff_eq];exact hk
  generalize so text=sb at*;cases sb with
  |true=>
   rw[if_neg (by simp[hk])];clear Hf t1;subst hk;go_enter Tryz.func41,Tryz.ntmps41
   go_wp2_with fail
   have hb0:=Hb0.out (.cells #[.int .i64 1,.string key,.string text,.bool quoted,.int .i64 line,.slice ao n c] 55);refine (Hs.out _ hb0).mono ?_;rintro r w1 ⟨rfl,hb⟩;have D2:=(hb.cell (p:=⟨w.heap.size,2,none⟩) (by simp)).trans (aAa (aAc _) 2);simp at D2;have Hb:=hid (hb0.trans (hb.mono hb0.size));clear hb Hs hb0;go_wp2;go_ret;exact ⟨rfl,Hb.out⟩
  |false=>
   rw[if_pos (by simp)];clear t1;subst hk;go_enter Tryz.func41,Tryz.ntmps41
   go_wp2_with fail
   have hb0:=Hb0.out (.cells #[.int .i64 1,.string key,.string text,.bool quoted,.int .i64 line,.slice ao n c] 55);refine (Hs.out _ hb0).mono ?_;rintro r w1 ⟨rfl,hb⟩;have D4:=(hb.cell (p:=⟨w.heap.size,4,none⟩) (by simp)).trans (aAa (aAc _) 4);simp at D4;have Hb:=hid (hb0.trans (hb.mono hb0.size));clear hb Hs hb0
   go_wp2_with fail
   refine (Hf.out _).mono ?_;rintro r w1 ⟨rfl,rfl⟩;exact ⟨rfl,rfl,Hb.out⟩
 ·have t1:(kind==1)=false:=by rw[beq_eq_false_iff_ne];exact hk
  have p1:¬kind=1:=hk;rw[if_pos (.inl hk)];clear hk Hs;go_enter Tryz.func41,Tryz.ntmps41
  go_wp2_with fail
  refine (Hf.out _).mono ?_;rintro r w1 ⟨rfl,rfl⟩;exact ⟨rfl,rfl,Hb0.out _⟩
theorem aN3 {m:NdM} {ao:Option Addr} {q c:Nat} (h:m.kv= .slice ao q c):NdO m= .cells #[.int .i64 m.nd.kind,.string m.nd.key,.string m.nd.text,.bool m.nd.quoted,.int .i64 m.nd.line,.slice ao q c] 55 :=by unfold NdO;rw[h]
theorem aAx {m:NdM} {ao:Option Addr} {q c:Nat} (h:m.kv= .slice ao q c):m.v= .agg #[.int .i64 m.nd.kind,.string m.nd.key,.string m.nd.text,.bool m.nd.quoted,.int .i64 m.nd.line,.slice ao q c]:=by unfold NdM.v;rw[h]
theorem aVw {w w2:World} {g T:Nat} (hb:Below w.heap.size w w2) {c:Array Value} {l:List Value} (h:w2.heap[g]? =some (.cells c T (0,0))) (hg:w.heap.size<=g) (hl:c.toList.length=l.length):
 Below w.heap.size w (w2.setCells g 0 l)/\(w2.setCells g 0 l).heap[g]? =some (.cells l.toArray T (0,0)):=by
 refine ⟨hb.trans ((aIf (F:=fun q=>q=g) (fun _=>rfl) l 0 _ (Mod.refl _ w2)).below hb.size (fun k hk=>by rw[hk];exact hg)),?_⟩;rw[aIe l 0 w2 c h,<-aPy hl]
theorem aGb (w:World) (db b o cap:Nat) (ms:List NdM) (h:DocM w db b o cap ms) (m:NdM) (hm:m∈ms) (key:ByteArray):
 Calls Tryz.prog 37 #[.pointer (some ⟨db,0,none⟩),m.v,.string key] w fun r w'=>(match aA2 (nds ms) m.nd key with|some k=>∃mk,ms[k]? =some mk/\r= .returned mk.v|none=>r=Pan (m.nd.line,122))/\Below w.heap.size w w':=by
 have hok:=h.ok hm;obtain ⟨ao2,c2,hkv,_,_⟩:=aAj hok.kids;obtain ⟨q,hq⟩:∃q,q=m.nd.kids.length:=⟨_,rfl⟩;rw[<-hq]at hkv;have Hf:=hid (fun w1 (hb1:Below w.heap.size w w1)=>aHv w1 db b o cap ms (h.later hb1) m hm key);have hv:=aAx hkv;rw[hv]at Hf |-;have Hfail:=hid (fun w1=>aGa w1 m.nd.line 122);have Hb0:=hid (fun o o'=>show Below w.heap.size w ((w.alloc o).alloc o') from ((a7d w.heap.size w).alloc (a7c _) o).alloc (by simp) o')
 have HD:=hid h;have hN:∀k,aA2 (nds ms) m.nd key=some k->∃mk,ms[k]? =some mk:=fun k hk=>by
  obtain ⟨z,hz,e,_⟩:=aGj hk;obtain ⟨k',mk,e2,hk',_⟩:=h.kid hm hz;exact ⟨mk,by rw[<-e,e2];simpa using hk'⟩
 have HN:=hid hN;clear h hm hok hkv hq hv hN;cases hfn:aA2 (nds ms) m.nd key with
 |none=>
  rw[hfn]at Hf;simp only;have hfa:aDh b o none= .pointer none:=rfl;rw[hfa]at Hf;clear HN hfn hfa HD;go_enter Tryz.func37,Tryz.ntmps37
  go_wp2_with fail
  have hb0:=Hb0.out (.cells #[.int .i64 m.nd.kind,.string m.nd.key,.string m.nd.text,.bool m.nd.quoted,.int .i64 m.nd.line,.slice ao2 q c2] 55) (.cells #[.int .i64 0,.string ⟨#[]⟩,.string ⟨#[]⟩,.bool false,.int .i64 0,.slice none 0 0] 55);refine (Hf.out _ hb0).mono ?_;rintro r w1 ⟨rfl,hb⟩;have D4:=(hb.cell (p:=⟨w.heap.size,4,none⟩) (by simp;omega)).trans ((World.cell?_of_block (aAe _ (by simp))).trans (aAa (aAc _) 4))
  simp at D4;have Hb:=hid (hb0.trans (hb.mono hb0.size));clear hb Hf hb0 Hb0
  go_wp2_with fail
  refine (Hfail.out _).mono ?_;rintro r w2 ⟨rfl,rfl⟩;exact ⟨rfl,rfl,Hb.out⟩
 |some k=>
  obtain ⟨mk,hmk⟩:=HN.out k hfn;rw[hfn]at Hf;simp only;have hfa:aDh b o (some k)= .pointer (some ⟨b,o+k*6,none⟩):=rfl;rw[hfa]at Hf;have hk:=(HD.out.at hmk).1;have hokk:=(HD.out.at hmk).2;obtain ⟨ao3,c3,hkv3,_,_⟩:=aAj hokk.kids;obtain ⟨q3,hq3⟩:∃q3,q3=mk.nd.kids.length:=⟨_,rfl⟩;rw[<-hq3]at hkv3;have Hmk:=hid hmk;have Hk:=hid hk;have Hlt:=hid HD.out.blt;have Hkv3:=hid hkv3;clear HN hfn hfa HD hmk hk hokk hq3 hkv3
  go_enter Tryz.func37,Tryz.ntmps37
  go_wp2_with fail
  have hb0:=Hb0.out (.cells #[.int .i64 m.nd.kind,.string m.nd.key,.string m.nd.text,.bool m.nd.quoted,.int .i64 m.nd.line,.slice ao2 q c2] 55) (.cells #[.int .i64 0,.string ⟨#[]⟩,.string ⟨#[]⟩,.bool false,.int .i64 0,.slice none 0 0] 55);refine (Hf.out _ hb0).mono ?_;rintro r w1 ⟨rfl,hb⟩;have Hb:=hb0.trans (hb.mono hb0.size);have hres:=(hb.block (w.heap.size+1) (by simp)).trans (aHw _ _ _)
  have x0:=(Hb.cell (p:=⟨b,o+k*6,none⟩) Hlt.out).trans Hk.out.c0;have x1:=(Hb.cell (p:=⟨b,o+k*6+1,none⟩) Hlt.out).trans Hk.out.c1;have x2:=(Hb.cell (p:=⟨b,o+k*6+2,none⟩) Hlt.out).trans Hk.out.c2;have x3:=(Hb.cell (p:=⟨b,o+k*6+3,none⟩) Hlt.out).trans Hk.out.c3;have x4:=(Hb.cell (p:=⟨b,o+k*6+4,none⟩) Hlt.out).trans Hk.out.c4;have x5:=(Hb.cell (p:=⟨b,o+k*6+5,none⟩) Hlt.out).trans Hk.out.c5;rw[Hkv3.out]at x5
  obtain ⟨r0,r1,r2,r3,r4,r5⟩:=cB6 hres;simp at r0 r1 r2 r3 r4 r5;have f0:=aAd hres 0;have f1:=aAd hres 1;have f2:=aAd hres 2;have f3:=aAd hres 3;have f4:=aAd hres 4;have f5:=aAd hres 5;have HE:=hid (aVw Hb (l:=[.int .i64 mk.nd.kind,.string mk.nd.key,.string mk.nd.text,.bool mk.nd.quoted,.int .i64 mk.nd.line,.slice ao3 q3 c3]) hres (by omega) rfl);clear hb Hf hb0 Hb0 hres Hb
  go_wp2;refine bodyPost_ret (aN1 (m:=mk) (b:=w.heap.size+1) rfl rfl ?_) rfl ?_
  ·exact HE.out.2.trans (by rw[aN3 Hkv3.out])
  ·exact ⟨⟨mk,Hmk.out,rfl⟩,HE.out.1⟩
