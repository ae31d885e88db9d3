/-
Parts of a proof, one behind the other (laid dense by a program of mine: pack.py).
-/
import Derived.Test.YtfenoaeoedobmaaGreatDoorRd17
set_option linter.unusedVariables false
set_option linter.unusedSimpArgs false
set_option maxHeartbeats 8000000
set_option maxRecDepth 20000
namespace Go.Proofs.YtfenoaeoedobmaaGreatDoor
open Go Go.RowKit
theorem treeR_node {ns:List Nd} {i:Nat} (hi:i<ns.length) (h:nodeR ns i (ns[i]!)=false):treeR ns=false:=by
 unfold treeR;have e:(List.range ns.length).all (fun i=>nodeR ns i (ns[i]!))=false:=by
  rw[List.all_eq_false];exact ⟨i,List.mem_range.2 hi,by rw[h];decide⟩
 rw[e,Bool.and_false,Bool.false_and]
theorem treeR_nodes {ns:List Nd} (h0:ns≠[]∧ns.length≤4096∧(ns[0]!).key=⟨#[]⟩) (h:∀i,i<ns.length→nodeR ns i (ns[i]!)=true):treeR ns=deepR ns ns.length 1 [1]:=by
 unfold treeR;have e:(List.range ns.length).all (fun i=>nodeR ns i (ns[i]!))=true:=by
  rw[List.all_eq_true];exact fun i hi=>h i (List.mem_range.1 hi)
 rw[e,dT h0];rfl
theorem treeR_first {ns:List Nd} (h0:¬(ns≠[]∧ns.length≤4096∧(ns[0]!).key=⟨#[]⟩)):treeR ns=false:=by
 unfold treeR;rw[dF h0];rfl
section
variable {ns:List Nd} {i:Nat} {n:Nd}
theorem nodeR_kind (h:n.kind<1∨3<n.kind):nodeR ns i n=false:=by
 unfold nodeR;rw[if_pos h]
theorem nodeR_scal (h:n.kind=1):nodeR ns i n=scalarOk n:=by
 unfold nodeR;rw[if_neg (by omega)];by_cases hs:scalarOk n=true
 ·rw[if_neg (fun q=>q.2 hs),if_neg (fun q=>by omega),hs]
 ·rw[if_pos ⟨h,hs⟩];exact ((Bool.not_eq_true _).mp hs).symm
theorem nodeR_many (h:1<n.kind) (h3:¬3<n.kind):nodeR ns i n=(!(decide (n.kids=[]∨n.text≠⟨#[]⟩∨n.quoted=true)|| !kidsR ns n.kind n.kids (i:Int) [])):=by
 unfold nodeR;rw[if_neg (by omega),if_neg (fun q=>by omega)];cases hk:kidsR ns n.kind n.kids (i:Int) []
 ·rw[if_pos ⟨h,.inr (.inr (.inr (by decide)))⟩];simp
 ·by_cases hs:n.kids=[]∨n.text≠⟨#[]⟩∨n.quoted=true
  ·rw[if_pos ⟨h,by rcases hs with q|q|q;exact .inl q;exact .inr (.inl q);exact .inr (.inr (.inl q))⟩,dT hs];rfl
  ·rw[if_neg (fun q=>hs (by rcases q.2 with a|a|a|a;exact .inl a;exact .inr (.inl a);exact .inr (.inr a);exact absurd rfl a)),dF hs];rfl
end
def dInts (d:List Nat):List Value:=d.map fun (x:Nat)=>Value.int .i64 (x:Int)
theorem deepR_end {ns:List Nd} {f i:Nat} {d:List Nat} (h:ns.length≤i):deepR ns f i d=true:=by
 cases f with
 |zero=>rfl
 |succ f=>rw[deepR,if_pos h]
theorem deepR_bad {ns:List Nd} {f i:Nat} {d:List Nat} (h:i<ns.length) (hb:parentR ns i<0∨16≤d[(parentR ns i).toNat]!):deepR ns (f+1) i d=false:=by
 rw[deepR,if_neg (by omega),if_pos hb]
theorem deepR_go {ns:List Nd} {f i:Nat} {d:List Nat} (h:i<ns.length) (hb:¬(parentR ns i<0∨16≤d[(parentR ns i).toNat]!)):deepR ns (f+1) i d=deepR ns f (i+1) (d++[d[(parentR ns i).toNat]! +1]):=by
 rw[deepR,if_neg (by omega),if_neg hb]
theorem parentR_lt {ns:List Nd} {k:Nat} (h:0≤parentR ns k):∃p:Nat,parentR ns k=(p:Int)∧p<k:=by
 unfold parentR at*
 split
 ·rename_i p hp
  refine ⟨p,rfl,?_⟩;refine ownL_lt (ns:=ns) (i:=k) (k:=k) ?_;rw[←owners_own,hp];exact List.mem_cons_self ..
 ·rename_i hn
  split at h
  ·rename_i p hp
   exact absurd hp (hn p)
  ·omega
structure DR (w wr:World) (ns:List Nd) (v:Value) (j:Nat) (d:List Nat):Prop where
 row:RO w wr 3 1 v j (dInts d)
 len:d.length=j
 pos:1≤j
 le:j≤ns.length
 same:∃f,ns.length≤f+j∧treeR ns=deepR ns f j d
theorem int_info:(Tryz.prog.info? 3).map (fun i=>(i.zero,i.size,i.bytes))=some (some (.int .i64 0),1,8):=by kernel_rfl
theorem DR.first {w w1:World} {ns:List Nd} (hb:Below w.heap.size w w1) (h0:1≤ns.length) (hs:treeR ns=deepR ns ns.length 1 [1]):DR w (w1.alloc (.cells #[.int .i64 1] 3)) ns (.slice (some ⟨w1.heap.size,0,none⟩) 1 1) 1 [1]:=
 ⟨⟨hb.alloc hb.size _,ownsRow_base (World.ownsRow_lit (base:=w1.heap.size) (size:=1) w1 #[.int .i64 1] 1 (Nat.le_refl _) (by decide) rfl) 0 (Nat.zero_le _),fun g hg=>by
  simp only[Value.ownBlock,Option.some.injEq]at hg;subst hg;exact hb.size⟩,rfl,Nat.le_refl _,h0,⟨ns.length,by omega,hs⟩⟩
theorem intAppend {w:World} {ops:Array Oper} {rest:List Oper} {o:Oper} {a:Act} {Q:Exit→Act→World→Prop} (hgd:o.guard=none) (s x:Operand)
 (ho:o.op= .call {callee:= .builtin .append,args:=#[s,x],argTypes:=#[53,53]})
 (v:Value) (j:Nat) (xs:List Value) (hs:a.eval s=v) (hown:w.ownsRow 0 3 1 v j xs) (g:Nat) (z:Int) (hx:a.eval x= .slice (some ⟨g,0,none⟩) 1 1)
 (hnew:w.cell? ⟨g,0,none⟩=some (.int .i64 z)) (hlen:j≤1000000)
 (h:∀ao' c' w',w'.ownsRow 0 3 1 (.slice ao' (j+1) c') (j+1) (xs++[.int .i64 z])→w.grownBy w' v.ownBlock→(∀g,(Value.slice ao' (j+1) c').ownBlock=some g→v.ownBlock=some g∨w.heap.size≤g)→
  wpList Tryz.prog ops Q rest (a.put o.dst (.slice ao' (j+1) c')) w'):wpList Tryz.prog ops Q (o::rest) a w:=by
 refine wpList_append_q hgd s x 53 ho 3 (.int .i64 0) 1 8 Tryz.underlying53 int_info rfl (by decide) v j xs hs hown (some ⟨g,0,none⟩) 1 1 [.int .i64 z] hx rfl (fun hn=>by cases hn) (fun ad had=> ?_) (fun u hu=>by simp at hu;subst hu;rfl) (by unfold maxLen;omega) (by omega) (j+1) rfl h;obtain rfl:=Option.some.inj had;intro i u hi;cases i with
 |zero=>
  simp only[List.getElem?_cons_zero,Option.some.injEq]at hi;subst hi;exact hnew
 |succ i=>simp at hi
theorem DR.app {w wr w2:World} {ns:List Nd} {v v':Value} {j f dp:Nat} {d:List Nat} {o:Obj} (h:DR w wr ns v j d) (hj:j<ns.length) (hf:ns.length≤f+(j+1)) (hs:treeR ns=deepR ns f (j+1) (d++[dp+1]))
 (own2:w2.ownsRow 0 3 1 v' (j+1) (dInts d++[.int .i64 ((dp:Int)+1)])) (gr2:(wr.alloc o).grownBy w2 v.ownBlock) (new2:∀g,v'.ownBlock=some g→v.ownBlock=some g∨(wr.alloc o).heap.size≤g):DR w w2 ns v' (j+1) (d++[dp+1]):=
 ⟨by
  have:=RO.app h.row ((Below.refl _ wr).alloc (Nat.le_refl _) o) own2 gr2 new2;have e:dInts (d++[dp+1])=dInts d++[.int .i64 ((dp:Int)+1)]:=by simp[dInts]
  rw[e];exact this,by rw[List.length_append,h.len];rfl,by omega,hj,⟨f,hf,hs⟩⟩
theorem Nds.rkids {w:World} {v:Value} {ms:List NdM} (h:Nds w v ms) {i:Nat} {m:NdM} (hm:ms[i]? =some m):∀w1,Below w.heap.size w w1→Calls Tryz.prog 86 #[v,.int .i64 (i:Int)] w1 fun r w'=>r= .returned (.bool (kidsR (nds ms) m.nd.kind m.nd.kids (i:Int) []))∧Below w1.heap.size w1 w':=
 fun w1 hb=>rkids_c w1 v ms i m (h.later hb) hm
theorem rtree_c (w:World) (v:Value) (ms:List NdM) (h:Nds w v ms):
 Calls Tryz.prog 51 #[v] w fun r w'=>r= .returned (.bool (treeR (nds ms)))∧Below w.heap.size w w':=by
 have hkids:∀(i:Nat) (m:NdM),ms[i]? =some m→∀w1,Below w.heap.size w w1→Calls Tryz.prog 86 #[v,.int .i64 (i:Int)] w1 fun r w'=>r= .returned (.bool (kidsR (nds ms) m.nd.kind m.nd.kids (i:Int) []))∧Below w1.heap.size w1 w':=fun i m hm=>h.rkids hm;have HV:=hid h;obtain ⟨ao,cap,hv,hl,hat0⟩:=h.open;have Hv:=hid hv;obtain ⟨n,hn⟩:∃n,n=ms.length:=⟨_,rfl⟩;rw[←hn]at hv;have Hn:=hid hn
 have Hl:=hid (show n≤1048576 by omega);have Hk:=hid hkids;have hnn:(nds ms).length=n:=by rw[nds_len,hn]
 have Hnn:=hid hnn;subst hv;by_cases h0:n=0
 ·have He:=hid (treeR_first (ns:=nds ms) (fun q=>q.1 (List.eq_nil_of_length_eq_zero (by omega))));have t0:((n:Int)==0)=true:=by rw[beq_iff_eq];omega
  clear hn hl hat0 h hkids Hk HV hnn Hv;go_enter Tryz.func51,Tryz.ntmps51;go_wp2;go_ret;exact ⟨ret_b He.out.symm,Below.refl _ _⟩
 ·have t0:((n:Int)==0)=false:=bF (by omega);by_cases h1:4096<n
  ·have He:=hid (treeR_first (ns:=nds ms) (fun q=>by have:=q.2.1;omega));have t1:decide (4096<(n:Int))=true:=dT (by omega);clear hn hl hat0 h hkids Hk HV hnn Hv h0;go_enter Tryz.func51,Tryz.ntmps51;go_wp2;go_ret;exact ⟨ret_b He.out.symm,Below.refl _ _⟩
  ·have t1:decide (4096<(n:Int))=false:=dF (by omega);obtain ⟨b,o,rfl,hlt,hat⟩:=hat0 (by omega);have Hat:=hid hat;have Hlt:=hid hlt;obtain ⟨m0,hm0⟩:∃m0,ms[0]? =some m0:=at_of_lt (by omega);have f1:=(hat 0 m0 hm0).1.c1;rw[Nat.zero_mul,Nat.add_zero]at f1;have hk0:((nds ms)[0]!)=m0.nd:=nds_at hm0;obtain ⟨key,hkey⟩:∃key,key=m0.nd.key:=⟨_,rfl⟩;rw[←hkey]at f1;have b0:(0:Int)<(n:Int):=by omega
   by_cases hky:key=⟨#[]⟩
   ·obtain ⟨k1,k2,k3⟩:=str_empty hky;have Hok:=hid (show nds ms≠[]∧(nds ms).length≤4096∧((nds ms)[0]!).key=⟨#[]⟩ from ⟨fun q=>by rw[q]at hnn;exact h0 hnn.symm,by omega,by rw[hk0,←hkey];exact hky⟩);have Hn4:=hid (show n≤4096 by omega);clear hn hl hat0 hat hlt hm0 hk0 hkey h hkids hnn h0 h1 hky;go_enter Tryz.func51,Tryz.ntmps51;go_wp2
    go_loopw [3] (fun vi wr=>∃i:Nat,vi= .int .i64 (i:Int)∧Hid (i≤n∧Below w.heap.size w wr∧∀j,j<i→nodeR (nds ms) j ((nds ms)[j]!)=true)) (fun vi _=>n-(intOf vi).toNat)
    case atStart=>exact ⟨0,rfl,hid ⟨Nat.zero_le _,Below.refl _ _,fun j hj=>absurd hj (Nat.not_lt_zero _)⟩⟩
    case round=>
     obtain ⟨i,rfl,H⟩:=hrel;clear f1;by_cases hin:i<n
     ·obtain ⟨m,hm⟩:∃m,ms[i]? =some m:=at_of_lt (by have:=Hn.out;omega);obtain ⟨c,hok⟩:=Hat.out i m hm;have HB:=hid H.out.2.1;have hnd:(nds ms)[i]! =m.nd:=nds_at hm;have c0:=(HB.out.cell (p:=⟨b,o+i*6,none⟩) Hlt.out).trans c.c0;have c1:=(HB.out.cell (p:=⟨b,o+i*6+1,none⟩) Hlt.out).trans c.c1;have c2:=(HB.out.cell (p:=⟨b,o+i*6+2,none⟩) Hlt.out).trans c.c2;have c3:=(HB.out.cell (p:=⟨b,o+i*6+3,none⟩) Hlt.out).trans c.c3
      have c4:=(HB.out.cell (p:=⟨b,o+i*6+4,none⟩) Hlt.out).trans c.c4;have c5:=(HB.out.cell (p:=⟨b,o+i*6+5,none⟩) Hlt.out).trans c.c5;obtain ⟨ao2,cap2,hkv,hl2,_⟩:=ints_open hok.kids;rw[hkv]at c5;have Htx:=hid hok.text;have Hkc:=hid (fun w1 hb=>Hk.out i m hm w1 hb);have Hbad:=hid (fun (hf:nodeR (nds ms) i m.nd=false)=>treeR_node (ns:=nds ms) (i:=i) (by rw[Hnn.out];exact hin) (by rw[hnd];exact hf));have Hnext:=hid (fun (hf:nodeR (nds ms) i m.nd=true) w1 (hb:Below w.heap.size w w1)=>(show i+1≤n∧Below w.heap.size w w1∧∀j,j<i+1→nodeR (nds ms) j ((nds ms)[j]!)=true from ⟨hin,hb,fun j hj=>by
       by_cases e:j=i
       ·rw[e,hnd];exact hf
       ·exact H.out.2.2 j (by omega)⟩))
      obtain ⟨Hms,Hgo⟩:=step_two (k:=i) (n:=n) hin (by have:=Hl.out;omega);have bi:(i:Int)<(n:Int):=by omega
      have ti:decide (i<n)=true:=dT hin;clear c hok hkv hl2;obtain ⟨q,hq⟩:∃q,q=m.nd.kids.length:=⟨_,rfl⟩;rw[←hq]at c5;obtain ⟨kind,hkind⟩:∃kind,kind=m.nd.kind:=⟨_,rfl⟩;rw[←hkind]at c0;have ek:m.nd.kids=[]↔q=0:=by rw[hq,List.length_eq_zero_iff]
      by_cases g1:kind<1
      ·have s1:decide (kind<1)=true:=dT g1;have HF:=nodeR_kind (ns:=nds ms) (i:=i) (n:=m.nd) (.inl (by omega));have He:=hid (Hbad.out HF);clear hm hnd H hin hkind hq HF Hbad Hnext Hat Hlt g1 ek Hkc Htx;go_wp2;go_ret;exact ⟨ret_b He.out.symm,(HB.out).alloc (Below.size HB.out) _⟩
      ·have s1:decide (kind<1)=false:=dF g1;by_cases g3:3<kind
       ·have s2:decide (3<kind)=true:=dT g3;have HF:=nodeR_kind (ns:=nds ms) (i:=i) (n:=m.nd) (.inr (by omega));have He:=hid (Hbad.out HF);clear hm hnd H hin hkind hq HF Hbad Hnext Hat Hlt g1 g3 ek Hkc Htx;go_wp2;go_ret;exact ⟨ret_b He.out.symm,(HB.out).alloc (Below.size HB.out) _⟩
       ·have s2:decide (3<kind)=false:=dF g3;by_cases h1k:kind=1
        ·have s3:(kind==1)=true:=by rw[beq_iff_eq];exact h1k
         have s4:decide (1<kind)=false:=dF (by omega);have HS:=nodeR_scal (ns:=nds ms) (i:=i) (n:=m.nd) (by omega);by_cases hq0:q=0
         ·have s5:decide (0<q)=false:=dF (by omega);have hk0:m.nd.kids=[]:=ek.2 hq0;obtain ⟨qt,hqt⟩:∃qt,qt=m.nd.quoted:=⟨_,rfl⟩;obtain ⟨tx,htx⟩:∃tx,tx=m.nd.text:=⟨_,rfl⟩;rw[←hqt]at c3;rw[←htx]at c2 Htx;have HS2:nodeR (nds ms) i m.nd=(qt||decide (tx=⟨#[]⟩)||plainB tx.data.toList):=by
           rw[HS];unfold scalarOk;rw[dT hk0,Bool.true_and,←hqt,←htx]
          cases qt with
          |true=>
           have HF:nodeR (nds ms) i m.nd=true:=by rw[HS2];rfl
           have HX:=hid (Hnext.out HF);clear hm hnd H hin hkind hq HF Hbad Hnext Hat Hlt g1 g3 ek Hkc Htx HS HS2 hq0 hk0 hqt htx h1k;go_wp2;go_roundw
           case rel=>exact ⟨i+1,Hgo.out,hid (HX.out _ ((HB.out).alloc (Below.size HB.out) _))⟩
           case measure=>exact Hms.out
          |false=>
           by_cases ht:tx=⟨#[]⟩
           ·obtain ⟨k4,k5,k6⟩:=str_empty ht;have HF:nodeR (nds ms) i m.nd=true:=by rw[HS2,dT ht];rfl
            have HX:=hid (Hnext.out HF);clear hm hnd H hin hkind hq HF Hbad Hnext Hat Hlt g1 g3 ek Hkc Htx HS HS2 hq0 hk0 hqt htx h1k ht;go_wp2;go_roundw
            case rel=>exact ⟨i+1,Hgo.out,hid (HX.out _ ((HB.out).alloc (Below.size HB.out) _))⟩
            case measure=>exact Hms.out
           ·obtain ⟨k4,k5,k6⟩:=str_full ht;have HS3:nodeR (nds ms) i m.nd=plainB tx.data.toList:=by rw[HS2,dF ht];rfl
            have Hp:=hid (fun w1=>rplain_c w1 tx Htx.out);obtain ⟨pb,hpb⟩:∃pb,pb=plainB tx.data.toList:=⟨_,rfl⟩;rw[←hpb]at Hp HS3;have Hbad2:=hid (fun (q:pb=false)=>Hbad.out (HS3.trans q));have Hnext2:=hid (fun (q:pb=true)=>Hnext.out (HS3.trans q));clear hm hnd H hin hkind hq Hbad Hnext Hat Hlt g1 g3 ek Hkc Htx HS HS2 hq0 hk0 hqt htx h1k ht HS3 hpb
            go_wp2_with fail
            refine (Hp.out _).mono ?_;rintro r w1 ⟨rfl,hb⟩;have D0:=(hb.cell (p:=⟨wr.heap.size,0,none⟩) (by simp)).trans (cell_blk (alloc_new _) 0);simp at D0;have Hb1:=hid (((HB.out).alloc (Below.size HB.out) _).trans (hb.mono ((HB.out).alloc (Below.size HB.out) _).size));clear hb Hp;cases pb with
            |true=>
             have HX:=hid (Hnext2.out rfl w1 Hb1.out);clear Hbad2 Hnext2;go_wp2;go_roundw
             case rel=>exact ⟨i+1,Hgo.out,HX⟩
             case measure=>exact Hms.out
            |false=>
             have He:=hid (Hbad2.out rfl);clear Hbad2 Hnext2;go_wp2;go_ret;exact ⟨ret_b He.out.symm,Hb1.out⟩
         ·have s5:decide (0<q)=true:=dT (by omega);have HF:nodeR (nds ms) i m.nd=false:=by
           rw[HS];unfold scalarOk;rw[dF (fun e=>hq0 (ek.1 e))];rfl
          have He:=hid (Hbad.out HF);clear hm hnd H hin hkind hq HF Hbad Hnext Hat Hlt g1 g3 ek Hkc Htx HS hq0 h1k;go_wp2;go_ret;exact ⟨ret_b He.out.symm,(HB.out).alloc (Below.size HB.out) _⟩
        ·have s3:(kind==1)=false:=by rw[beq_eq_false_iff_ne];exact h1k
         have s4:decide (1<kind)=true:=dT (by omega);have HS:=nodeR_many (ns:=nds ms) (i:=i) (n:=m.nd) (by omega) (by omega);by_cases hq0:q=0
         ·have s5:((q:Int)==0)=true:=by rw[beq_iff_eq];omega
          have HF:nodeR (nds ms) i m.nd=false:=by
           rw[HS,dT (.inl (ek.2 hq0))];rfl
          have He:=hid (Hbad.out HF);clear hm hnd H hin hkind hq HF Hbad Hnext Hat Hlt g1 g3 ek Hkc Htx HS hq0 h1k;go_wp2;go_ret;exact ⟨ret_b He.out.symm,(HB.out).alloc (Below.size HB.out) _⟩
         ·have s5:((q:Int)==0)=false:=bF (by omega);obtain ⟨qt,hqt⟩:∃qt,qt=m.nd.quoted:=⟨_,rfl⟩;obtain ⟨tx,htx⟩:∃tx,tx=m.nd.text:=⟨_,rfl⟩;rw[←hqt]at c3;rw[←htx]at c2;by_cases ht:tx=⟨#[]⟩
          ·obtain ⟨k4,k5,k6⟩:=str_empty ht;cases qt with
           |true=>
            have HF:nodeR (nds ms) i m.nd=false:=by
             rw[HS,dT (.inr (.inr hqt.symm))];rfl
            have He:=hid (Hbad.out HF);clear hm hnd H hin hkind hq HF Hbad Hnext Hat Hlt g1 g3 ek Hkc Htx HS hq0 h1k hqt htx ht;go_wp2;go_ret;exact ⟨ret_b He.out.symm,(HB.out).alloc (Below.size HB.out) _⟩
           |false=>
            have HS2:nodeR (nds ms) i m.nd=kidsR (nds ms) m.nd.kind m.nd.kids (i:Int) []:=by
             rw[HS,dF (fun q=>by
              rcases q with a|a|a
              ·exact hq0 (ek.1 a)
              ·exact a (htx.symm.trans ht)
              ·rw[←hqt]at a;cases a)]
             simp
            obtain ⟨pb,hpb⟩:∃pb,pb=kidsR (nds ms) m.nd.kind m.nd.kids (i:Int) []:=⟨_,rfl⟩;have Hp:=Hkc;rw[←hpb]at Hp HS2;have Hbad2:=hid (fun (q:pb=false)=>Hbad.out (HS2.trans q));have Hnext2:=hid (fun (q:pb=true)=>Hnext.out (HS2.trans q));clear hm hnd H hin hkind hq Hbad Hnext Hat Hlt g1 g3 ek Hkc Htx HS HS2 hq0 hqt htx h1k ht hpb
            go_wp2_with fail
            have HB1:=hid ((HB.out).alloc (Below.size HB.out) (Obj.cells #[.int .i64 kind,.string m.nd.key,.string tx,.bool false,.int .i64 m.nd.line,.slice ao2 q cap2] 55));refine (Hp.out _ HB1.out).mono ?_;rintro r w1 ⟨rfl,hb⟩;have Hb1:=hid (HB1.out.trans (hb.mono HB1.out.size));clear hb Hp;cases pb with
            |true=>
             have HX:=hid (Hnext2.out rfl w1 Hb1.out);clear Hbad2 Hnext2;go_wp2;go_roundw
             case rel=>exact ⟨i+1,Hgo.out,HX⟩
             case measure=>exact Hms.out
            |false=>
             have He:=hid (Hbad2.out rfl);clear Hbad2 Hnext2;go_wp2;go_ret;exact ⟨ret_b He.out.symm,Hb1.out⟩
          ·obtain ⟨k4,k5,k6⟩:=str_full ht;have HF:nodeR (nds ms) i m.nd=false:=by
            rw[HS,dT (.inr (.inl (by rw[←htx];exact ht)))];rfl
           have He:=hid (Hbad.out HF);clear hm hnd H hin hkind hq HF Hbad Hnext Hat Hlt g1 g3 ek Hkc Htx HS hq0 h1k hqt htx ht;go_wp2;go_ret;exact ⟨ret_b He.out.symm,(HB.out).alloc (Below.size HB.out) _⟩
     ·have hi:i=n:=by have:=H.out.1;omega
      subst hi;have HB:=hid H.out.2.1;have HD0:=hid (DR.first (w:=w) (w1:=wr) (ns:=nds ms) HB.out (by rw[Hnn.out];omega) (treeR_nodes Hok.out (fun j hj=>H.out.2.2 j (by rw[←Hnn.out];exact hj))));have ti:decide (i<i)=false:=dF (Nat.lt_irrefl i);have Hpar:=hid (fun (j:Nat) (hj:j<i) w1 (hb:Below w.heap.size w w1)=>parent_c w1 _ ms j (HV.out.later hb) (by rw[←Hn.out];exact hj));rw[Hv.out,←Hn.out]at Hpar
      clear hin H Hat Hlt Hk HV Hok;go_wp2
      go_loopw [5,6] (fun vd vj wr2=>∃(v2:Value) (j:Nat) (d:List Nat),v2=vd∧vj= .int .i64 (j:Int)∧Hid (DR w wr2 (nds ms) v2 j d)) (fun _ vj _=>i-(intOf vj).toNat)
      case atStart=>exact ⟨_,1,_,rfl,rfl,HD0⟩
      case round=>
       clear HD0;obtain ⟨v2,j,d,rfl,rfl,HD⟩:=hrel;obtain ⟨ao3,c3,hv2⟩:=row_form HD.out.row.row;by_cases hj:j<i
       ·have tj:decide (j<i)=true:=dT hj;have Hp:=hid (Hpar.out j hj _ HD.out.row.below);obtain ⟨f,hf,hs⟩:=HD.out.same;obtain ⟨f,rfl⟩:∃f',f=f'+1:=⟨f-1,by rw[Hnn.out]at hf;omega⟩;have hj2:j<(nds ms).length:=by rw[Hnn.out];exact hj
        have Hd:=hid HD.out.row.below;obtain ⟨z,hz⟩:∃z,z=parentR (nds ms) j:=⟨_,rfl⟩;rw[←hz]at Hp;by_cases hz0:z<0
        ·have tz:decide (z<0)=true:=dT hz0;have He:=hid (hs.trans (deepR_bad hj2 (.inl (by rw[←hz];exact hz0))));clear hv2 hj hf hs hj2 hz hz0 HD Hpar
         go_wp2_with fail
         refine cS Hp.out ?_;clear Hp;go_wp2;go_ret;exact ⟨ret_b He.out.symm,Hd.out⟩
        ·have tz:decide (z<0)=false:=dF hz0;obtain ⟨p,hp,hpj⟩:=parentR_lt (ns:=nds ms) (k:=j) (by omega);obtain rfl:z=(p:Int):=hz.trans hp;obtain ⟨dp,hdp⟩:∃dp,d[p]? =some dp:=at_of_lt (by rw[HD.out.len];exact hpj);have hdp2:d[(parentR (nds ms) j).toNat]! =dp:=by rw[hp];simp[List.getElem!_eq_getElem?_getD,hdp]
         obtain ⟨g,c3,hv3⟩:∃g c,v2= .slice (some ⟨g,0,none⟩) j c:=by
          rcases HD.out.row.row.2 with ⟨_,h00⟩|⟨g,cap,cur,hvv,_⟩
          ·have:=HD.out.pos;omega
          ·exact ⟨g,cap,hvv⟩
         subst hv3;have e1:=(HD.out.row.row.cellAt (g:=g) p (by omega)).trans (by unfold dInts;rw[List.getElem?_map,hdp];rfl:(dInts d)[p]? =some (.int .i64 (dp:Int)));have bp:(p:Int)<(j:Int):=by omega
         by_cases h16:16≤dp
         ·have t16:decide (16≤(dp:Int))=true:=dT (by omega);have He:=hid (hs.trans (deepR_bad hj2 (.inr (by rw[hdp2];exact h16))));clear hv2 hj hf hs hj2 hz hz0 HD Hpar hp hpj hdp hdp2 h16
          go_wp2_with fail
          refine cS Hp.out ?_;clear Hp;go_wp2;go_ret;exact ⟨ret_b He.out.symm,Hd.out⟩
         ·have t16:decide (16≤(dp:Int))=false:=dF (by omega);have HG:=hid (hs.trans (deepR_go hj2 (by rw[hdp2,hp];omega)));rw[hdp2]at HG;have Hown:=hid (fun o=>HD.out.row.row.alloc o);have Hjl:=hid (show j≤1000000 by have:=Hn4.out;omega);have Hend:=hid (fun o v' w2 (a1:World.ownsRow w2 0 3 1 v' (j+1) (dInts d++[.int .i64 ((dp:Int)+1)])) a2 a3=>HD.out.app (o:=o) (v':=v') (w2:=w2) hj2 (f:=f) (dp:=dp) (by rw[Hnn.out]at hf ⊢;omega) HG.out a1 a2 a3)
          obtain ⟨Hms,Hgo⟩:=step_two (k:=j) (n:=i) hj (by have:=Hl.out;omega);have wdp:=wrap_ok (z:=(dp:Int)+1) (by omega) (by omega);clear hv2 hj hf hs hj2 hz hz0 HD Hpar hp hpj hdp hdp2 h16 HG
          go_wp2_with fail
          refine cS Hp.out ?_;clear Hp
          go_wp2_with (at_builtin;refine intAppend rfl _ _ rfl (.slice (some ⟨g,0,none⟩) j c3) j (dInts d) rfl (Hown.out _) _ ((dp:Int)+1) rfl (World.cell?_alloc_new _ _ _ _) Hjl.out ?_;intro ao' c' w2 own2 gr2 new2;have HE:=hid (Hend.out _ _ _ own2 gr2 new2);clear own2 gr2 new2)
          go_roundw
          case rel=>exact ⟨_,j+1,_,rfl,Hgo.out,HE⟩
          case measure=>exact Hms.out
       ·have tj:decide (j<i)=false:=dF hj;obtain ⟨f,hf,hs⟩:=HD.out.same;have He:=hid (hs.trans (deepR_end (by rw[Hnn.out];omega)));have Hd:=hid HD.out.row.below;clear hv2 hj hf hs HD Hpar;go_wp2;go_ret;exact ⟨ret_b He.out.symm,Hd.out⟩
   ·obtain ⟨k1,k2,k3⟩:=str_full hky;have He:=hid (treeR_first (ns:=nds ms) (fun q=>hky (by rw[hkey,←hk0];exact q.2.2)));clear hn hl hat0 hat hlt hm0 hk0 hkey h hkids Hk HV hnn Hv h0 h1 hky;go_enter Tryz.func51,Tryz.ntmps51;go_wp2;go_ret;exact ⟨ret_b He.out.symm,Below.refl _ _⟩
noncomputable def etLoop:Code:=(ncr (ncl (ncr (ncr (ncr (ncr (ncx Tryz.f63.body)))))))
noncomputable def etO1:Code:=(ncl (nco (ncb (ncr (ncl (ncr (ncr (ncr (ncr (ncx Tryz.f63.body))))))))))
noncomputable def etO2:Code:=(ncl (ncr (nco (ncb (ncr (ncl (ncr (ncr (ncr (ncr (ncx Tryz.f63.body)))))))))))
noncomputable def etO4:Code:=(ncr (ncr (ncr (nco (ncb (ncr (ncl (ncr (ncr (ncr (ncr (ncx Tryz.f63.body))))))))))))
noncomputable def etN0:Code:=(ncl (ncb (ncl (ncr (ncr (nco (ncb (ncr (ncl (ncr (ncr (ncr (ncr (ncx Tryz.f63.body))))))))))))))
noncomputable def etN1:Code:=(ncl (ncr (ncb (ncl (ncr (ncr (nco (ncb (ncr (ncl (ncr (ncr (ncr (ncr (ncx Tryz.f63.body)))))))))))))))
noncomputable def etN2:Code:=(ncl (ncr (ncr (ncb (ncl (ncr (ncr (nco (ncb (ncr (ncl (ncr (ncr (ncr (ncr (ncx Tryz.f63.body))))))))))))))))
noncomputable def etN3:Code:=(ncl (ncr (ncr (ncr (ncb (ncl (ncr (ncr (nco (ncb (ncr (ncl (ncr (ncr (ncr (ncr (ncx Tryz.f63.body)))))))))))))))))
noncomputable def etN4:Code:=(ncl (ncr (ncr (ncr (ncr (ncb (ncl (ncr (ncr (nco (ncb (ncr (ncl (ncr (ncr (ncr (ncr (ncx Tryz.f63.body))))))))))))))))))
noncomputable def etN5:Code:=(ncl (ncr (ncr (ncr (ncr (ncr (ncb (ncl (ncr (ncr (nco (ncb (ncr (ncl (ncr (ncr (ncr (ncr (ncx Tryz.f63.body)))))))))))))))))))
noncomputable def etN6:Code:=(ncl (ncr (ncr (ncr (ncr (ncr (ncr (ncb (ncl (ncr (ncr (nco (ncb (ncr (ncl (ncr (ncr (ncr (ncr (ncx Tryz.f63.body))))))))))))))))))))
noncomputable def etIn:Code:=(ncr (ncr (ncr (ncr (ncr (ncr (ncr (ncb (ncl (ncr (ncr (nco (ncb (ncr (ncl (ncr (ncr (ncr (ncr (ncx Tryz.f63.body))))))))))))))))))))
noncomputable def etK1:Code:=(ncl (nco (ncb (ncr (ncr (ncr (ncr (ncr (ncr (ncr (ncb (ncl (ncr (ncr (nco (ncb (ncr (ncl (ncr (ncr (ncr (ncr (ncx Tryz.f63.body)))))))))))))))))))))))
noncomputable def etK2:Code:=(ncl (ncr (nco (ncb (ncr (ncr (ncr (ncr (ncr (ncr (ncr (ncb (ncl (ncr (ncr (nco (ncb (ncr (ncl (ncr (ncr (ncr (ncr (ncx Tryz.f63.body))))))))))))))))))))))))
noncomputable def etKid:Code:=(ncb (ncl (ncr (ncr (nco (ncb (ncr (ncr (ncr (ncr (ncr (ncr (ncr (ncb (ncl (ncr (ncr (nco (ncb (ncr (ncl (ncr (ncr (ncr (ncr (ncx Tryz.f63.body))))))))))))))))))))))))))
noncomputable def etK4:Code:=(ncr (ncr (ncr (nco (ncb (ncr (ncr (ncr (ncr (ncr (ncr (ncr (ncb (ncl (ncr (ncr (nco (ncb (ncr (ncl (ncr (ncr (ncr (ncr (ncx Tryz.f63.body)))))))))))))))))))))))))
noncomputable def etNode:Code:=(ncb (ncl (ncr (ncr (nco (ncb (ncr (ncl (ncr (ncr (ncr (ncr (ncx Tryz.f63.body)))))))))))))
theorem et_act (a:Act) (hs:a.tmps.size=145) (hd:a.defers=[]):∃v:Nat→Value,(∀(i:Nat) (x:Value),a.tmps[i]? =some x→v i=x)∧a=⟨#[v 0,v 1,v 2,v 3,v 4,v 5,v 6,v 7,v 8,v 9,v 10,v 11,v 12,v 13,v 14,v 15,v 16,v 17,v 18,v 19,v 20,v 21,v 22,v 23,v 24,v 25,v 26,v 27,v 28,v 29,v 30,v 31,v 32,v 33,v 34,v 35,v 36,v 37,v 38,v 39,v 40,v 41,v 42,v 43,v 44,v 45,v 46,v 47,v 48,v 49,v 50,v 51,v 52,v 53,v 54,v 55,v 56,v 57,v 58,v 59,v 60,v 61,v 62,v 63,v 64,v 65,v 66,v 67,v 68,v 69,v 70,v 71,v 72,v 73,v 74,v 75,v 76,v 77,v 78,v 79,v 80,v 81,v 82,v 83,v 84,v 85,v 86,v 87,v 88,v 89,v 90,v 91,v 92,v 93,v 94,v 95,v 96,v 97,v 98,v 99,v 100,v 101,v 102,v 103,v 104,v 105,v 106,v 107,v 108,v 109,v 110,v 111,v 112,v 113,v 114,v 115,v 116,v 117,v 118,v 119,v 120,v 121,v 122,v 123,v 124,v 125,v 126,v 127,v 128,v 129,v 130,v 131,v 132,v 133,v 134,v 135,v 136,v 137,v 138,v 139,v 140,v 141,v 142,v 143,v 144],[]⟩:=by
 obtain ⟨t,d⟩:=a;obtain ⟨l⟩:=t;obtain rfl:d=[]:=hd;have hl:l.length=145:=hs;refine ⟨fun i=>l.getD i undef,fun i x hx=> ?_,?_⟩
 ·have hx':l[i]? =some x:=by simpa using hx
  simp[List.getD,hx']
 ·have e:l=(List.range 145).map (fun i=>l.getD i undef):=by
   apply List.ext_getElem
   ·simp[hl]
   ·intro i h1 h2;simp[List.getD,h1]
  generalize (fun i=>l.getD i undef)=v at e ⊢;subst e;rfl
structure EtO (a:Act) (b:Nat) (o:Nat) (n:Nat) (cap:Nat) (g:Nat) (i:Nat):Prop where
 size:a.tmps.size=145
 dfr:a.defers=[]
 s0:a.tmps[0]? =some (.slice (some ⟨b,o,none⟩) n cap)
 s3:a.tmps[3]? =some (.slice (some ⟨g,0,none⟩) n n)
 s30:a.tmps[30]? =some (.slice (some ⟨b,o,none⟩) n cap)
 s31:a.tmps[31]? =some (.int .i64 (n:Int))
 s32:a.tmps[32]? =some (.int .i64 (i:Int))
theorem EtO.shape {a:Act} {b:Nat} {o:Nat} {n:Nat} {cap:Nat} {g:Nat} {i:Nat} (h:EtO a b o n cap g i):∃v:Nat→Value,a=⟨#[.slice (some ⟨b,o,none⟩) n cap,v 1,v 2,.slice (some ⟨g,0,none⟩) n n,v 4,v 5,v 6,v 7,v 8,v 9,v 10,v 11,v 12,v 13,v 14,v 15,v 16,v 17,v 18,v 19,v 20,v 21,v 22,v 23,v 24,v 25,v 26,v 27,v 28,v 29,.slice (some ⟨b,o,none⟩) n cap,.int .i64 (n:Int),.int .i64 (i:Int),v 33,v 34,v 35,v 36,v 37,v 38,v 39,v 40,v 41,v 42,v 43,v 44,v 45,v 46,v 47,v 48,v 49,v 50,v 51,v 52,v 53,v 54,v 55,v 56,v 57,v 58,v 59,v 60,v 61,v 62,v 63,v 64,v 65,v 66,v 67,v 68,v 69,v 70,v 71,v 72,v 73,v 74,v 75,v 76,v 77,v 78,v 79,v 80,v 81,v 82,v 83,v 84,v 85,v 86,v 87,v 88,v 89,v 90,v 91,v 92,v 93,v 94,v 95,v 96,v 97,v 98,v 99,v 100,v 101,v 102,v 103,v 104,v 105,v 106,v 107,v 108,v 109,v 110,v 111,v 112,v 113,v 114,v 115,v 116,v 117,v 118,v 119,v 120,v 121,v 122,v 123,v 124,v 125,v 126,v 127,v 128,v 129,v 130,v 131,v 132,v 133,v 134,v 135,v 136,v 137,v 138,v 139,v 140,v 141,v 142,v 143,v 144],[]⟩:=by
 obtain ⟨v,hv,hd⟩:=et_act a h.size h.dfr;have e0:=hv 0 _ h.s0;have e3:=hv 3 _ h.s3;have e30:=hv 30 _ h.s30;have e31:=hv 31 _ h.s31;have e32:=hv 32 _ h.s32;refine ⟨v,?_⟩;rw[hd];simp only[e0,e3,e30,e31,e32]
structure EtK (a:Act) (b:Nat) (o:Nat) (n:Nat) (cap:Nat) (g:Nat) (i:Nat) (nb:Nat) (mb:Nat) (b2:Nat) (o2:Nat) (q:Nat) (cap2:Nat) (j:Nat) (last:Int):Prop where
 size:a.tmps.size=145
 dfr:a.defers=[]
 s0:a.tmps[0]? =some (.slice (some ⟨b,o,none⟩) n cap)
 s3:a.tmps[3]? =some (.slice (some ⟨g,0,none⟩) n n)
 s4:a.tmps[4]? =some (.int .i64 (i:Int))
 s5:a.tmps[5]? =some (.pointer (some ⟨nb,0,none⟩))
 s6:a.tmps[6]? =some (.map (some mb))
 s7:a.tmps[7]? =some (.int .i64 last)
 s30:a.tmps[30]? =some (.slice (some ⟨b,o,none⟩) n cap)
 s31:a.tmps[31]? =some (.int .i64 (n:Int))
 s32:a.tmps[32]? =some (.int .i64 (i:Int))
 s81:a.tmps[81]? =some (.slice (some ⟨b2,o2,none⟩) q cap2)
 s82:a.tmps[82]? =some (.int .i64 (q:Int))
 s83:a.tmps[83]? =some (.int .i64 (j:Int))
theorem EtK.shape {a:Act} {b:Nat} {o:Nat} {n:Nat} {cap:Nat} {g:Nat} {i:Nat} {nb:Nat} {mb:Nat} {b2:Nat} {o2:Nat} {q:Nat} {cap2:Nat} {j:Nat} {last:Int} (h:EtK a b o n cap g i nb mb b2 o2 q cap2 j last):∃v:Nat→Value,a=⟨#[.slice (some ⟨b,o,none⟩) n cap,v 1,v 2,.slice (some ⟨g,0,none⟩) n n,.int .i64 (i:Int),.pointer (some ⟨nb,0,none⟩),.map (some mb),.int .i64 last,v 8,v 9,v 10,v 11,v 12,v 13,v 14,v 15,v 16,v 17,v 18,v 19,v 20,v 21,v 22,v 23,v 24,v 25,v 26,v 27,v 28,v 29,.slice (some ⟨b,o,none⟩) n cap,.int .i64 (n:Int),.int .i64 (i:Int),v 33,v 34,v 35,v 36,v 37,v 38,v 39,v 40,v 41,v 42,v 43,v 44,v 45,v 46,v 47,v 48,v 49,v 50,v 51,v 52,v 53,v 54,v 55,v 56,v 57,v 58,v 59,v 60,v 61,v 62,v 63,v 64,v 65,v 66,v 67,v 68,v 69,v 70,v 71,v 72,v 73,v 74,v 75,v 76,v 77,v 78,v 79,v 80,.slice (some ⟨b2,o2,none⟩) q cap2,.int .i64 (q:Int),.int .i64 (j:Int),v 84,v 85,v 86,v 87,v 88,v 89,v 90,v 91,v 92,v 93,v 94,v 95,v 96,v 97,v 98,v 99,v 100,v 101,v 102,v 103,v 104,v 105,v 106,v 107,v 108,v 109,v 110,v 111,v 112,v 113,v 114,v 115,v 116,v 117,v 118,v 119,v 120,v 121,v 122,v 123,v 124,v 125,v 126,v 127,v 128,v 129,v 130,v 131,v 132,v 133,v 134,v 135,v 136,v 137,v 138,v 139,v 140,v 141,v 142,v 143,v 144],[]⟩:=by
 obtain ⟨v,hv,hd⟩:=et_act a h.size h.dfr;have e0:=hv 0 _ h.s0;have e3:=hv 3 _ h.s3;have e4:=hv 4 _ h.s4;have e5:=hv 5 _ h.s5;have e6:=hv 6 _ h.s6;have e7:=hv 7 _ h.s7;have e30:=hv 30 _ h.s30;have e31:=hv 31 _ h.s31;have e32:=hv 32 _ h.s32;have e81:=hv 81 _ h.s81;have e82:=hv 82 _ h.s82;have e83:=hv 83 _ h.s83;refine ⟨v,?_⟩;rw[hd];simp only[e0,e3,e4,e5,e6,e7,e30,e31,e32,e81,e82,e83]
theorem restP_at {ns:List Nd} {i:Nat} {d:List Nat} (hi:i<ns.length):restP ns (ns.drop i) i d=(match nodeP ns i (ns[i]!) d with|none=>false|some d'=>restP ns (ns.drop (i+1)) (i+1) d'):=by
 have e:ns.drop i=ns[i]! ::ns.drop (i+1):=by
  rw[List.drop_eq_getElem_cons hi];congr 1;rw[List.getElem!_eq_getElem?_getD,List.getElem?_eq_getElem hi];rfl
 rw[e];rfl
theorem restP_end {ns:List Nd} {i:Nat} {d:List Nat} (hi:ns.length≤i):restP ns (ns.drop i) i d=true:=by
 rw[List.drop_eq_nil_of_le hi];rfl
theorem dInts_get {d:List Nat} {k x:Nat} (h:d[k]? =some x):(dInts d)[k]? =some (.int .i64 (x:Int)):=by
 unfold dInts;rw[List.getElem?_map,h];rfl
theorem dInts_set (d:List Nat) (k x:Nat):(dInts d).set k (.int .i64 (x:Int))=dInts (d.set k x):=by
 unfold dInts;rw[List.map_set]
structure EM (w0 w:World) (g n:Nat) (d:List Nat):Prop where
 below:Below w0.heap.size w0 w
 row:w.ownsRow 0 3 1 (.slice (some ⟨g,0,none⟩) n n) n (dInts d)
 new:w0.heap.size≤g
 len:d.length=n
 low:∀x∈d,x≤17
theorem EM.at {w0 w:World} {g n:Nat} {d:List Nat} (h:EM w0 w g n d) {k x:Nat} (hx:d[k]? =some x):w.cell? ⟨g,k,none⟩=some (.int .i64 (x:Int)):=by
 have hk:=(List.getElem?_eq_some_iff.1 hx).1;exact (h.row.cellAt k (by have:=h.len;omega)).trans (dInts_get hx)
theorem EM.later {w0 w w2:World} {g n:Nat} {d:List Nat} (h:EM w0 w g n d) (hb:Below w.heap.size w w2):EM w0 w2 g n d:=
 ⟨h.below.trans (hb.mono h.below.size),own_later h.row hb,h.new,h.len,h.low⟩
theorem EM.frozen {w0 w:World} {g n:Nat} {d:List Nat} (h:EM w0 w g n d) (k:Nat):w.frozen? ⟨g,k,none⟩=false:=by
 rcases h.row.2 with ⟨hv,_⟩|⟨g',cap,cur,hv,_,hc,_⟩
 ·cases hv
 ·simp only[Value.slice.injEq,Option.some.injEq,Addr.mk.injEq,and_true]at hv;obtain ⟨rfl,_⟩:=hv;exact frozen_blk hc k
structure EK (w0 w:World) (g n:Nat) (d:List Nat) (nb mb:Nat) (m:NdM) (had:List ByteArray):Prop where
 em:EM w0 w g n d
 nd:w.heap[nb]? =some (.cells #[.int .i64 m.nd.kind,.string m.nd.key,.string m.nd.text,.bool m.nd.quoted,.int .i64 m.nd.line,m.kv] 55 (0,0))
 nb0:w0.heap.size≤nb
 nbg:nb≠g
 map:Had w mb had
 mb0:w0.heap.size≤mb
 mbg:mb≠g
 mbn:mb≠nb
theorem EK.stored {w0 w:World} {g n:Nat} {d:List Nat} {nb mb:Nat} {m:NdM} {had:List ByteArray} (h:EK w0 w g n d nb mb m had) (k x:Nat) (hx:x≤17):
 EK w0 (w.setCell ⟨g,k,none⟩ (.int .i64 (x:Int))) g n (d.set k x) nb mb m had:=by
 obtain ⟨s1,s2⟩:=h.em.row.stored k (.int .i64 (x:Int));have hm:Mod (fun q=>q=g) w (w.setCell ⟨g,k,none⟩ (.int .i64 (x:Int))):=(Mod.refl _ w).setCell _ _ (fun _=>rfl);refine ⟨⟨h.em.below.trans (hm.below h.em.below.size fun q hq=>by rw[hq];exact h.em.new),by rw[←dInts_set];exact s1,h.em.new,by rw[List.length_set];exact h.em.len,fun y hy=> ?_⟩,hm.heap h.nd h.nbg,h.nb0,h.nbg,h.map.kept s2 (fun e=>h.mbg (Option.some.inj e)),h.mb0,h.mbg,h.mbn⟩
 rcases List.mem_or_eq_of_mem_set hy with q|q
 ·exact h.em.low y q
 ·rw[q];exact hx
theorem EK.put {w0 w w2:World} {g n:Nat} {d:List Nat} {nb mb:Nat} {m:NdM} {had had2:List ByteArray} (h:EK w0 w g n d nb mb m had) (hh:Had w2 mb had2) (hg:w.grownBy w2 (some mb)):EK w0 w2 g n d nb mb m had2:=by
 have hm:Mod (fun q=>q=mb) w w2:=(Mod.refl _ w).grown hg (fun k e _=>(Option.some.inj e).symm);exact ⟨⟨h.em.below.trans (hm.below h.em.below.size fun q hq=>by rw[hq];exact h.mb0),ownsRow_frame h.em.row fun g' hg'=>hm.block g' (h.em.row.lt g' hg').2 (by
  simp only[Value.ownBlock,Option.some.injEq]at hg';rw[←hg'];exact fun e=>h.mbg e.symm),h.em.new,h.em.len,h.em.low⟩,hm.heap h.nd (fun e=>h.mbn e.symm),h.nb0,h.nbg,hh,h.mb0,h.mbg,h.mbn⟩
end Go.Proofs.YtfenoaeoedobmaaGreatDoor
