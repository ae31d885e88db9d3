/-
Parts of a proof, one behind the other (laid dense by a program of mine: pack.py).
-/
import Derived.Maps.OwnSet
import Derived.Maps.OwnOps
import Derived.Carry
import Derived.Test.YtfenoaeoedobmaaGreatDoorRd16
set_option linter.unusedVariables false
set_option linter.unusedSimpArgs false
set_option maxHeartbeats 4000000
set_option maxRecDepth 20000
namespace Go.Proofs.YtfenoaeoedobmaaGreatDoor
open Go Go.RowKit
def hadAt (ns:List Nd) (l:List Int) (j:Nat):List ByteArray:=((l.take j).map fun k=>(ns[k.toNat]!).key).reverse
theorem hadAt_step {ns:List Nd} {l:List Int} {j:Nat} {x:Int} (h:l[j]? =some x):hadAt ns l (j+1)=(ns[x.toNat]!).key::hadAt ns l j:=by
 unfold hadAt;rw[List.take_add_one,h];simp
theorem hadAt_mem {ns:List Nd} {l:List Int} {j:Nat} {a:ByteArray}:a∈hadAt ns l j↔∃h x,h<j∧l[h]? =some x∧(ns[x.toNat]!).key=a:=by
 unfold hadAt;rw[List.mem_reverse,List.mem_map];constructor
 ·rintro ⟨x,hx,e⟩;obtain ⟨h,hh,he⟩:=List.getElem_of_mem hx;rw[List.length_take]at hh;refine ⟨h,x,by omega,?_,e⟩;rw[List.getElem_take]at he;rw[List.getElem?_eq_getElem (by omega),he]
 ·rintro ⟨h,x,hj,hx,e⟩;refine ⟨x,?_,e⟩;refine List.mem_of_getElem? (i:=h) ?_;rw[List.getElem?_take,if_pos hj];exact hx
structure KR (ns:List Nd) (kind:Int) (l:List Int) (i:Int) (j:Nat) (last:Int):Prop where
 le:j≤l.length
 same:kidsR ns kind l i []=kidsR ns kind (l.drop j) last (hadAt ns l j)
 in':∀h x,h<j→l[h]? =some x→0≤x∧x<(ns.length:Int)
 pos:0≤last
theorem KR.first {ns:List Nd} {kind:Int} {l:List Int} {i:Int} (h:0≤i):KR ns kind l i 0 i:=⟨Nat.zero_le _,rfl,fun h x hh=>absurd hh (Nat.not_lt_zero _),h⟩
section
variable {ns:List Nd} {kind:Int} {l:List Int} {i last x:Int} {j:Nat}
theorem KR.at (h:KR ns kind l i j last) (hx:l[j]? =some x):kidsR ns kind l i []=if x≤last∨(ns.length:Int)≤x then false else if keyOk kind (ns[x.toNat]!).key (hadAt ns l j)=false then false else kidsR ns kind (l.drop (j+1)) x (hadAt ns l (j+1)):=by
 obtain ⟨hj,he⟩:=List.getElem?_eq_some_iff.1 hx;rw[h.same,List.drop_eq_getElem_cons hj,he,hadAt_step hx];rfl
theorem KR.next (h:KR ns kind l i j last) (hx:l[j]? =some x) (h1:¬(x≤last∨(ns.length:Int)≤x)) (h2:keyOk kind (ns[x.toNat]!).key (hadAt ns l j)=true):KR ns kind l i (j+1) x:=by
 have h0:=h.pos;refine ⟨(List.getElem?_eq_some_iff.1 hx).1,?_,fun y z hy hz=> ?_,by omega⟩
 ·rw[h.at hx,if_neg h1,if_neg (by rw[h2];decide)]
 ·by_cases e:y=j
  ·subst e;rw[hx]at hz;obtain rfl:=Option.some.inj hz;omega
  ·exact h.in' y z (by omega) hz
theorem KR.order (h:KR ns kind l i j last) (hx:l[j]? =some x) (h1:x≤last∨(ns.length:Int)≤x):kidsR ns kind l i []=false:=by
 rw[h.at hx,if_pos h1]
theorem KR.bad (h:KR ns kind l i j last) (hx:l[j]? =some x) (h2:keyOk kind (ns[x.toNat]!).key (hadAt ns l j)=false):kidsR ns kind l i []=false:=by
 rw[h.at hx,if_pos h2]
 split<;>rfl
theorem KR.done (h:KR ns kind l i j last) (hj:l.length≤j):kidsR ns kind l i []=true:=by
 rw[h.same,List.drop_of_length_le hj];rfl
end
theorem keyOk_three {key:ByteArray} {had:List ByteArray} (h:key≠⟨#[]⟩):keyOk 3 key had=false:=by
 unfold keyOk;rw[dT ⟨rfl,h⟩];rfl
theorem keyOk_two {key:ByteArray} {had:List ByteArray} (h:key∈had):keyOk 2 key had=false:=by
 unfold keyOk;rw[dT (p:=(2:Int)=2∧key∈had) ⟨rfl,h⟩,Bool.or_true];rfl
theorem keyOk_yes {kind:Int} {key:ByteArray} {had:List ByteArray} (h3:kind=3→key=⟨#[]⟩) (h2:kind=2→¬key∈had):keyOk kind key had=true:=by
 unfold keyOk;rw[dF (fun q=>q.2 (h3 q.1)),dF (fun q=>h2 q.1 q.2)];rfl
structure NCp (w wr:World) (m:NdM):Prop where
 below:Below w.heap.size w wr
 blk:wr.heap[w.heap.size]? =some (.cells #[.int .i64 m.nd.kind,.string m.nd.key,.string m.nd.text,.bool m.nd.quoted,.int .i64 m.nd.line,m.kv] 55 (0,0))
theorem NCp.more {w wr:World} {m:NdM} (h:NCp w wr m) (k:Nat):NCp w (wr.drewN k) m:=⟨bdH h.below k,h.blk⟩
theorem step_two {k n:Nat} (h:k<n) (hk:k≤1048576):Hid (n-(intOf (.int .i64 (wrap64 ((k:Int)+1)))).toNat<n-(intOf (.int .i64 (k:Int))).toNat)∧Hid (Value.int .i64 (wrap64 ((k:Int)+1))= .int .i64 ((k+1:Nat):Int)):=by
 have wk:wrap64 ((k:Int)+1)=(k:Int)+1:=by unfold wrap64;omega
 exact ⟨hid (meas_step h wk),hid (go_step wk)⟩
theorem same_yes {a b:ByteArray} (h:a=b):(a.toList==b.toList)=true:=by rw[h,beq_iff_eq]
theorem same_no {a b:ByteArray} (h:¬a=b):(a.toList==b.toList)=false:=by
 rw[beq_eq_false_iff_ne];intro q;rw[Lib.toList_data,Lib.toList_data]at q;exact h (ByteArray.ext (Array.ext' q))
theorem rkids_c (w:World) (v:Value) (ms:List NdM) (i:Nat) (m:NdM) (h:Nds w v ms) (hm:ms[i]? =some m):
 Calls Tryz.prog 86 #[v,.int .i64 (i:Int)] w fun r w'=>r= .returned (.bool (kidsR (nds ms) m.nd.kind m.nd.kids (i:Int) []))∧Below w.heap.size w w':=by
 have hi:=(List.getElem?_eq_some_iff.1 hm).1;obtain ⟨ao,cap,rfl,hl,hat0⟩:=h.open;obtain ⟨b,o,rfl,hlt,hat⟩:=hat0 (by omega);clear hat0;obtain ⟨n,hn⟩:∃n,n=ms.length:=⟨_,rfl⟩;have Hn:=hid hn;have Hat:=hid hat;have Hlt:=hid hlt;have Hl:=hid (show n≤1048576 by omega);obtain ⟨c,hok⟩:=hat i m hm;have c0:=c.c0;have c1:=c.c1;have c2:=c.c2;have c3:=c.c3;have c4:=c.c4;have c5:=c.c5;obtain ⟨ao2,cap2,hkv,hl2,hat2⟩:=ints_open hok.kids
 have Hkv:=hid hkv;have Hl2:=hid hl2;have Hat2:=hid hat2;rw[hkv]at c5;have bi:(i:Int)<(n:Int):=by omega
 rw[←hn];clear hn hat hl h hlt hm hi c hok hkv hat2 hl2;go_enter Tryz.func86,Tryz.ntmps86;go_wp2
 go_loopw [6,7] (fun vl vj wr=>∃(last:Int) (j:Nat),.int .i64 last=vl∧vj= .int .i64 (j:Int)∧Hid (KR (nds ms) m.nd.kind m.nd.kids (i:Int) j last∧NCp w wr m)) (fun _ vj _=>m.nd.kids.length-(intOf vj).toNat)
 case atStart=>
  exact ⟨i,0,rfl,rfl,hid ⟨KR.first (by omega),(Below.refl _ w).alloc (Nat.le_refl _) _,by rw[Hkv.out];exact alloc_new _⟩⟩
 case round=>
  clear c0 c1 c2 c3 c4 c5;obtain ⟨last,j,rfl,rfl,H⟩:=hrel;have hn:n=ms.length:=Hn.out;have d0:=cell_blk H.out.2.blk 0;have d5:=cell_blk H.out.2.blk 5;simp at d0 d5;rw[Hkv.out]at d5;obtain ⟨q,hq⟩:∃q,q=m.nd.kids.length:=⟨_,rfl⟩;have Hq:=hid hq;rw[←hq]at d5;obtain ⟨kind,hkd⟩:∃kind,kind=m.nd.kind:=⟨_,rfl⟩;have Hkd:=hid hkd;rw[←hkd]at d0;have Hb:=hid H.out.2.below;by_cases hj:j<q
  ·obtain ⟨x,hx⟩:∃x,m.nd.kids[j]? =some x:=at_of_lt (by omega);obtain ⟨b2,o2,rfl,hlt2,hc2⟩:=Hat2.out (by omega);have e2:=(H.out.2.below.cell (p:=⟨b2,o2+j,none⟩) hlt2).trans (hc2 j x hx);have tj:decide (j<q)=true:=dT hj;have bj:(j:Int)<(q:Int):=by omega
   obtain ⟨Hms,Hgo⟩:=step_two (k:=j) (n:=m.nd.kids.length) (by omega) (by have:=Hl2.out;omega);by_cases hbad:x≤last∨(n:Int)≤x
   ·have He:=hid (H.out.1.order hx (by rw[nds_len,←hn];exact hbad));have T:Hid (decide (x≤last)=true∨(decide (x≤last)=false∧decide ((n:Int)≤x)=true)):=hid (by
     by_cases h1:x≤last
     ·exact .inl (dT h1)
     ·exact .inr ⟨dF h1,dT (by omega)⟩)
    clear hn hq hkd hj hx hlt2 hc2 hbad H;rcases T.out with t1|⟨t1,t2⟩
    all_goals
     clear T;go_wp2;go_ret;exact ⟨ret_b He.out.symm,Hb.out⟩
   ·obtain ⟨y,rfl⟩:∃y:Nat,x=(y:Int):=⟨x.toNat,by have:=H.out.1.pos;omega⟩;have hyn:y<n:=by omega
    obtain ⟨m2,hm2⟩:∃m2,ms[y]? =some m2:=at_of_lt (by omega);have hk2:(nds ms)[(y:Int).toNat]! =m2.nd:=nds_at hm2;have f1:=(H.out.2.below.cell (p:=⟨b,o+y*6+1,none⟩) Hlt.out).trans (Hat.out y m2 hm2).1.c1;have t1:decide ((y:Int)≤last)=false:=dF (by omega);have t2:decide (n≤y)=false:=dF (by omega);have by':(y:Int)<(n:Int):=by omega
    have Hbad:=hid (fun (hh:keyOk m.nd.kind m2.nd.key (hadAt (nds ms) m.nd.kids j)=false)=>H.out.1.bad hx (by rw[hk2];exact hh));have Hnext:=hid (fun (hh:keyOk m.nd.kind m2.nd.key (hadAt (nds ms) m.nd.kids j)=true)=>H.out.1.next hx (by rw[nds_len,←hn];exact hbad) (by rw[hk2];exact hh));obtain ⟨key,hkey⟩:∃key,key=m2.nd.key:=⟨_,rfl⟩;rw[←hkey]at f1 Hbad Hnext;have Hin:=hid H.out.1.in';have Hcp:=hid H.out.2
    by_cases h3:kind=3
    ·have s3:(kind==3)=true:=by rw[beq_iff_eq];exact h3
     have s2:(kind==2)=false:=bF (by omega);by_cases hky:key=⟨#[]⟩
     ·obtain ⟨k1,k2,k3⟩:=str_empty hky;have Hnx:=hid (fun wr2 (hc:NCp w wr2 m)=>And.intro (Hnext.out (keyOk_yes (fun _=>hky) (fun q=>by omega))) hc);clear hn hq hkd hj hx hlt2 hc2 hbad H hyn hm2 hk2 Hbad Hnext hkey Hin h3 hky;go_wp2
      go_loopw [9] (fun vh wr2=>vh= .int .i64 0∧wr=wr2) (fun _ _=>0)
      case atStart=>exact ⟨rfl,rfl⟩
      case round=>
       obtain ⟨rfl,rfl⟩:=hrel;by_cases hj0:0<j
       all_goals
        first|have tj0':decide (0<j)=true:=dT hj0|have tj0':decide (0<j)=false:=dF hj0
        clear hj0;go_wp2;go_roundw
        case rel=>exact ⟨_,j+1,rfl,Hgo.out,hid (Hnx.out _ Hcp.out)⟩
        case measure=>exact Hms.out
     ·obtain ⟨k1,k2,k3⟩:=str_full hky;have He:=hid (Hbad.out (by rw[←hkd,h3];exact keyOk_three hky));clear hn hq hkd hj hx hlt2 hc2 hbad H hyn hm2 hk2 Hbad Hnext hkey Hin Hcp h3 hky;go_wp2;go_ret;exact ⟨ret_b He.out.symm,Hb.out⟩
    ·have s3:(kind==3)=false:=by rw[beq_eq_false_iff_ne];exact h3
     have E2:=hid (hc2 j _ hx);have F1:=hid ((Hat.out y m2 hm2).1.c1);rw[←hkey]at F1;by_cases h2':kind=2
     ·have s2:(kind==2)=true:=by rw[beq_iff_eq];exact h2'
      have Hmem:=hid (fun (h:Nat) (z:Nat) (m3:NdM) (h1:h<j) (h2:m.nd.kids[h]? =some ((z:Nat):Int)) (h3:ms[z]? =some m3) (h4:m3.nd.key=key)=>(show kidsR (nds ms) m.nd.kind m.nd.kids (i:Int) []=false by
       refine Hbad.out ?_;rw[←hkd,h2'];exact keyOk_two (hadAt_mem.2 ⟨h,(z:Int),h1,h2,by rw[nds_at (k:=(z:Int).toNat) h3];exact h4⟩)))
      have Hnx:=hid (fun wr2 (hall:∀(h:Nat) (z:Nat) (m3:NdM),h<j→m.nd.kids[h]? =some ((z:Nat):Int)→ms[z]? =some m3→m3.nd.key≠key) (hc:NCp w wr2 m)=>And.intro (Hnext.out (keyOk_yes (fun q=>absurd (hkd.trans q) h3) (fun _ hm=>by
       obtain ⟨h,z,h1,h2,h4⟩:=hadAt_mem.1 hm;have hz:=Hin.out h z h1 h2;rw[nds_len]at hz;obtain ⟨m3,hm3⟩:∃m3,ms[z.toNat]? =some m3:=at_of_lt (by omega);refine hall h z.toNat m3 h1 (by rw[h2];congr 1;omega) hm3 ?_;rw[nds_at hm3]at h4;exact h4))) hc)
      have Hin2:=hid (fun h (hh:h<j)=>(show ∃z:Nat,m.nd.kids[h]? =some (z:Int)∧z<n by
       obtain ⟨z,hz⟩:∃z,m.nd.kids[h]? =some z:=at_of_lt (by omega);have h5:=Hin.out h z hh hz;rw[nds_len,←hn]at h5;exact ⟨z.toNat,by rw[hz];congr 1;omega,by omega⟩))
      have Hjq:=hid hj;have Hm2:=hid (show ms[y]? =some m2∧m2.nd.key=key from ⟨hm2,hkey.symm⟩);have Hc2:=hid hc2;have Hlt2:=hid hlt2;have Hyn:=hid hyn;clear hn hq hkd hj hx hlt2 hc2 hbad H hyn hm2 hk2 Hbad Hnext hkey Hin h3 h2' d0 d5 f1 e2;clear Hb;have d0:=cell_blk Hcp.out.blk 0;have d5:=cell_blk Hcp.out.blk 5;have e2:=(Hcp.out.below.cell (p:=⟨b2,o2+j,none⟩) Hlt2.out).trans E2.out;have f1:=(Hcp.out.below.cell (p:=⟨b,o+y*6+1,none⟩) Hlt.out).trans F1.out
      simp at d0 d5;rw[Hkv.out,←Hq.out]at d5;rw[←Hkd.out]at d0;go_wp2
      go_loopw [9] (fun vh wr2=>∃h:Nat,vh= .int .i64 (h:Int)∧Hid (h≤j∧NCp w wr2 m∧∀(h':Nat) (z:Nat) (m3:NdM),h'<h→m.nd.kids[h']? =some ((z:Nat):Int)→ms[z]? =some m3→m3.nd.key≠key)) (fun vh _=>j-(intOf vh).toNat)
      case atStart=>exact ⟨0,rfl,hid ⟨Nat.zero_le _,Hcp.out,fun h' z m3 hh=>absurd hh (Nat.not_lt_zero _)⟩⟩
      case round=>
       clear d0 d5 e2 f1;obtain ⟨h,rfl,HH⟩:=hrel;have d0:=cell_blk HH.out.2.1.blk 0;have d5:=cell_blk HH.out.2.1.blk 5;simp at d0 d5;rw[Hkv.out,←Hq.out]at d5;rw[←Hkd.out]at d0;have Hb2:=hid HH.out.2.1.below;by_cases hh:h<j
       ·obtain ⟨z,hz,hzn⟩:=Hin2.out h hh;obtain ⟨m3,hm3⟩:∃m3,ms[z]? =some m3:=at_of_lt (by rw[←Hn.out];exact hzn);have g2:=(HH.out.2.1.below.cell (p:=⟨b2,o2+h,none⟩) Hlt2.out).trans (Hc2.out h _ hz);have g1:=(HH.out.2.1.below.cell (p:=⟨b,o+z*6+1,none⟩) Hlt.out).trans (Hat.out z m3 hm3).1.c1;have f1:=(HH.out.2.1.below.cell (p:=⟨b,o+y*6+1,none⟩) Hlt.out).trans F1.out;have th:decide (h<j)=true:=dT hh
        have bh:(h:Int)<(q:Int):=by have:=Hjq.out;omega
        have bz:(z:Int)<(n:Int):=by omega
        obtain ⟨Hms2,Hgo2⟩:=step_two (k:=h) (n:=j) hh (by have:=Hl2.out;have:=Hjq.out;have:=Hq.out;omega);obtain ⟨key3,hkey3⟩:∃key3,key3=m3.nd.key:=⟨_,rfl⟩;rw[←hkey3]at g1;by_cases ek:key3=key
        ·have tk:(key3.toList==key.toList)=true:=same_yes ek;have He:=hid (Hmem.out h z m3 hh hz hm3 (hkey3.symm.trans ek));have Hdr:=hid (fun k=>bdH HH.out.2.1.below k);clear hz hzn hm3 hh hkey3 ek HH
         go_wp2_with fail
         go_quiet (fail);go_wp2;go_ret;exact ⟨ret_b He.out.symm,Hdr.out _⟩
        ·have tk:(key3.toList==key.toList)=false:=same_no ek;have Hnx2:=hid (fun k=>(show h+1≤j∧NCp w (_root_.Go.World.drewN _ k) m∧∀(h':Nat) (z:Nat) (m3:NdM),h'<h+1→m.nd.kids[h']? =some ((z:Nat):Int)→ms[z]? =some m3→m3.nd.key≠key from ⟨hh,HH.out.2.1.more k,fun h' z' m4 h1 h2 h4=>by
          by_cases e:h'=h
          ·subst e;rw[hz]at h2;obtain rfl:z=z':=by have:=Option.some.inj h2;omega
           rw[hm3]at h4;obtain rfl:=Option.some.inj h4;rw[←hkey3];exact ek
          ·exact HH.out.2.2 h' z' m4 (by omega) h2 h4⟩))
         clear hz hzn hm3 hh hkey3 ek HH
         go_wp2_with fail
         go_quiet (fail);go_wp2;go_roundw
         case rel=>exact ⟨h+1,Hgo2.out,hid (Hnx2.out _)⟩
         case measure=>exact Hms2.out
       ·have th:decide (h<j)=false:=dF hh;have HN:=hid (Hnx.out _ (fun h' z' m4 h1 h2 h4=>HH.out.2.2 h' z' m4 (by omega) h2 h4) HH.out.2.1);clear hh HH;go_wp2;go_roundw
        case rel=>exact ⟨_,j+1,rfl,Hgo.out,HN⟩
        case measure=>exact Hms.out
     ·have s2:(kind==2)=false:=by rw[beq_eq_false_iff_ne];exact h2'
      have Hnx:=hid (fun wr2 (hc:NCp w wr2 m)=>And.intro (Hnext.out (keyOk_yes (fun q=>absurd (hkd.trans q) h3) (fun q=>absurd (hkd.trans q) h2'))) hc);clear hn hq hkd hj hx hlt2 hc2 hbad H hyn hm2 hk2 Hbad Hnext hkey Hin h3 h2' E2 F1;go_wp2
      go_loopw [9] (fun vh wr2=>vh= .int .i64 0∧wr=wr2) (fun _ _=>0)
      case atStart=>exact ⟨rfl,rfl⟩
      case round=>
       obtain ⟨rfl,rfl⟩:=hrel;by_cases hj0:0<j
       all_goals
        first|have tj0':decide (0<j)=true:=dT hj0|have tj0':decide (0<j)=false:=dF hj0
        clear hj0;go_wp2;go_roundw
        case rel=>exact ⟨_,j+1,rfl,Hgo.out,hid (Hnx.out _ Hcp.out)⟩
        case measure=>exact Hms.out
  ·have tj:decide (j<q)=false:=dF hj;have He:=hid (H.out.1.done (by omega));clear hn hq hkd hj H;go_wp2;go_ret;exact ⟨ret_b He.out.symm,Hb.out⟩
theorem bytesAppend {w:World} {ops:Array Oper} {rest:List Oper} {o:Oper} {a:Act} {Q:Exit→Act→World→Prop} (hgd:o.guard=none) (s x:Operand)
 (ho:o.op= .call {callee:= .builtin .append,args:=#[s,x],argTypes:=#[42,42]})
 (v:Value) (l:List UInt8) (hs:a.eval s=v) (hown:w.ownsRow 0 5 1 v l.length (Lib.byteCells l)) (g m:Nat) (news:List UInt8) (arr:Array Value) (hx:a.eval x= .slice (some ⟨g,0,none⟩) m m) (hm:m=news.length)
 (hnew:w.heap[g]? =some (.cells arr 5 (0,0))) (harr:arr.toList=Lib.byteCells news) (hlen:l.length+m≤1000000000)
 (h:∀v' w',w'.ownsRow 0 5 1 v' (l++news).length (Lib.byteCells (l++news))→w.grownBy w' v.ownBlock→(∀g,v'.ownBlock=some g→v.ownBlock=some g∨w.heap.size≤g)→
  wpList Tryz.prog ops Q rest (a.put o.dst v') w'):wpList Tryz.prog ops Q (o::rest) a w:=by
 obtain ⟨i0,hi5,hz0,hz1,hz2⟩:=info_parts binfo;subst hm;have e:Lib.byteCells (l++news)=Lib.byteCells l++Lib.byteCells news:=by simp[Lib.byteCells]
 rw[e,List.length_append]at h;refine wpList_append_sl w hgd s x 42 ho 5 i0 (.int .u8 0) 1 1 Tryz.underlying42 hi5 hz0 hz1 hz2 rfl (by decide) v l.length (Lib.byteCells l) hs hown (some ⟨g,0,none⟩) news.length news.length (Lib.byteCells news) hx (by simp[Lib.byteCells])
  (fun hn=>by cases hn) (fun ad had=> ?_) (fun u hu=>by
   simp only[Lib.byteCells,List.mem_map]at hu;obtain ⟨c,_,rfl⟩:=hu;rfl) (by unfold maxLen;omega) (by omega) h
 obtain rfl:=Option.some.inj had;intro j u hj;have e2:Addr.add ⟨g,0,none⟩ j=⟨g,j,none⟩:=by
  simp[Addr.add];exact fun h=>h.symm
 rw[e2,cell_blk hnew,←Array.getElem?_toList,harr];exact hj
theorem step_bytesA {w:World} {ops:Array Oper} {o:Oper} {a:Act} {K:Act→World→Prop} {Q:Exit→Act→World→Prop} {E:Prop} (hgd:o.guard=none) (s x:Operand)
 (ho:o.op= .call {callee:= .builtin .append,args:=#[s,x],argTypes:=#[42,42]})
 (v:Value) (l:List UInt8) (hs:a.eval s=v) (hown:w.ownsRow 0 5 1 v l.length (Lib.byteCells l)) (g m:Nat) (news:List UInt8) (arr:Array Value) (hx:a.eval x= .slice (some ⟨g,0,none⟩) m m) (hm:m=news.length)
 (hnew:w.heap[g]? =some (.cells arr 5 (0,0))) (harr:arr.toList=Lib.byteCells news) (hlen:l.length+m≤1000000000)
 (h:∀v' w',w'.ownsRow 0 5 1 v' (l++news).length (Lib.byteCells (l++news))→w.grownBy w' v.ownBlock→(∀g,v'.ownBlock=some g→v.ownBlock=some g∨w.heap.size≤g)→
  K (a.put o.dst v') w'):if Region.wanted o (yielded ops a.tmps)=true then Oper.wp Tryz.prog o a w K Q else E:=by
 obtain ⟨i0,hi5,hz0,hz1,hz2⟩:=info_parts binfo;subst hm;have e:Lib.byteCells (l++news)=Lib.byteCells l++Lib.byteCells news:=by simp[Lib.byteCells]
 rw[e,List.length_append]at h;refine step_append_sl w hgd s x 42 ho 5 i0 (.int .u8 0) 1 1 Tryz.underlying42 hi5 hz0 hz1 hz2 rfl (by decide) v l.length (Lib.byteCells l) hs hown (some ⟨g,0,none⟩) news.length news.length (Lib.byteCells news) hx (by simp[Lib.byteCells])
  (fun hn=>by cases hn) (fun ad had=> ?_) (fun u hu=>by
   simp only[Lib.byteCells,List.mem_map]at hu;obtain ⟨c,_,rfl⟩:=hu;rfl) (by unfold maxLen;omega) (by omega) h
 obtain rfl:=Option.some.inj had;intro j u hj;have e2:Addr.add ⟨g,0,none⟩ j=⟨g,j,none⟩:=by
  simp[Addr.add];exact fun h=>h.symm
 rw[e2,cell_blk hnew,←Array.getElem?_toList,harr];exact hj
theorem RB.apps {w wr w2:World} {v v':Value} {l news:List UInt8} {o:Obj} (h:RB w wr v l) (own2:w2.ownsRow 0 5 1 v' (l++news).length (Lib.byteCells (l++news))) (gr2:(wr.alloc o).grownBy w2 v.ownBlock) (new2:∀g,v'.ownBlock=some g→v.ownBlock=some g∨(wr.alloc o).heap.size≤g):RB w w2 v' (l++news):=
 RO.app h ((Below.refl _ wr).alloc (Nat.le_refl _) o) own2 gr2 new2
theorem RB.lit {w wr:World} (hb:Below w.heap.size w wr) (arr:Array Value) (l:List UInt8) (harr:arr.toList=Lib.byteCells l) (hl:l.length≤1000000):RB w (wr.alloc (.cells arr 5)) (.slice (some ⟨wr.heap.size,0,none⟩) l.length l.length) l:=by
 have hsz:arr.size=l.length:=by rw[←Array.length_toList,harr];simp[Lib.byteCells]
 refine ⟨hb.alloc hb.size _,?_,fun g hg=> ?_⟩
 ·have:=World.ownsRow_lit (base:=0) (e:= 5) (size:=1) wr arr l.length (Nat.zero_le _) (by unfold maxLen;omega) (by omega);rw[harr]at this;exact this
 ·simp only[Value.ownBlock,Option.some.injEq]at hg;rw[←hg];exact hb.size
def quoK (l:List UInt8) (k:Nat):List UInt8:=34::(l.take k).flatMap escQ
theorem quoK_next {l:List UInt8} {k:Nat} {c:UInt8} (h:l[k]? =some c):quoK l (k+1)=quoK l k++escQ c:=by
 unfold quoK;rw[List.take_add_one,h];simp
theorem quoK_all {l:List UInt8} {k:Nat} (h:l.length≤k):quoK l k++[34]=quoteL l:=by
 unfold quoK quoteL;rw[List.take_of_length_le h]
theorem escQ_len (c:UInt8):(escQ c).length≤4:=by
 unfold escQ
 repeat' split
 all_goals simp
theorem esc_len:∀l:List UInt8,(l.flatMap escQ).length≤4*l.length
 |[]=>by simp
 |c::r=>by
  have:=escQ_len c;have:=esc_len r;rw[List.flatMap_cons,List.length_append,List.length_cons];omega
theorem quoK_len {l:List UInt8} (k:Nat) (h:l.length≤100000000):(quoK l k).length≤400000001:=by
 have h1:=esc_len (l.take k);have h2:(l.take k).length≤l.length:=by rw[List.length_take];omega
 unfold quoK;rw[List.length_cons];omega
theorem step_twoB {k n:Nat} (h:k<n) (hn:n≤1000000000):Hid (n-(intOf (.int .i64 (wrap64 ((k:Int)+1)))).toNat<n-(intOf (.int .i64 (k:Int))).toNat)∧Hid (Value.int .i64 (wrap64 ((k:Int)+1))= .int .i64 ((k+1:Nat):Int)):=by
 have wk:=wrap_ok (z:=(k:Int)+1) (by omega) (by omega);exact ⟨hid (meas_step h wk),hid (go_step wk)⟩
theorem escQ_34 {c:UInt8} (h:c.toNat=34∨c.toNat=92):escQ c=[92,c]:=by unfold escQ;rw[if_pos h]
theorem escQ_10 {c:UInt8} (h:c.toNat=10):escQ c=[92,110]:=by unfold escQ;rw[if_neg (by omega),if_pos h]
theorem escQ_9 {c:UInt8} (h:c.toNat=9):escQ c=[92,116]:=by unfold escQ;rw[if_neg (by omega),if_neg (by omega),if_pos h]
theorem escQ_x {c:UInt8} (h1:¬(c.toNat=34∨c.toNat=92)) (h2:¬c.toNat=10) (h3:¬c.toNat=9) (h:c.toNat<32∨c.toNat=127):escQ c=[92,120,hexL[c.toNat / 16]!,hexL[c.toNat % 16]!]:=by unfold escQ;rw[if_neg h1,if_neg h2,if_neg h3,if_pos h]
theorem escQ_c {c:UInt8} (h1:¬(c.toNat=34∨c.toNat=92)) (h2:¬c.toNat=10) (h3:¬c.toNat=9) (h:¬(c.toNat<32∨c.toNat=127)):escQ c=[c]:=by unfold escQ;rw[if_neg h1,if_neg h2,if_neg h3,if_neg h]
theorem hexL_get {n:Nat} (h:n<16):(hexes:ByteArray)[n]'(h)=hexL[n]! :=by
 have:=((by decide):∀m:Fin 16,(hexes:ByteArray)[m.val]'(m.isLt)=hexL[m.val]!) ⟨n,h⟩;exact this
theorem shr_run (c:UInt8):∀w,(binOp .shr 5 (.int .u8 (c.toNat:Int)) (.int .u64 4)).run Tryz.prog w= .ok (.int .u8 ((c.toNat / 16:Nat):Int)) w:=by
 intro w;simp[binOp,Op.shift];have e:(2:Int) ^ min 4 IntKind.u8.bits=16:=rfl;rw[e,Int.fdiv_eq_ediv_of_nonneg _ (by decide)]
theorem and_fin:∀c:Fin 256,bits BinOp.and IntKind.u8 (c.val:Int) 15=((c.val % 16:Nat):Int):=by decide+kernel
theorem and_bits (c:UInt8):bits BinOp.and IntKind.u8 (c.toNat:Int) 15=((c.toNat % 16:Nat):Int):=and_fin ⟨c.toNat,c.toNat_lt⟩
theorem quote_c (w:World) (s:ByteArray) (hs:s.size≤100000000):
 Calls Tryz.prog 134 #[.string s] w fun r w'=>r= .returned (.string ⟨(quoteL s.data.toList).toArray⟩)∧Below w.heap.size w w':=by
 obtain ⟨n,hn⟩:∃n,n=s.size:=⟨_,rfl⟩;have Hn:=hid (show n≤100000000 by omega);have Hl:=hid (show s.data.toList.length=n by rw[len_str,hn]);have H0:=hid (RB.lit (Below.refl w.heap.size w) #[.int .u8 34] [34] rfl (by decide));have hix:=hid (fun (k:Nat) (c:UInt8) (hc:s.data.toList[k]? =some c)=>idx_run' (s:=s) (k:=k) (c:=c) (k:Int) rfl hc);have Hall:=hid (fun k (hk:n≤k)=>quoK_all (l:=s.data.toList) (k:=k) (by rw[Hl.out];exact hk))
 have Hlen:=hid (fun k=>quoK_len (l:=s.data.toList) k (by rw[Hl.out];exact Hn.out));have hnz:s.size=n:=hn.symm;clear hs hn;go_enter Tryz.func134,Tryz.ntmps134;go_wp2
 go_loopw [3,9] (fun vv vi wr=>∃(v2:Value) (k:Nat),v2=vv∧vi= .int .i64 (k:Int)∧Hid (k≤n∧RB w wr v2 (quoK s.data.toList k))) (fun _ vi _=>n-(intOf vi).toNat)
 case atStart=>exact ⟨_,0,rfl,rfl,hid ⟨Nat.zero_le _,H0.out⟩⟩
 case round=>
  clear H0;obtain ⟨v2,k,rfl,rfl,H⟩:=hrel;by_cases hk:k<n
  ·have tk:decide (k<n)=true:=dT hk;obtain ⟨c,hc⟩:∃c,s.data.toList[k]? =some c:=at_of_lt (by rw[Hl.out];exact hk);have hx:=hix.out k c hc;have hnext:=quoK_next hc;obtain ⟨Hms,Hgo⟩:=step_twoB (k:=k) (n:=n) hk (by have:=Hn.out;omega);have Hown:=hid (fun o=>H.out.2.row.alloc o);have Hend:=hid (fun (news:List UInt8) (hq:escQ c=news) o v' w2 a1 a2 a3=>show k+1≤n∧RB w w2 v' (quoK s.data.toList (k+1)) from ⟨hk,by rw[hnext,hq];exact H.out.2.apps (o:=o) (v':=v') (w2:=w2) (news:=news) a1 a2 a3⟩)
   have Hrm:=hid (fun m (hm:m≤4)=>show (quoK s.data.toList k).length+m≤1000000000 by have:=Hlen.out k;omega);have HD:=hid H.out.2;have Hkn:=hid hk;have Hnx:=hid hnext;clear hc hnext H hk Hlen Hall;have hcl:=c.toNat_lt;by_cases c1:c.toNat=34∨c.toNat=92
   ·have Hes:=hid (escQ_34 c1);by_cases c2:c.toNat=34
    ·have p1:((c.toNat:Int)==34)=true:=by rw[beq_iff_eq];omega
     clear c1 c2;have Harr:=hid (show (#[.int .u8 92,.int .u8 (c.toNat:Int)]:Array Value).toList=Lib.byteCells [92,c] from rfl);clear hix hcl
     go_wp2_with (at_builtin;refine bytesAppend rfl _ _ rfl v2 (quoK s.data.toList k) rfl (Hown.out _) wr.heap.size 2 [92,c] #[.int .u8 92,.int .u8 (c.toNat:Int)] rfl rfl (alloc_new _) Harr.out (Hrm.out 2 (by decide)) ?_;intro v' w2 own2 gr2 new2;have HE:=hid (Hend.out [92,c] Hes.out _ _ _ own2 gr2 new2);clear own2 gr2 new2)
     go_roundw
     case rel=>exact ⟨_,k+1,rfl,Hgo.out,HE⟩
     case measure=>exact Hms.out
    ·have p1:((c.toNat:Int)==34)=false:=bF (by omega);have p2:((c.toNat:Int)==92)=true:=by rw[beq_iff_eq];omega
     clear c1 c2;have Harr:=hid (show (#[.int .u8 92,.int .u8 (c.toNat:Int)]:Array Value).toList=Lib.byteCells [92,c] from rfl);clear hix hcl
     go_wp2_with (at_builtin;refine bytesAppend rfl _ _ rfl v2 (quoK s.data.toList k) rfl (Hown.out _) wr.heap.size 2 [92,c] #[.int .u8 92,.int .u8 (c.toNat:Int)] rfl rfl (alloc_new _) Harr.out (Hrm.out 2 (by decide)) ?_;intro v' w2 own2 gr2 new2;have HE:=hid (Hend.out [92,c] Hes.out _ _ _ own2 gr2 new2);clear own2 gr2 new2)
     go_roundw
     case rel=>exact ⟨_,k+1,rfl,Hgo.out,HE⟩
     case measure=>exact Hms.out
   ·have p1:((c.toNat:Int)==34)=false:=bF (by omega);have p2:((c.toNat:Int)==92)=false:=bF (by omega);by_cases c3:c.toNat=10
    ·have Hes:=hid (escQ_10 c3);have p3:((c.toNat:Int)==10)=true:=by rw[beq_iff_eq];omega
     clear c1 c3;have Harr:=hid (show (#[.int .u8 92,.int .u8 110]:Array Value).toList=Lib.byteCells [92,110] from rfl);clear hix hcl
     go_wp2_with (at_builtin;refine bytesAppend rfl _ _ rfl v2 (quoK s.data.toList k) rfl (Hown.out _) wr.heap.size 2 [92,110] #[.int .u8 92,.int .u8 110] rfl rfl (alloc_new _) Harr.out (Hrm.out 2 (by decide)) ?_;intro v' w2 own2 gr2 new2;have HE:=hid (Hend.out [92,110] Hes.out _ _ _ own2 gr2 new2);clear own2 gr2 new2)
     go_roundw
     case rel=>exact ⟨_,k+1,rfl,Hgo.out,HE⟩
     case measure=>exact Hms.out
    ·have p3:((c.toNat:Int)==10)=false:=bF (by omega);by_cases c4:c.toNat=9
     ·have Hes:=hid (escQ_9 c4);have p4:((c.toNat:Int)==9)=true:=by rw[beq_iff_eq];omega
      clear c1 c3 c4;have Harr:=hid (show (#[.int .u8 92,.int .u8 116]:Array Value).toList=Lib.byteCells [92,116] from rfl);clear hix hcl
      go_wp2_with (at_builtin;refine bytesAppend rfl _ _ rfl v2 (quoK s.data.toList k) rfl (Hown.out _) wr.heap.size 2 [92,116] #[.int .u8 92,.int .u8 116] rfl rfl (alloc_new _) Harr.out (Hrm.out 2 (by decide)) ?_;intro v' w2 own2 gr2 new2;have HE:=hid (Hend.out [92,116] Hes.out _ _ _ own2 gr2 new2);clear own2 gr2 new2)
      go_roundw
      case rel=>exact ⟨_,k+1,rfl,Hgo.out,HE⟩
      case measure=>exact Hms.out
     ·have p4:((c.toNat:Int)==9)=false:=bF (by omega);by_cases c5:c.toNat<32∨c.toNat=127
      ·have Hes:=hid (escQ_x c1 c3 c4 c5);have q1:c.toNat / 16<16:=by omega
       have q2:c.toNat % 16<16:=by omega
       have k1:∀w,(binOp .shr 5 (.int .u8 (c.toNat:Int)) (.int .u64 4)).run Tryz.prog w= .ok (.int .u8 ((c.toNat:Int) / 16)) w:=shr_run c;have k3:∀w,(Instr.index 9 (.string ⟨#[48,49,50,51,52,53,54,55,56,57,97,98,99,100,101,102]⟩) (.int .u8 ((c.toNat:Int) / 16))).run Tryz.prog w= .ok (.int .u8 ((hexL[c.toNat / 16]!).toNat:Int)) w:=idx_run (s:=hexes) (k:=c.toNat / 16) (c:=hexL[c.toNat / 16]!) .u8 (by rw[←hexL_get q1];exact List.getElem?_eq_getElem (by exact q1))
       have k4:∀w,(Instr.index 9 (.string ⟨#[48,49,50,51,52,53,54,55,56,57,97,98,99,100,101,102]⟩) (.int .u8 (bits BinOp.and IntKind.u8 (c.toNat:Int) 15))).run Tryz.prog w= .ok (.int .u8 ((hexL[c.toNat % 16]!).toNat:Int)) w:=by
        rw[and_bits c];exact idx_run (s:=hexes) (k:=c.toNat % 16) (c:=hexL[c.toNat % 16]!) .u8 (by rw[←hexL_get q2];exact List.getElem?_eq_getElem (by exact q2))
       obtain ⟨h1,hh1⟩:∃h1,h1=hexL[c.toNat / 16]! :=⟨_,rfl⟩;obtain ⟨h2,hh2⟩:∃h2,h2=hexL[c.toNat % 16]! :=⟨_,rfl⟩;rw[←hh1]at k3 Hes;rw[←hh2]at k4 Hes;clear hh1 hh2 q1 q2;have HownD:=hid (fun nd o=>(HD.out.drewN nd).row.alloc o);have HendD:=hid (fun (news:List UInt8) (hq:escQ c=news) nd o v' w2 a1 a2 a3=>show k+1≤n∧RB w w2 v' (quoK s.data.toList (k+1)) from ⟨Hkn.out,by rw[Hnx.out,hq];exact (HD.out.drewN nd).apps (o:=o) (v':=v') (w2:=w2) (news:=news) a1 a2 a3⟩)
       have Harr:=hid (show (#[.int .u8 92,.int .u8 120,.int .u8 (h1.toNat:Int),.int .u8 (h2.toNat:Int)]:Array Value).toList=Lib.byteCells [92,120,h1,h2] from rfl);by_cases c6:c.toNat<32
       ·have p5:decide ((c.toNat:Int)<32)=true:=dT (by omega);clear c1 c3 c4 c5 c6 hix hcl;go_wp2
        go_region_law (refine step_bytesA rfl _ _ rfl v2 (quoK s.data.toList k) rfl (HownD.out _ _) wr.heap.size 4 [92,120,h1,h2] #[.int .u8 92,.int .u8 120,.int .u8 (h1.toNat:Int),.int .u8 (h2.toNat:Int)] rfl rfl (alloc_new _) Harr.out (Hrm.out 4 (by decide)) ?_;intro v' w2 own2 gr2 new2;have HE:=hid (HendD.out [92,120,h1,h2] Hes.out _ _ _ _ own2 gr2 new2);clear own2 gr2 new2)
        all_goals
         go_wp2;go_roundw
         case rel=>exact ⟨_,k+1,rfl,Hgo.out,HE⟩
         case measure=>exact Hms.out
       ·have p5:decide ((c.toNat:Int)<32)=false:=dF (by omega);have p6:((c.toNat:Int)==127)=true:=by rw[beq_iff_eq];omega
        clear c1 c3 c4 c5 c6 hix hcl;go_wp2
        go_region_law (refine step_bytesA rfl _ _ rfl v2 (quoK s.data.toList k) rfl (HownD.out _ _) wr.heap.size 4 [92,120,h1,h2] #[.int .u8 92,.int .u8 120,.int .u8 (h1.toNat:Int),.int .u8 (h2.toNat:Int)] rfl rfl (alloc_new _) Harr.out (Hrm.out 4 (by decide)) ?_;intro v' w2 own2 gr2 new2;have HE:=hid (HendD.out [92,120,h1,h2] Hes.out _ _ _ _ own2 gr2 new2);clear own2 gr2 new2)
        all_goals
         go_wp2;go_roundw
         case rel=>exact ⟨_,k+1,rfl,Hgo.out,HE⟩
         case measure=>exact Hms.out
      ·have Hes:=hid (escQ_c c1 c3 c4 c5);have p5:decide ((c.toNat:Int)<32)=false:=dF (by omega);have p6:((c.toNat:Int)==127)=false:=bF (by omega);clear c1 c3 c4 c5;have Harr:=hid (show (#[.int .u8 (c.toNat:Int)]:Array Value).toList=Lib.byteCells [c] from rfl);clear hix hcl
       go_wp2_with (at_builtin;refine bytesAppend rfl _ _ rfl v2 (quoK s.data.toList k) rfl (Hown.out _) wr.heap.size 1 [c] #[.int .u8 (c.toNat:Int)] rfl rfl (alloc_new _) Harr.out (Hrm.out 1 (by decide)) ?_;intro v' w2 own2 gr2 new2;have HE:=hid (Hend.out [c] Hes.out _ _ _ own2 gr2 new2);clear own2 gr2 new2)
       go_roundw
       case rel=>exact ⟨_,k+1,rfl,Hgo.out,HE⟩
       case measure=>exact Hms.out
  ·have tk:decide (k<n)=false:=dF hk;have Hown:=hid (fun o=>H.out.2.row.alloc o);have Hend:=hid (fun o v' w2 a1 a2 a3=>show RB w w2 v' (quoteL s.data.toList) from by
    have:=H.out.2.apps (o:=o) (v':=v') (w2:=w2) (news:=[34]) a1 a2 a3;rw[Hall.out k (by omega)]at this;exact this)
   have Hrm:=hid (show (quoK s.data.toList k).length+1≤1000000000 by have:=Hlen.out k;omega);have Harr:=hid (show (#[.int .u8 34]:Array Value).toList=Lib.byteCells [34] from rfl);clear H hk Hlen Hall hix
   go_wp2_with (at_builtin;refine bytesAppend rfl _ _ rfl v2 (quoK s.data.toList k) rfl (Hown.out _) wr.heap.size 1 [34] #[.int .u8 34] rfl rfl (alloc_new _) Harr.out Hrm.out ?_;intro v' w2 own2 gr2 new2;have HE:=hid (Hend.out _ _ _ own2 gr2 new2);have hc:=conv_row HE.out.row;clear own2 gr2 new2)
   go_ret;exact ⟨rfl,HE.out.below⟩
theorem lawS:Maps.Keyed Tryz.prog 9 :=Maps.string_keyed Tryz.underlying9
def Had (w:World) (b:Nat) (had:List ByteArray):Prop:=
 ∃(n:Nat) (D:DataW Unit),w.ownsMap Tryz.prog 9 (plainElem Tryz.prog 4) b n D∧n≤had.length∧
  ∀s:ByteArray,D.atKey (.string s.data.toList) (.lit (.bool false))= .lit (.bool (decide (s∈had)))
theorem Had.lt {w:World} {b:Nat} {had:List ByteArray} (h:Had w b had):b<w.heap.size:=by
 obtain ⟨n,D,h,_⟩:=h;exact h.lt
theorem Had.made (w:World):Had (w.alloc (.map #[] 0)) w.heap.size []:=
 ⟨0,.map [],World.ownsMap_made w _ _ _,Nat.le_refl _,fun s=>by
  rw[WideAt.atKey_none (entries:=[]) _ (fun p hp=>by cases hp)];simp⟩
theorem Had.frame {w w':World} {b:Nat} {had:List ByteArray} (h:Had w b had) (hk:w'.heap[b]? =w.heap[b]?):Had w' b had:=by
 obtain ⟨n,D,⟨es,clock,hb,r⟩,h⟩:=h;exact ⟨n,D,⟨es,clock,hk.trans hb,r⟩,h⟩
theorem Had.kept {w w':World} {b:Nat} {had:List ByteArray} {row:Option Nat} (h:Had w b had) (hg:w.grownBy w' row) (hne:some b≠row):Had w' b had:=by
 obtain ⟨n,D,h,r⟩:=h;exact ⟨n,D,h.kept hg hne,r⟩
theorem Had.alloc {w:World} {b:Nat} {had:List ByteArray} (h:Had w b had) (o:Obj):Had (w.alloc o) b had:=h.kept (World.grownBy_alloc w o none) (by simp)
theorem Had.setCell {w:World} {b:Nat} {had:List ByteArray} (h:Had w b had) {a:Addr} (ha:b≠a.block) (u:Value):Had (w.setCell a u) b had:=by
 obtain ⟨n,D,h,r⟩:=h;exact ⟨n,D,h.setCell ha u,r⟩
theorem zeroB (w:World):(zeroValue 4).run Tryz.prog w= .ok (.bool false) w:=by
 kernel_rfl
theorem plainB_inv {v:Value} {z:DataW Unit×List MemPlace} (h:plainElem Tryz.prog 4 v=some z):∃x,v= .bool x∧z=(.lit (.bool x),[]):=by
 have hb: Tryz.prog.underlying 4 =some .bool:= Tryz.underlying4;generalize Tryz.prog=P at*;unfold plainElem at h;rw[hb]at h;cases v<;>simp at h
 subst h;exact ⟨_,rfl,rfl⟩
theorem Had.look {w:World} {b:Nat} {had:List ByteArray} (h:Had w b had) (s:ByteArray) (hs:s.size≤maxLen):
 (Instr.lookup 155 (.map (some b)) (.string s) false).run Tryz.prog w= .ok (.bool (decide (s∈had))) w:=by
 obtain ⟨n,D,hown,_,hat⟩:=h;obtain ⟨v,ps,hrun,hv⟩:=hown.lookup lawS Tryz.underlying155 (zeroB w) (plainElem_bool Tryz.underlying4 false) (key:= .string s) (Go.WideMaps.keyOf_string_mk Tryz.underlying9 hs);obtain ⟨x,rfl,hx⟩:=plainB_inv hv;simp only[Prod.mk.injEq]at hx;have:=hx.1.symm.trans (hat s);simp only[DataW.lit.injEq,Lit.bool.injEq]at this;rw[hrun,this]
theorem ba_list {s t:ByteArray} (h:s.data.toList=t.data.toList):s=t:=by
 cases s;cases t;simp only[ByteArray.mk.injEq];exact Array.ext' h
theorem hadPut {w:World} {ops:Array Oper} {rest:List Oper} {o:Oper} {a:Act} {Q:Exit→Act→World→Prop} (hg:o.guard=none) (m x v:Operand)
 (hop:o.op=Op.mapUpdate 155 m x v) (b:Nat) (had:List ByteArray) (hm:a.eval m= .map (some b)) (h:Had w b had) (hn:had.length≤1048576) (s:ByteArray) (hs:s.size≤maxLen) (hx:a.eval x= .string s) (hv:a.eval v= .bool true)
 (hK:∀w',Had w' b (s::had)→w.grownBy w' (some b)→wpList Tryz.prog ops Q rest (a.put o.dst undef) w'):wpList Tryz.prog ops Q (o::rest) a w:=by
 obtain ⟨n,D,hown,hle,hat⟩:=h;refine wpList_mapUpdate_own w hg m x v 155 hop 9 4 lawS Tryz.underlying155 _ b n D hm hown (by unfold maxLen;omega) _ _ (.string s.data.toList) hx hv (Go.WideMaps.keyOf_string_mk Tryz.underlying9 hs) (.lit (.bool true)) [] (plainElem_bool Tryz.underlying4 true) fun w' h1 h2=>hK w' ⟨n+1,_,h1,by simp;omega,fun t=> ?_⟩ h2
 by_cases e:t=s
 ·subst e;rw[Maps.atKey_put_same hown.isMap (show WideAt.IsKeyLit (.string t.data.toList) from trivial)];simp
 ·rw[Maps.atKey_put_other (fun q=>e (ba_list (by simpa using q))),hat t];simp[e]
end Go.Proofs.YtfenoaeoedobmaaGreatDoor
