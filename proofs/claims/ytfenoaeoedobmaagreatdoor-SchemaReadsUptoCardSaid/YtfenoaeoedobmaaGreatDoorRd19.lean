/-
Parts of a proof, one behind the other (laid dense by a program of mine: pack.py).
-/
import Derived.Test.YtfenoaeoedobmaaGreatDoorRd18
set_option linter.unusedVariables false
set_option linter.unusedSimpArgs false
set_option maxHeartbeats 4000000
set_option maxRecDepth 20000
namespace Go.Proofs.YtfenoaeoedobmaaGreatDoor
open Go Go.RowKit
section
variable {w0 w:World} {Q:Exit→Act→World→Prop} {a:Act} {ms:List NdM} {pb:Nat} {V:Value} {ind nb b2 o2 q cap2 j k:Nat} {th:Bool} {v:Value} {l:List UInt8} {m mk:NdM}
theorem ly_a (X:Code) (hf:LyA a pb V ind nb b2 o2 q cap2 j th) (h:Pg w pb v l) (hx:w.cell? ⟨b2,o2+j,none⟩=some (.int .i64 (k:Int))) (hj:j<q) (hind:ind≤10000)
 (ok:∀a' w' v',LyB a' pb V ind nb b2 o2 q cap2 j k→PgTo w pb v w' v' (layInd ind th l)→X.wp Tryz.prog Q a' w'):(Code.seq lyR1 (Code.seq lyR2 X)).wp Tryz.prog Q a w:=by
 have bj:(j:Int)<(q:Int):=by omega
 have Hok:=hid ok;have H0:=hid (PgTo.refl h);obtain ⟨vv,rfl⟩:=hf.shape;clear hf ok;cases th with
 |true=>
  clear h hj hind;dsimp only[lyR1,lyR2,ncs,ncl,ncr,ncb,nco,nct,nce,ncx,Tryz.f64];go_wp2;exact Hok.out _ _ v ⟨rfl,rfl,rfl,rfl,rfl,rfl,rfl,rfl,rfl,rfl,rfl⟩ H0.out
 |false=>
  have Hr:=hid (Tryz.strings_Repeat ⟨#[32]⟩ ind w (by omega) (by show 1*ind≤_;omega));rw[repeat_32]at Hr;have Hp:=hid (fun w1 (hb:Below w.heap.size w w1)=>put_lit (w:=w1) (h.later hb) [⟨(List.replicate ind 32).toArray⟩] #[.string ⟨(List.replicate ind 32).toArray⟩] rfl 1 rfl (by decide) 9 (fun s hs=>by
   simp only[List.mem_singleton]at hs;subst hs;simp[ByteArray.size];omega))
  have HP0:=hid (fun w1 (hb:Below w.heap.size w w1)=>PgTo.below h hb);clear h hj hind H0;dsimp only[lyR1,lyR2,ncs,ncl,ncr,ncb,nco,nct,nce,ncx,Tryz.f64]
  go_wp2_with fail
  refine Hr.out.mono ?_;rintro r w1 ⟨rfl,hb⟩;have Hp1:=hid (Hp.out w1 hb);have HP1:=hid (HP0.out w1 hb);clear hb Hr Hp HP0
  go_wp2_with fail
  refine Hp1.out.mono ?_;rintro r w2 ⟨rfl,v2,hp⟩;have HP2:=hid (HP1.out.trans hp);clear hp Hp1 HP1;go_wp2;refine Hok.out _ _ v2 ⟨rfl,rfl,rfl,rfl,rfl,rfl,rfl,rfl,rfl,rfl,rfl⟩ ?_;have:=HP2.out;unfold layInd
  simpa[putS] using this
theorem ly_b (X:Code) {b o n cap:Nat} {kind:Int} (hf:LyB a pb (.slice (some ⟨b,o,none⟩) n cap) ind nb b2 o2 q cap2 j k) (h:Pg w pb v l) (hat:NdAt w b (o+k*6) mk) (hmk:mk.Ok w) (hk:k<n)
 (hn0:w.cell? ⟨nb,0,none⟩=some (.int .i64 kind)) (hnb:nb<w.heap.size) (hkind:kind=2∨kind=3)
 (ok:∀a' w',LyC a' pb (.slice (some ⟨b,o,none⟩) n cap) ind nb b2 o2 q cap2 j k w.heap.size ⟨(lyMark kind mk.nd.key).toArray⟩→PgTo w pb v w' v l→Apart w' pb v w.heap.size (NdO mk)→X.wp Tryz.prog Q a' w'):
 (Code.seq lyR3 (Code.seq lyR4 (Code.seq lyR5 (Code.seq lyR6 X)))).wp Tryz.prog Q a w:=by
 have bk:(k:Int)<(n:Int):=by omega
 obtain ⟨ao3,c3,hkv,_,_⟩:=ints_open hmk.kids;obtain ⟨q3,hq3⟩:∃q3,q3=mk.nd.kids.length:=⟨_,rfl⟩;rw[←hq3]at hkv;have x0:=hat.c0;have x1:=hat.c1;have x2:=hat.c2;have x3:=hat.c3;have x4:=hat.c4;have x5:=hat.c5;rw[hkv]at x5;have hks:=hmk.key;have Hok:=hid ok;have HA:=hid (Apart.new h (NdO mk));have HP:=hid ((PgTo.refl h).alloc (NdO mk));have hE:NdO mk= .cells #[.int .i64 mk.nd.kind,.string mk.nd.key,.string mk.nd.text,.bool mk.nd.quoted,.int .i64 mk.nd.line,.slice ao3 q3 c3] 55 :=by unfold NdO;rw[hkv]
 rw[hE]at HA HP;rw[hE]at Hok;have hn1:∀ob,(w.alloc ob).cell? ⟨nb,0,none⟩=some (.int .i64 kind):=fun ob=>(World.cell?_of_block (alloc_old ob hnb)).trans hn0;obtain ⟨vv,rfl⟩:=hf.shape;clear hf ok h hat hmk hkv hq3 hE hk;rcases hkind with rfl|rfl
 ·have Hk:=hid (fun w1=>ekey_c w1 mk.nd.key hks);have hadd:=cat_run (keyQ mk.nd.key.data.toList) [58] (by
   have h1:(keyQ mk.nd.key.data.toList).length≤4*mk.nd.key.data.toList.length+2:=by
    unfold keyQ
    split
    ·omega
    ·exact quote_len _
   rw[len_str]at h1;simp;omega)
  have hm:lyMark 2 mk.nd.key=keyQ mk.nd.key.data.toList++[58]:=by unfold lyMark;rw[if_pos rfl]
  rw[hm]at Hok;clear hks hm;dsimp only[lyR3,lyR4,lyR5,lyR6,ncs,ncl,ncr,ncb,nco,nct,nce,ncx,Tryz.f64]
  go_wp2_with fail
  refine (Hk.out _).mono ?_;rintro r w1 ⟨rfl,hb⟩;have HA1:=hid (HA.out.step (PgTo.below HP.out.pg hb));have HP1:=hid (HP.out.trans (PgTo.below HP.out.pg hb));clear hb Hk HA HP;go_wp2;exact Hok.out _ _ ⟨rfl,rfl,rfl,rfl,rfl,rfl,rfl,rfl,rfl,rfl,rfl,rfl,rfl,rfl⟩ HP1.out HA1.out
 ·have hm:lyMark 3 mk.nd.key=[45]:=rfl;rw[hm]at Hok;clear hks hm;dsimp only[lyR3,lyR4,lyR5,lyR6,ncs,ncl,ncr,ncb,nco,nct,nce,ncx,Tryz.f64];go_wp2;exact Hok.out _ _ ⟨rfl,rfl,rfl,rfl,rfl,rfl,rfl,rfl,rfl,rfl,rfl,rfl,rfl,rfl⟩ HP.out HA.out
theorem ly_c {kb:Nat} {mkL:List UInt8} {ns:List Nd} {LAY:Nat→Nat→Bool→List UInt8→List UInt8} (hf:LyC a pb V ind nb b2 o2 q cap2 j k kb ⟨mkL.toArray⟩) (h:Pg w pb v l) (hA:Apart w pb v kb (NdO mk)) (hmk:mk.Ok w)
 (hn:Apart w pb v nb (NdO m)) (hkd:(ns[k]!)=mk.nd) (hkey:lyMark m.nd.kind mk.nd.key=mkL) (hml:mkL.length≤5000000) (hind:ind≤10000)
 (ih:∀th w1 v1 l1,PgTo w pb v w1 v1 l1→Calls Tryz.prog 64 #[.pointer (some ⟨pb,0,none⟩),V,.int .i64 (k:Int),.int .i64 ((ind:Int)+2),.bool th] w1 fun r w'=>r= .returned (.tuple #[])∧∃v',PgTo w1 pb v1 w' v' (LAY k (ind+2) th l1))
 (ok:∀a' w' v',LyA a' pb V ind nb b2 o2 q cap2 j false→PgTo w pb v w' v' (laySw ns LAY m.nd.kind ind k l)→Q .normal a' w'):lySw.wp Tryz.prog Q a w:=by
 have Hok:=hid ok;have Hih:=hid ih;have Hkd:=hid hkd;have Hkey:=hid hkey;obtain ⟨ao3,c3,hkv,_,_⟩:=ints_open hmk.kids;obtain ⟨q3,hq3⟩:∃q3,q3=mk.nd.kids.length:=⟨_,rfl⟩;rw[←hq3]at hkv;have x0:=cell_blk hA.blk 0;have x1:=cell_blk hA.blk 1;have x2:=cell_blk hA.blk 2;have x3:=cell_blk hA.blk 3;have x4:=cell_blk hA.blk 4;have x5:=cell_blk hA.blk 5;have y0:=cell_blk hn.blk 0;simp[hkv]at x0 x1 x2 x3 x4 x5 y0
 have wi:=wrap_ok (z:=(ind:Int)+2) (by omega) (by omega);by_cases h1:mk.nd.kind=1
 ·have t1:(mk.nd.kind==1)=true:=by rw[beq_iff_eq];exact h1
  have hmv:mk.v= .agg #[.int .i64 mk.nd.kind,.string mk.nd.key,.string mk.nd.text,.bool mk.nd.quoted,.int .i64 mk.nd.line,.slice ao3 q3 c3]:=by unfold NdM.v;rw[hkv]
  have Ht:=hid (etext_c w mk hmk);rw[hmv]at Ht;have htl:(textN mk.nd).length≤5000000:=by
   have h3:=hmk.text;have h2:=quote_len mk.nd.text.data.toList;rw[len_str]at h2;unfold textN
   split
   ·rw[List.length_cons];omega
   ·split
    ·rw[List.length_cons,len_str];omega
    ·simp
  have Hp:=hid (fun w1 (hb:Below w.heap.size w w1)=>put_lit (w:=w1) (h.later hb) [⟨mkL.toArray⟩,⟨(textN mk.nd).toArray⟩,⟨#[10]⟩] #[.string ⟨mkL.toArray⟩,.string ⟨(textN mk.nd).toArray⟩,.string ⟨#[10]⟩] rfl 3 rfl (by decide) 9 (fun s hs=>by
   simp only[List.mem_cons,List.not_mem_nil,or_false]at hs;rcases hs with rfl|rfl|rfl
   ·simp[ByteArray.size];omega
   ·simp[ByteArray.size];omega
   ·decide))
  have HP0:=hid (fun w1 (hb:Below w.heap.size w w1)=>PgTo.below h hb);have H1:=hid h1;obtain ⟨vv,rfl⟩:=hf.shape;clear hf ok ih hkd hkey h hA hmk hn hml hind hq3 hmv htl h1 hkv Hih;dsimp only[lySw,ncs,ncl,ncr,ncb,nco,nct,nce,ncx,Tryz.f64]
  go_wp2_with fail
  refine Ht.out.mono ?_;rintro r w1 ⟨rfl,hb⟩;have Hp1:=hid (Hp.out w1 hb);have HP1:=hid (HP0.out w1 hb);clear hb Ht Hp HP0
  go_wp2_with fail
  refine Hp1.out.mono ?_;rintro r w2 ⟨rfl,v2,hp⟩;have HP2:=hid (HP1.out.trans hp);clear hp Hp1 HP1;go_wp2;refine Hok.out _ _ v2 ⟨rfl,rfl,rfl,rfl,rfl,rfl,rfl,rfl,rfl,rfl,rfl⟩ ?_;have:=HP2.out;unfold laySw;rw[Hkd.out,if_pos H1.out,Hkey.out]
  simpa[putS] using this
 ·have t1:(mk.nd.kind==1)=false:=by rw[beq_eq_false_iff_ne];exact h1
  have H1:=hid h1;by_cases h2:m.nd.kind=2
  ·have t2:(m.nd.kind==2)=true:=by rw[beq_iff_eq];exact h2
   have H2:=hid h2;have Hp:=hid (put_lit (w:=w) h [⟨mkL.toArray⟩,⟨#[10]⟩] #[.string ⟨mkL.toArray⟩,.string ⟨#[10]⟩] rfl 2 rfl (by decide) 9 (fun s hs=>by
    simp only[List.mem_cons,List.not_mem_nil,or_false]at hs;rcases hs with rfl|rfl
    ·simp[ByteArray.size];omega
    ·decide))
   obtain ⟨vv,rfl⟩:=hf.shape;clear hf ok ih hkd hkey h hA hmk hn hml hind hq3 h1 h2 hkv;dsimp only[lySw,ncs,ncl,ncr,ncb,nco,nct,nce,ncx,Tryz.f64]
   go_wp2_with fail
   refine Hp.out.mono ?_;rintro r w2 ⟨rfl,v2,hp⟩;have HP2:=hid hp;have Hi:=hid (Hih.out false w2 v2 _ hp);clear hp Hp Hih
   go_wp2_with fail
   refine Hi.out.mono ?_;rintro r w3 ⟨rfl,v3,hp3⟩;have HP3:=hid (HP2.out.trans hp3);clear hp3 Hi HP2;go_wp2;refine Hok.out _ _ v3 ⟨rfl,rfl,rfl,rfl,rfl,rfl,rfl,rfl,rfl,rfl,rfl⟩ ?_;have:=HP3.out;unfold laySw;rw[Hkd.out,if_neg H1.out,if_pos H2.out,Hkey.out]
   simpa[putS] using this
  ·have t2:(m.nd.kind==2)=false:=by rw[beq_eq_false_iff_ne];exact h2
   have H2:=hid h2;have Hp:=hid (put_lit (w:=w) h [⟨mkL.toArray⟩,⟨#[32]⟩] #[.string ⟨mkL.toArray⟩,.string ⟨#[32]⟩] rfl 2 rfl (by decide) 9 (fun s hs=>by
    simp only[List.mem_cons,List.not_mem_nil,or_false]at hs;rcases hs with rfl|rfl
    ·simp[ByteArray.size];omega
    ·decide))
   obtain ⟨vv,rfl⟩:=hf.shape;clear hf ok ih hkd hkey h hA hmk hn hml hind hq3 h1 h2 hkv;dsimp only[lySw,ncs,ncl,ncr,ncb,nco,nct,nce,ncx,Tryz.f64]
   go_wp2_with fail
   refine Hp.out.mono ?_;rintro r w2 ⟨rfl,v2,hp⟩;have HP2:=hid hp;have Hi:=hid (Hih.out true w2 v2 _ hp);clear hp Hp Hih
   go_wp2_with fail
   refine Hi.out.mono ?_;rintro r w3 ⟨rfl,v3,hp3⟩;have HP3:=hid (HP2.out.trans hp3);clear hp3 Hi HP2;go_wp2;refine Hok.out _ _ v3 ⟨rfl,rfl,rfl,rfl,rfl,rfl,rfl,rfl,rfl,rfl,rfl⟩ ?_;have:=HP3.out;unfold laySw;rw[Hkd.out,if_neg H1.out,if_neg H2.out,Hkey.out]
   simpa[putS] using this
end
section
variable {w0 w:World} {Q:Exit→Act→World→Prop} {a:Act} {ms:List NdM} {pb ind nb b2 o2 q cap2 b o n cap:Nat} {th:Bool} {v:Value} {l:List UInt8} {m:NdM}
theorem ly_loop {LAY:Nat→Nat→Bool→List UInt8→List UInt8} (hN:Nds w0 (.slice (some ⟨b,o,none⟩) n cap) ms) (hb:b<w0.heap.size) (hat:∀i m,ms[i]? =some m→NdAt w0 b (o+i*6) m∧m.Ok w0) (hn:ms.length=n)
 (hf:LyA a pb (.slice (some ⟨b,o,none⟩) n cap) ind nb b2 o2 q cap2 0 th) (hB:Base w0 w pb v) (h:Pg w pb v l) (hA:Apart w pb v nb (NdO m)) (hkind:m.nd.kind=2∨m.nd.kind=3) (hq:q=m.nd.kids.length) (hq2:q≤1048576)
 (hx:∀j x,m.nd.kids[j]? =some x→w0.cell? ⟨b2,o2+j,none⟩=some (.int .i64 x)) (hb2:b2<w0.heap.size) (hup:∀x∈m.nd.kids,∃k:Nat,x=(k:Int)∧k<n) (hind:ind≤10000)
 (ih:∀(k:Nat) th w1 v1 l1,(k:Int)∈m.nd.kids→Base w0 w1 pb v1→Pg w1 pb v1 l1→Calls Tryz.prog 64 #[.pointer (some ⟨pb,0,none⟩),.slice (some ⟨b,o,none⟩) n cap,.int .i64 (k:Int),.int .i64 ((ind:Int)+2),.bool th] w1 fun r w'=>r= .returned (.tuple #[])∧∃v',PgTo w1 pb v1 w' v' (LAY k (ind+2) th l1))
 (ok:∀a' w' v',a'.defers=[]→PgTo w pb v w' v' (layK (nds ms) LAY m.nd.kind ind m.nd.kids th l)→Q (.exit 0) a' w'):(ncb lyLoop).wp Tryz.prog Q a w:=by
 show (Code.loop (Code.seq lyT1 (Code.seq lyT2 (Code.seq (Code.block 1 lyRound) lyT4)))).wp Tryz.prog Q a w
 refine wp_loop (fun a' w'=>∃(j:Nat) (th':Bool) (v':Value) (l':List UInt8),j≤q∧LyA a' pb (.slice (some ⟨b,o,none⟩) n cap) ind nb b2 o2 q cap2 j th'∧PgTo w pb v w' v' l'∧Apart w' pb v' nb (NdO m)∧
  layK (nds ms) LAY m.nd.kind ind m.nd.kids th l=layK (nds ms) LAY m.nd.kind ind (m.nd.kids.drop j) th' l') (fun a' _=>q-(intOf (a'.tmps.getD 38 undef)).toNat) ⟨0,th,v,l,Nat.zero_le _,hf,PgTo.refl h,hA,rfl⟩ ?_
 clear hf hA;rintro a1 w1 ⟨j,th1,v1,l1,hj,hf1,hp1,hA1,hs⟩;by_cases hjq:j<q
 ·obtain ⟨x,hxj⟩:∃x,m.nd.kids[j]? =some x:=at_of_lt (by omega);have hxm:=List.mem_of_getElem? hxj;obtain ⟨k,rfl,hkn⟩:=hup x hxm;have hdr:m.nd.kids.drop j=(k:Int)::m.nd.kids.drop (j+1):=by
   obtain ⟨hlt,he⟩:=List.getElem?_eq_some_iff.1 hxj;rw[List.drop_eq_getElem_cons hlt,he]
  rw[hdr,layK_cons]at hs;obtain ⟨mk,hmk⟩:∃mk,ms[k]? =some mk:=at_of_lt (by omega);obtain ⟨c,hok⟩:=hat k mk hmk;have hkd:=nds_at hmk;have hml:(lyMark m.nd.kind mk.nd.key).length≤5000000:=by
   have h3:=hok.key;have h2:=quote_len mk.nd.key.data.toList;rw[len_str]at h2;unfold lyMark
   split
   ·rw[List.length_append];unfold keyQ
    split
    ·rw[len_str];simp;omega
    ·simp;omega
   ·simp
  have HR:∀(Q':Exit→Act→World→Prop) (a':Act),LyA a' pb (.slice (some ⟨b,o,none⟩) n cap) ind nb b2 o2 q cap2 j th1→
   (∀a2 w2 v2 l2,LyA a2 pb (.slice (some ⟨b,o,none⟩) n cap) ind nb b2 o2 q cap2 j false→PgTo w pb v w2 v2 l2→Apart w2 pb v2 nb (NdO m)→layK (nds ms) LAY m.nd.kind ind m.nd.kids th l=layK (nds ms) LAY m.nd.kind ind (m.nd.kids.drop (j+1)) false l2→Q' .normal a2 w2)→
   lyRound.wp Tryz.prog Q' a' w1:=by
   intro Q' a' hf' hok'
   show (Code.seq lyR1 (Code.seq lyR2 (Code.seq lyR3 (Code.seq lyR4 (Code.seq lyR5 (Code.seq lyR6 lySw)))))).wp Tryz.prog Q' a' w1
   have hB1:=hB.step hp1;refine ly_a _ hf' hp1.pg ((hB1.below.cell hb2).trans (hx j _ hxj)) hjq hind (fun a2 w2 v2 f2 p2=> ?_);have hp2:=hp1.trans p2;have hB2:=hB1.step p2;have hA2:=hA1.step p2;have hc2:NdAt w2 b (o+k*6) mk:=⟨(hB2.below.cell hb).trans c.c0,(hB2.below.cell hb).trans c.c1,(hB2.below.cell hb).trans c.c2,(hB2.below.cell hb).trans c.c3,(hB2.below.cell hb).trans c.c4,(hB2.below.cell hb).trans c.c5⟩
   refine ly_b _ f2 p2.pg hc2 (hok.later hB2.below) hkn (cell_blk hA2.blk 0) (lt_of_heap hA2.blk) hkind (fun a3 w3 f3 p3 hK3=> ?_);have hp3:=hp2.trans p3;have hB3:=hB2.step p3;have hA3:=hA2.step p3;refine ly_c (LAY:=LAY) (ns:=nds ms) f3 p3.pg hK3 (hok.later hB3.below) hA3 hkd rfl hml hind (fun th4 w4 v4 l4 p4=>ih k th4 w4 v4 l4 hxm (hB3.step p4) p4.pg) (fun a5 w5 v5 f5 p5=> ?_);exact hok' a5 w5 v5 _ f5 (hp3.trans p5) (hA3.step p5) hs
  obtain ⟨Hms,Hgo⟩:=step_two (k:=j) (n:=q) hjq (by omega);have HR2:=hid HR;have Hj:=hid hjq;have tj:decide (j<q)=true:=dT hjq;have wj:wrap64 ((j:Int)+1)=(j:Int)+1:=wrap_ok (by omega) (by omega);obtain ⟨vv,rfl⟩:=hf1.shape;clear hf1 hs hxj hxm hdr hx hj hjq ok hN hat hn hq hkind hB h hp1 hA1 hmk c hok hkd hml ih HR hup hkn hind hq2 hb hb2;dsimp only[lyT1,lyT2,ncs,ncl,ncr,ncb,nco,nct,nce,ncx,Tryz.f64]
  go_wp2
  rename_i Q1 K1 hK1
  refine HR2.out _ _ ⟨rfl,rfl,rfl,rfl,rfl,rfl,rfl,rfl,rfl,rfl,rfl⟩ (fun a2 w2 v2 l2 f2 p2 A2 e2=>hK1 _ _ ?_);have HE:=hid (show j+1≤q∧PgTo w pb v w2 v2 l2∧Apart w2 pb v2 nb (NdO m)∧layK (nds ms) LAY m.nd.kind ind m.nd.kids th l=layK (nds ms) LAY m.nd.kind ind (m.nd.kids.drop (j+1)) false l2 from ⟨Hj.out,p2,A2,e2⟩);obtain ⟨v2',rfl⟩:=f2.shape;clear f2 p2 A2 e2 HR2;dsimp only[lyT4,ncs,ncl,ncr,ncb,nco,nct,nce,ncx,Tryz.f64]
  go_wp2;obtain ⟨z1,z2,z3,z4⟩:=HE.out;exact ⟨⟨j+1,false,v2,l2,z1,⟨rfl,rfl,rfl,rfl,rfl,rfl,rfl,rfl,rfl,rfl,congrArg some Hgo.out⟩,z2,z3,z4⟩,Hms.out⟩
 ·have ej:j=q:=by omega
  subst ej;have hfin:layK (nds ms) LAY m.nd.kind ind m.nd.kids th l=l1:=by
   rw[hs,List.drop_eq_nil_of_le (by omega)];rfl
  rw[hfin]at ok;have HO:=hid (fun a' hd=>ok a' w1 v1 hd hp1);have tj:decide (j<j)=false:=dF (Nat.lt_irrefl j);obtain ⟨vv,rfl⟩:=hf1.shape;clear hf1 hs hx hj hjq ok hN hat hn hq hkind hB h hp1 hA1 ih hup hind hq2 hb hb2 hfin;dsimp only[lyT1,lyT2,ncs,ncl,ncr,ncb,nco,nct,nce,ncx,Tryz.f64];go_wp2;exact HO.out _ rfl
end
theorem ext_tail (s:ByteArray):(s.extract 1 s.size).data.toList=s.data.toList.tail:=by
 rw[ByteArray.data_extract,Array.toList_extract,List.extract_eq_take_drop,List.drop_one,List.take_of_length_le];rw[List.length_tail,Array.length_toList];exact Nat.le_refl _
theorem kid_up {ns:List Nd} (ht:treeP ns=true) {i:Nat} (hi:i<ns.length) (hk:¬(ns[i]!).kind=1):
 ((ns[i]!).kind=2∨(ns[i]!).kind=3)∧(∀x∈(ns[i]!).kids,∃k:Nat,x=(k:Int)∧i<k∧k<ns.length):=by
 obtain ⟨_,hg⟩:=(treeP_iff ns).1 ht;have h:=hg.node i hi;unfold nodeR at h
 split at h
 ·cases h
 ·rename_i h0
  rw[if_neg (fun q=>hk q.1)]at h
  split at h
  ·cases h
  ·rename_i h2
   have hR:kidsR ns (ns[i]!).kind (ns[i]!).kids (i:Int) []=true:=Decidable.not_not.1 fun hh=>h2 ⟨by omega,.inr (.inr (.inr hh))⟩;refine ⟨by omega,fun x hx=> ?_⟩;have:=(kidsR_spec hR).1 x hx;exact ⟨x.toNat,by omega,by omega,by omega⟩
theorem layP_scal {ns:List Nd} {f i ind:Nat} {th:Bool} {out:List UInt8} (h:(ns[i]!).kind=1) (h2:textN (ns[i]!)=[]):layP ns (f+1) i ind th out=out:=by rw[layP,if_pos h,if_pos h2]
theorem layP_scal2 {ns:List Nd} {f i ind:Nat} {th:Bool} {out:List UInt8} (h:(ns[i]!).kind=1) (h2:¬textN (ns[i]!)=[]):layP ns (f+1) i ind th out=putL (putL out (textN (ns[i]!)).tail) [10]:=by rw[layP,if_pos h,if_neg h2]
theorem layP_many {ns:List Nd} {f i ind:Nat} {th:Bool} {out:List UInt8} (h:¬(ns[i]!).kind=1):layP ns (f+1) i ind th out=layK ns (layP ns f) (ns[i]!).kind ind (ns[i]!).kids th out:=by rw[layP,if_neg h]
theorem lay_c {w0:World} {V:Value} {ms:List NdM} (hN0:Nds w0 V ms) (ht:treeP (nds ms)=true):∀(f i ind:Nat) (th:Bool) (w:World) (pb:Nat) (v:Value) (l:List UInt8),Base w0 w pb v→Pg w pb v l→i<ms.length→ms.length≤i+f→ind≤2*i→
 Calls Tryz.prog 64 #[.pointer (some ⟨pb,0,none⟩),V,.int .i64 (i:Int),.int .i64 (ind:Int),.bool th] w fun r w'=>r= .returned (.tuple #[])∧∃v',PgTo w pb v w' v' (layP (nds ms) f i ind th l):=by
 obtain ⟨ao,cap,hv,hl,hat0⟩:=hN0.open;have hN:=hN0;obtain ⟨n,hn⟩:∃n,n=ms.length:=⟨_,rfl⟩;rw[←hn]at hv hl hat0 ⊢;rw[hv]at hN;subst hv;have hnn:(nds ms).length=n:=by rw[nds_len,hn]
 have hn4:n≤4096:=by
  have:=((treeP_iff _).1 ht).1.2.1;omega
 intro f
 induction f with
 |zero=>
  intro i ind th w pb v l _ _ h1 h2;omega
 |succ f ih=>
  intro i ind th w pb v l hB h hi hf hind;obtain ⟨b,o,rfl,hb,hat⟩:=hat0 (by omega);obtain ⟨m,hm⟩:∃m,ms[i]? =some m:=at_of_lt (by omega);obtain ⟨c,hok⟩:=hat i m hm;have hnd:(nds ms)[i]! =m.nd:=nds_at hm;have bi:(i:Int)<(n:Int):=by omega
  obtain ⟨ao2,cap2,hkv,hl2,hks⟩:=ints_open hok.kids;obtain ⟨q,hq⟩:∃q,q=m.nd.kids.length:=⟨_,rfl⟩;rw[←hq]at hkv hl2 hks;have hbl:=hB.below;have x0:=(hbl.cell (p:=⟨b,o+i*6,none⟩) hb).trans c.c0;have x1:=(hbl.cell (p:=⟨b,o+i*6+1,none⟩) hb).trans c.c1;have x2:=(hbl.cell (p:=⟨b,o+i*6+2,none⟩) hb).trans c.c2;have x3:=(hbl.cell (p:=⟨b,o+i*6+3,none⟩) hb).trans c.c3;have x4:=(hbl.cell (p:=⟨b,o+i*6+4,none⟩) hb).trans c.c4
  have x5:=(hbl.cell (p:=⟨b,o+i*6+5,none⟩) hb).trans c.c5;rw[hkv]at x5;have HA:=hid (Apart.new h (NdO m));have HP:=hid ((PgTo.refl h).alloc (NdO m));have hE:NdO m= .cells #[.int .i64 m.nd.kind,.string m.nd.key,.string m.nd.text,.bool m.nd.quoted,.int .i64 m.nd.line,.slice ao2 q cap2] 55 :=by unfold NdO;rw[hkv]
  by_cases h1:m.nd.kind=1
  ·have t1:(m.nd.kind==1)=true:=by rw[beq_iff_eq];exact h1
   have hmv:m.v= .agg #[.int .i64 m.nd.kind,.string m.nd.key,.string m.nd.text,.bool m.nd.quoted,.int .i64 m.nd.line,.slice ao2 q cap2]:=by unfold NdM.v;rw[hkv]
   have Ht:=hid (fun w1 (hb1:Below w.heap.size w w1)=>etext_c w1 m ((hok.later hB.below).later hb1));rw[hmv]at Ht;rw[hE]at HP;have htl:(textN m.nd).length≤5000000:=by
    have h3:=hok.text;have h2:=quote_len m.nd.text.data.toList;rw[len_str]at h2;unfold textN
    split
    ·rw[List.length_cons];omega
    ·split
     ·rw[List.length_cons,len_str];omega
     ·simp
   have hmm:∀(fn:Fn) (first cap:Array Value) (w:World),(Instr.makeFunc fn first cap).run Tryz.prog w= .ok (.func fn first cap) w:=fun _ _ _ _=>rfl;have Hbn:=hid (fun o=>(Below.refl w.heap.size w).alloc (Nat.le_refl _) o);by_cases h2:textN m.nd=[]
   ·have hres:=layP_scal (ns:=nds ms) (f:=f) (i:=i) (ind:=ind) (th:=th) (out:=l) (by rw[hnd];exact h1) (by rw[hnd];exact h2);rw[hres];rw[h2]at Ht;clear hB h hi hf hind hm c hok hnd hkv hl2 hks hq hbl hE h1 hmv htl h2 hres ih hat hat0 hN hN0 hn hl hnn hn4 ht hb HA;go_enter Tryz.func64,Tryz.ntmps64
    go_wp2_with fail
    refine (Ht.out _ (Hbn.out _)).mono ?_;rintro r w1 ⟨rfl,hb1⟩;have HP2:=hid (HP.out.trans (PgTo.below HP.out.pg hb1));clear hb1 HP Ht Hbn;go_wp2
    first|go_end0|refine bodyPost_ret (results_none rfl _ _ _) rfl ?_
    exact ⟨rfl,_,HP2.out⟩
   ·have hres:=layP_scal2 (ns:=nds ms) (f:=f) (i:=i) (ind:=ind) (th:=th) (out:=l) (by rw[hnd];exact h1) (by rw[hnd];exact h2);rw[hnd]at hres;rw[hres];obtain ⟨s,hs⟩:∃s:ByteArray,s=⟨(textN m.nd).toArray⟩:=⟨_,rfl⟩;have hsl:s.data.toList=textN m.nd:=by rw[hs]
    rw[←hs]at Ht;have hs0:s≠⟨#[]⟩:=fun e=>h2 (by rw[←hsl,e]);obtain ⟨k4,k5,k6⟩:=str_full hs0;have hsz:s.size=(textN m.nd).length:=by rw[←hsl,len_str]
    have hsp:0<s.size:=by
     rw[hsz];exact List.length_pos_iff.2 h2
    have b1:(1:Int)≤(s.size:Int):=by omega
    have htail:=ext_tail s;rw[hsl]at htail;obtain ⟨s1,hs1⟩:∃s1,s1=s.extract 1 s.size:=⟨_,rfl⟩;have hs1z:s1.size≤5000000:=by rw[hs1,ByteArray.size_extract];omega
    rw[←hs1]at htail;have Hp:=hid (fun w1 v1 (h1:Pg w1 pb v1 l)=>put_lit (w:=w1) h1 [s1,⟨#[10]⟩] #[.string s1,.string ⟨#[10]⟩] rfl 2 rfl (by decide) 9 (fun t ht=>by
     simp only[List.mem_cons,List.not_mem_nil,or_false]at ht;rcases ht with rfl|rfl
     ·exact hs1z
     ·decide))
    have Htail:=hid htail;rw[hs1]at Hp;clear hB h hi hf hind hm c hok hnd hkv hl2 hks hq hbl hE h1 hmv htl h2 hres ih hat hat0 hN hN0 hn hl hnn hn4 ht hb HA hs hsl hs0 hsz hsp htail hs1z;go_enter Tryz.func64,Tryz.ntmps64
    go_wp2_with fail
    refine (Ht.out _ (Hbn.out _)).mono ?_;rintro r w1 ⟨rfl,hb1⟩;have HP2:=hid (HP.out.trans (PgTo.below HP.out.pg hb1));have Hp2:=hid (Hp.out w1 v HP2.out.pg);clear hb1 HP Ht Hbn Hp
    go_wp2_with fail
    refine Hp2.out.mono ?_;rintro r w2 ⟨rfl,v2,hp⟩;have HP3:=hid (HP2.out.trans hp);clear hp HP2 Hp2;go_wp2
    first|go_end0|refine bodyPost_ret (results_none rfl _ _ _) rfl ?_
    refine ⟨rfl,v2,?_⟩;have:=HP3.out;rw[←hs1]at this;unfold putS at this;simp only[List.foldl_cons,List.foldl_nil,Htail.out]at this;exact this
  ·obtain ⟨hkd,hup⟩:=kid_up (ns:=nds ms) ht (i:=i) (by omega) (by rw[hnd];exact h1);rw[hnd]at hkd hup;have t1:(m.nd.kind==1)=false:=by rw[beq_eq_false_iff_ne];exact h1
   have hq0:0<q:=by
    rcases Nat.eq_zero_or_pos q with e|e
    ·exfalso
     obtain ⟨_,hg⟩:=(treeP_iff _).1 ht;have h3:=hg.node i (by omega);rw[hnd]at h3;unfold nodeR at h3
     split at h3
     ·cases h3
     ·rw[if_neg (fun q=>h1 q.1),if_pos ⟨by omega,.inl (List.eq_nil_of_length_eq_zero (by omega))⟩]at h3;cases h3
    ·exact e
   obtain ⟨b2,o2,rfl,hb2,hcell⟩:=hks hq0;have hmm:∀(fn:Fn) (first cap:Array Value) (w:World),(Instr.makeFunc fn first cap).run Tryz.prog w= .ok (.func fn first cap) w:=fun _ _ _ _=>rfl;have hres:=layP_many (ns:=nds ms) (f:=f) (i:=i) (ind:=ind) (th:=th) (out:=l) (by rw[hnd];exact h1);rw[hnd]at hres;rw[hres];have HL:=hid (fun (Q':Exit→Act→World→Prop) (a':Act) w' (hf':LyA a' pb (.slice (some ⟨b,o,none⟩) n cap) ind w.heap.size b2 o2 q cap2 0 th) (hp':PgTo w pb v w' v l) (hA':Apart w' pb v w.heap.size (NdO m))=>
    ly_loop (Q:=Q') (LAY:=layP (nds ms) f) hN hb hat hn.symm hf' (hB.step hp') hp'.pg hA' hkd hq hl2 hcell hb2 (fun x hx=>by
     obtain ⟨k,e,_,hk⟩:=hup x hx;exact ⟨k,e,by omega⟩) (by omega) (fun k th1 w1 v1 l1 hm1 hB1 hp1=>by
     obtain ⟨k',e,hik,hk⟩:=hup _ hm1;obtain rfl:k=k':=by omega
     exact ih k (ind+2) th1 w1 pb v1 l1 hB1 hp1 (by omega) (by omega) (by omega)))
   rw[hE]at HA HP;rw[hE]at HL;clear hB h hi hf hind hm c hok hnd hkv hl2 hks hq hbl hE h1 hres ih hat hat0 hN hN0 hn hl hnn hn4 ht hb hkd hup hq0 hb2 hcell;go_enter Tryz.func64,Tryz.ntmps64;go_wp2;refine HL.out _ _ _ ⟨rfl,rfl,rfl,rfl,rfl,rfl,rfl,rfl,rfl,rfl,rfl⟩ HP.out HA.out (fun a2 w2 v2 d2 p2=> ?_);exact ⟨d2,.tuple #[],results_none rfl _ _ _,rfl,v2,HP.out.trans p2⟩
end Go.Proofs.YtfenoaeoedobmaaGreatDoor
