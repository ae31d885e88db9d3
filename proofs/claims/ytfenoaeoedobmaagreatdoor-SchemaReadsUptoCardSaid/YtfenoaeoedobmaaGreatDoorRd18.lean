/-
Parts of a proof, one behind the other (laid dense by a program of mine: pack.py).
-/
import Derived.Laws.Concat
import Derived.Lib.AppendStr
import Derived.Test.YtfenoaeoedobmaaGreatDoorRd17
set_option linter.unusedVariables false
set_option linter.unusedSimpArgs false
set_option maxHeartbeats 8000000
set_option maxRecDepth 20000
namespace Go.Proofs.YtfenoaeoedobmaaGreatDoor
open Go Go.RowKit
theorem ret_s {a b:ByteArray} (h:a=b):Ending.returned (.string a)= .returned (.string b):=by rw[h]
theorem ba_self (s:ByteArray):(⟨(s.data.toList).toArray⟩:ByteArray)=s:=by
 cases s;simp
theorem keyQ_yes {s:ByteArray} (h0:0<s.size) (h1:s.size≤64) (h2:s.data.toList.all nameCh=true):s=⟨(keyQ s.data.toList).toArray⟩:=by
 unfold keyQ;rw[if_pos ⟨fun e=>by rw[←len_str,e]at h0;simp at h0,by rw[len_str];exact h1,h2⟩,ba_self]
theorem keyQ_no {s:ByteArray} (h:¬(s.data.toList≠[]∧s.size≤64∧s.data.toList.all nameCh=true)):(⟨(quoteL s.data.toList).toArray⟩:ByteArray)=⟨(keyQ s.data.toList).toArray⟩:=by
 unfold keyQ;rw[len_str,if_neg h]
theorem keyQ_bad {s:ByteArray} {k:Nat} {c:UInt8} (hc:s.data.toList[k]? =some c) (h:nameCh c=false):(⟨(quoteL s.data.toList).toArray⟩:ByteArray)=⟨(keyQ s.data.toList).toArray⟩:=
 keyQ_no (fun q=>by
  have:=List.all_eq_true.1 q.2.2 c (List.mem_of_getElem? hc);rw[h]at this;cases this)
theorem ekey_c (w:World) (s:ByteArray) (hs:s.size≤1048576):
 Calls Tryz.prog 99 #[.string s] w fun r w'=>r= .returned (.string ⟨(keyQ s.data.toList).toArray⟩)∧Below w.heap.size w w':=by
 have Hq:=hid (quote_c w s (by omega));by_cases h0:s=⟨#[]⟩
 ·obtain ⟨k4,k5,k6⟩:=str_empty h0;have He:=hid (keyQ_no (s:=s) (fun q=>q.1 (by rw[h0])));clear h0 hs;go_enter Tryz.func99,Tryz.ntmps99
  go_wp2_with fail
  refine Hq.out.mono ?_;rintro r w1 ⟨rfl,hb⟩;have Hb:=hid hb;clear hb Hq;go_wp2;go_ret;exact ⟨ret_s He.out,Hb.out⟩
 ·obtain ⟨k4,k5,k6⟩:=str_full h0;have hp:0<s.size:=by
   rcases Nat.eq_zero_or_pos s.size with e|e
   ·exact absurd (ba_list (s:=s) (t:=⟨#[]⟩) (List.eq_nil_of_length_eq_zero (by rw[len_str];exact e))) h0
   ·exact e
  by_cases h64:64<s.size
  ·have t1:decide (64<(s.size:Int))=true:=dT (by omega);have He:=hid (keyQ_no (s:=s) (fun q=>by omega));clear h0 hs hp h64;go_enter Tryz.func99,Tryz.ntmps99
   go_wp2_with fail
   refine Hq.out.mono ?_;rintro r w1 ⟨rfl,hb⟩;have Hb:=hid hb;clear hb Hq;go_wp2;go_ret;exact ⟨ret_s He.out,Hb.out⟩
  ·have t1:decide (64<(s.size:Int))=false:=dF (by omega);obtain ⟨n,hn⟩:∃n,n=s.size:=⟨_,rfl⟩;have Hn:=hid hn;obtain ⟨l,hl⟩:∃l,l=s.data.toList:=⟨_,rfl⟩;have Hl:=hid hl;have Hp:=hid hp;have H64:=hid h64;clear hn hl hs hp h0 h64;go_enter Tryz.func99,Tryz.ntmps99;go_wp2
   go_loop [16] (fun v=>∃k:Nat,v= .int .i64 (k:Int)∧Hid (k≤n∧∀(j:Nat) (c:UInt8),j<k→l[j]? =some c→nameCh c=true)) (fun v=>n-(intOf v).toNat)
   case atStart=>exact ⟨0,rfl,hid ⟨Nat.zero_le _,fun j c h=>absurd h (Nat.not_lt_zero _)⟩⟩
   case round=>
    clear k4 k5 k6 t1;obtain ⟨k,rfl,H⟩:=hrel;have hn:n=s.size:=Hn.out;have hl:l=s.data.toList:=Hl.out;have h64:=H64.out;by_cases hkn:k<n
    ·obtain ⟨c,hc⟩:=at_lt (s:=s) (by rw[←hn];exact hkn);have hidx:=idx_run' (s:=s) (k:Int) rfl hc;have b3:(k:Int)<(s.size:Int):=by omega
     have wk:=wrap_ok (z:=(k:Int)+1) (by omega) (by omega);have Hms:=hid (meas_step hkn wk);have Hgo:=hid (go_step wk);rcases chr_cases c with ⟨hch,h⟩|⟨hch,h⟩
     ·rcases h with ⟨g0,g1,g2,k0,k1,k2,e0,e1,e2⟩|⟨g0,g1,g2,k0,k1,k2,e0,e1,e2⟩|⟨g0,g1,g2,k0,k1,k2,e0,e1,e2⟩|⟨g0,g1,g2,k0,k1,k2,e0,e1,e2⟩|⟨g0,g1,g2,k0,k1,k2,e0,e1,e2⟩|⟨g0,g1,g2,k0,k1,k2,e0,e1,e2⟩
      all_goals
       have He:=hid (show k+1≤n∧∀(j:Nat) (c:UInt8),j<k+1→l[j]? =some c→nameCh c=true from ⟨hkn,fun j d hj hd=>by
        by_cases e:j=k
        ·subst e;rw[hl,hc]at hd;obtain rfl:=Option.some.inj hd;exact hch
        ·exact H.out.2 j d (by omega) hd⟩)
       clear hn hl h64 hkn hc hch H wk Hq;go_wp2;go_round
       case rel=>exact ⟨k+1,Hgo.out,He⟩
       case measure=>exact Hms.out
     ·rcases h with ⟨g0,g1,g2,k0,k1,k2,e0,e1,e2⟩|⟨g0,g1,g2,k0,k1,k2,e0,e1,e2⟩|⟨g0,g1,g2,k0,k1,k2,e0,e1,e2⟩|⟨g0,g1,g2,k0,k1,k2,e0,e1,e2⟩|⟨g0,g1,g2,k0,k1,k2,e0,e1,e2⟩|⟨g0,g1,g2,k0,k1,k2,e0,e1,e2⟩
      all_goals
       have He:=hid (keyQ_bad hc hch);clear hn hl h64 hkn hc hch H wk
       go_wp2_with fail
       refine Hq.out.mono ?_;rintro r w1 ⟨rfl,hb⟩;have Hb:=hid hb;clear hb Hq;go_wp2;go_ret;exact ⟨ret_s He.out,Hb.out⟩
    ·have b3:(s.size:Int)≤(k:Int):=by omega
     have hall:s.data.toList.all nameCh=true:=name_all fun j c hj hc=>H.out.2 j c (by rw[len_str]at hj;omega) (by rw[hl];exact hc);have He:=hid (keyQ_yes Hp.out (by omega) hall);clear hn hl h64 hkn H hall Hq;go_wp2;go_ret;exact ⟨ret_s He.out,Below.refl _ _⟩
theorem textN_q {nd:Nd} (h:nd.quoted=true):textN nd=32::quoteL nd.text.data.toList:=by unfold textN;rw[if_pos h]
theorem textN_t {nd:Nd} (h:nd.quoted=false) (h2:nd.text≠⟨#[]⟩):textN nd=32::nd.text.data.toList:=by
 unfold textN;rw[if_neg (by rw[h];decide),if_pos (fun e=>h2 (ba_list (t:=⟨#[]⟩) e))]
theorem textN_e {nd:Nd} (h:nd.quoted=false) (h2:nd.text=⟨#[]⟩):textN nd=[]:=by
 unfold textN;rw[if_neg (by rw[h];decide),if_neg (fun e=>e (by rw[h2]))]
theorem cat_run (x y:List UInt8) (h:x.length+y.length≤4000000000):∀w,(Op.stringOp .add ⟨x.toArray⟩ ⟨y.toArray⟩).run Tryz.prog w= .ok (.string ⟨(x++y).toArray⟩) w:=by
 intro w;rw[run_string_add_sum w _ _ (by simp[ByteArray.size];omega),ByteArray.mk_append_mk]
theorem cat_run2 (x:List UInt8) (s:ByteArray) (h:x.length+s.size≤4000000000):∀w,(Op.stringOp .add ⟨x.toArray⟩ s).run Tryz.prog w= .ok (.string ⟨(x++s.data.toList).toArray⟩) w:=by
 intro w;have:=cat_run x s.data.toList (by rw[len_str];exact h) w;rw[ba_self]at this;exact this
theorem quote_len (l:List UInt8):(quoteL l).length≤4*l.length+2:=by
 have:=esc_len l;unfold quoteL;rw[List.length_append,List.length_cons,List.length_singleton];omega
theorem etext_c (w:World) (m:NdM) (hm:m.Ok w):
 Calls Tryz.prog 97 #[m.v] w fun r w'=>r= .returned (.string ⟨(textN m.nd).toArray⟩)∧Below w.heap.size w w':=by
 obtain ⟨ao,c,hkv,_⟩:=kids_slice hm.kids;have hts:=hm.text;obtain ⟨⟨kind,key,text,quoted,line,kids⟩,kv⟩:=m;simp only at hkv hts;subst hkv;unfold NdM.v;simp only;generalize kids.length=n at*;have Hb0:=hid (fun o=>(Below.refl w.heap.size w).alloc (Nat.le_refl _) o);cases quoted with
 |true=>
  have Hq:=hid (fun w1=>quote_c w1 text (by omega));have He:=hid (textN_q (nd:=⟨kind,key,text,true,line,kids⟩) rfl);have hadd:=cat_run [32] (quoteL text.data.toList) (by have:=quote_len text.data.toList;rw[len_str]at this;simp;omega);clear hm hts;go_enter Tryz.func97,Tryz.ntmps97
  go_wp2_with fail
  refine (Hq.out _).mono ?_;rintro r w1 ⟨rfl,hb⟩;have Hb:=hid ((Hb0.out _).trans (hb.mono (Below.size (Hb0.out _))));clear hb Hq Hb0;go_wp2;go_ret;exact ⟨ret_s (by rw[He.out]),Hb.out⟩
 |false=>
  by_cases ht:text=⟨#[]⟩
  ·obtain ⟨e1,e2,e3⟩:=str_empty ht;have He:=hid (textN_e (nd:=⟨kind,key,text,false,line,kids⟩) rfl ht);clear hm hts ht;go_enter Tryz.func97,Tryz.ntmps97;go_wp2;go_ret;exact ⟨ret_s (by rw[He.out]),Hb0.out _⟩
  ·obtain ⟨e1,e2,e3⟩:=str_full ht;have He:=hid (textN_t (nd:=⟨kind,key,text,false,line,kids⟩) rfl ht);have hadd:=cat_run2 [32] text (by simp;omega);clear hm hts ht;go_enter Tryz.func97,Tryz.ntmps97;go_wp2;go_ret;exact ⟨ret_s (by rw[He.out]),Hb0.out _⟩
theorem run_append_str (w:World) (ty:TypeId) (v:Value) (l:List UInt8) (hown:w.ownsRow 0 5 1 v l.length (Lib.byteCells l)) (s:ByteArray) (hlen:l.length+s.size≤1000000000):
 ∃v' w',(Builtin.append_ #[42,9] ty #[v,.string s]).run Tryz.prog w= .ok v' w'∧w'.ownsRow 0 5 1 v' (l++s.data.toList).length (Lib.byteCells (l++s.data.toList))∧w.grownBy w' v.ownBlock∧
  (∀g,v'.ownBlock=some g→v.ownBlock=some g∨w.heap.size≤g):=by
 obtain ⟨i0,hi5,hz0,hz1,hz2⟩:=info_parts binfo;have e:Lib.byteCells (l++s.data.toList)=Lib.byteCells l++Lib.strCells s:=by simp[Lib.byteCells,Lib.strCells]
 have e2:(l++s.data.toList).length=l.length+s.size:=by rw[List.length_append,len_str]
 have h63:l.length+s.size≤maxLen:=by unfold maxLen;omega
 rw[e,e2];rcases hown.2 with ⟨hv,hn0⟩|⟨g,cap,cur,hv,hbg,hg,hnc,hcm,hcs,htake⟩
 ·obtain ⟨v',w',hr,ho,hgr,_⟩:=Lib.run_append_own_string (P:= Tryz.prog) w w.heap.size 42 9 ty 5 i0 Tryz.underlying42 Tryz.underlying9 hi5 hz0 hz1 hz2 v l.length (Lib.byteCells l) ⟨hown.1,.inl ⟨hv,hn0⟩⟩ s h63 (by omega) (Nat.le_refl _);exact ⟨v',w',hr,ownsRow_base ho 0 (Nat.zero_le _),hgr,fun g hg=> .inr (ho.lt g hg).1⟩
 ·obtain ⟨v',w',hr,ho,hgr,_⟩:=Lib.run_append_own_string (P:= Tryz.prog) w 0 42 9 ty 5 i0 Tryz.underlying42 Tryz.underlying9 hi5 hz0 hz1 hz2 v l.length (Lib.byteCells l) hown s h63 (by omega) (Nat.zero_le _);refine ⟨v',w',hr,ho,hgr,fun g' hg'=> ?_⟩;subst hv;by_cases hroom:l.length+s.size≤cap
  ·have hr2:=Lib.run_append_room_string (P:= Tryz.prog) w 42 9 ty 5 i0 Tryz.underlying42 Tryz.underlying9 hi5 hz1 g l.length cap cur hg s hroom (by omega);rw[hr]at hr2;simp only[Result.ok.injEq]at hr2;rw[hr2.1]at hg';exact .inl hg'
  ·have hr2:=Lib.run_append_grow_string (P:= Tryz.prog) w 42 9 ty 5 i0 (.int .u8 0) Tryz.underlying42 Tryz.underlying9 hi5 hz0 ⟨g,0,none⟩ l.length cap (Lib.byteCells l) (by rw[hz1];simp[Lib.byteCells]) (hown.cells (g:=g) rfl) s (by omega) (by omega) (by rw[hz2];exact growslice_fits (by omega) (by omega));rw[hr]at hr2;simp only[Result.ok.injEq]at hr2;rw[hr2.1]at hg'
   simp only[Value.ownBlock,Option.some.injEq]at hg';exact .inr (by omega)
theorem strAppendB {w:World} {ops:Array Oper} {rest:List Oper} {o:Oper} {a:Act} {Q:Exit→Act→World→Prop} (hgd:o.guard=none) (s x:Operand)
 (ho:o.op= .call {callee:= .builtin .append,args:=#[s,x],argTypes:=#[42,9]})
 (v:Value) (l:List UInt8) (hs:a.eval s=v) (hown:w.ownsRow 0 5 1 v l.length (Lib.byteCells l)) (t:ByteArray) (hx:a.eval x= .string t) (hlen:l.length+t.size≤1000000000) (q:Nat) (hq:q=(l++t.data.toList).length)
 (h:∀ao' c' w',w'.ownsRow 0 5 1 (.slice ao' q c') (l++t.data.toList).length (Lib.byteCells (l++t.data.toList))→w.grownBy w' v.ownBlock→(∀g,(Value.slice ao' q c').ownBlock=some g→v.ownBlock=some g∨w.heap.size≤g)→
  wpList Tryz.prog ops Q rest (a.put o.dst (.slice ao' q c')) w'):wpList Tryz.prog ops Q (o::rest) a w:=by
 refine wpList_plain hgd fun K hK=> ?_;obtain ⟨v',w',hr,h2,h3,h4⟩:=run_append_str w o.type v l hown t hlen;obtain ⟨ao',c',rfl⟩:∃ao' c',v'= .slice ao' q c':=by
  rcases h2.2 with ⟨hv,hn⟩|⟨g,cap,cur,hv,_⟩
  ·exact ⟨none,0,by rw[hv,hq,hn]⟩
  ·exact ⟨_,_,by rw[hq];exact hv⟩
 unfold Oper.wp execOp;simp only[ho,resolve,invoke,builtin,Sem.run_bind,Sem.run_pure,Result.andThen_ok,List.map_toArray,List.map_cons,List.map_nil,hs,hx,hr];exact hK _ _ (h ao' c' w' h2 h3 h4)
structure Pg (w:World) (pb:Nat) (v:Value) (l:List UInt8):Prop where
 blk:w.heap[pb]? =some (.cells #[v] 114 (0,0))
 row:w.ownsRow 0 5 1 v l.length (Lib.byteCells l)
 ne:∀g,v.ownBlock=some g→g≠pb
 len:l.length≤6000000
structure PgTo (w:World) (pb:Nat) (v:Value) (w':World) (v':Value) (l':List UInt8):Prop where
 pg:Pg w' pb v' l'
 mod:Mod (fun k=>k=pb∨v.ownBlock=some k) w w'
 new:∀g,v'.ownBlock=some g→v.ownBlock=some g∨w.heap.size≤g
theorem Pg.lt {w:World} {pb:Nat} {v:Value} {l:List UInt8} (h:Pg w pb v l):pb<w.heap.size:=lt_of_heap h.blk
theorem Pg.later {w w':World} {pb:Nat} {v:Value} {l:List UInt8} (h:Pg w pb v l) (hb:Below w.heap.size w w'):Pg w' pb v l:=
 ⟨(hb.block _ h.lt).trans h.blk,own_later h.row hb,h.ne,h.len⟩
theorem PgTo.refl {w:World} {pb:Nat} {v:Value} {l:List UInt8} (h:Pg w pb v l):PgTo w pb v w v l:=⟨h,Mod.refl _ _,fun g hg=> .inl hg⟩
theorem PgTo.trans {w w1 w2:World} {pb:Nat} {v v1 v2:Value} {l1 l2:List UInt8} (h1:PgTo w pb v w1 v1 l1) (h2:PgTo w1 pb v1 w2 v2 l2):PgTo w pb v w2 v2 l2:=
 ⟨h2.pg,h1.mod.trans' h2.mod (fun i hi hq=>by
  rcases hq with e|e
  ·exact .inl e
  ·rcases h1.new i e with q|q
   ·exact .inr q
   ·omega),fun g hg=>by
  rcases h2.new g hg with e|e
  ·exact h1.new g e
  ·exact .inr (Nat.le_trans h1.mod.size e)⟩
theorem PgTo.below {w w1:World} {pb:Nat} {v:Value} {l:List UInt8} (h:Pg w pb v l) (hb:Below w.heap.size w w1):PgTo w pb v w1 v l:=
 ⟨h.later hb,Mod.ofBelow hb (fun k hk hge=>by omega),fun g hg=> .inl hg⟩
theorem PgTo.alloc {w w1:World} {pb:Nat} {v v1:Value} {l:List UInt8} (h:PgTo w pb v w1 v1 l) (o:Obj):PgTo w pb v (w1.alloc o) v1 l:=
 h.trans (PgTo.below h.pg ((Below.refl _ _).alloc (Nat.le_refl _) o))
theorem PgTo.put {w w1 w2:World} {pb:Nat} {v v1 v2:Value} {l:List UInt8} {t:ByteArray} (h:PgTo w pb v w1 v1 l) (hl:l.length≤65536) (ht:t.size≤5000000)
 (own2:w2.ownsRow 0 5 1 v2 (l++t.data.toList).length (Lib.byteCells (l++t.data.toList))) (gr2:w1.grownBy w2 v1.ownBlock) (new2:∀g,v2.ownBlock=some g→v1.ownBlock=some g∨w1.heap.size≤g):
 PgTo w pb v (w2.setCell ⟨pb,0,none⟩ v2) v2 (l++t.data.toList):=by
 have hlt:=h.pg.lt;have hm:Mod (fun k=>v1.ownBlock=some k) w1 w2:=(Mod.refl _ _).grown gr2 (fun k e _=>e);have hb:=hm.heap h.pg.blk (fun e=>h.pg.ne pb e rfl);have hne:∀g,v2.ownBlock=some g→g≠pb:=fun g hg=>by
  rcases new2 g hg with e|e
  ·exact h.pg.ne g e
  ·omega
 have hm2:Mod (fun k=>k=pb∨v1.ownBlock=some k) w1 (w2.setCell ⟨pb,0,none⟩ v2):=(hm.mono (fun i _ e=> .inr e)).setCell _ _ (fun _=> .inl rfl);refine h.trans ⟨⟨by rw[set_blk hb];rfl,ownsRow_frame own2 fun g hg=>set_other _ _ (hne g hg),hne,by rw[List.length_append,len_str];omega⟩,hm2,new2⟩
def putS (out:List UInt8) (ss:List ByteArray):List UInt8:=ss.foldl (fun o s=>putL o s.data.toList) out
theorem putS_cons (out:List UInt8) (s:ByteArray) (r:List ByteArray):putS out (s::r)=putS (putL out s.data.toList) r:=rfl
def strCell (s:ByteArray):List Value:=[.string s]
theorem strs_open {w:World} {v:Value} {l:List ByteArray} (h:SlR w v 1 l strCell):∃ao c,v= .slice ao l.length c∧l.length≤1048576∧
 (0<l.length→∃b o,ao=some ⟨b,o,none⟩∧b<w.heap.size∧∀i x,l[i]? =some x→w.cell? ⟨b,o+i,none⟩=some (.string x)):=by
 obtain ⟨ao,c,hv,hl,hat⟩:=h;refine ⟨ao,c,hv,hl,fun h0=> ?_⟩;obtain ⟨b,o,ha,hlt,hc⟩:=hat h0;refine ⟨b,o,ha,hlt,fun i x hx=> ?_⟩;have:=hc i x hx 0 _ rfl;rw[Nat.mul_one,Nat.add_zero]at this;exact this
theorem put_c (w:World) (pb:Nat) (v:Value) (l:List UInt8) (h:Pg w pb v l) (pv:Value) (ss:List ByteArray) (hs:SlR w pv 1 ss strCell) (hsz:∀s∈ss,s.size≤5000000)
 (hne:∀b o n c,pv= .slice (some ⟨b,o,none⟩) n c→b≠pb∧v.ownBlock≠some b):
 Calls Tryz.prog 96 #[.pointer (some ⟨pb,0,none⟩),pv] w fun r w'=>r= .returned (.tuple #[])∧∃v',PgTo w pb v w' v' (putS l ss):=by
 obtain ⟨ao,cap,rfl,hl,hat⟩:=strs_open hs;obtain ⟨n,hn⟩:∃n,n=ss.length:=⟨_,rfl⟩;rw[←hn]at hat hne hl ⊢;have Hn:=hid hn;have Hl:=hid hl;have Hat:=hid hat;have Hne:=hid hne;have Hsz:=hid hsz;have H0:=hid (PgTo.refl h);clear hs hn hl hat hne hsz h;go_enter Tryz.func96,Tryz.ntmps96;go_wp2
 go_loopw [8] (fun vi wr=>∃(k:Nat) (v1:Value) (l1:List UInt8),vi= .int .i64 (k:Int)∧Hid (k≤n∧PgTo w pb v wr v1 l1∧putS l ss=putS l1 (ss.drop k))) (fun vi _=>n-(intOf vi).toNat)
 case atStart=>exact ⟨0,v,l,rfl,hid ⟨Nat.zero_le _,H0.out,rfl⟩⟩
 case round=>
  clear H0;obtain ⟨k,v1,l1,rfl,H⟩:=hrel;by_cases hk:k<n
  ·have tk:decide (k<n)=true:=dT hk;have bk:(k:Int)<(n:Int):=by omega
   obtain ⟨s,hs⟩:∃s,ss[k]? =some s:=at_of_lt (by have:=Hn.out;omega);obtain ⟨b,o,rfl,hb,hc⟩:=Hat.out (by omega);obtain ⟨nb1,nb2⟩:=Hne.out b o n cap rfl;have c1:=H.out.2.1.mod.cell (hc k s hs) (by
    rintro (e|e)
    ·exact nb1 e
    ·exact nb2 e)
   obtain ⟨hlt,he⟩:=List.getElem?_eq_some_iff.1 hs;have hsm:=Hsz.out s (List.mem_of_getElem? hs);have hdr:ss.drop k=s::ss.drop (k+1):=by rw[List.drop_eq_getElem_cons hlt,he]
   have hst:=H.out.2.2;rw[hdr,putS_cons]at hst;obtain ⟨Hms,Hgo⟩:=step_two (k:=k) (n:=n) hk (by have:=Hl.out;omega);have hpg:=H.out.2.1.pg;have p0:=cell_blk hpg.blk 0;have pf:=frozen_blk hpg.blk 0;simp at p0;obtain ⟨ao1,c1v,hv1⟩:∃ao c,v1= .slice ao l1.length c:=by
    rcases hpg.row.2 with ⟨hv,hn⟩|⟨g,cap,cur,hv,_⟩
    ·exact ⟨none,0,by rw[hv,hn]⟩
    ·exact ⟨_,_,hv⟩
   have Hrow:=hid hpg.row;have Hlen:=hid hpg.len;have Hk:=hid hk;have HP:=hid H.out.2.1;subst hv1;by_cases hr:l1.length≤65536
   ·have t1:decide ((l1.length:Int)≤65536)=true:=dT (by omega);have Hend:=hid (fun v2 w2 a1 a2 a3=>show k+1≤n∧PgTo w pb v (w2.setCell ⟨pb,0,none⟩ v2) v2 (l1++s.data.toList)∧putS l ss=putS (l1++s.data.toList) (ss.drop (k+1)) from ⟨Hk.out,HP.out.put (w2:=w2) (v2:=v2) (t:=s) hr hsm a1 a2 a3,by rw[hst];unfold putL;rw[if_pos hr]⟩);have Hrm:=hid (show l1.length+s.size≤1000000000 by omega);have Hq:=hid (show l1.length+s.size=(l1++s.data.toList).length by rw[List.length_append,len_str])
    have Hblk:=hid (fun w2 (a1:World.grownBy wr w2 (Value.slice ao1 l1.length c1v).ownBlock)=>show w2.heap[pb]? =some (.cells #[.slice ao1 l1.length c1v] 114 (0,0)) from ((Mod.refl (fun k=>(Value.slice ao1 l1.length c1v).ownBlock=some k) wr).grown a1 (fun k e _=>e)).heap hpg.blk (fun e=>hpg.ne pb e rfl));clear hpg hst hdr he hlt hs hc hb hk H hsm hr
    go_wp2_with (at_builtin;refine strAppendB rfl _ _ rfl (.slice ao1 l1.length c1v) l1 rfl Hrow.out s rfl Hrm.out (l1.length+s.size) Hq.out ?_;intro ao2 c2 w2 own2 gr2 new2;have HE:=hid (Hend.out _ w2 own2 gr2 new2);have q1:=cell_blk (Hblk.out w2 gr2) 0;have q2:=frozen_blk (Hblk.out w2 gr2) 0;simp at q1;clear own2 gr2 new2)
    go_roundw
    case rel=>exact ⟨k+1,_,_,Hgo.out,HE⟩
    case measure=>exact Hms.out
   ·have t1:decide ((l1.length:Int)≤65536)=false:=dF (by omega);have Hend:=hid (show k+1≤n∧PgTo w pb v wr (.slice ao1 l1.length c1v) l1∧putS l ss=putS l1 (ss.drop (k+1)) from ⟨Hk.out,HP.out,by rw[hst];unfold putL;rw[if_neg hr]⟩);clear hpg hst hdr he hlt hs hc hb hk H hsm hr;go_wp2;go_roundw
    case rel=>exact ⟨k+1,_,_,Hgo.out,Hend⟩
    case measure=>exact Hms.out
  ·have tk:decide (k<n)=false:=dF hk;have HP:=hid (show ∃v',PgTo w pb v wr v' (putS l ss) from ⟨v1,by
    have hst:=H.out.2.2;rw[List.drop_eq_nil_of_le (by have:=Hn.out;omega)]at hst;rw[hst];exact H.out.2.1⟩)
   clear H hk Hat Hne;go_wp2
   first|go_end0|refine bodyPost_ret (results_none rfl _ _ _) rfl ?_
   exact ⟨rfl,HP.out⟩
noncomputable def lyLoop:Code:=(ncr (ncr (ncr (ncr (ncx Tryz.f64.body)))))
noncomputable def lyT1:Code:=(ncl (nco (ncb (ncr (ncr (ncr (ncr (ncx Tryz.f64.body))))))))
noncomputable def lyT2:Code:=(ncl (ncr (nco (ncb (ncr (ncr (ncr (ncr (ncx Tryz.f64.body)))))))))
noncomputable def lyT4:Code:=(ncr (ncr (ncr (nco (ncb (ncr (ncr (ncr (ncr (ncx Tryz.f64.body))))))))))
noncomputable def lyRound:Code:=(ncb (ncl (ncr (ncr (nco (ncb (ncr (ncr (ncr (ncr (ncx Tryz.f64.body)))))))))))
noncomputable def lyR1:Code:=(ncl (ncb (ncl (ncr (ncr (nco (ncb (ncr (ncr (ncr (ncr (ncx Tryz.f64.body))))))))))))
noncomputable def lyR2:Code:=(ncl (ncr (ncb (ncl (ncr (ncr (nco (ncb (ncr (ncr (ncr (ncr (ncx Tryz.f64.body)))))))))))))
noncomputable def lyR3:Code:=(ncl (ncr (ncr (ncb (ncl (ncr (ncr (nco (ncb (ncr (ncr (ncr (ncr (ncx Tryz.f64.body))))))))))))))
noncomputable def lyR4:Code:=(ncl (ncr (ncr (ncr (ncb (ncl (ncr (ncr (nco (ncb (ncr (ncr (ncr (ncr (ncx Tryz.f64.body)))))))))))))))
noncomputable def lyR5:Code:=(ncl (ncr (ncr (ncr (ncr (ncb (ncl (ncr (ncr (nco (ncb (ncr (ncr (ncr (ncr (ncx Tryz.f64.body))))))))))))))))
noncomputable def lyR6:Code:=(ncl (ncr (ncr (ncr (ncr (ncr (ncb (ncl (ncr (ncr (nco (ncb (ncr (ncr (ncr (ncr (ncx Tryz.f64.body)))))))))))))))))
noncomputable def lySw:Code:=(ncr (ncr (ncr (ncr (ncr (ncr (ncb (ncl (ncr (ncr (nco (ncb (ncr (ncr (ncr (ncr (ncx Tryz.f64.body)))))))))))))))))
theorem ly_act (a:Act) (hs:a.tmps.size=95) (hd:a.defers=[]):∃v:Nat→Value,(∀(i:Nat) (x:Value),a.tmps[i]? =some x→v i=x)∧a=⟨#[v 0,v 1,v 2,v 3,v 4,v 5,v 6,v 7,v 8,v 9,v 10,v 11,v 12,v 13,v 14,v 15,v 16,v 17,v 18,v 19,v 20,v 21,v 22,v 23,v 24,v 25,v 26,v 27,v 28,v 29,v 30,v 31,v 32,v 33,v 34,v 35,v 36,v 37,v 38,v 39,v 40,v 41,v 42,v 43,v 44,v 45,v 46,v 47,v 48,v 49,v 50,v 51,v 52,v 53,v 54,v 55,v 56,v 57,v 58,v 59,v 60,v 61,v 62,v 63,v 64,v 65,v 66,v 67,v 68,v 69,v 70,v 71,v 72,v 73,v 74,v 75,v 76,v 77,v 78,v 79,v 80,v 81,v 82,v 83,v 84,v 85,v 86,v 87,v 88,v 89,v 90,v 91,v 92,v 93,v 94],[]⟩:=by
 obtain ⟨t,d⟩:=a;obtain ⟨l⟩:=t;obtain rfl:d=[]:=hd;have hl:l.length=95:=hs;refine ⟨fun i=>l.getD i undef,fun i x hx=> ?_,?_⟩
 ·have hx':l[i]? =some x:=by simpa using hx
  simp[List.getD,hx']
 ·have e:l=(List.range 95).map (fun i=>l.getD i undef):=by
   apply List.ext_getElem
   ·simp[hl]
   ·intro i h1 h2;simp[List.getD,h1]
  generalize (fun i=>l.getD i undef)=v at e ⊢;subst e;rfl
structure LyA (a:Act) (pb:Nat) (V:Value) (ind:Nat) (nb:Nat) (b2:Nat) (o2:Nat) (q:Nat) (cap2:Nat) (j:Nat) (th:Bool):Prop where
 size:a.tmps.size=95
 dfr:a.defers=[]
 s0:a.tmps[0]? =some (.pointer (some ⟨pb,0,none⟩))
 s1:a.tmps[1]? =some (V)
 s3:a.tmps[3]? =some (.int .i64 (ind:Int))
 s4:a.tmps[4]? =some (.bool th)
 s10:a.tmps[10]? =some (.func (.func 96) #[.pointer (some ⟨pb,0,none⟩)] #[])
 s11:a.tmps[11]? =some (.pointer (some ⟨nb,0,none⟩))
 s36:a.tmps[36]? =some (.slice (some ⟨b2,o2,none⟩) q cap2)
 s37:a.tmps[37]? =some (.int .i64 (q:Int))
 s38:a.tmps[38]? =some (.int .i64 (j:Int))
theorem LyA.shape {a:Act} {pb:Nat} {V:Value} {ind:Nat} {nb:Nat} {b2:Nat} {o2:Nat} {q:Nat} {cap2:Nat} {j:Nat} {th:Bool} (h:LyA a pb V ind nb b2 o2 q cap2 j th):∃v:Nat→Value,a=⟨#[.pointer (some ⟨pb,0,none⟩),V,v 2,.int .i64 (ind:Int),.bool th,v 5,v 6,v 7,v 8,v 9,.func (.func 96) #[.pointer (some ⟨pb,0,none⟩)] #[],.pointer (some ⟨nb,0,none⟩),v 12,v 13,v 14,v 15,v 16,v 17,v 18,v 19,v 20,v 21,v 22,v 23,v 24,v 25,v 26,v 27,v 28,v 29,v 30,v 31,v 32,v 33,v 34,v 35,.slice (some ⟨b2,o2,none⟩) q cap2,.int .i64 (q:Int),.int .i64 (j:Int),v 39,v 40,v 41,v 42,v 43,v 44,v 45,v 46,v 47,v 48,v 49,v 50,v 51,v 52,v 53,v 54,v 55,v 56,v 57,v 58,v 59,v 60,v 61,v 62,v 63,v 64,v 65,v 66,v 67,v 68,v 69,v 70,v 71,v 72,v 73,v 74,v 75,v 76,v 77,v 78,v 79,v 80,v 81,v 82,v 83,v 84,v 85,v 86,v 87,v 88,v 89,v 90,v 91,v 92,v 93,v 94],[]⟩:=by
 obtain ⟨v,hv,hd⟩:=ly_act a h.size h.dfr;have e0:=hv 0 _ h.s0;have e1:=hv 1 _ h.s1;have e3:=hv 3 _ h.s3;have e4:=hv 4 _ h.s4;have e10:=hv 10 _ h.s10;have e11:=hv 11 _ h.s11;have e36:=hv 36 _ h.s36;have e37:=hv 37 _ h.s37;have e38:=hv 38 _ h.s38;refine ⟨v,?_⟩;rw[hd];simp only[e0,e1,e3,e4,e10,e11,e36,e37,e38]
structure LyB (a:Act) (pb:Nat) (V:Value) (ind:Nat) (nb:Nat) (b2:Nat) (o2:Nat) (q:Nat) (cap2:Nat) (j:Nat) (k:Nat):Prop where
 size:a.tmps.size=95
 dfr:a.defers=[]
 s0:a.tmps[0]? =some (.pointer (some ⟨pb,0,none⟩))
 s1:a.tmps[1]? =some (V)
 s3:a.tmps[3]? =some (.int .i64 (ind:Int))
 s10:a.tmps[10]? =some (.func (.func 96) #[.pointer (some ⟨pb,0,none⟩)] #[])
 s11:a.tmps[11]? =some (.pointer (some ⟨nb,0,none⟩))
 s14:a.tmps[14]? =some (.int .i64 (k:Int))
 s36:a.tmps[36]? =some (.slice (some ⟨b2,o2,none⟩) q cap2)
 s37:a.tmps[37]? =some (.int .i64 (q:Int))
 s38:a.tmps[38]? =some (.int .i64 (j:Int))
theorem LyB.shape {a:Act} {pb:Nat} {V:Value} {ind:Nat} {nb:Nat} {b2:Nat} {o2:Nat} {q:Nat} {cap2:Nat} {j:Nat} {k:Nat} (h:LyB a pb V ind nb b2 o2 q cap2 j k):∃v:Nat→Value,a=⟨#[.pointer (some ⟨pb,0,none⟩),V,v 2,.int .i64 (ind:Int),v 4,v 5,v 6,v 7,v 8,v 9,.func (.func 96) #[.pointer (some ⟨pb,0,none⟩)] #[],.pointer (some ⟨nb,0,none⟩),v 12,v 13,.int .i64 (k:Int),v 15,v 16,v 17,v 18,v 19,v 20,v 21,v 22,v 23,v 24,v 25,v 26,v 27,v 28,v 29,v 30,v 31,v 32,v 33,v 34,v 35,.slice (some ⟨b2,o2,none⟩) q cap2,.int .i64 (q:Int),.int .i64 (j:Int),v 39,v 40,v 41,v 42,v 43,v 44,v 45,v 46,v 47,v 48,v 49,v 50,v 51,v 52,v 53,v 54,v 55,v 56,v 57,v 58,v 59,v 60,v 61,v 62,v 63,v 64,v 65,v 66,v 67,v 68,v 69,v 70,v 71,v 72,v 73,v 74,v 75,v 76,v 77,v 78,v 79,v 80,v 81,v 82,v 83,v 84,v 85,v 86,v 87,v 88,v 89,v 90,v 91,v 92,v 93,v 94],[]⟩:=by
 obtain ⟨v,hv,hd⟩:=ly_act a h.size h.dfr;have e0:=hv 0 _ h.s0;have e1:=hv 1 _ h.s1;have e3:=hv 3 _ h.s3;have e10:=hv 10 _ h.s10;have e11:=hv 11 _ h.s11;have e14:=hv 14 _ h.s14;have e36:=hv 36 _ h.s36;have e37:=hv 37 _ h.s37;have e38:=hv 38 _ h.s38;refine ⟨v,?_⟩;rw[hd];simp only[e0,e1,e3,e10,e11,e14,e36,e37,e38]
structure LyC (a:Act) (pb:Nat) (V:Value) (ind:Nat) (nb:Nat) (b2:Nat) (o2:Nat) (q:Nat) (cap2:Nat) (j:Nat) (k:Nat) (kb:Nat) (mk:ByteArray):Prop where
 size:a.tmps.size=95
 dfr:a.defers=[]
 s0:a.tmps[0]? =some (.pointer (some ⟨pb,0,none⟩))
 s1:a.tmps[1]? =some (V)
 s3:a.tmps[3]? =some (.int .i64 (ind:Int))
 s4:a.tmps[4]? =some (.bool false)
 s10:a.tmps[10]? =some (.func (.func 96) #[.pointer (some ⟨pb,0,none⟩)] #[])
 s11:a.tmps[11]? =some (.pointer (some ⟨nb,0,none⟩))
 s14:a.tmps[14]? =some (.int .i64 (k:Int))
 s15:a.tmps[15]? =some (.pointer (some ⟨kb,0,none⟩))
 s16:a.tmps[16]? =some (.string mk)
 s36:a.tmps[36]? =some (.slice (some ⟨b2,o2,none⟩) q cap2)
 s37:a.tmps[37]? =some (.int .i64 (q:Int))
 s38:a.tmps[38]? =some (.int .i64 (j:Int))
theorem LyC.shape {a:Act} {pb:Nat} {V:Value} {ind:Nat} {nb:Nat} {b2:Nat} {o2:Nat} {q:Nat} {cap2:Nat} {j:Nat} {k:Nat} {kb:Nat} {mk:ByteArray} (h:LyC a pb V ind nb b2 o2 q cap2 j k kb mk):∃v:Nat→Value,a=⟨#[.pointer (some ⟨pb,0,none⟩),V,v 2,.int .i64 (ind:Int),.bool false,v 5,v 6,v 7,v 8,v 9,.func (.func 96) #[.pointer (some ⟨pb,0,none⟩)] #[],.pointer (some ⟨nb,0,none⟩),v 12,v 13,.int .i64 (k:Int),.pointer (some ⟨kb,0,none⟩),.string mk,v 17,v 18,v 19,v 20,v 21,v 22,v 23,v 24,v 25,v 26,v 27,v 28,v 29,v 30,v 31,v 32,v 33,v 34,v 35,.slice (some ⟨b2,o2,none⟩) q cap2,.int .i64 (q:Int),.int .i64 (j:Int),v 39,v 40,v 41,v 42,v 43,v 44,v 45,v 46,v 47,v 48,v 49,v 50,v 51,v 52,v 53,v 54,v 55,v 56,v 57,v 58,v 59,v 60,v 61,v 62,v 63,v 64,v 65,v 66,v 67,v 68,v 69,v 70,v 71,v 72,v 73,v 74,v 75,v 76,v 77,v 78,v 79,v 80,v 81,v 82,v 83,v 84,v 85,v 86,v 87,v 88,v 89,v 90,v 91,v 92,v 93,v 94],[]⟩:=by
 obtain ⟨v,hv,hd⟩:=ly_act a h.size h.dfr;have e0:=hv 0 _ h.s0;have e1:=hv 1 _ h.s1;have e3:=hv 3 _ h.s3;have e4:=hv 4 _ h.s4;have e10:=hv 10 _ h.s10;have e11:=hv 11 _ h.s11;have e14:=hv 14 _ h.s14;have e15:=hv 15 _ h.s15;have e16:=hv 16 _ h.s16;have e36:=hv 36 _ h.s36;have e37:=hv 37 _ h.s37;have e38:=hv 38 _ h.s38;refine ⟨v,?_⟩;rw[hd];simp only[e0,e1,e3,e4,e10,e11,e14,e15,e16,e36,e37,e38]
theorem LyC.toA {a:Act} {pb:Nat} {V:Value} {ind nb b2 o2 q cap2 j k kb:Nat} {mk:ByteArray} (h:LyC a pb V ind nb b2 o2 q cap2 j k kb mk):LyA a pb V ind nb b2 o2 q cap2 j false:=
 ⟨h.size,h.dfr,h.s0,h.s1,h.s3,h.s4,h.s10,h.s11,h.s36,h.s37,h.s38⟩
structure Apart (w:World) (pb:Nat) (v:Value) (b:Nat) (o:Obj):Prop where
 blk:w.heap[b]? =some o
 ne:b≠pb
 nv:∀g,v.ownBlock=some g→g≠b
theorem Apart.step {w w2:World} {pb b:Nat} {v v2:Value} {o:Obj} {l2:List UInt8} (h:Apart w pb v b o) (p:PgTo w pb v w2 v2 l2):Apart w2 pb v2 b o:=by
 have hlt:=lt_of_heap h.blk;refine ⟨p.mod.heap h.blk (by
  rintro (e|e)
  ·exact h.ne e
  ·exact h.nv b e rfl),h.ne,fun g hg e=> ?_⟩
 rcases p.new g hg with q|q
 ·exact h.nv g q e
 ·omega
theorem Apart.new {w:World} {pb:Nat} {v:Value} {l:List UInt8} (h:Pg w pb v l) (o:Obj):Apart (w.alloc o) pb v w.heap.size o:=
 ⟨alloc_new o,by have:=h.lt;omega,fun g hg=>by have:=(h.row.lt g hg).2;omega⟩
theorem pieces (w:World) (ss:List ByteArray) (arr:Array Value) (harr:arr.toList=ss.map Value.string) (n:Nat) (hn:n=ss.length) (hl:n≤1048576) (T:TypeId):
 SlR (w.alloc (.cells arr T)) (.slice (some ⟨w.heap.size,0,none⟩) n n) 1 ss strCell:=by
 subst hn;refine ⟨some ⟨w.heap.size,0,none⟩,ss.length,rfl,hl,fun h0=>⟨w.heap.size,0,rfl,by simp,fun i x hi j u hu=> ?_⟩⟩;cases j with
 |succ j=>simp[strCell]at hu
 |zero=>
  simp only[strCell,List.getElem?_cons_zero,Option.some.injEq]at hu;subst hu;rw[Nat.mul_one,Nat.zero_add,Nat.add_zero,cell_blk (alloc_new _),←Array.getElem?_toList,harr,List.getElem?_map,hi];rfl
theorem put_lit {w:World} {pb:Nat} {v:Value} {l:List UInt8} (h:Pg w pb v l) (ss:List ByteArray) (arr:Array Value) (harr:arr.toList=ss.map Value.string) (n:Nat) (hn:n=ss.length) (hl:n≤1048576) (T:TypeId) (hsz:∀s∈ss,s.size≤5000000):
 Calls Tryz.prog 96 #[.pointer (some ⟨pb,0,none⟩),.slice (some ⟨w.heap.size,0,none⟩) n n] (w.alloc (.cells arr T)) fun r w'=>r= .returned (.tuple #[])∧∃v',PgTo w pb v w' v' (putS l ss):=by
 have hp:=(PgTo.refl h).alloc (.cells arr T);refine (put_c _ pb v l hp.pg _ ss (pieces w ss arr harr n hn hl T) hsz ?_).mono ?_
 ·intro b o n c e;simp only[Value.slice.injEq,Option.some.injEq,Addr.mk.injEq]at e;have:=h.lt;refine ⟨by omega,fun e2=> ?_⟩;have:=(h.row.lt b e2).2;omega
 ·rintro r w' ⟨hr,v',h'⟩;exact ⟨hr,v',hp.trans h'⟩
def layInd (ind:Nat) (th:Bool) (out:List UInt8):List UInt8:=if th=true then out else putL out (List.replicate ind 32)
def lyMark (kind:Int) (key:ByteArray):List UInt8:=if kind=2 then keyQ key.data.toList++[58] else [45]
def laySw (ns:List Nd) (lay:Nat→Nat→Bool→List UInt8→List UInt8) (kind:Int) (ind:Nat) (k:Nat) (out:List UInt8):List UInt8:=
 if (ns[k]!).kind=1 then putL (putL (putL out (lyMark kind (ns[k]!).key)) (textN (ns[k]!))) [10]
 else if kind=2 then lay k (ind+2) false (putL (putL out (lyMark kind (ns[k]!).key)) [10])
 else lay k (ind+2) true (putL (putL out (lyMark kind (ns[k]!).key)) [32])
theorem layK_cons (ns:List Nd) (lay:Nat→Nat→Bool→List UInt8→List UInt8) (kind:Int) (ind k:Nat) (r:List Int) (th:Bool) (out:List UInt8):
 layK ns lay kind ind ((k:Int)::r) th out=layK ns lay kind ind r false (laySw ns lay kind ind k (layInd ind th out)):=by
 rw[layK];congr 1;rw[Int.toNat_natCast];unfold laySw layInd;by_cases h1:(ns[k]!).kind=1
 ·rw[if_pos h1,if_pos h1];rfl
 ·rw[if_neg h1,if_neg h1];by_cases h2:kind=2
  ·rw[if_pos h2,if_pos h2];unfold lyMark;rw[if_pos h2]
  ·rw[if_neg h2,if_neg h2];unfold lyMark;rw[if_neg h2]
structure Base (w0 w:World) (pb:Nat) (v:Value):Prop where
 below:Below w0.heap.size w0 w
 pb:w0.heap.size≤pb
 own:∀g,v.ownBlock=some g→w0.heap.size≤g
theorem Base.step {w0 w w2:World} {pb:Nat} {v v2:Value} {l2:List UInt8} (h:Base w0 w pb v) (p:PgTo w pb v w2 v2 l2):Base w0 w2 pb v2:=
 ⟨h.below.trans (p.mod.below h.below.size fun k hk=>by
  rcases hk with e|e
  ·rw[e];exact h.pb
  ·exact h.own k e),h.pb,fun g hg=>by
  rcases p.new g hg with e|e
  ·exact h.own g e
  ·exact Nat.le_trans h.below.size e⟩
abbrev NdO (m:NdM):Obj:= .cells #[.int .i64 m.nd.kind,.string m.nd.key,.string m.nd.text,.bool m.nd.quoted,.int .i64 m.nd.line,m.kv] 55
theorem repeat_32 (c:Nat):Lib.repeatL (⟨#[32]⟩:ByteArray).data.toList c=List.replicate c 32:=by
 induction c with
 |zero=>rfl
 |succ c ih=>
  show [32]++Lib.repeatL _ c=_
  rw[ih];rfl
end Go.Proofs.YtfenoaeoedobmaaGreatDoor
