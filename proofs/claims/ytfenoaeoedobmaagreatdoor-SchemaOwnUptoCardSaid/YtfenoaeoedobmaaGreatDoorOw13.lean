/-
Parts of a proof.
-/
import Derived.Maps.OwnSet
import Derived.Maps.OwnOps
import Derived.Carry
import Derived.Laws.Concat
import Derived.Lib.AppendStr
import Derived.Test.YtfenoaeoedobmaaGreatDoorOw12
set_option linter.unusedVariables false
set_option linter.unusedSimpArgs false
set_option maxHeartbeats 8000000
set_option maxRecDepth 20000
namespace Go.Proofs.YtfenoaeoedobmaaGreatDoor
open Go Go.RowKit
theorem eX {w:World} {ops:Array Oper} {rest:List Oper} {o:Oper} {a:Act} {Q:Exit->Act->World->Prop} (hgd:o.guard=none) (s x:Operand)
 (ho:o.op= .call {callee:= .builtin .append,args:=#[s,x],argTypes:=#[42,42]})
 (v:Value) (l:List UInt8) (hs:a.eval s=v) (hown:w.ownsRow 0 5 1 v l.length (Lib.byteCells l)) (g m:Nat) (news:List UInt8) (arr:Array Value) (hx:a.eval x= .slice (some ⟨g,0,none⟩) m m) (hm:m=news.length)
 (hnew:w.heap[g]? =some (.cells arr 5 (0,0))) (harr:arr.toList=Lib.byteCells news) (hlen:l.length+m<=1000000000)
 (h:∀v' w',w'.ownsRow 0 5 1 v' (l++news).length (Lib.byteCells (l++news))->w.grownBy w' v.ownBlock->(∀g,v'.ownBlock=some g->v.ownBlock=some g\/w.heap.size<=g)->
  wpList Tryz.prog ops Q rest (a.put o.dst v') w'):wpList Tryz.prog ops Q (o::rest) a w:=by
 obtain ⟨i0,hi5,hz0,hz1,hz2⟩:=info_parts binfo;subst hm;have e:Lib.byteCells (l++news)=Lib.byteCells l++Lib.byteCells news:=by simp[Lib.byteCells]
 rw[e,aAc]at h;refine ep w hgd s x 42 ho 5 i0 (.int .u8 0) 1 1 Tryz.underlying42 hi5 hz0 hz1 hz2 rfl (by decide) v l.length (Lib.byteCells l) hs hown (some ⟨g,0,none⟩) news.length news.length (Lib.byteCells news) hx (by simp[Lib.byteCells])
  (fun hn=>by cases hn) (fun ad had=> ?_) (fun u hu=>by
   simp only[Lib.byteCells,List.mem_map]at hu;obtain ⟨c,_,rfl⟩:=hu;rfl) (by unfold maxLen;omega) (by omega) h
 obtain rfl:=aAf had;intro j u hj;have e2:Addr.add ⟨g,0,none⟩ j=⟨g,j,none⟩:=by
  simp[Addr.add];exact fun h=>h.symm
 rw[e2,af hnew,<-Array.getElem?_toList,harr];exact hj
theorem mQ {w:World} {ops:Array Oper} {o:Oper} {a:Act} {K:Act->World->Prop} {Q:Exit->Act->World->Prop} {E:Prop} (hgd:o.guard=none) (s x:Operand)
 (ho:o.op= .call {callee:= .builtin .append,args:=#[s,x],argTypes:=#[42,42]})
 (v:Value) (l:List UInt8) (hs:a.eval s=v) (hown:w.ownsRow 0 5 1 v l.length (Lib.byteCells l)) (g m:Nat) (news:List UInt8) (arr:Array Value) (hx:a.eval x= .slice (some ⟨g,0,none⟩) m m) (hm:m=news.length)
 (hnew:w.heap[g]? =some (.cells arr 5 (0,0))) (harr:arr.toList=Lib.byteCells news) (hlen:l.length+m<=1000000000)
 (h:∀v' w',w'.ownsRow 0 5 1 v' (l++news).length (Lib.byteCells (l++news))->w.grownBy w' v.ownBlock->(∀g,v'.ownBlock=some g->v.ownBlock=some g\/w.heap.size<=g)->
  K (a.put o.dst v') w'):if Region.wanted o (yielded ops a.tmps)=true then Oper.wp Tryz.prog o a w K Q else E:=by
 obtain ⟨i0,hi5,hz0,hz1,hz2⟩:=info_parts binfo;subst hm;have e:Lib.byteCells (l++news)=Lib.byteCells l++Lib.byteCells news:=by simp[Lib.byteCells]
 rw[e,aAc]at h;refine gI w hgd s x 42 ho 5 i0 (.int .u8 0) 1 1 Tryz.underlying42 hi5 hz0 hz1 hz2 rfl (by decide) v l.length (Lib.byteCells l) hs hown (some ⟨g,0,none⟩) news.length news.length (Lib.byteCells news) hx (by simp[Lib.byteCells])
  (fun hn=>by cases hn) (fun ad had=> ?_) (fun u hu=>by
   simp only[Lib.byteCells,List.mem_map]at hu;obtain ⟨c,_,rfl⟩:=hu;rfl) (by unfold maxLen;omega) (by omega) h
 obtain rfl:=aAf had;intro j u hj;have e2:Addr.add ⟨g,0,none⟩ j=⟨g,j,none⟩:=by
  simp[Addr.add];exact fun h=>h.symm
 rw[e2,af hnew,<-Array.getElem?_toList,harr];exact hj
theorem RB.apps {w wr w2:World} {v v':Value} {l news:List UInt8} {o:Obj} (h:RB w wr v l) (own2:w2.ownsRow 0 5 1 v' (l++news).length (Lib.byteCells (l++news))) (gr2:(wr.alloc o).grownBy w2 v.ownBlock) (new2:∀g,v'.ownBlock=some g->v.ownBlock=some g\/(wr.alloc o).heap.size<=g):RB w w2 v' (l++news):=
 RO.app h ((aAb _ wr).alloc (aAa _) o) own2 gr2 new2
theorem RB.lit {w wr:World} (hb:Below w.heap.size w wr) (arr:Array Value) (l:List UInt8) (harr:arr.toList=Lib.byteCells l) (hl:l.length<=1000000):RB w (wr.alloc (.cells arr 5)) (.slice (some ⟨wr.heap.size,0,none⟩) l.length l.length) l:=by
 have hsz:arr.size=l.length:=by rw[<-Array.length_toList,harr];simp[Lib.byteCells]
 refine ⟨hb.alloc hb.size _,?_,fun g hg=> ?_⟩
 ·have:=World.ownsRow_lit (base:=0) (e:= 5) (size:=1) wr arr l.length (Nat.zero_le _) (by unfold maxLen;omega) (by omega);rw[harr]at this;exact this
 ·simp only[Value.ownBlock,Option.some.injEq]at hg;rw[<-hg];exact hb.size
def iG (l:List UInt8) (k:Nat):List UInt8:=34::(l.take k).flatMap jg
theorem zw {l:List UInt8} {k:Nat} {c:UInt8} (h:l[k]? =some c):iG l (k+1)=iG l k++jg c:=by
 unfold iG;rw[List.take_add_one,h];simp
theorem BV {l:List UInt8} {k:Nat} (h:l.length<=k):iG l k++[34]=fU l:=by
 unfold iG fU;rw[List.take_of_length_le h]
theorem Dn (c:UInt8):(jg c).length<=4:=by
 unfold jg
 repeat' split
 all_goals simp
theorem se:∀l:List UInt8,(l.flatMap jg).length<=4*l.length
 |[]=>by simp
 |c::r=>by
  have:=Dn c;have:=se r;rw[List.flatMap_cons,aAc,aAd];omega
theorem BU {l:List UInt8} (k:Nat) (h:l.length<=100000000):(iG l k).length<=400000001:=by
 have h1:=se (l.take k);have h2:(l.take k).length<=l.length:=by rw[List.length_take];omega
 unfold iG;rw[aAd];omega
theorem yZ {k n:Nat} (h:k<n) (hn:n<=1000000000):Hid (n-(intOf (.int .i64 (wrap64 ((k:Int)+1)))).toNat<n-(intOf (.int .i64 (k:Int))).toNat)/\Hid (Value.int .i64 (wrap64 ((k:Int)+1))= .int .i64 ((k+1:Nat):Int)):=by
 have wk:=aW (z:=(k:Int)+1) (by omega) (by omega);exact ⟨hid (df h wk),hid (fh wk)⟩
theorem FH {c:UInt8} (h:c.toNat=34\/c.toNat=92):jg c=[92,c]:=by unfold jg;rw[if_pos h]
theorem FI {c:UInt8} (h:c.toNat=10):jg c=[92,110]:=by unfold jg;rw[if_neg (by omega),if_pos h]
theorem Jn {c:UInt8} (h:c.toNat=9):jg c=[92,116]:=by unfold jg;rw[if_neg (by omega),if_neg (by omega),if_pos h]
theorem Jl {c:UInt8} (h1:¬(c.toNat=34\/c.toNat=92)) (h2:¬c.toNat=10) (h3:¬c.toNat=9) (h:c.toNat<32\/c.toNat=127):jg c=[92,120,nE[c.toNat / 16]!,nE[c.toNat % 16]!]:=by unfold jg;rw[if_neg h1,if_neg h2,if_neg h3,if_pos h]
theorem Jm {c:UInt8} (h1:¬(c.toNat=34\/c.toNat=92)) (h2:¬c.toNat=10) (h3:¬c.toNat=9) (h:¬(c.toNat<32\/c.toNat=127)):jg c=[c]:=by unfold jg;rw[if_neg h1,if_neg h2,if_neg h3,if_neg h]
theorem ui {n:Nat} (h:n<16):(hexes:ByteArray)[n]'(h)=nE[n]! :=by
 have:=((by decide):∀m:Fin 16,(hexes:ByteArray)[m.val]'(m.isLt)=nE[m.val]!) ⟨n,h⟩;exact this
theorem Ez (c:UInt8):∀w,(binOp .shr 5 (.int .u8 (c.toNat:Int)) (.int .u64 4)).run Tryz.prog w= .ok (.int .u8 ((c.toNat / 16:Nat):Int)) w:=by
 intro w;simp[binOp,Op.shift];have e:(2:Int) ^ min 4 IntKind.u8.bits=16:=rfl;rw[e,Int.fdiv_eq_ediv_of_nonneg _ (by decide)]
theorem F9:∀c:Fin 256,bits BinOp.and IntKind.u8 (c.val:Int) 15=((c.val % 16:Nat):Int):=by decide+kernel
theorem DR (c:UInt8):bits BinOp.and IntKind.u8 (c.toNat:Int) 15=((c.toNat % 16:Nat):Int):=F9 ⟨c.toNat,c.toNat_lt⟩
theorem xL (w:World) (s:ByteArray) (hs:s.size<=100000000):
 Calls Tryz.prog 134 #[.string s] w fun r w'=>r= .returned (.string ⟨(fU s.data.toList).toArray⟩)/\Below w.heap.size w w':=by
 obtain ⟨n,hn⟩:=ex (s.size);have Hn:=hid (show n<=100000000 by omega);have Hl:=hid (show s.data.toList.length=n by rw[an,hn]);have H0:=hid (RB.lit (aAb w.heap.size w) #[.int .u8 34] [34] rfl (by decide));have hix:=hid (fun (k:Nat) (c:UInt8) (hc:s.data.toList[k]? =some c)=>aN (s:=s) (k:=k) (c:=c) (k:Int) rfl hc);have Hall:=hid (fun k (hk:n<=k)=>BV (l:=s.data.toList) (k:=k) (by rw[Hl.o];exact hk))
 have Hlen:=hid (fun k=>BU (l:=s.data.toList) k (by rw[Hl.o];exact Hn.o));have hnz:s.size=n:=hn.symm;clear hs hn;go_enter Tryz.func134,Tryz.ntmps134;go_wp2
 go_loopw [3,9] (fun vv vi wr=>∃(v2:Value) (k:Nat),v2=vv/\vi= .int .i64 (k:Int)/\Hid (k<=n/\RB w wr v2 (iG s.data.toList k))) (fun _ vi _=>n-(intOf vi).toNat)
 case atStart=>exact ⟨_,0,rfl,rfl,hid ⟨Nat.zero_le _,H0.o⟩⟩
 case round=>
  clear H0;obtain ⟨v2,k,rfl,rfl,H⟩:=hrel;by_cases hk:k<n
  ·have tk:decide (k<n)=true:=dT hk;obtain ⟨c,hc⟩:∃c,s.data.toList[k]? =some c:=au (by rw[Hl.o];exact hk);have hx:=hix.o k c hc;have hnext:=zw hc;obtain ⟨Hms,Hgo⟩:=yZ (k:=k) (n:=n) hk (by have:=Hn.o;omega);have Hown:=hid (fun o=>H.o.2.row.alloc o);have Hend:=hid (fun (news:List UInt8) (hq:jg c=news) o v' w2 a1 a2 a3=>show k+1<=n/\RB w w2 v' (iG s.data.toList (k+1)) from ⟨hk,by rw[hnext,hq];exact H.o.2.apps (o:=o) (v':=v') (w2:=w2) (news:=news) a1 a2 a3⟩)
   have Hrm:=hid (fun m (hm:m<=4)=>show (iG s.data.toList k).length+m<=1000000000 by have:=Hlen.o k;omega);have HD:=hid H.o.2;have Hkn:=hid hk;have Hnx:=hid hnext;clear hc hnext H hk Hlen Hall;have hcl:=c.toNat_lt;by_cases c1:c.toNat=34\/c.toNat=92
   ·have Hes:=hid (FH c1);by_cases c2:c.toNat=34
    ·have p1:((c.toNat:Int)==34)=true:=by rw[beq_iff_eq];omega
     clear c1 c2;have Harr:=hid (show (#[.int .u8 92,.int .u8 (c.toNat:Int)]:Array Value).toList=Lib.byteCells [92,c] from rfl);clear hix hcl
     go_wp2_with (at_builtin;refine eX rfl _ _ rfl v2 (iG s.data.toList k) rfl (Hown.o _) wr.heap.size 2 [92,c] #[.int .u8 92,.int .u8 (c.toNat:Int)] rfl rfl (ah _) Harr.o (Hrm.o 2 (by decide)) ?_;intro v' w2 own2 gr2 new2;have HE:=hid (Hend.o [92,c] Hes.o _ _ _ own2 gr2 new2);clear own2 gr2 new2)
     go_roundw
     case rel=>exact ⟨_,k+1,rfl,Hgo.o,HE⟩
     case measure=>exact Hms.o
    ·have p1:((c.toNat:Int)==34)=false:=bF (by omega);have p2:((c.toNat:Int)==92)=true:=by rw[beq_iff_eq];omega
     clear c1 c2;have Harr:=hid (show (#[.int .u8 92,.int .u8 (c.toNat:Int)]:Array Value).toList=Lib.byteCells [92,c] from rfl);clear hix hcl
     go_wp2_with (at_builtin;refine eX rfl _ _ rfl v2 (iG s.data.toList k) rfl (Hown.o _) wr.heap.size 2 [92,c] #[.int .u8 92,.int .u8 (c.toNat:Int)] rfl rfl (ah _) Harr.o (Hrm.o 2 (by decide)) ?_;intro v' w2 own2 gr2 new2;have HE:=hid (Hend.o [92,c] Hes.o _ _ _ own2 gr2 new2);clear own2 gr2 new2)
     go_roundw
     case rel=>exact ⟨_,k+1,rfl,Hgo.o,HE⟩
     case measure=>exact Hms.o
   ·have p1:((c.toNat:Int)==34)=false:=bF (by omega);have p2:((c.toNat:Int)==92)=false:=bF (by omega);by_cases c3:c.toNat=10
    ·have Hes:=hid (FI c3);have p3:((c.toNat:Int)==10)=true:=by rw[beq_iff_eq];omega
     clear c1 c3;have Harr:=hid (show (#[.int .u8 92,.int .u8 110]:Array Value).toList=Lib.byteCells [92,110] from rfl);clear hix hcl
     go_wp2_with (at_builtin;refine eX rfl _ _ rfl v2 (iG s.data.toList k) rfl (Hown.o _) wr.heap.size 2 [92,110] #[.int .u8 92,.int .u8 110] rfl rfl (ah _) Harr.o (Hrm.o 2 (by decide)) ?_;intro v' w2 own2 gr2 new2;have HE:=hid (Hend.o [92,110] Hes.o _ _ _ own2 gr2 new2);clear own2 gr2 new2)
     go_roundw
     case rel=>exact ⟨_,k+1,rfl,Hgo.o,HE⟩
     case measure=>exact Hms.o
    ·have p3:((c.toNat:Int)==10)=false:=bF (by omega);by_cases c4:c.toNat=9
     ·have Hes:=hid (Jn c4);have p4:((c.toNat:Int)==9)=true:=by rw[beq_iff_eq];omega
      clear c1 c3 c4;have Harr:=hid (show (#[.int .u8 92,.int .u8 116]:Array Value).toList=Lib.byteCells [92,116] from rfl);clear hix hcl
      go_wp2_with (at_builtin;refine eX rfl _ _ rfl v2 (iG s.data.toList k) rfl (Hown.o _) wr.heap.size 2 [92,116] #[.int .u8 92,.int .u8 116] rfl rfl (ah _) Harr.o (Hrm.o 2 (by decide)) ?_;intro v' w2 own2 gr2 new2;have HE:=hid (Hend.o [92,116] Hes.o _ _ _ own2 gr2 new2);clear own2 gr2 new2)
      go_roundw
      case rel=>exact ⟨_,k+1,rfl,Hgo.o,HE⟩
      case measure=>exact Hms.o
     ·have p4:((c.toNat:Int)==9)=false:=bF (by omega);by_cases c5:c.toNat<32\/c.toNat=127
      ·have Hes:=hid (Jl c1 c3 c4 c5);have q1:c.toNat / 16<16:=by omega
       have q2:c.toNat % 16<16:=by omega
       have k1:∀w,(binOp .shr 5 (.int .u8 (c.toNat:Int)) (.int .u64 4)).run Tryz.prog w= .ok (.int .u8 ((c.toNat:Int) / 16)) w:=Ez c;have k3:∀w,(Instr.index 9 (.string ⟨#[48,49,50,51,52,53,54,55,56,57,97,98,99,100,101,102]⟩) (.int .u8 ((c.toNat:Int) / 16))).run Tryz.prog w= .ok (.int .u8 ((nE[c.toNat / 16]!).toNat:Int)) w:=lB (s:=hexes) (k:=c.toNat / 16) (c:=nE[c.toNat / 16]!) .u8 (by rw[<-ui q1];exact aAg (by exact q1))
       have k4:∀w,(Instr.index 9 (.string ⟨#[48,49,50,51,52,53,54,55,56,57,97,98,99,100,101,102]⟩) (.int .u8 (bits BinOp.and IntKind.u8 (c.toNat:Int) 15))).run Tryz.prog w= .ok (.int .u8 ((nE[c.toNat % 16]!).toNat:Int)) w:=by
        rw[DR c];exact lB (s:=hexes) (k:=c.toNat % 16) (c:=nE[c.toNat % 16]!) .u8 (by rw[<-ui q2];exact aAg (by exact q2))
       obtain ⟨h1,hh1⟩:=ex (nE[c.toNat / 16]!);obtain ⟨h2,hh2⟩:=ex (nE[c.toNat % 16]!);rw[<-hh1]at k3 Hes;rw[<-hh2]at k4 Hes;clear hh1 hh2 q1 q2;have HownD:=hid (fun nd o=>(HD.o.drewN nd).row.alloc o);have HendD:=hid (fun (news:List UInt8) (hq:jg c=news) nd o v' w2 a1 a2 a3=>show k+1<=n/\RB w w2 v' (iG s.data.toList (k+1)) from ⟨Hkn.o,by rw[Hnx.o,hq];exact (HD.o.drewN nd).apps (o:=o) (v':=v') (w2:=w2) (news:=news) a1 a2 a3⟩)
       have Harr:=hid (show (#[.int .u8 92,.int .u8 120,.int .u8 (h1.toNat:Int),.int .u8 (h2.toNat:Int)]:Array Value).toList=Lib.byteCells [92,120,h1,h2] from rfl);by_cases c6:c.toNat<32
       ·have p5:decide ((c.toNat:Int)<32)=true:=dT (by omega);clear c1 c3 c4 c5 c6 hix hcl;go_wp2
        go_region_law (refine mQ rfl _ _ rfl v2 (iG s.data.toList k) rfl (HownD.o _ _) wr.heap.size 4 [92,120,h1,h2] #[.int .u8 92,.int .u8 120,.int .u8 (h1.toNat:Int),.int .u8 (h2.toNat:Int)] rfl rfl (ah _) Harr.o (Hrm.o 4 (by decide)) ?_;intro v' w2 own2 gr2 new2;have HE:=hid (HendD.o [92,120,h1,h2] Hes.o _ _ _ _ own2 gr2 new2);clear own2 gr2 new2)
        all_goals
         go_wp2;go_roundw
         case rel=>exact ⟨_,k+1,rfl,Hgo.o,HE⟩
         case measure=>exact Hms.o
       ·have p5:decide ((c.toNat:Int)<32)=false:=dF (by omega);have p6:((c.toNat:Int)==127)=true:=by rw[beq_iff_eq];omega
        clear c1 c3 c4 c5 c6 hix hcl;go_wp2
        go_region_law (refine mQ rfl _ _ rfl v2 (iG s.data.toList k) rfl (HownD.o _ _) wr.heap.size 4 [92,120,h1,h2] #[.int .u8 92,.int .u8 120,.int .u8 (h1.toNat:Int),.int .u8 (h2.toNat:Int)] rfl rfl (ah _) Harr.o (Hrm.o 4 (by decide)) ?_;intro v' w2 own2 gr2 new2;have HE:=hid (HendD.o [92,120,h1,h2] Hes.o _ _ _ _ own2 gr2 new2);clear own2 gr2 new2)
        all_goals
         go_wp2;go_roundw
         case rel=>exact ⟨_,k+1,rfl,Hgo.o,HE⟩
         case measure=>exact Hms.o
      ·have Hes:=hid (Jm c1 c3 c4 c5);have p5:decide ((c.toNat:Int)<32)=false:=dF (by omega);have p6:((c.toNat:Int)==127)=false:=bF (by omega);clear c1 c3 c4 c5;have Harr:=hid (show (#[.int .u8 (c.toNat:Int)]:Array Value).toList=Lib.byteCells [c] from rfl);clear hix hcl
       go_wp2_with (at_builtin;refine eX rfl _ _ rfl v2 (iG s.data.toList k) rfl (Hown.o _) wr.heap.size 1 [c] #[.int .u8 (c.toNat:Int)] rfl rfl (ah _) Harr.o (Hrm.o 1 (by decide)) ?_;intro v' w2 own2 gr2 new2;have HE:=hid (Hend.o [c] Hes.o _ _ _ own2 gr2 new2);clear own2 gr2 new2)
       go_roundw
       case rel=>exact ⟨_,k+1,rfl,Hgo.o,HE⟩
       case measure=>exact Hms.o
  ·have tk:decide (k<n)=false:=dF hk;have Hown:=hid (fun o=>H.o.2.row.alloc o);have Hend:=hid (fun o v' w2 a1 a2 a3=>show RB w w2 v' (fU s.data.toList) from by
    have:=H.o.2.apps (o:=o) (v':=v') (w2:=w2) (news:=[34]) a1 a2 a3;rw[Hall.o k (by omega)]at this;exact this)
   have Hrm:=hid (show (iG s.data.toList k).length+1<=1000000000 by have:=Hlen.o k;omega);have Harr:=hid (show (#[.int .u8 34]:Array Value).toList=Lib.byteCells [34] from rfl);clear H hk Hlen Hall hix
   go_wp2_with (at_builtin;refine eX rfl _ _ rfl v2 (iG s.data.toList k) rfl (Hown.o _) wr.heap.size 1 [34] #[.int .u8 34] rfl rfl (ah _) Harr.o Hrm.o ?_;intro v' w2 own2 gr2 new2;have HE:=hid (Hend.o _ _ _ own2 gr2 new2);have hc:=jG HE.o.row;clear own2 gr2 new2)
   go_ret;exact ⟨rfl,HE.o.below⟩
theorem KX:Maps.Keyed Tryz.prog 9 :=Maps.string_keyed Tryz.underlying9
def Had (w:World) (b:Nat) (had:List ByteArray):Prop:=
 ∃(n:Nat) (D:DataW Unit),w.ownsMap Tryz.prog 9 (plainElem Tryz.prog 4) b n D/\n<=had.length/\
  ∀s:ByteArray,D.atKey (.string s.data.toList) (.lit (.bool false))= .lit (.bool (decide (s∈had)))
theorem Had.lt {w:World} {b:Nat} {had:List ByteArray} (h:Had w b had):b<w.heap.size:=by
 obtain ⟨n,D,h,_⟩:=h;exact h.lt
theorem Had.made (w:World):Had (w.alloc (.map #[] 0)) w.heap.size []:=
 ⟨0,.map [],World.ownsMap_made w _ _ _,aAa _,fun s=>by
  rw[WideAt.atKey_none (entries:=[]) _ (fun p hp=>by cases hp)];simp⟩
theorem Had.frame {w w':World} {b:Nat} {had:List ByteArray} (h:Had w b had) (hk:w'.heap[b]? =w.heap[b]?):Had w' b had:=by
 obtain ⟨n,D,⟨es,clock,hb,r⟩,h⟩:=h;exact ⟨n,D,⟨es,clock,hk.trans hb,r⟩,h⟩
theorem Had.kept {w w':World} {b:Nat} {had:List ByteArray} {row:Option Nat} (h:Had w b had) (hg:w.grownBy w' row) (hne:some b≠row):Had w' b had:=by
 obtain ⟨n,D,h,r⟩:=h;exact ⟨n,D,h.kept hg hne,r⟩
theorem Had.alloc {w:World} {b:Nat} {had:List ByteArray} (h:Had w b had) (o:Obj):Had (w.alloc o) b had:=h.kept (World.grownBy_alloc w o none) (by simp)
theorem Had.setCell {w:World} {b:Nat} {had:List ByteArray} (h:Had w b had) {a:Addr} (ha:b≠a.block) (u:Value):Had (w.setCell a u) b had:=by
 obtain ⟨n,D,h,r⟩:=h;exact ⟨n,D,h.setCell ha u,r⟩
theorem JS (w:World):(zeroValue 4).run Tryz.prog w= .ok (.bool false) w:=by
 kernel_rfl
theorem wg {v:Value} {z:DataW Unit×List MemPlace} (h:plainElem Tryz.prog 4 v=some z):∃x,v= .bool x/\z=(.lit (.bool x),[]):=by
 have hb: Tryz.prog.underlying 4 =some .bool:= Tryz.underlying4;generalize Tryz.prog=P at*;unfold plainElem at h;rw[hb]at h;cases v<;>simp at h
 subst h;exact ⟨_,rfl,rfl⟩
theorem Had.look {w:World} {b:Nat} {had:List ByteArray} (h:Had w b had) (s:ByteArray) (hs:s.size<=maxLen):
 (Instr.lookup 155 (.map (some b)) (.string s) false).run Tryz.prog w= .ok (.bool (decide (s∈had))) w:=by
 obtain ⟨n,D,hown,_,hat⟩:=h;obtain ⟨v,ps,hrun,hv⟩:=hown.lookup KX Tryz.underlying155 (JS w) (plainElem_bool Tryz.underlying4 false) (key:= .string s) (Go.WideMaps.keyOf_string_mk Tryz.underlying9 hs);obtain ⟨x,rfl,hx⟩:=wg hv;simp only[Prod.mk.injEq]at hx;have:=hx.1.symm.trans (hat s);simp only[DataW.lit.injEq,Lit.bool.injEq]at this;rw[hrun,this]
theorem j5 {s t:ByteArray} (h:s.data.toList=t.data.toList):s=t:=by
 cases s;cases t;simp only[ByteArray.mk.injEq];exact Array.ext' h
theorem wV {w:World} {ops:Array Oper} {rest:List Oper} {o:Oper} {a:Act} {Q:Exit->Act->World->Prop} (hg:o.guard=none) (m x v:Operand)
 (hop:o.op=Op.mapUpdate 155 m x v) (b:Nat) (had:List ByteArray) (hm:a.eval m= .map (some b)) (h:Had w b had) (hn:had.length<=1048576) (s:ByteArray) (hs:s.size<=maxLen) (hx:a.eval x= .string s) (hv:a.eval v= .bool true)
 (hK:∀w',Had w' b (s::had)->w.grownBy w' (some b)->wpList Tryz.prog ops Q rest (a.put o.dst undef) w'):wpList Tryz.prog ops Q (o::rest) a w:=by
 obtain ⟨n,D,hown,hle,hat⟩:=h;refine wpList_mapUpdate_own w hg m x v 155 hop 9 4 KX Tryz.underlying155 _ b n D hm hown (by unfold maxLen;omega) _ _ (.string s.data.toList) hx hv (Go.WideMaps.keyOf_string_mk Tryz.underlying9 hs) (.lit (.bool true)) [] (plainElem_bool Tryz.underlying4 true) fun w' h1 h2=>hK w' ⟨n+1,_,h1,by simp;omega,fun t=> ?_⟩ h2
 by_cases e:t=s
 ·subst e;rw[Maps.atKey_put_same hown.isMap (show WideAt.IsKeyLit (.string t.data.toList) from trivial)];simp
 ·rw[Maps.atKey_put_other (fun q=>e (j5 (by simpa using q))),hat t];simp[e]
theorem oy {a b:ByteArray} (h:a=b):Ending.returned (.string a)= .returned (.string b):=by rw[h]
theorem yy (s:ByteArray):(⟨(s.data.toList).toArray⟩:ByteArray)=s:=by
 cases s;simp
theorem CQ {s:ByteArray} (h0:0<s.size) (h1:s.size<=64) (h2:s.data.toList.all cG=true):s=⟨(ly s.data.toList).toArray⟩:=by
 unfold ly;rw[if_pos ⟨fun e=>by rw[<-an,e]at h0;simp at h0,by rw[an];exact h1,h2⟩,yy]
theorem rS {s:ByteArray} (h:¬(s.data.toList≠[]/\s.size<=64/\s.data.toList.all cG=true)):(⟨(fU s.data.toList).toArray⟩:ByteArray)=⟨(ly s.data.toList).toArray⟩:=by
 unfold ly;rw[an,if_neg h]
theorem CR {s:ByteArray} {k:Nat} {c:UInt8} (hc:s.data.toList[k]? =some c) (h:cG c=false):(⟨(fU s.data.toList).toArray⟩:ByteArray)=⟨(ly s.data.toList).toArray⟩:=
 rS (fun q=>by
  have:=List.all_eq_true.1 q.2.2 c (List.mem_of_getElem? hc);rw[h]at this;cases this)
theorem Jp (w:World) (s:ByteArray) (hs:s.size<=1048576):
 Calls Tryz.prog 99 #[.string s] w fun r w'=>r= .returned (.string ⟨(ly s.data.toList).toArray⟩)/\Below w.heap.size w w':=by
 have Hq:=hid (xL w s (by omega));by_cases h0:s=⟨#[]⟩
 ·obtain ⟨k4,k5,k6⟩:=gz h0;have He:=hid (rS (s:=s) (fun q=>q.1 (by rw[h0])));clear h0 hs;go_enter Tryz.func99,Tryz.ntmps99
  go_wp2_with fail
  refine Hq.o.mono ?_;rintro r w1 ⟨rfl,hb⟩;have Hb:=hid hb;clear hb Hq;go_wp2;go_ret;exact ⟨oy He.o,Hb.o⟩
 ·obtain ⟨k4,k5,k6⟩:=gH h0;have hp:0<s.size:=by
   rcases Nat.eq_zero_or_pos s.size with e|e
   ·exact absurd (j5 (s:=s) (t:=⟨#[]⟩) (List.eq_nil_of_length_eq_zero (by rw[an];exact e))) h0
   ·exact e
  by_cases h64:64<s.size
  ·have t1:decide (64<(s.size:Int))=true:=dT (by omega);have He:=hid (rS (s:=s) (fun q=>by omega));clear h0 hs hp h64;go_enter Tryz.func99,Tryz.ntmps99
   go_wp2_with fail
   refine Hq.o.mono ?_;rintro r w1 ⟨rfl,hb⟩;have Hb:=hid hb;clear hb Hq;go_wp2;go_ret;exact ⟨oy He.o,Hb.o⟩
  ·have t1:decide (64<(s.size:Int))=false:=dF (by omega);obtain ⟨n,hn⟩:=ex (s.size);have Hn:=hid hn;obtain ⟨l,hl⟩:=ex (s.data.toList);have Hl:=hid hl;have Hp:=hid hp;have H64:=hid h64;clear hn hl hs hp h0 h64;go_enter Tryz.func99,Tryz.ntmps99;go_wp2
   go_loop [16] (fun v=>∃k:Nat,v= .int .i64 (k:Int)/\Hid (k<=n/\∀(j:Nat) (c:UInt8),j<k->l[j]? =some c->cG c=true)) (fun v=>n-(intOf v).toNat)
   case atStart=>exact ⟨0,rfl,hid ⟨Nat.zero_le _,fun j c h=>absurd h (Nat.not_lt_zero _)⟩⟩
   case round=>
    clear k4 k5 k6 t1;obtain ⟨k,rfl,H⟩:=hrel;have hn:n=s.size:=Hn.o;have hl:l=s.data.toList:=Hl.o;have h64:=H64.o;by_cases hkn:k<n
    ·obtain ⟨c,hc⟩:=dL (s:=s) (by rw[<-hn];exact hkn);have hidx:=aN (s:=s) (k:Int) rfl hc;have b3:(k:Int)<(s.size:Int):=by omega
     have wk:=aW (z:=(k:Int)+1) (by omega) (by omega);have Hms:=hid (df hkn wk);have Hgo:=hid (fh wk);rcases mG c with ⟨hch,h⟩|⟨hch,h⟩
     ·rcases h with ⟨g0,g1,g2,k0,k1,k2,e0,e1,e2⟩|⟨g0,g1,g2,k0,k1,k2,e0,e1,e2⟩|⟨g0,g1,g2,k0,k1,k2,e0,e1,e2⟩|⟨g0,g1,g2,k0,k1,k2,e0,e1,e2⟩|⟨g0,g1,g2,k0,k1,k2,e0,e1,e2⟩|⟨g0,g1,g2,k0,k1,k2,e0,e1,e2⟩
      all_goals
       have He:=hid (show k+1<=n/\∀(j:Nat) (c:UInt8),j<k+1->l[j]? =some c->cG c=true from ⟨hkn,fun j d hj hd=>by
        by_cases e:j=k
        ·subst e;rw[hl,hc]at hd;obtain rfl:=aAf hd;exact hch
        ·exact H.o.2 j d (by omega) hd⟩)
       clear hn hl h64 hkn hc hch H wk Hq;go_wp2;go_round
       case rel=>exact ⟨k+1,Hgo.o,He⟩
       case measure=>exact Hms.o
     ·rcases h with ⟨g0,g1,g2,k0,k1,k2,e0,e1,e2⟩|⟨g0,g1,g2,k0,k1,k2,e0,e1,e2⟩|⟨g0,g1,g2,k0,k1,k2,e0,e1,e2⟩|⟨g0,g1,g2,k0,k1,k2,e0,e1,e2⟩|⟨g0,g1,g2,k0,k1,k2,e0,e1,e2⟩|⟨g0,g1,g2,k0,k1,k2,e0,e1,e2⟩
      all_goals
       have He:=hid (CR hc hch);clear hn hl h64 hkn hc hch H wk
       go_wp2_with fail
       refine Hq.o.mono ?_;rintro r w1 ⟨rfl,hb⟩;have Hb:=hid hb;clear hb Hq;go_wp2;go_ret;exact ⟨oy He.o,Hb.o⟩
    ·have b3:(s.size:Int)<=(k:Int):=by omega
     have hall:s.data.toList.all cG=true:=tQ fun j c hj hc=>H.o.2 j c (by rw[an]at hj;omega) (by rw[hl];exact hc);have He:=hid (CQ Hp.o (by omega) hall);clear hn hl h64 hkn H hall Hq;go_wp2;go_ret;exact ⟨oy He.o,aAb _ _⟩
theorem Em {nd:Nd} (h:nd.quoted=true):dQ nd=32::fU nd.text.data.toList:=by unfold dQ;rw[if_pos h]
theorem El {nd:Nd} (h:nd.quoted=false) (h2:nd.text≠⟨#[]⟩):dQ nd=32::nd.text.data.toList:=by
 unfold dQ;rw[if_neg (by rw[h];decide),if_pos (fun e=>h2 (j5 (t:=⟨#[]⟩) e))]
theorem En {nd:Nd} (h:nd.quoted=false) (h2:nd.text=⟨#[]⟩):dQ nd=[]:=by
 unfold dQ;rw[if_neg (by rw[h];decide),if_neg (fun e=>e (by rw[h2]))]
theorem sm (x y:List UInt8) (h:x.length+y.length<=4000000000):∀w,(Op.stringOp .add ⟨x.toArray⟩ ⟨y.toArray⟩).run Tryz.prog w= .ok (.string ⟨(x++y).toArray⟩) w:=by
 intro w;rw[run_string_add_sum w _ _ (by simp[ByteArray.size];omega),ByteArray.mk_append_mk]
theorem DL (x:List UInt8) (s:ByteArray) (h:x.length+s.size<=4000000000):∀w,(Op.stringOp .add ⟨x.toArray⟩ s).run Tryz.prog w= .ok (.string ⟨(x++s.data.toList).toArray⟩) w:=by
 intro w;have:=sm x s.data.toList (by rw[an];exact h) w;rw[yy]at this;exact this
theorem iF (l:List UInt8):(fU l).length<=4*l.length+2:=by
 have:=se l;unfold fU;rw[aAc,aAd,List.length_singleton];omega
theorem yl (w:World) (m:NdM) (hm:m.Ok w):
 Calls Tryz.prog 97 #[m.v] w fun r w'=>r= .returned (.string ⟨(dQ m.nd).toArray⟩)/\Below w.heap.size w w':=by
 obtain ⟨ao,c,hkv,_⟩:=gQ hm.kids;have hts:=hm.text;obtain ⟨⟨kind,key,text,quoted,line,kids⟩,kv⟩:=m;simp only at hkv hts;subst hkv;unfold NdM.v;simp only;generalize kids.length=n at*;have Hb0:=hid (fun o=>(aAb w.heap.size w).alloc (aAa _) o);cases quoted with
 |true=>
  have Hq:=hid (fun w1=>xL w1 text (by omega));have He:=hid (Em (nd:=⟨kind,key,text,true,line,kids⟩) rfl);have hadd:=sm [32] (fU text.data.toList) (by have:=iF text.data.toList;rw[an]at this;simp;omega);clear hm hts;go_enter Tryz.func97,Tryz.ntmps97
  go_wp2_with fail
  refine (Hq.o _).mono ?_;rintro r w1 ⟨rfl,hb⟩;have Hb:=hid ((Hb0.o _).trans (hb.mono (Below.size (Hb0.o _))));clear hb Hq Hb0;go_wp2;go_ret;exact ⟨oy (by rw[He.o]),Hb.o⟩
 |false=>
  by_cases ht:text=⟨#[]⟩
  ·obtain ⟨e1,e2,e3⟩:=gz ht;have He:=hid (En (nd:=⟨kind,key,text,false,line,kids⟩) rfl ht);clear hm hts ht;go_enter Tryz.func97,Tryz.ntmps97;go_wp2;go_ret;exact ⟨oy (by rw[He.o]),Hb0.o _⟩
  ·obtain ⟨e1,e2,e3⟩:=gH ht;have He:=hid (El (nd:=⟨kind,key,text,false,line,kids⟩) rfl ht);have hadd:=DL [32] text (by simp;omega);clear hm hts ht;go_enter Tryz.func97,Tryz.ntmps97;go_wp2;go_ret;exact ⟨oy (by rw[He.o]),Hb0.o _⟩
theorem ou (w:World) (ty:TypeId) (v:Value) (l:List UInt8) (hown:w.ownsRow 0 5 1 v l.length (Lib.byteCells l)) (s:ByteArray) (hlen:l.length+s.size<=1000000000):
 ∃v' w',(Builtin.append_ #[42,9] ty #[v,.string s]).run Tryz.prog w= .ok v' w'/\w'.ownsRow 0 5 1 v' (l++s.data.toList).length (Lib.byteCells (l++s.data.toList))/\w.grownBy w' v.ownBlock/\
  (∀g,v'.ownBlock=some g->v.ownBlock=some g\/w.heap.size<=g):=by
 obtain ⟨i0,hi5,hz0,hz1,hz2⟩:=info_parts binfo;have e:Lib.byteCells (l++s.data.toList)=Lib.byteCells l++Lib.strCells s:=by simp[Lib.byteCells,Lib.strCells]
 have e2:(l++s.data.toList).length=l.length+s.size:=by rw[aAc,an]
 have h63:l.length+s.size<=maxLen:=by unfold maxLen;omega
 rw[e,e2];rcases hown.2 with ⟨hv,hn0⟩|⟨g,cap,cur,hv,hbg,hg,hnc,hcm,hcs,htake⟩
 ·obtain ⟨v',w',hr,ho,hgr,_⟩:=Lib.run_append_own_string (P:= Tryz.prog) w w.heap.size 42 9 ty 5 i0 Tryz.underlying42 Tryz.underlying9 hi5 hz0 hz1 hz2 v l.length (Lib.byteCells l) ⟨hown.1,.inl ⟨hv,hn0⟩⟩ s h63 (by omega) (aAa _);exact ⟨v',w',hr,gn ho 0 (Nat.zero_le _),hgr,fun g hg=> .inr (ho.lt g hg).1⟩
 ·obtain ⟨v',w',hr,ho,hgr,_⟩:=Lib.run_append_own_string (P:= Tryz.prog) w 0 42 9 ty 5 i0 Tryz.underlying42 Tryz.underlying9 hi5 hz0 hz1 hz2 v l.length (Lib.byteCells l) hown s h63 (by omega) (Nat.zero_le _);refine ⟨v',w',hr,ho,hgr,fun g' hg'=> ?_⟩;subst hv;by_cases hroom:l.length+s.size<=cap
  ·have hr2:=Lib.run_append_room_string (P:= Tryz.prog) w 42 9 ty 5 i0 Tryz.underlying42 Tryz.underlying9 hi5 hz1 g l.length cap cur hg s hroom (by omega);rw[hr]at hr2;simp only[Result.ok.injEq]at hr2;rw[hr2.1]at hg';exact .inl hg'
  ·have hr2:=Lib.run_append_grow_string (P:= Tryz.prog) w 42 9 ty 5 i0 (.int .u8 0) Tryz.underlying42 Tryz.underlying9 hi5 hz0 ⟨g,0,none⟩ l.length cap (Lib.byteCells l) (by rw[hz1];simp[Lib.byteCells]) (hown.cells (g:=g) rfl) s (by omega) (by omega) (by rw[hz2];exact growslice_fits (by omega) (by omega));rw[hr]at hr2;simp only[Result.ok.injEq]at hr2;rw[hr2.1]at hg'
   simp only[Value.ownBlock,Option.some.injEq]at hg';exact .inr (by omega)
theorem vz {w:World} {ops:Array Oper} {rest:List Oper} {o:Oper} {a:Act} {Q:Exit->Act->World->Prop} (hgd:o.guard=none) (s x:Operand)
 (ho:o.op= .call {callee:= .builtin .append,args:=#[s,x],argTypes:=#[42,9]})
 (v:Value) (l:List UInt8) (hs:a.eval s=v) (hown:w.ownsRow 0 5 1 v l.length (Lib.byteCells l)) (t:ByteArray) (hx:a.eval x= .string t) (hlen:l.length+t.size<=1000000000) (q:Nat) (hq:q=(l++t.data.toList).length)
 (h:∀ao' c' w',w'.ownsRow 0 5 1 (.slice ao' q c') (l++t.data.toList).length (Lib.byteCells (l++t.data.toList))->w.grownBy w' v.ownBlock->(∀g,(Value.slice ao' q c').ownBlock=some g->v.ownBlock=some g\/w.heap.size<=g)->
  wpList Tryz.prog ops Q rest (a.put o.dst (.slice ao' q c')) w'):wpList Tryz.prog ops Q (o::rest) a w:=by
 refine wpList_plain hgd fun K hK=> ?_;obtain ⟨v',w',hr,h2,h3,h4⟩:=ou w o.type v l hown t hlen;obtain ⟨ao',c',rfl⟩:∃ao' c',v'= .slice ao' q c':=by
  rcases h2.2 with ⟨hv,hn⟩|⟨g,cap,cur,hv,_⟩
  ·exact ⟨none,0,by rw[hv,hq,hn]⟩
  ·exact ⟨_,_,by rw[hq];exact hv⟩
 unfold Oper.wp execOp;simp only[ho,resolve,invoke,builtin,Sem.run_bind,Sem.run_pure,Result.andThen_ok,List.map_toArray,List.map_cons,List.map_nil,hs,hx,hr];exact hK _ _ (h ao' c' w' h2 h3 h4)
structure Pg (w:World) (pb:Nat) (v:Value) (l:List UInt8):Prop where
 blk:w.heap[pb]? =some (.cells #[v] 114 (0,0))
 row:w.ownsRow 0 5 1 v l.length (Lib.byteCells l)
 ne:∀g,v.ownBlock=some g->g≠pb
 len:l.length<=6000000
structure PgTo (w:World) (pb:Nat) (v:Value) (w':World) (v':Value) (l':List UInt8):Prop where
 pg:Pg w' pb v' l'
 mod:Mod (fun k=>k=pb\/v.ownBlock=some k) w w'
 new:∀g,v'.ownBlock=some g->v.ownBlock=some g\/w.heap.size<=g
theorem Pg.lt {w:World} {pb:Nat} {v:Value} {l:List UInt8} (h:Pg w pb v l):pb<w.heap.size:=ag h.blk
theorem Pg.later {w w':World} {pb:Nat} {v:Value} {l:List UInt8} (h:Pg w pb v l) (hb:Below w.heap.size w w'):Pg w' pb v l:=
 ⟨(hb.block _ h.lt).trans h.blk,jS h.row hb,h.ne,h.len⟩
theorem PgTo.refl {w:World} {pb:Nat} {v:Value} {l:List UInt8} (h:Pg w pb v l):PgTo w pb v w v l:=⟨h,Mod.refl _ _,fun g hg=> .inl hg⟩
theorem PgTo.trans {w w1 w2:World} {pb:Nat} {v v1 v2:Value} {l1 l2:List UInt8} (h1:PgTo w pb v w1 v1 l1) (h2:PgTo w1 pb v1 w2 v2 l2):PgTo w pb v w2 v2 l2:=
 ⟨h2.pg,h1.mod.trans' h2.mod (fun i hi hq=>by
  rcases hq with e|e
  ·exact .inl e
  ·rcases h1.new i e with q|q
   ·exact .inr q
   ·omega),fun g hg=>by
  rcases h2.new g hg with e|e
  ·exact h1.new g e
  ·exact .inr (aAe h1.mod.size e)⟩
theorem PgTo.below {w w1:World} {pb:Nat} {v:Value} {l:List UInt8} (h:Pg w pb v l) (hb:Below w.heap.size w w1):PgTo w pb v w1 v l:=
 ⟨h.later hb,Mod.ofBelow hb (fun k hk hge=>by omega),fun g hg=> .inl hg⟩
theorem PgTo.alloc {w w1:World} {pb:Nat} {v v1:Value} {l:List UInt8} (h:PgTo w pb v w1 v1 l) (o:Obj):PgTo w pb v (w1.alloc o) v1 l:=
 h.trans (PgTo.below h.pg ((aAb _ _).alloc (aAa _) o))
theorem PgTo.put {w w1 w2:World} {pb:Nat} {v v1 v2:Value} {l:List UInt8} {t:ByteArray} (h:PgTo w pb v w1 v1 l) (hl:l.length<=65536) (ht:t.size<=5000000)
 (own2:w2.ownsRow 0 5 1 v2 (l++t.data.toList).length (Lib.byteCells (l++t.data.toList))) (gr2:w1.grownBy w2 v1.ownBlock) (new2:∀g,v2.ownBlock=some g->v1.ownBlock=some g\/w1.heap.size<=g):
 PgTo w pb v (w2.setCell ⟨pb,0,none⟩ v2) v2 (l++t.data.toList):=by
 have hlt:=h.pg.lt;have hm:Mod (fun k=>v1.ownBlock=some k) w1 w2:=(Mod.refl _ _).grown gr2 (fun k e _=>e);have hb:=hm.heap h.pg.blk (fun e=>h.pg.ne pb e rfl);have hne:∀g,v2.ownBlock=some g->g≠pb:=fun g hg=>by
  rcases new2 g hg with e|e
  ·exact h.pg.ne g e
  ·omega
 have hm2:Mod (fun k=>k=pb\/v1.ownBlock=some k) w1 (w2.setCell ⟨pb,0,none⟩ v2):=(hm.mono (fun i _ e=> .inr e)).setCell _ _ (fun _=> .inl rfl);refine h.trans ⟨⟨by rw[aE hb];rfl,cL own2 fun g hg=>aO _ _ (hne g hg),hne,by rw[aAc,an];omega⟩,hm2,new2⟩
def j8 (out:List UInt8) (ss:List ByteArray):List UInt8:=ss.foldl (fun o s=>fJ o s.data.toList) out
theorem zx (out:List UInt8) (s:ByteArray) (r:List ByteArray):j8 out (s::r)=j8 (fJ out s.data.toList) r:=rfl
def aR (s:ByteArray):List Value:=[.string s]
theorem qs {w:World} {v:Value} {l:List ByteArray} (h:SlR w v 1 l aR):∃ao c,v= .slice ao l.length c/\l.length<=1048576/\
 (0<l.length->∃b o,ao=some ⟨b,o,none⟩/\b<w.heap.size/\∀i x,l[i]? =some x->w.cell? ⟨b,o+i,none⟩=some (.string x)):=by
 obtain ⟨ao,c,hv,hl,hat⟩:=h;refine ⟨ao,c,hv,hl,fun h0=> ?_⟩;obtain ⟨b,o,ha,hlt,hc⟩:=hat h0;refine ⟨b,o,ha,hlt,fun i x hx=> ?_⟩;have:=hc i x hx 0 _ rfl;rw[Nat.mul_one,Nat.add_zero]at this;exact this
theorem Kt (w:World) (pb:Nat) (v:Value) (l:List UInt8) (h:Pg w pb v l) (pv:Value) (ss:List ByteArray) (hs:SlR w pv 1 ss aR) (hsz:∀s∈ss,s.size<=5000000)
 (hne:∀b o n c,pv= .slice (some ⟨b,o,none⟩) n c->b≠pb/\v.ownBlock≠some b):
 Calls Tryz.prog 96 #[.pointer (some ⟨pb,0,none⟩),pv] w fun r w'=>r= .returned (.tuple #[])/\∃v',PgTo w pb v w' v' (j8 l ss):=by
 obtain ⟨ao,cap,rfl,hl,hat⟩:=qs hs;obtain ⟨n,hn⟩:=ex (ss.length);rw[<-hn]at hat hne hl |-;have Hn:=hid hn;have Hl:=hid hl;have Hat:=hid hat;have Hne:=hid hne;have Hsz:=hid hsz;have H0:=hid (PgTo.refl h);clear hs hn hl hat hne hsz h;go_enter Tryz.func96,Tryz.ntmps96;go_wp2
 go_loopw [8] (fun vi wr=>∃(k:Nat) (v1:Value) (l1:List UInt8),vi= .int .i64 (k:Int)/\Hid (k<=n/\PgTo w pb v wr v1 l1/\j8 l ss=j8 l1 (ss.drop k))) (fun vi _=>n-(intOf vi).toNat)
 case atStart=>exact ⟨0,v,l,rfl,hid ⟨Nat.zero_le _,H0.o,rfl⟩⟩
 case round=>
  clear H0;obtain ⟨k,v1,l1,rfl,H⟩:=hrel;by_cases hk:k<n
  ·have tk:decide (k<n)=true:=dT hk;have bk:(k:Int)<(n:Int):=by omega
   obtain ⟨s,hs⟩:∃s,ss[k]? =some s:=au (by have:=Hn.o;omega);obtain ⟨b,o,rfl,hb,hc⟩:=Hat.o (by omega);obtain ⟨nb1,nb2⟩:=Hne.o b o n cap rfl;have c1:=H.o.2.1.mod.cell (hc k s hs) (by
    rintro (e|e)
    ·exact nb1 e
    ·exact nb2 e)
   obtain ⟨hlt,he⟩:=aAh hs;have hsm:=Hsz.o s (List.mem_of_getElem? hs);have hdr:ss.drop k=s::ss.drop (k+1):=by rw[List.drop_eq_getElem_cons hlt,he]
   have hst:=H.o.2.2;rw[hdr,zx]at hst;obtain ⟨Hms,Hgo⟩:=aM (k:=k) (n:=n) hk (by have:=Hl.o;omega);have hpg:=H.o.2.1.pg;have p0:=af hpg.blk 0;have pf:=ai hpg.blk 0;simp at p0;obtain ⟨ao1,c1v,hv1⟩:∃ao c,v1= .slice ao l1.length c:=by
    rcases hpg.row.2 with ⟨hv,hn⟩|⟨g,cap,cur,hv,_⟩
    ·exact ⟨none,0,by rw[hv,hn]⟩
    ·exact ⟨_,_,hv⟩
   have Hrow:=hid hpg.row;have Hlen:=hid hpg.len;have Hk:=hid hk;have HP:=hid H.o.2.1;subst hv1;by_cases hr:l1.length<=65536
   ·have t1:decide ((l1.length:Int)<=65536)=true:=dT (by omega);have Hend:=hid (fun v2 w2 a1 a2 a3=>show k+1<=n/\PgTo w pb v (w2.setCell ⟨pb,0,none⟩ v2) v2 (l1++s.data.toList)/\j8 l ss=j8 (l1++s.data.toList) (ss.drop (k+1)) from ⟨Hk.o,HP.o.put (w2:=w2) (v2:=v2) (t:=s) hr hsm a1 a2 a3,by rw[hst];unfold fJ;rw[if_pos hr]⟩);have Hrm:=hid (show l1.length+s.size<=1000000000 by omega);have Hq:=hid (show l1.length+s.size=(l1++s.data.toList).length by rw[aAc,an])
    have Hblk:=hid (fun w2 (a1:World.grownBy wr w2 (Value.slice ao1 l1.length c1v).ownBlock)=>show w2.heap[pb]? =some (.cells #[.slice ao1 l1.length c1v] 114 (0,0)) from ((Mod.refl (fun k=>(Value.slice ao1 l1.length c1v).ownBlock=some k) wr).grown a1 (fun k e _=>e)).heap hpg.blk (fun e=>hpg.ne pb e rfl));clear hpg hst hdr he hlt hs hc hb hk H hsm hr
    go_wp2_with (at_builtin;refine vz rfl _ _ rfl (.slice ao1 l1.length c1v) l1 rfl Hrow.o s rfl Hrm.o (l1.length+s.size) Hq.o ?_;intro ao2 c2 w2 own2 gr2 new2;have HE:=hid (Hend.o _ w2 own2 gr2 new2);have q1:=af (Hblk.o w2 gr2) 0;have q2:=ai (Hblk.o w2 gr2) 0;simp at q1;clear own2 gr2 new2)
    go_roundw
    case rel=>exact ⟨k+1,_,_,Hgo.o,HE⟩
    case measure=>exact Hms.o
   ·have t1:decide ((l1.length:Int)<=65536)=false:=dF (by omega);have Hend:=hid (show k+1<=n/\PgTo w pb v wr (.slice ao1 l1.length c1v) l1/\j8 l ss=j8 l1 (ss.drop (k+1)) from ⟨Hk.o,HP.o,by rw[hst];unfold fJ;rw[if_neg hr]⟩);clear hpg hst hdr he hlt hs hc hb hk H hsm hr;go_wp2;go_roundw
    case rel=>exact ⟨k+1,_,_,Hgo.o,Hend⟩
    case measure=>exact Hms.o
  ·have tk:decide (k<n)=false:=dF hk;have HP:=hid (show ∃v',PgTo w pb v wr v' (j8 l ss) from ⟨v1,by
    have hst:=H.o.2.2;rw[List.drop_eq_nil_of_le (by have:=Hn.o;omega)]at hst;rw[hst];exact H.o.2.1⟩)
   clear H hk Hat Hne;go_wp2
   first|go_end0|refine bodyPost_ret (results_none rfl _ _ _) rfl ?_
   exact ⟨rfl,HP.o⟩
