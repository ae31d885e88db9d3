/-
Parts of a proof.
-/
import Derived.Maps.OwnSet
import Derived.Maps.OwnOps
import Derived.Carry
import Derived.Laws.Concat
import Derived.Test.YtfenoaeoedobmaaGreatDoorOn17
set_option linter.unusedVariables false
set_option linter.unusedSimpArgs false
set_option maxHeartbeats 8000000
set_option maxRecDepth 20000
namespace Go.Proofs.YtfenoaeoedobmaaGreatDoor
open Go Go.RowKit
structure NdAt (w:World) (b p:Nat) (m:NdM):Prop where
 c0:w.cell? ⟨b,p,none⟩=some (.int .i64 m.nd.kind)
 c1:w.cell? ⟨b,p+1,none⟩=some (.string m.nd.key)
 c2:w.cell? ⟨b,p+2,none⟩=some (.string m.nd.text)
 c3:w.cell? ⟨b,p+3,none⟩=some (.bool m.nd.quoted)
 c4:w.cell? ⟨b,p+4,none⟩=some (.int .i64 m.nd.line)
 c5:w.cell? ⟨b,p+5,none⟩=some m.kv
theorem Nds.open {w:World} {v:Value} {ms:List NdM} (h:Nds w v ms):∃ao cap,v= .slice ao ms.length cap/\ms.length<=1048576/\
 (0<ms.length->∃b o,ao=some ⟨b,o,none⟩/\b<w.heap.size/\∀i m,ms[i]? =some m->NdAt w b (o+i*6) m/\m.Ok w):=by
 obtain ⟨ao,cap,hv,hl,bN⟩:=h.sl;refine ⟨ao,cap,hv,hl,fun h0=> ?_⟩;obtain ⟨b,o,ha,aN,hc⟩:=bN h0;exact ⟨b,o,ha,aN,fun i m hm=>⟨⟨hc i m hm 0 _ rfl,hc i m hm 1 _ rfl,hc i m hm 2 _ rfl,hc i m hm 3 _ rfl,hc i m hm 4 _ rfl,hc i m hm 5 _ rfl⟩,h.each m (List.mem_of_getElem? hm)⟩⟩
theorem aL {w:World} {v:Value} {l:List Int} (h:SlR w v 1 l dM):∃ao c,v= .slice ao l.length c/\l.length<=1048576/\
 (0<l.length->∃b o,ao=some ⟨b,o,none⟩/\b<w.heap.size/\∀i x,l[i]? =some x->w.cell? ⟨b,o+i,none⟩=some (.int .i64 x)):=by
 obtain ⟨ao,c,hv,hl,bN⟩:=h;refine ⟨ao,c,hv,hl,fun h0=> ?_⟩;obtain ⟨b,o,ha,aN,hc⟩:=bN h0;refine ⟨b,o,ha,aN,fun i x hx=> ?_⟩;have:=hc i x hx 0 _ rfl;rw[Nat.mul_one,Nat.add_zero]at this;exact this
theorem bL {k n:Nat} (h:k<n) (hk:k<=1048576):Hid (n-(intOf (.int .i64 (wrap64 ((k:Int)+1)))).toNat<n-(intOf (.int .i64 (k:Int))).toNat)/\Hid (Value.int .i64 (wrap64 ((k:Int)+1))= .int .i64 ((k+1:Nat):Int)):=by
 have wk:wrap64 ((k:Int)+1)=(k:Int)+1:=by unfold wrap64;omega
 exact ⟨hid (eJ h wk),hid (g8 wk)⟩
theorem ME {a b:ByteArray} (h:a=b):(a.toList==b.toList)=true:=by rw[h,beq_iff_eq]
theorem Ro {a b:ByteArray} (h:¬a=b):(a.toList==b.toList)=false:=by
 rw[beq_eq_false_iff_ne];intro q;rw[Lib.toList_data,Lib.toList_data]at q;exact h (ByteArray.ext (Array.ext' q))
theorem gN {w:World} {ops:Array Oper} {rest:List Oper} {o:Oper} {a:Act} {Q:Exit->Act->World->Prop} (ln:o.guard=none) (s x:Operand)
 (ho:o.op= .call {callee:= .builtin .append,args:=#[s,x],argTypes:=#[42,42]})
 (v:Value) (l:List UInt8) (hs:a.eval s=v) (dh:w.ownsRow 0 5 1 v l.length (Lib.byteCells l)) (g m:Nat) (news:List UInt8) (arr:Array Value) (hx:a.eval x= .slice (some ⟨g,0,none⟩) m m) (hm:m=news.length)
 (ku:w.heap[g]? =some (.cells arr 5 (0,0))) (eC:arr.toList=Lib.byteCells news) (hlen:l.length+m<=1000000000)
 (h:∀v' w',w'.ownsRow 0 5 1 v' (l++news).length (Lib.byteCells (l++news))->w.grownBy w' v.ownBlock->(∀g,v'.ownBlock=some g->v.ownBlock=some g\/w.heap.size<=g)->
  wpList Tryz.prog ops Q rest (a.put o.dst v') w'):wpList Tryz.prog ops Q (o::rest) a w:=by
 obtain ⟨i0,ug,qL,uD,uC⟩:=info_parts zI;subst hm;have e:Lib.byteCells (l++news)=Lib.byteCells l++Lib.byteCells news:=by simp[Lib.byteCells]
 rw[e,aBj]at h;refine fP w ln s x 42 ho 5 i0 (.int .u8 0) 1 1 Tryz.underlying42 ug qL uD uC rfl (by decide) v l.length (Lib.byteCells l) hs dh (some ⟨g,0,none⟩) news.length news.length (Lib.byteCells news) hx (by simp[Lib.byteCells])
  (fun hn=>by cases hn) (fun ad had=> ?_) (fun u hu=>by
   simp only[Lib.byteCells,List.mem_map]at hu;obtain ⟨c,_,rfl⟩:=hu;rfl) (by unfold maxLen;omega) (by omega) h
 obtain rfl:=aBm had;intro j u hj;have e2:Addr.add ⟨g,0,none⟩ j=⟨g,j,none⟩:=by
  simp[Addr.add];exact fun h=>h.symm
 rw[e2,aa ku,<-Array.getElem?_toList,eC];exact hj
theorem tE {w:World} {ops:Array Oper} {o:Oper} {a:Act} {K:Act->World->Prop} {Q:Exit->Act->World->Prop} {E:Prop} (ln:o.guard=none) (s x:Operand)
 (ho:o.op= .call {callee:= .builtin .append,args:=#[s,x],argTypes:=#[42,42]})
 (v:Value) (l:List UInt8) (hs:a.eval s=v) (dh:w.ownsRow 0 5 1 v l.length (Lib.byteCells l)) (g m:Nat) (news:List UInt8) (arr:Array Value) (hx:a.eval x= .slice (some ⟨g,0,none⟩) m m) (hm:m=news.length)
 (ku:w.heap[g]? =some (.cells arr 5 (0,0))) (eC:arr.toList=Lib.byteCells news) (hlen:l.length+m<=1000000000)
 (h:∀v' w',w'.ownsRow 0 5 1 v' (l++news).length (Lib.byteCells (l++news))->w.grownBy w' v.ownBlock->(∀g,v'.ownBlock=some g->v.ownBlock=some g\/w.heap.size<=g)->
  K (a.put o.dst v') w'):if Region.wanted o (yielded ops a.tmps)=true then Oper.wp Tryz.prog o a w K Q else E:=by
 obtain ⟨i0,ug,qL,uD,uC⟩:=info_parts zI;subst hm;have e:Lib.byteCells (l++news)=Lib.byteCells l++Lib.byteCells news:=by simp[Lib.byteCells]
 rw[e,aBj]at h;refine jU w ln s x 42 ho 5 i0 (.int .u8 0) 1 1 Tryz.underlying42 ug qL uD uC rfl (by decide) v l.length (Lib.byteCells l) hs dh (some ⟨g,0,none⟩) news.length news.length (Lib.byteCells news) hx (by simp[Lib.byteCells])
  (fun hn=>by cases hn) (fun ad had=> ?_) (fun u hu=>by
   simp only[Lib.byteCells,List.mem_map]at hu;obtain ⟨c,_,rfl⟩:=hu;rfl) (by unfold maxLen;omega) (by omega) h
 obtain rfl:=aBm had;intro j u hj;have e2:Addr.add ⟨g,0,none⟩ j=⟨g,j,none⟩:=by
  simp[Addr.add];exact fun h=>h.symm
 rw[e2,aa ku,<-Array.getElem?_toList,eC];exact hj
theorem RB.apps {w wr w2:World} {v v':Value} {l news:List UInt8} {o:Obj} (h:RB w wr v l) (aB:w2.ownsRow 0 5 1 v' (l++news).length (Lib.byteCells (l++news))) (bC:(wr.alloc o).grownBy w2 v.ownBlock) (aA:∀g,v'.ownBlock=some g->v.ownBlock=some g\/(wr.alloc o).heap.size<=g):RB w w2 v' (l++news):=
 RO.app h ((aBi _ wr).alloc (aBh _) o) aB bC aA
theorem RB.lit {w wr:World} (hb:Below w.heap.size w wr) (arr:Array Value) (l:List UInt8) (eC:arr.toList=Lib.byteCells l) (hl:l.length<=1000000):RB w (wr.alloc (.cells arr 5)) (.slice (some ⟨wr.heap.size,0,none⟩) l.length l.length) l:=by
 have gQ:arr.size=l.length:=by rw[<-Array.length_toList,eC];simp[Lib.byteCells]
 refine ⟨hb.alloc hb.size _,?_,fun g hg=> ?_⟩
 ·have:=World.ownsRow_lit (base:=0) (e:= 5) (size:=1) wr arr l.length (Nat.zero_le _) (by unfold maxLen;omega) (by omega);rw[eC]at this;exact this
 ·simp only[Value.ownBlock,Option.some.injEq]at hg;rw[<-hg];exact hb.size
def lD (l:List UInt8) (k:Nat):List UInt8:=34::(l.take k).flatMap ic
theorem JJ {l:List UInt8} {k:Nat} {c:UInt8} (h:l[k]? =some c):lD l (k+1)=lD l k++ic c:=by
 unfold lD;rw[List.take_add_one,h];simp
theorem M9 {l:List UInt8} {k:Nat} (h:l.length<=k):lD l k++[34]=cL l:=by
 unfold lD cL;rw[List.take_of_length_le h]
theorem Py (c:UInt8):(ic c).length<=4:=by
 unfold ic
 repeat' split
 all_goals simp
theorem A8:∀l:List UInt8,(l.flatMap ic).length<=4*l.length
 |[]=>by simp
 |c::r=>by
  have:=Py c;have:=A8 r;rw[List.flatMap_cons,aBj,aBk];omega
theorem M8 {l:List UInt8} (k:Nat) (h:l.length<=100000000):(lD l k).length<=400000001:=by
 have h1:=A8 (l.take k);have h2:(l.take k).length<=l.length:=by rw[List.length_take];omega
 unfold lD;rw[aBk];omega
theorem Jk {k n:Nat} (h:k<n) (hn:n<=1000000000):Hid (n-(intOf (.int .i64 (wrap64 ((k:Int)+1)))).toNat<n-(intOf (.int .i64 (k:Int))).toNat)/\Hid (Value.int .i64 (wrap64 ((k:Int)+1))= .int .i64 ((k+1:Nat):Int)):=by
 have wk:=bK (z:=(k:Int)+1) (by omega) (by omega);exact ⟨hid (eJ h wk),hid (g8 wk)⟩
theorem SP {c:UInt8} (h:c.toNat=34\/c.toNat=92):ic c=[92,c]:=by unfold ic;rw[if_pos h]
theorem SQ {c:UInt8} (h:c.toNat=10):ic c=[92,110]:=by unfold ic;rw[if_neg (by omega),if_pos h]
theorem WY {c:UInt8} (h:c.toNat=9):ic c=[92,116]:=by unfold ic;rw[if_neg (by omega),if_neg (by omega),if_pos h]
theorem WW {c:UInt8} (h1:¬(c.toNat=34\/c.toNat=92)) (h2:¬c.toNat=10) (h3:¬c.toNat=9) (h:c.toNat<32\/c.toNat=127):ic c=[92,120,lJ[c.toNat / 16]!,lJ[c.toNat % 16]!]:=by unfold ic;rw[if_neg h1,if_neg h2,if_neg h3,if_pos h]
theorem WX {c:UInt8} (h1:¬(c.toNat=34\/c.toNat=92)) (h2:¬c.toNat=10) (h3:¬c.toNat=9) (h:¬(c.toNat<32\/c.toNat=127)):ic c=[c]:=by unfold ic;rw[if_neg h1,if_neg h2,if_neg h3,if_neg h]
theorem C2 {n:Nat} (h:n<16):(hexes:ByteArray)[n]'(h)=lJ[n]! :=by
 have:=((by decide):∀m:Fin 16,(hexes:ByteArray)[m.val]'(m.isLt)=lJ[m.val]!) ⟨n,h⟩;exact this
theorem Rj (c:UInt8):∀w,(binOp .shr 5 (.int .u8 (c.toNat:Int)) (.int .u64 4)).run Tryz.prog w= .ok (.int .u8 ((c.toNat / 16:Nat):Int)) w:=by
 intro w;simp[binOp,Op.shift];have e:(2:Int) ^ min 4 IntKind.u8.bits=16:=rfl;rw[e,Int.fdiv_eq_ediv_of_nonneg _ (by decide)]
theorem Te:∀c:Fin 256,bits BinOp.and IntKind.u8 (c.val:Int) 15=((c.val % 16:Nat):Int):=by decide+kernel
theorem P6 (c:UInt8):bits BinOp.and IntKind.u8 (c.toNat:Int) 15=((c.toNat % 16:Nat):Int):=Te ⟨c.toNat,c.toNat_lt⟩
theorem GQ (w:World) (s:ByteArray) (hs:s.size<=100000000):
 Calls Tryz.prog 134 #[.string s] w fun r w'=>r= .returned (.string ⟨(cL s.data.toList).toArray⟩)/\Below w.heap.size w w':=by
 obtain ⟨n,hn⟩:=ex (s.size);have Hn:=hid (show n<=100000000 by omega);have Hl:=hid (show s.data.toList.length=n by rw[aq,hn]);have H0:=hid (RB.lit (aBi w.heap.size w) #[.int .u8 34] [34] rfl (by decide));have Il:=hid (fun (k:Nat) (c:UInt8) (hc:s.data.toList[k]? =some c)=>aU (s:=s) (k:=k) (c:=c) (k:Int) rfl hc);have mA:=hid (fun k (hk:n<=k)=>M9 (l:=s.data.toList) (k:=k) (by rw[Hl.o];exact hk))
 have pW:=hid (fun k=>M8 (l:=s.data.toList) k (by rw[Hl.o];exact Hn.o));have hnz:s.size=n:=hn.symm;clear hs hn;go_enter Tryz.func134,Tryz.ntmps134;go_wp2
 go_loopw [3,9] (fun vv vi wr=>∃(v2:Value) (k:Nat),v2=vv/\vi= .int .i64 (k:Int)/\Hid (k<=n/\RB w wr v2 (lD s.data.toList k))) (fun _ vi _=>n-(intOf vi).toNat)
 case atStart=>exact ⟨_,0,rfl,rfl,hid ⟨Nat.zero_le _,H0.o⟩⟩
 case round=>
  clear H0;obtain ⟨v2,k,rfl,rfl,H⟩:=hrel;by_cases hk:k<n
  ·have tk:decide (k<n)=true:=dT hk;obtain ⟨c,hc⟩:∃c,s.data.toList[k]? =some c:=aF (by rw[Hl.o];exact hk);have hx:=Il.o k c hc;have lH:=JJ hc;obtain ⟨cY,df⟩:=Jk (k:=k) (n:=n) hk (by have:=Hn.o;omega);have b9:=hid (fun o=>H.o.2.row.alloc o);have aX:=hid (fun (news:List UInt8) (hq:ic c=news) o v' w2 a1 a2 a3=>show k+1<=n/\RB w w2 v' (lD s.data.toList (k+1)) from ⟨hk,by rw[lH,hq];exact H.o.2.apps (o:=o) (v':=v') (w2:=w2) (news:=news) a1 a2 a3⟩)
   have Qi:=hid (fun m (hm:m<=4)=>show (lD s.data.toList k).length+m<=1000000000 by have:=pW.o k;omega);have HD:=hid H.o.2;have zL:=hid hk;have tg:=hid lH;clear hc lH H hk pW mA;have kr:=c.toNat_lt;by_cases c1:c.toNat=34\/c.toNat=92
   ·have Lt:=hid (SP c1);by_cases c2:c.toNat=34
    ·have p1:((c.toNat:Int)==34)=true:=by rw[beq_iff_eq];omega
     clear c1 c2;have lS:=hid (show (#[.int .u8 92,.int .u8 (c.toNat:Int)]:Array Value).toList=Lib.byteCells [92,c] from rfl);clear Il kr
     go_wp2_with (at_builtin;refine gN rfl _ _ rfl v2 (lD s.data.toList k) rfl (b9.o _) wr.heap.size 2 [92,c] #[.int .u8 92,.int .u8 (c.toNat:Int)] rfl rfl (ag _) lS.o (Qi.o 2 (by decide)) ?_;intro v' w2 aB bC aA;have HE:=hid (aX.o [92,c] Lt.o _ _ _ aB bC aA);clear aB bC aA)
     go_roundw
     case rel=>exact ⟨_,k+1,rfl,df.o,HE⟩
     case measure=>exact cY.o
    ·have p1:((c.toNat:Int)==34)=false:=bF (by omega);have p2:((c.toNat:Int)==92)=true:=by rw[beq_iff_eq];omega
     clear c1 c2;have lS:=hid (show (#[.int .u8 92,.int .u8 (c.toNat:Int)]:Array Value).toList=Lib.byteCells [92,c] from rfl);clear Il kr
     go_wp2_with (at_builtin;refine gN rfl _ _ rfl v2 (lD s.data.toList k) rfl (b9.o _) wr.heap.size 2 [92,c] #[.int .u8 92,.int .u8 (c.toNat:Int)] rfl rfl (ag _) lS.o (Qi.o 2 (by decide)) ?_;intro v' w2 aB bC aA;have HE:=hid (aX.o [92,c] Lt.o _ _ _ aB bC aA);clear aB bC aA)
     go_roundw
     case rel=>exact ⟨_,k+1,rfl,df.o,HE⟩
     case measure=>exact cY.o
   ·have p1:((c.toNat:Int)==34)=false:=bF (by omega);have p2:((c.toNat:Int)==92)=false:=bF (by omega);by_cases c3:c.toNat=10
    ·have Lt:=hid (SQ c3);have p3:((c.toNat:Int)==10)=true:=by rw[beq_iff_eq];omega
     clear c1 c3;have lS:=hid (show (#[.int .u8 92,.int .u8 110]:Array Value).toList=Lib.byteCells [92,110] from rfl);clear Il kr
     go_wp2_with (at_builtin;refine gN rfl _ _ rfl v2 (lD s.data.toList k) rfl (b9.o _) wr.heap.size 2 [92,110] #[.int .u8 92,.int .u8 110] rfl rfl (ag _) lS.o (Qi.o 2 (by decide)) ?_;intro v' w2 aB bC aA;have HE:=hid (aX.o [92,110] Lt.o _ _ _ aB bC aA);clear aB bC aA)
     go_roundw
     case rel=>exact ⟨_,k+1,rfl,df.o,HE⟩
     case measure=>exact cY.o
    ·have p3:((c.toNat:Int)==10)=false:=bF (by omega);by_cases c4:c.toNat=9
     ·have Lt:=hid (WY c4);have p4:((c.toNat:Int)==9)=true:=by rw[beq_iff_eq];omega
      clear c1 c3 c4;have lS:=hid (show (#[.int .u8 92,.int .u8 116]:Array Value).toList=Lib.byteCells [92,116] from rfl);clear Il kr
      go_wp2_with (at_builtin;refine gN rfl _ _ rfl v2 (lD s.data.toList k) rfl (b9.o _) wr.heap.size 2 [92,116] #[.int .u8 92,.int .u8 116] rfl rfl (ag _) lS.o (Qi.o 2 (by decide)) ?_;intro v' w2 aB bC aA;have HE:=hid (aX.o [92,116] Lt.o _ _ _ aB bC aA);clear aB bC aA)
      go_roundw
      case rel=>exact ⟨_,k+1,rfl,df.o,HE⟩
      case measure=>exact cY.o
     ·have p4:((c.toNat:Int)==9)=false:=bF (by omega);by_cases c5:c.toNat<32\/c.toNat=127
      ·have Lt:=hid (WW c1 c3 c4 c5);have q1:c.toNat / 16<16:=by omega
       have q2:c.toNat % 16<16:=by omega
       have k1:∀w,(binOp .shr 5 (.int .u8 (c.toNat:Int)) (.int .u64 4)).run Tryz.prog w= .ok (.int .u8 ((c.toNat:Int) / 16)) w:=Rj c;have k3:∀w,(Instr.index 9 (.string ⟨#[48,49,50,51,52,53,54,55,56,57,97,98,99,100,101,102]⟩) (.int .u8 ((c.toNat:Int) / 16))).run Tryz.prog w= .ok (.int .u8 ((lJ[c.toNat / 16]!).toNat:Int)) w:=qK (s:=hexes) (k:=c.toNat / 16) (c:=lJ[c.toNat / 16]!) .u8 (by rw[<-C2 q1];exact aBn (by exact q1))
       have k4:∀w,(Instr.index 9 (.string ⟨#[48,49,50,51,52,53,54,55,56,57,97,98,99,100,101,102]⟩) (.int .u8 (bits BinOp.and IntKind.u8 (c.toNat:Int) 15))).run Tryz.prog w= .ok (.int .u8 ((lJ[c.toNat % 16]!).toNat:Int)) w:=by
        rw[P6 c];exact qK (s:=hexes) (k:=c.toNat % 16) (c:=lJ[c.toNat % 16]!) .u8 (by rw[<-C2 q2];exact aBn (by exact q2))
       obtain ⟨h1,hh1⟩:=ex (lJ[c.toNat / 16]!);obtain ⟨h2,hh2⟩:=ex (lJ[c.toNat % 16]!);rw[<-hh1]at k3 Lt;rw[<-hh2]at k4 Lt;clear hh1 hh2 q1 q2;have Uo:=hid (fun nd o=>(HD.o.drewN nd).row.alloc o);have Ux:=hid (fun (news:List UInt8) (hq:ic c=news) nd o v' w2 a1 a2 a3=>show k+1<=n/\RB w w2 v' (lD s.data.toList (k+1)) from ⟨zL.o,by rw[tg.o,hq];exact (HD.o.drewN nd).apps (o:=o) (v':=v') (w2:=w2) (news:=news) a1 a2 a3⟩)
       have lS:=hid (show (#[.int .u8 92,.int .u8 120,.int .u8 (h1.toNat:Int),.int .u8 (h2.toNat:Int)]:Array Value).toList=Lib.byteCells [92,120,h1,h2] from rfl);by_cases c6:c.toNat<32
       ·have p5:decide ((c.toNat:Int)<32)=true:=dT (by omega);clear c1 c3 c4 c5 c6 Il kr;go_wp2
        go_region_law (refine tE rfl _ _ rfl v2 (lD s.data.toList k) rfl (Uo.o _ _) wr.heap.size 4 [92,120,h1,h2] #[.int .u8 92,.int .u8 120,.int .u8 (h1.toNat:Int),.int .u8 (h2.toNat:Int)] rfl rfl (ag _) lS.o (Qi.o 4 (by decide)) ?_;intro v' w2 aB bC aA;have HE:=hid (Ux.o [92,120,h1,h2] Lt.o _ _ _ _ aB bC aA);clear aB bC aA)
        all_goals
         go_wp2;go_roundw
         case rel=>exact ⟨_,k+1,rfl,df.o,HE⟩
         case measure=>exact cY.o
       ·have p5:decide ((c.toNat:Int)<32)=false:=dF (by omega);have p6:((c.toNat:Int)==127)=true:=by rw[beq_iff_eq];omega
        clear c1 c3 c4 c5 c6 Il kr;go_wp2
        go_region_law (refine tE rfl _ _ rfl v2 (lD s.data.toList k) rfl (Uo.o _ _) wr.heap.size 4 [92,120,h1,h2] #[.int .u8 92,.int .u8 120,.int .u8 (h1.toNat:Int),.int .u8 (h2.toNat:Int)] rfl rfl (ag _) lS.o (Qi.o 4 (by decide)) ?_;intro v' w2 aB bC aA;have HE:=hid (Ux.o [92,120,h1,h2] Lt.o _ _ _ _ aB bC aA);clear aB bC aA)
        all_goals
         go_wp2;go_roundw
         case rel=>exact ⟨_,k+1,rfl,df.o,HE⟩
         case measure=>exact cY.o
      ·have Lt:=hid (WX c1 c3 c4 c5);have p5:decide ((c.toNat:Int)<32)=false:=dF (by omega);have p6:((c.toNat:Int)==127)=false:=bF (by omega);clear c1 c3 c4 c5;have lS:=hid (show (#[.int .u8 (c.toNat:Int)]:Array Value).toList=Lib.byteCells [c] from rfl);clear Il kr
       go_wp2_with (at_builtin;refine gN rfl _ _ rfl v2 (lD s.data.toList k) rfl (b9.o _) wr.heap.size 1 [c] #[.int .u8 (c.toNat:Int)] rfl rfl (ag _) lS.o (Qi.o 1 (by decide)) ?_;intro v' w2 aB bC aA;have HE:=hid (aX.o [c] Lt.o _ _ _ aB bC aA);clear aB bC aA)
       go_roundw
       case rel=>exact ⟨_,k+1,rfl,df.o,HE⟩
       case measure=>exact cY.o
  ·have tk:decide (k<n)=false:=dF hk;have b9:=hid (fun o=>H.o.2.row.alloc o);have aX:=hid (fun o v' w2 a1 a2 a3=>show RB w w2 v' (cL s.data.toList) from by
    have:=H.o.2.apps (o:=o) (v':=v') (w2:=w2) (news:=[34]) a1 a2 a3;rw[mA.o k (by omega)]at this;exact this)
   have Qi:=hid (show (lD s.data.toList k).length+1<=1000000000 by have:=pW.o k;omega);have lS:=hid (show (#[.int .u8 34]:Array Value).toList=Lib.byteCells [34] from rfl);clear H hk pW mA Il
   go_wp2_with (at_builtin;refine gN rfl _ _ rfl v2 (lD s.data.toList k) rfl (b9.o _) wr.heap.size 1 [34] #[.int .u8 34] rfl rfl (ag _) lS.o Qi.o ?_;intro v' w2 aB bC aA;have HE:=hid (aX.o _ _ _ aB bC aA);have hc:=nR HE.o.row;clear aB bC aA)
   go_ret;exact ⟨rfl,HE.o.below⟩
theorem Zg:Maps.Keyed Tryz.prog 9 :=Maps.string_keyed Tryz.underlying9
def Had (w:World) (b:Nat) (had:List ByteArray):Prop:=
 ∃(n:Nat) (D:DataW Unit),w.ownsMap Tryz.prog 9 (plainElem Tryz.prog 4) b n D/\n<=had.length/\
  ∀s:ByteArray,D.atKey (.string s.data.toList) (.lit (.bool false))= .lit (.bool (decide (s∈had)))
theorem Had.lt {w:World} {b:Nat} {had:List ByteArray} (h:Had w b had):b<w.heap.size:=by
 obtain ⟨n,D,h,_⟩:=h;exact h.lt
theorem Had.made (w:World):Had (w.alloc (.map #[] 0)) w.heap.size []:=
 ⟨0,.map [],World.ownsMap_made w _ _ _,aBh _,fun s=>by
  rw[WideAt.atKey_none (entries:=[]) _ (fun p hp=>by cases hp)];simp⟩
theorem Had.frame {w w':World} {b:Nat} {had:List ByteArray} (h:Had w b had) (hk:w'.heap[b]? =w.heap[b]?):Had w' b had:=by
 obtain ⟨n,D,⟨es,clock,hb,r⟩,h⟩:=h;exact ⟨n,D,⟨es,clock,hk.trans hb,r⟩,h⟩
theorem Had.kept {w w':World} {b:Nat} {had:List ByteArray} {row:Option Nat} (h:Had w b had) (hg:w.grownBy w' row) (hne:some b≠row):Had w' b had:=by
 obtain ⟨n,D,h,r⟩:=h;exact ⟨n,D,h.kept hg hne,r⟩
theorem Had.alloc {w:World} {b:Nat} {had:List ByteArray} (h:Had w b had) (o:Obj):Had (w.alloc o) b had:=h.kept (World.grownBy_alloc w o none) (by simp)
theorem Had.setCell {w:World} {b:Nat} {had:List ByteArray} (h:Had w b had) {a:Addr} (ha:b≠a.block) (u:Value):Had (w.setCell a u) b had:=by
 obtain ⟨n,D,h,r⟩:=h;exact ⟨n,D,h.setCell ha u,r⟩
theorem Ys (w:World):(zeroValue 4).run Tryz.prog w= .ok (.bool false) w:=by
 kernel_rfl
theorem E0 {v:Value} {z:DataW Unit×List MemPlace} (h:plainElem Tryz.prog 4 v=some z):∃x,v= .bool x/\z=(.lit (.bool x),[]):=by
 have hb: Tryz.prog.underlying 4 =some .bool:= Tryz.underlying4;generalize Tryz.prog=P at*;unfold plainElem at h;rw[hb]at h;cases v<;>simp at h
 subst h;exact ⟨_,rfl,rfl⟩
theorem Had.look {w:World} {b:Nat} {had:List ByteArray} (h:Had w b had) (s:ByteArray) (hs:s.size<=maxLen):
 (Instr.lookup 155 (.map (some b)) (.string s) false).run Tryz.prog w= .ok (.bool (decide (s∈had))) w:=by
 obtain ⟨n,D,dh,_,bN⟩:=h;obtain ⟨v,ps,Wd,hv⟩:=dh.lookup Zg Tryz.underlying155 (Ys w) (plainElem_bool Tryz.underlying4 false) (key:= .string s) (Go.WideMaps.keyOf_string_mk Tryz.underlying9 hs);obtain ⟨x,rfl,hx⟩:=E0 hv;simp only[Prod.mk.injEq]at hx;have:=hx.1.symm.trans (bN s);simp only[DataW.lit.injEq,Lit.bool.injEq]at this;rw[Wd,this]
theorem oH {s t:ByteArray} (h:s.data.toList=t.data.toList):s=t:=by
 cases s;cases t;simp only[ByteArray.mk.injEq];exact Array.ext' h
theorem FU {w:World} {ops:Array Oper} {rest:List Oper} {o:Oper} {a:Act} {Q:Exit->Act->World->Prop} (hg:o.guard=none) (m x v:Operand)
 (kY:o.op=Op.mapUpdate 155 m x v) (b:Nat) (had:List ByteArray) (hm:a.eval m= .map (some b)) (h:Had w b had) (hn:had.length<=1048576) (s:ByteArray) (hs:s.size<=maxLen) (hx:a.eval x= .string s) (hv:a.eval v= .bool true)
 (hK:∀w',Had w' b (s::had)->w.grownBy w' (some b)->wpList Tryz.prog ops Q rest (a.put o.dst undef) w'):wpList Tryz.prog ops Q (o::rest) a w:=by
 obtain ⟨n,D,dh,hle,bN⟩:=h;refine wpList_mapUpdate_own w hg m x v 155 kY 9 4 Zg Tryz.underlying155 _ b n D hm dh (by unfold maxLen;omega) _ _ (.string s.data.toList) hx hv (Go.WideMaps.keyOf_string_mk Tryz.underlying9 hs) (.lit (.bool true)) [] (plainElem_bool Tryz.underlying4 true) fun w' h1 h2=>hK w' ⟨n+1,_,h1,by simp;omega,fun t=> ?_⟩ h2
 by_cases e:t=s
 ·subst e;rw[Maps.atKey_put_same dh.isMap (show WideAt.IsKeyLit (.string t.data.toList) from trivial)];simp
 ·rw[Maps.atKey_put_other (fun q=>e (oH (by simpa using q))),bN t];simp[e]
theorem vY {a b:ByteArray} (h:a=b):Ending.returned (.string a)= .returned (.string b):=by rw[h]
theorem IL (s:ByteArray):(⟨(s.data.toList).toArray⟩:ByteArray)=s:=by
 cases s;simp
theorem N6 {s:ByteArray} (h0:0<s.size) (h1:s.size<=64) (h2:s.data.toList.all bB=true):s=⟨(nD s.data.toList).toArray⟩:=by
 unfold nD;rw[if_pos ⟨fun e=>by rw[<-aq,e]at h0;simp at h0,by rw[aq];exact h1,h2⟩,IL]
theorem AI {s:ByteArray} (h:¬(s.data.toList≠[]/\s.size<=64/\s.data.toList.all bB=true)):(⟨(cL s.data.toList).toArray⟩:ByteArray)=⟨(nD s.data.toList).toArray⟩:=by
 unfold nD;rw[aq,if_neg h]
theorem N7 {s:ByteArray} {k:Nat} {c:UInt8} (hc:s.data.toList[k]? =some c) (h:bB c=false):(⟨(cL s.data.toList).toArray⟩:ByteArray)=⟨(nD s.data.toList).toArray⟩:=
 AI (fun q=>by
  have:=List.all_eq_true.1 q.2.2 c (List.mem_of_getElem? hc);rw[h]at this;cases this)
theorem W4 (w:World) (s:ByteArray) (hs:s.size<=1048576):
 Calls Tryz.prog 99 #[.string s] w fun r w'=>r= .returned (.string ⟨(nD s.data.toList).toArray⟩)/\Below w.heap.size w w':=by
 have Hq:=hid (GQ w s (by omega));by_cases h0:s=⟨#[]⟩
 ·obtain ⟨k4,k5,k6⟩:=jJ h0;have He:=hid (AI (s:=s) (fun q=>q.1 (by rw[h0])));clear h0 hs;go_enter Tryz.func99,Tryz.ntmps99
  go_wp2_with fail
  refine Hq.o.mono ?_;rintro r w1 ⟨rfl,hb⟩;have Hb:=hid hb;clear hb Hq;go_wp2;go_ret;exact ⟨vY He.o,Hb.o⟩
 ·obtain ⟨k4,k5,k6⟩:=jT h0;have hp:0<s.size:=by
   rcases Nat.eq_zero_or_pos s.size with e|e
   ·exact absurd (oH (s:=s) (t:=⟨#[]⟩) (List.eq_nil_of_length_eq_zero (by rw[aq];exact e))) h0
   ·exact e
  by_cases sL:64<s.size
  ·have t1:decide (64<(s.size:Int))=true:=dT (by omega);have He:=hid (AI (s:=s) (fun q=>by omega));clear h0 hs hp sL;go_enter Tryz.func99,Tryz.ntmps99
   go_wp2_with fail
   refine Hq.o.mono ?_;rintro r w1 ⟨rfl,hb⟩;have Hb:=hid hb;clear hb Hq;go_wp2;go_ret;exact ⟨vY He.o,Hb.o⟩
  ·have t1:decide (64<(s.size:Int))=false:=dF (by omega);obtain ⟨n,hn⟩:=ex (s.size);have Hn:=hid hn;obtain ⟨l,hl⟩:=ex (s.data.toList);have Hl:=hid hl;have Hp:=hid hp;have H64:=hid sL;clear hn hl hs hp h0 sL;go_enter Tryz.func99,Tryz.ntmps99;go_wp2
   go_loop [16] (fun v=>∃k:Nat,v= .int .i64 (k:Int)/\Hid (k<=n/\∀(j:Nat) (c:UInt8),j<k->l[j]? =some c->bB c=true)) (fun v=>n-(intOf v).toNat)
   case atStart=>exact ⟨0,rfl,hid ⟨Nat.zero_le _,fun j c h=>absurd h (Nat.not_lt_zero _)⟩⟩
   case round=>
    clear k4 k5 k6 t1;obtain ⟨k,rfl,H⟩:=hrel;have hn:n=s.size:=Hn.o;have hl:l=s.data.toList:=Hl.o;have sL:=H64.o;by_cases cg:k<n
    ·obtain ⟨c,hc⟩:=fi (s:=s) (by rw[<-hn];exact cg);have ib:=aU (s:=s) (k:Int) rfl hc;have b3:(k:Int)<(s.size:Int):=by omega
     have wk:=bK (z:=(k:Int)+1) (by omega) (by omega);have cY:=hid (eJ cg wk);have df:=hid (g8 wk);rcases sV c with ⟨ui,h⟩|⟨ui,h⟩
     ·rcases h with ⟨g0,g1,g2,k0,k1,k2,e0,e1,e2⟩|⟨g0,g1,g2,k0,k1,k2,e0,e1,e2⟩|⟨g0,g1,g2,k0,k1,k2,e0,e1,e2⟩|⟨g0,g1,g2,k0,k1,k2,e0,e1,e2⟩|⟨g0,g1,g2,k0,k1,k2,e0,e1,e2⟩|⟨g0,g1,g2,k0,k1,k2,e0,e1,e2⟩
      all_goals
       have He:=hid (show k+1<=n/\∀(j:Nat) (c:UInt8),j<k+1->l[j]? =some c->bB c=true from ⟨cg,fun j d hj hd=>by
        by_cases e:j=k
        ·subst e;rw[hl,hc]at hd;obtain rfl:=aBm hd;exact ui
        ·exact H.o.2 j d (by omega) hd⟩)
       clear hn hl sL cg hc ui H wk Hq;go_wp2;go_round
       case rel=>exact ⟨k+1,df.o,He⟩
       case measure=>exact cY.o
     ·rcases h with ⟨g0,g1,g2,k0,k1,k2,e0,e1,e2⟩|⟨g0,g1,g2,k0,k1,k2,e0,e1,e2⟩|⟨g0,g1,g2,k0,k1,k2,e0,e1,e2⟩|⟨g0,g1,g2,k0,k1,k2,e0,e1,e2⟩|⟨g0,g1,g2,k0,k1,k2,e0,e1,e2⟩|⟨g0,g1,g2,k0,k1,k2,e0,e1,e2⟩
      all_goals
       have He:=hid (N7 hc ui);clear hn hl sL cg hc ui H wk
       go_wp2_with fail
       refine Hq.o.mono ?_;rintro r w1 ⟨rfl,hb⟩;have Hb:=hid hb;clear hb Hq;go_wp2;go_ret;exact ⟨vY He.o,Hb.o⟩
    ·have b3:(s.size:Int)<=(k:Int):=by omega
     have hall:s.data.toList.all bB=true:=CA fun j c hj hc=>H.o.2 j c (by rw[aq]at hj;omega) (by rw[hl];exact hc);have He:=hid (N6 Hp.o (by omega) hall);clear hn hl sL cg H hall Hq;go_wp2;go_ret;exact ⟨vY He.o,aBi _ _⟩
theorem Q8 {nd:Nd} (h:nd.quoted=true):fa nd=32::cL nd.text.data.toList:=by unfold fa;rw[if_pos h]
theorem Q7 {nd:Nd} (h:nd.quoted=false) (h2:nd.text≠⟨#[]⟩):fa nd=32::nd.text.data.toList:=by
 unfold fa;rw[if_neg (by rw[h];decide),if_pos (fun e=>h2 (oH (t:=⟨#[]⟩) e))]
theorem Q9 {nd:Nd} (h:nd.quoted=false) (h2:nd.text=⟨#[]⟩):fa nd=[]:=by
 unfold fa;rw[if_neg (by rw[h];decide),if_neg (fun e=>e (by rw[h2]))]
theorem Bl (x y:List UInt8) (h:x.length+y.length<=4000000000):∀w,(Op.stringOp .add ⟨x.toArray⟩ ⟨y.toArray⟩).run Tryz.prog w= .ok (.string ⟨(x++y).toArray⟩) w:=by
 intro w;rw[run_string_add_sum w _ _ (by simp[ByteArray.size];omega),ByteArray.mk_append_mk]
theorem PY (x:List UInt8) (s:ByteArray) (h:x.length+s.size<=4000000000):∀w,(Op.stringOp .add ⟨x.toArray⟩ s).run Tryz.prog w= .ok (.string ⟨(x++s.data.toList).toArray⟩) w:=by
 intro w;have:=Bl x s.data.toList (by rw[aq];exact h) w;rw[IL]at this;exact this
theorem lC (l:List UInt8):(cL l).length<=4*l.length+2:=by
 have:=A8 l;unfold cL;rw[aBj,aBk,List.length_singleton];omega
theorem Iw (w:World) (m:NdM) (hm:m.Ok w):
 Calls Tryz.prog 97 #[m.v] w fun r w'=>r= .returned (.string ⟨(fa m.nd).toArray⟩)/\Below w.heap.size w w':=by
 obtain ⟨ao,c,cI,_⟩:=j6 hm.kids;have gA:=hm.text;obtain ⟨⟨kind,key,text,quoted,line,kids⟩,kv⟩:=m;simp only at cI gA;subst cI;unfold NdM.v;simp only;generalize kids.length=n at*;have lW:=hid (fun o=>(aBi w.heap.size w).alloc (aBh _) o);cases quoted with
 |true=>
  have Hq:=hid (fun w1=>GQ w1 text (by omega));have He:=hid (Q8 (nd:=⟨kind,key,text,true,line,kids⟩) rfl);have C8:=Bl [32] (cL text.data.toList) (by have:=lC text.data.toList;rw[aq]at this;simp;omega);clear hm gA;go_enter Tryz.func97,Tryz.ntmps97
  go_wp2_with fail
  refine (Hq.o _).mono ?_;rintro r w1 ⟨rfl,hb⟩;have Hb:=hid ((lW.o _).trans (hb.mono (Below.size (lW.o _))));clear hb Hq lW;go_wp2;go_ret;exact ⟨vY (by rw[He.o]),Hb.o⟩
 |false=>
  by_cases ht:text=⟨#[]⟩
  ·obtain ⟨e1,e2,e3⟩:=jJ ht;have He:=hid (Q9 (nd:=⟨kind,key,text,false,line,kids⟩) rfl ht);clear hm gA ht;go_enter Tryz.func97,Tryz.ntmps97;go_wp2;go_ret;exact ⟨vY (by rw[He.o]),lW.o _⟩
  ·obtain ⟨e1,e2,e3⟩:=jT ht;have He:=hid (Q7 (nd:=⟨kind,key,text,false,line,kids⟩) rfl ht);have C8:=PY [32] text (by simp;omega);clear hm gA ht;go_enter Tryz.func97,Tryz.ntmps97;go_wp2;go_ret;exact ⟨vY (by rw[He.o]),lW.o _⟩
