/-
Parts of a proof.
-/
import Derived.Test.YtfenoaeoedobmaaGreatDoorOn12
set_option linter.unusedVariables false
set_option linter.unusedSimpArgs false
set_option maxHeartbeats 16000000
set_option maxRecDepth 100000
namespace Go.Proofs.YtfenoaeoedobmaaGreatDoor
open Go Go.RowKit
def jE (w:World) (l:List UInt8) (i:Nat) (r:Ending) (w':World):Prop:=
 Below w.heap.size w w'/\r=match dZ (l.drop i) with
  |none=> .returned (.tuple #[.string ⟨#[]⟩,.int .i64 0,.bool false])
  |some (x,n)=> .returned (.tuple #[.string ⟨x.toArray⟩,.int .i64 ((i+n:Nat):Int),.bool true])
theorem j2 {w w':World} {q:UInt8} {l:List UInt8} {i k:Nat} {out:List UInt8} {v:Value} (h:pS q l i k out) (hq:l[i]? =some q) (hs:cH q (l.drop k)=none) (hb:RB w w' v out):
 jE w l i (.returned (.tuple #[.string ⟨#[]⟩,.int .i64 0,.bool false])) w':=by
 refine ⟨hb.below,?_⟩;rw[h.none hq hs]
theorem wo {w w':World} {q:UInt8} {l:List UInt8} {i k:Nat} {out:List UInt8} {v:Value} (h:pS q l i k out) (hq:l[i]? =some q) (hs:cH q (l.drop k)=some ([],1)) (hb:RB w w' v out):
 jE w l i (.returned (.tuple #[.string ⟨out.toArray⟩,.int .i64 ((k:Int)+1),.bool true])) w':=by
 refine ⟨hb.below,?_⟩;rw[h.done hq hs];have:=h.1
 show _=Ending.returned (.tuple #[.string ⟨out.toArray⟩,.int .i64 ((i+(k+1-i):Nat):Int),.bool true])
 rw[show i+(k+1-i)=k+1 by omega];rfl
structure QW (w wr:World) (q:UInt8) (l:List UInt8) (i k:Nat) (v:Value) (out:List UInt8):Prop where
 rel:pS q l i k out
 row:RB w wr v out
 len:out.length<=k
theorem QW.first {w:World} {q:UInt8} {l:List UInt8} {i:Nat} (h:i<l.length):QW w w q l i (i+1) (.slice none 0 0) []:=⟨pS.first h,RO.first _ _ _,Nat.zero_le _⟩
theorem QW.step {w wr w2:World} {q:UInt8} {l:List UInt8} {i k m:Nat} {v v':Value} {out:List UInt8} {x:UInt8} (h:QW w wr q l i k v out) (hm:1<=m) (ZO:k+m<=l.length)
 (hs:cH q (l.drop k)=(cH q (l.drop (k+m))).map fun p=>(x::p.1,p.2+m)) (h2:RB w w2 v' (out++[x])):QW w w2 q l i (k+m) v' (out++[x]):=
 ⟨h.rel.step hm ZO hs,h2,by rw[aBj];have:=h.len;simp;omega⟩
theorem jB {k m:Nat} {z:Int} (h:z=((k+m:Nat):Int)):Value.int .i64 z= .int .i64 ((k+m:Nat):Int):=by rw[h]
theorem gX {n k m:Nat} {z:Int} (h:k<n) (hm:1<=m) (hz:z=((k+m:Nat):Int)):n-(intOf (.int .i64 z)).toNat<n-(intOf (.int .i64 (k:Int))).toNat:=by
 rw[hz]
 show n-((k+m:Nat):Int).toNat<n-((k:Nat):Int).toNat
 omega
theorem xZ (w:World) (s:ByteArray) (i:Nat) (q:UInt8) (hs:s.size<=1048576) (hi:s.data.toList[i]? =some q) (hq:q.toNat=39):
 Calls Tryz.prog 143 #[.string s,.int .i64 (i:Int)] w (jE w s.data.toList i):=by
 obtain ⟨n,hn⟩:=ex (s.size);have Hn:=hid hn;obtain ⟨l,hl⟩:=ex (s.data.toList);have Hl:=hid hl;have Hs:=hid hs;have Hi:=hid hi;have Hq:=hid hq;have hi0:∀w,(Instr.index 9 (.string s) (.int .i64 (i:Int))).run Tryz.prog w= .ok (.int .u8 39) w:=by
  intro w;rw[qK .i64 hi w,hq];rfl
 have kO:=hid (show i<l.length by rw[hl];exact (aBo hi).1);have b1:(i:Int)<1048576:=by have:=kO.o;rw[hl,aq]at this;omega
 have Hii:Hid (cH q=cH q):=hid rfl;rw[<-hl];clear hn hl hs hi hq Hii;go_enter Tryz.func143,Tryz.ntmps143;go_wp2
 go_loopw [1,7] (fun vi vo wr=>∃(k:Nat) (vb:Value) (out:List UInt8),vb=vo/\vi= .int .i64 (k:Int)/\Hid (QW w wr q l i k vb out)) (fun vi _ _=>n-(intOf vi).toNat)
 case atStart=>exact ⟨i+1,_,[],rfl,rfl,hid (QW.first kO.o)⟩
 case round=>
  obtain ⟨k,vb,out,rfl,rfl,H⟩:=hrel;have hn:n=s.size:=Hn.o;have hl:l=s.data.toList:=Hl.o;have hs:=Hs.o;have hq:=Hq.o;have pY:l[i]? =some q:=by rw[hl];exact Hi.o
  have hlen:l.length=s.size:=by rw[hl,aq]
  have nH:out.length<=1000000000:=by have:=H.o.len;have:=H.o.rel.2.1;omega
  have yp:=hid nH;have kI:cH q=sqL:=by funext m;unfold cH;rw[if_neg (by omega)]
  clear nH hi0;by_cases cg:k<n
  ·obtain ⟨c,hc⟩:=fi (s:=s) (by rw[<-hn];exact cg);have kr:l[k]? =some c:=by rw[hl];exact hc
   have lU:=cG kr;have ib:=aU (s:=s) (k:Int) rfl hc;have b3:(k:Int)<(s.size:Int):=by omega
   have bk:(k:Int)<1048576:=by omega
   by_cases yj:c.toNat=39
   ·have t1:((c.toNat:Int)==39)=true:=by rw[beq_iff_eq];omega
    by_cases eP:k+1<n
    ·obtain ⟨d,hd⟩:=fi (s:=s) (k:=k+1) (by omega);have AT:l[k+1]? =some d:=by rw[hl];exact hd
     have ke:=cG AT;have zq:=aU (s:=s) ((k:Int)+1) (by omega) hd;have b4:(k:Int)+1<(s.size:Int):=by omega
     by_cases SC:d.toNat=39
     ·have t2:((d.toNat:Int)==39)=true:=by rw[beq_iff_eq];omega
      have cw:cH q (l.drop k)=(cH q (l.drop (k+2))).map fun p=>(c::p.1,p.2+2):=by rw[kI];rw[lU,ke];exact Mn yj SC
      have hW:=H.o;have iU:=hid hW.row;have b9:=hid (fun o=>hW.row.row.alloc o);have jQ:=hid (fun w2 v' (h:RB w w2 v' (out++[c]))=>QW.step hW (show 1<=2 by decide) (by omega) cw h);have df:=hid (jB (k:=k) (m:=2) (z:=(k:Int)+1+1) (by omega));have cY:=hid (gX (n:=n) (k:=k) (m:=2) (z:=(k:Int)+1+1) cg (by decide) (by omega));clear hn hl hs hq pY hlen kI cg hc kr lU H cw hW yj eP hd AT ke SC
      go_wp2_with (at_builtin;refine e9 rfl _ _ rfl vb out rfl (b9.o _) _ c rfl (World.cell?_alloc_new _ _ _ _) yp.o ?_;intro v' w2 aB bC aA;have aX:=hid (jQ.o w2 v' (RB.app iU.o aB bC aA));clear aB bC aA)
      go_roundw
      case rel=>exact ⟨_,_,_,rfl,df.o,aX⟩
      case measure=>exact cY.o
     ·have t2:((d.toNat:Int)==39)=false:=bF (by omega);have He:=hid (wo (w:=w) H.o.rel pY (by rw[kI];rw[lU];exact qh yj (fun e he=>by rw[ke]at he;simp only[List.head?_cons,Option.some.injEq]at he;subst he;exact SC)) H.o.row);have BF:=nR H.o.row.row;clear hn hl hs hq pY hlen kI cg hc kr lU H yj eP hd AT ke SC;go_wp2
      go_ret3
      exact He.o
    ·have b4:decide ((k:Int)+1<(s.size:Int))=false:=dF (by omega);have He:=hid (wo (w:=w) H.o.rel pY (by rw[kI];rw[lU];exact qh yj (fun e he=>by rw[fC (by omega)]at he;cases he)) H.o.row);have BF:=nR H.o.row.row;clear hn hl hs hq pY hlen kI cg hc kr lU H yj eP;go_wp2
     go_ret3
     exact He.o
   ·have t1:((c.toNat:Int)==39)=false:=bF (by omega);by_cases uI:c.toNat=92
    ·have t2:((c.toNat:Int) != 92)=false:=by rw[bne_eq_false_iff_eq];omega
     have wk:True:=trivial;have cw:cH q (l.drop k)=(cH q (l.drop (k+1))).map fun p=>(c::p.1,p.2+1):=by rw[kI];rw[lU];exact vN yj
     have hW:=H.o;have iU:=hid hW.row;have b9:=hid (fun o=>hW.row.row.alloc o);have jQ:=hid (fun w2 v' (h:RB w w2 v' (out++[c]))=>QW.step hW (show 1<=1 by decide) (by omega) cw h);have df:=hid (jB (k:=k) (m:=1) (z:=(k:Int)+1) (by omega));have cY:=hid (gX (n:=n) (k:=k) (m:=1) (z:=(k:Int)+1) cg (by decide) (by omega));clear hn hl hs hq pY hlen kI cg hc kr lU H cw hW yj uI wk
     go_wp2_with (at_builtin;refine e9 rfl _ _ rfl vb out rfl (b9.o _) _ c rfl (World.cell?_alloc_new _ _ _ _) yp.o ?_;intro v' w2 aB bC aA;have aX:=hid (jQ.o w2 v' (RB.app iU.o aB bC aA));clear aB bC aA)
     go_roundw
     case rel=>exact ⟨_,_,_,rfl,df.o,aX⟩
     case measure=>exact cY.o
    ·have t2:((c.toNat:Int) != 92)=true:=by rw[bne_iff_ne];omega
     have wk:True:=trivial;have cw:cH q (l.drop k)=(cH q (l.drop (k+1))).map fun p=>(c::p.1,p.2+1):=by rw[kI];rw[lU];exact vN yj
     have hW:=H.o;have iU:=hid hW.row;have b9:=hid (fun o=>hW.row.row.alloc o);have jQ:=hid (fun w2 v' (h:RB w w2 v' (out++[c]))=>QW.step hW (show 1<=1 by decide) (by omega) cw h);have df:=hid (jB (k:=k) (m:=1) (z:=(k:Int)+1) (by omega));have cY:=hid (gX (n:=n) (k:=k) (m:=1) (z:=(k:Int)+1) cg (by decide) (by omega));clear hn hl hs hq pY hlen kI cg hc kr lU H cw hW yj uI wk
     go_wp2_with (at_builtin;refine e9 rfl _ _ rfl vb out rfl (b9.o _) _ c rfl (World.cell?_alloc_new _ _ _ _) yp.o ?_;intro v' w2 aB bC aA;have aX:=hid (jQ.o w2 v' (RB.app iU.o aB bC aA));clear aB bC aA)
     go_roundw
     case rel=>exact ⟨_,_,_,rfl,df.o,aX⟩
     case measure=>exact cY.o
  ·have b3:decide (k<s.size)=false:=dF (by omega);have He:=hid (j2 (w:=w) H.o.rel pY (by rw[fC (by omega)];exact yR q) H.o.row);clear hn hl hs hq pY hlen kI cg H;go_wp2
   go_ret3
   exact He.o
theorem x8 (w:World) (s:ByteArray) (i:Nat) (q:UInt8) (hs:s.size<=1048576) (hi:s.data.toList[i]? =some q) (hq:q.toNat=34):
 Calls Tryz.prog 143 #[.string s,.int .i64 (i:Int)] w (jE w s.data.toList i):=by
 obtain ⟨n,hn⟩:=ex (s.size);have Hn:=hid hn;obtain ⟨l,hl⟩:=ex (s.data.toList);have Hl:=hid hl;have Hs:=hid hs;have Hi:=hid hi;have Hq:=hid hq;have hi0:∀w,(Instr.index 9 (.string s) (.int .i64 (i:Int))).run Tryz.prog w= .ok (.int .u8 34) w:=by
  intro w;rw[qK .i64 hi w,hq];rfl
 have kO:=hid (show i<l.length by rw[hl];exact (aBo hi).1);have b1:(i:Int)<1048576:=by have:=kO.o;rw[hl,aq]at this;omega
 have Hii:Hid (cH q=cH q):=hid rfl;rw[<-hl];clear hn hl hs hi hq Hii;go_enter Tryz.func143,Tryz.ntmps143;go_wp2
 go_loopw [1,7] (fun vi vo wr=>∃(k:Nat) (vb:Value) (out:List UInt8),vb=vo/\vi= .int .i64 (k:Int)/\Hid (QW w wr q l i k vb out)) (fun vi _ _=>n-(intOf vi).toNat)
 case atStart=>exact ⟨i+1,_,[],rfl,rfl,hid (QW.first kO.o)⟩
 case round=>
  obtain ⟨k,vb,out,rfl,rfl,H⟩:=hrel;have hn:n=s.size:=Hn.o;have hl:l=s.data.toList:=Hl.o;have hs:=Hs.o;have hq:=Hq.o;have pY:l[i]? =some q:=by rw[hl];exact Hi.o
  have hlen:l.length=s.size:=by rw[hl,aq]
  have nH:out.length<=1000000000:=by have:=H.o.len;have:=H.o.rel.2.1;omega
  have yp:=hid nH;have kI:cH q=dqL:=by funext m;unfold cH;rw[if_pos hq]
  clear nH hi0;by_cases cg:k<n
  ·obtain ⟨c,hc⟩:=fi (s:=s) (by rw[<-hn];exact cg);have kr:l[k]? =some c:=by rw[hl];exact hc
   have lU:=cG kr;have ib:=aU (s:=s) (k:Int) rfl hc;have b3:(k:Int)<(s.size:Int):=by omega
   have bk:(k:Int)<1048576:=by omega
   by_cases kK:c.toNat=34
   ·have t1:((c.toNat:Int)==34)=true:=by rw[beq_iff_eq];omega
    have He:=hid (wo (w:=w) H.o.rel pY (by rw[kI];rw[lU];exact Dp kK) H.o.row);have BF:=nR H.o.row.row;clear hn hl hs hq pY hlen kI cg hc kr lU H kK;go_wp2
    go_ret3
    exact He.o
   ·have t1:((c.toNat:Int)==34)=false:=bF (by omega);by_cases uI:c.toNat=92
    ·have t2:((c.toNat:Int) != 92)=false:=by rw[bne_eq_false_iff_eq];omega
     by_cases eP:k+1<n
     ·obtain ⟨d,hd⟩:=fi (s:=s) (k:=k+1) (by omega);have AT:l[k+1]? =some d:=by rw[hl];exact hd
      have ke:=cG AT;have zq:=aU (s:=s) ((k:Int)+1) (by omega) hd;have b4:((k:Int)+1==(s.size:Int))=false:=bF (by omega);by_cases QH:d.toNat=34
      ·have q34:((d.toNat:Int)==34)=true:=by rw[beq_iff_eq];omega
       have cw:cH q (l.drop k)=(cH q (l.drop (k+2))).map fun p=>(d::p.1,p.2+2):=by rw[kI];rw[lU,ke];exact xp uI (by omega) (by unfold qU;simp[QH])
       have hW:=H.o;have iU:=hid hW.row;have b9:=hid (fun o=>hW.row.row.alloc o);have jQ:=hid (fun w2 v' (h:RB w w2 v' (out++[d]))=>QW.step hW (show 1<=2 by decide) (by omega) cw h);have df:=hid (jB (k:=k) (m:=2) (z:=(k:Int)+1+1) (by omega));have cY:=hid (gX (n:=n) (k:=k) (m:=2) (z:=(k:Int)+1+1) cg (by decide) (by omega));clear hn hl hs hq pY hlen kI cg hc kr lU H cw hW kK uI eP hd AT ke QH
       go_wp2_with (at_builtin;refine e9 rfl _ _ rfl vb out rfl (b9.o _) _ d rfl (World.cell?_alloc_new _ _ _ _) yp.o ?_;intro v' w2 aB bC aA;have aX:=hid (jQ.o w2 v' (RB.app iU.o aB bC aA));clear aB bC aA)
       go_roundw
       case rel=>exact ⟨_,_,_,rfl,df.o,aX⟩
       case measure=>exact cY.o
      ·have q34:((d.toNat:Int)==34)=false:=bF (by omega);by_cases SV:d.toNat=92
       ·have q92:((d.toNat:Int)==92)=true:=by rw[beq_iff_eq];omega
        have cw:cH q (l.drop k)=(cH q (l.drop (k+2))).map fun p=>(d::p.1,p.2+2):=by rw[kI];rw[lU,ke];exact xp uI (by omega) (by unfold qU;simp[SV])
        have hW:=H.o;have iU:=hid hW.row;have b9:=hid (fun o=>hW.row.row.alloc o);have jQ:=hid (fun w2 v' (h:RB w w2 v' (out++[d]))=>QW.step hW (show 1<=2 by decide) (by omega) cw h);have df:=hid (jB (k:=k) (m:=2) (z:=(k:Int)+1+1) (by omega));have cY:=hid (gX (n:=n) (k:=k) (m:=2) (z:=(k:Int)+1+1) cg (by decide) (by omega));clear hn hl hs hq pY hlen kI cg hc kr lU H cw hW kK uI eP hd AT ke QH SV
        go_wp2_with (at_builtin;refine e9 rfl _ _ rfl vb out rfl (b9.o _) _ d rfl (World.cell?_alloc_new _ _ _ _) yp.o ?_;intro v' w2 aB bC aA;have aX:=hid (jQ.o w2 v' (RB.app iU.o aB bC aA));clear aB bC aA)
        go_roundw
        case rel=>exact ⟨_,_,_,rfl,df.o,aX⟩
        case measure=>exact cY.o
       ·have q92:((d.toNat:Int)==92)=false:=bF (by omega);by_cases Ba:d.toNat=110
        ·have q110:((d.toNat:Int)==110)=true:=by rw[beq_iff_eq];omega
         have cw:cH q (l.drop k)=(cH q (l.drop (k+2))).map fun p=>(10::p.1,p.2+2):=by rw[kI];rw[lU,ke];exact xp uI (by omega) (by unfold qU;simp[Ba])
         have hW:=H.o;have iU:=hid hW.row;have b9:=hid (fun o=>hW.row.row.alloc o);have jQ:=hid (fun w2 v' (h:RB w w2 v' (out++[10]))=>QW.step hW (show 1<=2 by decide) (by omega) cw h);have df:=hid (jB (k:=k) (m:=2) (z:=(k:Int)+1+1) (by omega));have cY:=hid (gX (n:=n) (k:=k) (m:=2) (z:=(k:Int)+1+1) cg (by decide) (by omega));clear hn hl hs hq pY hlen kI cg hc kr lU H cw hW kK uI eP hd AT ke QH SV Ba
         go_wp2_with (at_builtin;refine e9 rfl _ _ rfl vb out rfl (b9.o _) _ 10 rfl (World.cell?_alloc_new _ _ _ _) yp.o ?_;intro v' w2 aB bC aA;have aX:=hid (jQ.o w2 v' (RB.app iU.o aB bC aA));clear aB bC aA)
         go_roundw
         case rel=>exact ⟨_,_,_,rfl,df.o,aX⟩
         case measure=>exact cY.o
        ·have q110:((d.toNat:Int)==110)=false:=bF (by omega);by_cases Dm:d.toNat=116
         ·have q116:((d.toNat:Int)==116)=true:=by rw[beq_iff_eq];omega
          have cw:cH q (l.drop k)=(cH q (l.drop (k+2))).map fun p=>(9::p.1,p.2+2):=by rw[kI];rw[lU,ke];exact xp uI (by omega) (by unfold qU;simp[Dm])
          have hW:=H.o;have iU:=hid hW.row;have b9:=hid (fun o=>hW.row.row.alloc o);have jQ:=hid (fun w2 v' (h:RB w w2 v' (out++[9]))=>QW.step hW (show 1<=2 by decide) (by omega) cw h);have df:=hid (jB (k:=k) (m:=2) (z:=(k:Int)+1+1) (by omega));have cY:=hid (gX (n:=n) (k:=k) (m:=2) (z:=(k:Int)+1+1) cg (by decide) (by omega));clear hn hl hs hq pY hlen kI cg hc kr lU H cw hW kK uI eP hd AT ke QH SV Ba Dm
          go_wp2_with (at_builtin;refine e9 rfl _ _ rfl vb out rfl (b9.o _) _ 9 rfl (World.cell?_alloc_new _ _ _ _) yp.o ?_;intro v' w2 aB bC aA;have aX:=hid (jQ.o w2 v' (RB.app iU.o aB bC aA));clear aB bC aA)
          go_roundw
          case rel=>exact ⟨_,_,_,rfl,df.o,aX⟩
          case measure=>exact cY.o
         ·have q116:((d.toNat:Int)==116)=false:=bF (by omega);have KN:qU d=none:=by unfold qU;rw[if_neg (by omega),if_neg Ba,if_neg Dm]
          by_cases yn:d.toNat=120
          ·have q120:((d.toNat:Int)==120)=true:=by rw[beq_iff_eq];omega
           by_cases OM:k+3<n
           ·obtain ⟨h,hh⟩:=fi (s:=s) (k:=k+2) (by omega);obtain ⟨o,ho⟩:=fi (s:=s) (k:=k+3) (by omega);have T5:l[k+2]? =some h:=by rw[hl];exact hh
            have Ij:l[k+3]? =some o:=by rw[hl];exact ho
            have xk:=cG T5;have KO:=cG Ij;have uf:=aU (s:=s) ((k:Int)+1+1) (by omega) hh;have OP:=aU (s:=s) ((k:Int)+1+2) (by omega) ho;have b5:decide ((s.size:Int)<=(k:Int)+1+2)=false:=dF (by omega);have wi1:IntKind.i64.wrap ((k:Int)+1+1)=(k:Int)+1+1:=by rw[IntKind.wrap_i64];omega
            have wi2:IntKind.i64.wrap ((k:Int)+1+2)=(k:Int)+1+2:=by rw[IntKind.wrap_i64];omega
            obtain ⟨hi,lo,hci,hcj,⟨ehi,elo⟩,FA⟩:=OT h o;have Hci:=hid hci;have Hcj:=hid hcj;have Hval:=hid FA;clear hci hcj FA;have mQ:=Io h;have SA:=Io o;rw[<-ehi]at mQ;rw[<-elo]at SA;by_cases g1:hi<0
            ·skip
             have He:=hid (j2 (w:=w) H.o.rel pY (by rw[kI,lU,ke,xk,KO];exact sP uI yn (by omega)) (RB.drew H.o.row));clear hn hl hs hq pY hlen kI cg hc kr lU H kK uI eP hd AT ke QH SV Ba Dm yn KN OM hh ho T5 Ij xk KO ehi elo mQ SA
             go_wp2_with fail
             have Bk:=hid (And.intro bk b1);clear bk b1
             go_region_held3 (fun w'=>w'=wr.drew) (first|rfl|assumption)
              (first
               |(go_at_call 177;(first|(with_reducible refine (Hci.o _).mono ?_)|(with_reducible refine (Hcj.o _).mono ?_));rintro e w' ⟨rfl,hw⟩;obtain rfl:=hw.symm))
             all_goals obtain ⟨bk,b1⟩:=Bk.o
             all_goals go_wp2
             all_goals go_ret3
             all_goals exact He.o
            ·have g1':(0:Int)<=hi:=by omega
             by_cases g2:lo<0
             ·skip
              have He:=hid (j2 (w:=w) H.o.rel pY (by rw[kI,lU,ke,xk,KO];exact sP uI yn (by omega)) (RB.drew H.o.row));clear hn hl hs hq pY hlen kI cg hc kr lU H kK uI eP hd AT ke QH SV Ba Dm yn KN OM hh ho T5 Ij xk KO ehi elo mQ SA
              go_wp2_with fail
              have Bk:=hid (And.intro bk b1);clear bk b1
              go_region_held3 (fun w'=>w'=wr.drew) (first|rfl|assumption)
               (first
                |(go_at_call 177;(first|(with_reducible refine (Hci.o _).mono ?_)|(with_reducible refine (Hcj.o _).mono ?_));rintro e w' ⟨rfl,hw⟩;obtain rfl:=hw.symm))
              all_goals obtain ⟨bk,b1⟩:=Bk.o
              all_goals go_wp2
              all_goals go_ret3
              all_goals exact He.o
             ·have g2':(0:Int)<=lo:=by omega
              have cw:cH q (l.drop k)=(cH q (l.drop (k+4))).map fun p=>(hexB h o::p.1,p.2+4):=by rw[kI,lU,ke,xk,KO];exact PG uI yn (by omega) (by omega)
              have hW:=H.o;have iU:=hid (RB.drew hW.row);have b9:=hid (fun o=>(RB.drew hW.row).row.alloc o);have jQ:=hid (fun w2 v' (h':RB w w2 v' (out++[hexB h o]))=>QW.step hW (show 1<=4 by decide) (by omega) cw h');have df:=hid (jB (k:=k) (m:=4) (z:=(k:Int)+1+2+1) (by omega));have cY:=hid (gX (n:=n) (k:=k) (m:=4) (z:=(k:Int)+1+2+1) cg (by decide) (by omega));have Xs:=hid (fun W:World=>RP (W:=W) (Hval.o g1' g2'))
              have gb1:decide (hi<0)=false:=dF g1;have gb2:decide (lo<0)=false:=dF g2;clear g1 g2 g1' g2';clear hn hl hs hq pY hlen kI cg hc kr lU H cw hW kK uI eP hd AT ke QH SV Ba Dm yn KN OM hh ho T5 Ij xk KO ehi elo mQ SA
              go_wp2_with fail
              have Bk:=hid (And.intro bk b1);clear bk b1
              go_region_held3 (fun w'=>w'=wr.drew) (first|rfl|assumption)
               (first
                |(go_at_call 177;(first|(with_reducible refine (Hci.o _).mono ?_)|(with_reducible refine (Hcj.o _).mono ?_));rintro e w' ⟨rfl,hw⟩;obtain rfl:=hw.symm))
              all_goals obtain ⟨bk,b1⟩:=Bk.o
              all_goals clear wi1 wi2 ib zq uf OP
              all_goals go_wp2_with (at_builtin;refine e9 rfl _ _ rfl vb out rfl (b9.o _) _ (hexB h o) rfl (Xs.o _) yp.o ?_;intro v' w2 aB bC aA;have aX:=hid (jQ.o w2 v' (RB.app iU.o aB bC aA));clear aB bC aA)
              all_goals go_roundw
              all_goals first
               |exact ⟨_,_,_,rfl,df.o,aX⟩
               |exact cY.o
           ·have b5:decide ((s.size:Int)<=(k:Int)+1+2)=true:=dT (by omega);have He:=hid (j2 (w:=w) H.o.rel pY (by rw[kI];rw[lU,ke];exact sO uI yn (by rw[List.length_drop];omega)) H.o.row);clear hn hl hs hq pY hlen kI cg hc kr lU H kK uI eP hd AT ke QH SV Ba Dm yn KN OM;go_wp2
            go_ret3
            exact He.o
          ·have q120:((d.toNat:Int)==120)=false:=bF (by omega);have He:=hid (j2 (w:=w) H.o.rel pY (by rw[kI];rw[lU,ke];exact PH uI yn KN) H.o.row);clear hn hl hs hq pY hlen kI cg hc kr lU H kK uI eP hd AT ke QH SV Ba Dm yn KN;go_wp2
           go_ret3
           exact He.o
     ·have b4:((k:Int)+1==(s.size:Int))=true:=by rw[beq_iff_eq];omega
      have He:=hid (j2 (w:=w) H.o.rel pY (by rw[kI];rw[lU,fC (by omega)];exact IB uI) H.o.row);clear hn hl hs hq pY hlen kI cg hc kr lU H kK uI eP;go_wp2
      go_ret3
      exact He.o
    ·have t2:((c.toNat:Int) != 92)=true:=by rw[bne_iff_ne];omega
     have cw:cH q (l.drop k)=(cH q (l.drop (k+1))).map fun p=>(c::p.1,p.2+1):=by rw[kI];rw[lU];exact Dn kK uI
     have hW:=H.o;have iU:=hid hW.row;have b9:=hid (fun o=>hW.row.row.alloc o);have jQ:=hid (fun w2 v' (h:RB w w2 v' (out++[c]))=>QW.step hW (show 1<=1 by decide) (by omega) cw h);have df:=hid (jB (k:=k) (m:=1) (z:=(k:Int)+1) (by omega));have cY:=hid (gX (n:=n) (k:=k) (m:=1) (z:=(k:Int)+1) cg (by decide) (by omega));clear hn hl hs hq pY hlen kI cg hc kr lU H cw hW kK uI
     go_wp2_with (at_builtin;refine e9 rfl _ _ rfl vb out rfl (b9.o _) _ c rfl (World.cell?_alloc_new _ _ _ _) yp.o ?_;intro v' w2 aB bC aA;have aX:=hid (jQ.o w2 v' (RB.app iU.o aB bC aA));clear aB bC aA)
     go_roundw
     case rel=>exact ⟨_,_,_,rfl,df.o,aX⟩
     case measure=>exact cY.o
  ·have b3:decide (k<s.size)=false:=dF (by omega);have He:=hid (j2 (w:=w) H.o.rel pY (by rw[fC (by omega)];exact yR q) H.o.row);clear hn hl hs hq pY hlen kI cg H;go_wp2
   go_ret3
   exact He.o
theorem Co (w:World) (s:ByteArray) (i:Nat) (q:UInt8) (hs:s.size<=1048576) (hi:s.data.toList[i]? =some q) (hq:q.toNat=34\/q.toNat=39):
 Calls Tryz.prog 143 #[.string s,.int .i64 (i:Int)] w (jE w s.data.toList i):=by
 rcases hq with hq|hq
 ·exact x8 w s i q hs hi hq
 ·exact xZ w s i q hs hi hq
