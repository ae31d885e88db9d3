/-
Parts of a proof.
-/
import Derived.Test.YtfenoaeoedobmaaGreatDoorOw07
set_option linter.unusedVariables false
set_option linter.unusedSimpArgs false
set_option maxHeartbeats 16000000
set_option maxRecDepth 100000
namespace Go.Proofs.YtfenoaeoedobmaaGreatDoor
open Go Go.RowKit
def fJ (out s:List UInt8):List UInt8:=if out.length<=65536 then out++s else out
def nE:List UInt8:=[48,49,50,51,52,53,54,55,56,57,97,98,99,100,101,102]
def jg (c:UInt8):List UInt8:=
 if c.toNat=34\/c.toNat=92 then [92,c] else if c.toNat=10 then [92,110] else if c.toNat=9 then [92,116]
 else if c.toNat<32\/c.toNat=127 then [92,120,nE[c.toNat / 16]!,nE[c.toNat % 16]!] else [c]
def fU (l:List UInt8):List UInt8:=34::l.flatMap jg++[34]
def ly (l:List UInt8):List UInt8:=if l≠[]/\l.length<=64/\l.all cG=true then l else fU l
def dQ (n:Nd):List UInt8:=
 if n.quoted=true then 32::fU n.text.data.toList else if n.text.data.toList≠[] then 32::n.text.data.toList else []
def lu (ns:List Nd) (lay:Nat->Nat->Bool->List UInt8->List UInt8) (kind:Int) (indent:Nat):List Int->Bool->List UInt8->List UInt8
 |[],_,out=>out
 |k::r,there,out=>
  lu ns lay kind indent r false
   (if (ns[k.toNat]!).kind=1 then
    fJ (fJ (fJ (if there=true then out else fJ out (List.replicate indent 32)) (if kind=2 then ly (ns[k.toNat]!).key.data.toList++[58] else [45])) (dQ (ns[k.toNat]!))) [10]
   else if kind=2 then
    lay k.toNat (indent+2) false (fJ (fJ (if there=true then out else fJ out (List.replicate indent 32)) (ly (ns[k.toNat]!).key.data.toList++[58])) [10])
   else
    lay k.toNat (indent+2) true (fJ (fJ (if there=true then out else fJ out (List.replicate indent 32)) [45]) [32]))
def nD (ns:List Nd):Nat->Nat->Nat->Bool->List UInt8->List UInt8
 |0,_,_,_,out=>out
 |f+1,i,indent,there,out=>
  if (ns[i]!).kind=1 then (if dQ (ns[i]!)=[] then out else fJ (fJ out (dQ (ns[i]!)).tail) [10])
  else lu ns (nD ns f) (ns[i]!).kind indent (ns[i]!).kids there out
def nk (ns:List Nd):List UInt8:=nD ns ns.length 0 0 false []
def gv (w:World) (l:List UInt8) (i:Nat) (r:Ending) (w':World):Prop:=
 Below w.heap.size w w'/\r=match de (l.drop i) with
  |none=> .returned (.tuple #[.string ⟨#[]⟩,.int .i64 0,.bool false])
  |some (x,n)=> .returned (.tuple #[.string ⟨x.toArray⟩,.int .i64 ((i+n:Nat):Int),.bool true])
theorem gO {w w':World} {q:UInt8} {l:List UInt8} {i k:Nat} {out:List UInt8} {v:Value} (h:kO q l i k out) (hq:l[i]? =some q) (hs:bU q (l.drop k)=none) (hb:RB w w' v out):
 gv w l i (.returned (.tuple #[.string ⟨#[]⟩,.int .i64 0,.bool false])) w':=by
 refine ⟨hb.below,?_⟩;rw[h.none hq hs]
theorem oD {w w':World} {q:UInt8} {l:List UInt8} {i k:Nat} {out:List UInt8} {v:Value} (h:kO q l i k out) (hq:l[i]? =some q) (hs:bU q (l.drop k)=some ([],1)) (hb:RB w w' v out):
 gv w l i (.returned (.tuple #[.string ⟨out.toArray⟩,.int .i64 ((k:Int)+1),.bool true])) w':=by
 refine ⟨hb.below,?_⟩;rw[h.done hq hs];have:=h.1
 show _=Ending.returned (.tuple #[.string ⟨out.toArray⟩,.int .i64 ((i+(k+1-i):Nat):Int),.bool true])
 rw[show i+(k+1-i)=k+1 by omega];rfl
structure QW (w wr:World) (q:UInt8) (l:List UInt8) (i k:Nat) (v:Value) (out:List UInt8):Prop where
 rel:kO q l i k out
 row:RB w wr v out
 len:out.length<=k
theorem QW.first {w:World} {q:UInt8} {l:List UInt8} {i:Nat} (h:i<l.length):QW w w q l i (i+1) (.slice none 0 0) []:=⟨kO.first h,RO.first _ _ _,Nat.zero_le _⟩
theorem QW.step {w wr w2:World} {q:UInt8} {l:List UInt8} {i k m:Nat} {v v':Value} {out:List UInt8} {x:UInt8} (h:QW w wr q l i k v out) (hm:1<=m) (hkm:k+m<=l.length)
 (hs:bU q (l.drop k)=(bU q (l.drop (k+m))).map fun p=>(x::p.1,p.2+m)) (h2:RB w w2 v' (out++[x])):QW w w2 q l i (k+m) v' (out++[x]):=
 ⟨h.rel.step hm hkm hs,h2,by rw[aAc];have:=h.len;simp;omega⟩
theorem gq {k m:Nat} {z:Int} (h:z=((k+m:Nat):Int)):Value.int .i64 z= .int .i64 ((k+m:Nat):Int):=by rw[h]
theorem e9 {n k m:Nat} {z:Int} (h:k<n) (hm:1<=m) (hz:z=((k+m:Nat):Int)):n-(intOf (.int .i64 z)).toNat<n-(intOf (.int .i64 (k:Int))).toNat:=by
 rw[hz]
 show n-((k+m:Nat):Int).toNat<n-((k:Nat):Int).toNat
 omega
theorem pX (w:World) (s:ByteArray) (i:Nat) (q:UInt8) (hs:s.size<=1048576) (hi:s.data.toList[i]? =some q) (hq:q.toNat=39):
 Calls Tryz.prog 143 #[.string s,.int .i64 (i:Int)] w (gv w s.data.toList i):=by
 obtain ⟨n,hn⟩:=ex (s.size);have Hn:=hid hn;obtain ⟨l,hl⟩:=ex (s.data.toList);have Hl:=hid hl;have Hs:=hid hs;have Hi:=hid hi;have Hq:=hid hq;have hi0:∀w,(Instr.index 9 (.string s) (.int .i64 (i:Int))).run Tryz.prog w= .ok (.int .u8 39) w:=by
  intro w;rw[lB .i64 hi w,hq];rfl
 have Hlt:=hid (show i<l.length by rw[hl];exact (aAh hi).1);have b1:(i:Int)<1048576:=by have:=Hlt.o;rw[hl,an]at this;omega
 have Hii:Hid (bU q=bU q):=hid rfl;rw[<-hl];clear hn hl hs hi hq Hii;go_enter Tryz.func143,Tryz.ntmps143;go_wp2
 go_loopw [1,7] (fun vi vo wr=>∃(k:Nat) (vb:Value) (out:List UInt8),vb=vo/\vi= .int .i64 (k:Int)/\Hid (QW w wr q l i k vb out)) (fun vi _ _=>n-(intOf vi).toNat)
 case atStart=>exact ⟨i+1,_,[],rfl,rfl,hid (QW.first Hlt.o)⟩
 case round=>
  obtain ⟨k,vb,out,rfl,rfl,H⟩:=hrel;have hn:n=s.size:=Hn.o;have hl:l=s.data.toList:=Hl.o;have hs:=Hs.o;have hq:=Hq.o;have hqi:l[i]? =some q:=by rw[hl];exact Hi.o
  have hlen:l.length=s.size:=by rw[hl,an]
  have hout:out.length<=1000000000:=by have:=H.o.len;have:=H.o.rel.2.1;omega
  have Hout:=hid hout;have hqr:bU q=sqL:=by funext m;unfold bU;rw[if_neg (by omega)]
  clear hout hi0;by_cases hkn:k<n
  ·obtain ⟨c,hc⟩:=dL (s:=s) (by rw[<-hn];exact hkn);have hcl:l[k]? =some c:=by rw[hl];exact hc
   have hdk:=bT hcl;have hidx:=aN (s:=s) (k:Int) rfl hc;have b3:(k:Int)<(s.size:Int):=by omega
   have bk:(k:Int)<1048576:=by omega
   by_cases h39:c.toNat=39
   ·have t1:((c.toNat:Int)==39)=true:=by rw[beq_iff_eq];omega
    by_cases hk1:k+1<n
    ·obtain ⟨d,hd⟩:=dL (s:=s) (k:=k+1) (by omega);have hdl:l[k+1]? =some d:=by rw[hl];exact hd
     have hdk1:=bT hdl;have hidx1:=aN (s:=s) ((k:Int)+1) (by omega) hd;have b4:(k:Int)+1<(s.size:Int):=by omega
     by_cases hd39:d.toNat=39
     ·have t2:((d.toNat:Int)==39)=true:=by rw[beq_iff_eq];omega
      have hst:bU q (l.drop k)=(bU q (l.drop (k+2))).map fun p=>(c::p.1,p.2+2):=by rw[hqr];rw[hdk,hdk1];exact Bd h39 hd39
      have hW:=H.o;have Hrow:=hid hW.row;have Hown:=hid (fun o=>hW.row.row.alloc o);have Hst:=hid (fun w2 v' (h:RB w w2 v' (out++[c]))=>QW.step hW (show 1<=2 by decide) (by omega) hst h);have Hgo:=hid (gq (k:=k) (m:=2) (z:=(k:Int)+1+1) (by omega));have Hms:=hid (e9 (n:=n) (k:=k) (m:=2) (z:=(k:Int)+1+1) hkn (by decide) (by omega));clear hn hl hs hq hqi hlen hqr hkn hc hcl hdk H hst hW h39 hk1 hd hdl hdk1 hd39
      go_wp2_with (at_builtin;refine dG rfl _ _ rfl vb out rfl (Hown.o _) _ c rfl (World.cell?_alloc_new _ _ _ _) Hout.o ?_;intro v' w2 own2 gr2 new2;have Hend:=hid (Hst.o w2 v' (RB.app Hrow.o own2 gr2 new2));clear own2 gr2 new2)
      go_roundw
      case rel=>exact ⟨_,_,_,rfl,Hgo.o,Hend⟩
      case measure=>exact Hms.o
     ·have t2:((d.toNat:Int)==39)=false:=bF (by omega);have He:=hid (oD (w:=w) H.o.rel hqi (by rw[hqr];rw[hdk];exact kW h39 (fun e he=>by rw[hdk1]at he;simp only[List.head?_cons,Option.some.injEq]at he;subst he;exact hd39)) H.o.row);have hcv:=jG H.o.row.row;clear hn hl hs hq hqi hlen hqr hkn hc hcl hdk H h39 hk1 hd hdl hdk1 hd39;go_wp2
      go_ret3
      exact He.o
    ·have b4:decide ((k:Int)+1<(s.size:Int))=false:=dF (by omega);have He:=hid (oD (w:=w) H.o.rel hqi (by rw[hqr];rw[hdk];exact kW h39 (fun e he=>by rw[dropEnd (by omega)]at he;cases he)) H.o.row);have hcv:=jG H.o.row.row;clear hn hl hs hq hqi hlen hqr hkn hc hcl hdk H h39 hk1;go_wp2
     go_ret3
     exact He.o
   ·have t1:((c.toNat:Int)==39)=false:=bF (by omega);by_cases h92:c.toNat=92
    ·have t2:((c.toNat:Int) != 92)=false:=by rw[bne_eq_false_iff_eq];omega
     have wk:True:=trivial;have hst:bU q (l.drop k)=(bU q (l.drop (k+1))).map fun p=>(c::p.1,p.2+1):=by rw[hqr];rw[hdk];exact oq h39
     have hW:=H.o;have Hrow:=hid hW.row;have Hown:=hid (fun o=>hW.row.row.alloc o);have Hst:=hid (fun w2 v' (h:RB w w2 v' (out++[c]))=>QW.step hW (show 1<=1 by decide) (by omega) hst h);have Hgo:=hid (gq (k:=k) (m:=1) (z:=(k:Int)+1) (by omega));have Hms:=hid (e9 (n:=n) (k:=k) (m:=1) (z:=(k:Int)+1) hkn (by decide) (by omega));clear hn hl hs hq hqi hlen hqr hkn hc hcl hdk H hst hW h39 h92 wk
     go_wp2_with (at_builtin;refine dG rfl _ _ rfl vb out rfl (Hown.o _) _ c rfl (World.cell?_alloc_new _ _ _ _) Hout.o ?_;intro v' w2 own2 gr2 new2;have Hend:=hid (Hst.o w2 v' (RB.app Hrow.o own2 gr2 new2));clear own2 gr2 new2)
     go_roundw
     case rel=>exact ⟨_,_,_,rfl,Hgo.o,Hend⟩
     case measure=>exact Hms.o
    ·have t2:((c.toNat:Int) != 92)=true:=by rw[bne_iff_ne];omega
     have wk:True:=trivial;have hst:bU q (l.drop k)=(bU q (l.drop (k+1))).map fun p=>(c::p.1,p.2+1):=by rw[hqr];rw[hdk];exact oq h39
     have hW:=H.o;have Hrow:=hid hW.row;have Hown:=hid (fun o=>hW.row.row.alloc o);have Hst:=hid (fun w2 v' (h:RB w w2 v' (out++[c]))=>QW.step hW (show 1<=1 by decide) (by omega) hst h);have Hgo:=hid (gq (k:=k) (m:=1) (z:=(k:Int)+1) (by omega));have Hms:=hid (e9 (n:=n) (k:=k) (m:=1) (z:=(k:Int)+1) hkn (by decide) (by omega));clear hn hl hs hq hqi hlen hqr hkn hc hcl hdk H hst hW h39 h92 wk
     go_wp2_with (at_builtin;refine dG rfl _ _ rfl vb out rfl (Hown.o _) _ c rfl (World.cell?_alloc_new _ _ _ _) Hout.o ?_;intro v' w2 own2 gr2 new2;have Hend:=hid (Hst.o w2 v' (RB.app Hrow.o own2 gr2 new2));clear own2 gr2 new2)
     go_roundw
     case rel=>exact ⟨_,_,_,rfl,Hgo.o,Hend⟩
     case measure=>exact Hms.o
  ·have b3:decide (k<s.size)=false:=dF (by omega);have He:=hid (gO (w:=w) H.o.rel hqi (by rw[dropEnd (by omega)];exact qG q) H.o.row);clear hn hl hs hq hqi hlen hqr hkn H;go_wp2
   go_ret3
   exact He.o
theorem pY (w:World) (s:ByteArray) (i:Nat) (q:UInt8) (hs:s.size<=1048576) (hi:s.data.toList[i]? =some q) (hq:q.toNat=34):
 Calls Tryz.prog 143 #[.string s,.int .i64 (i:Int)] w (gv w s.data.toList i):=by
 obtain ⟨n,hn⟩:=ex (s.size);have Hn:=hid hn;obtain ⟨l,hl⟩:=ex (s.data.toList);have Hl:=hid hl;have Hs:=hid hs;have Hi:=hid hi;have Hq:=hid hq;have hi0:∀w,(Instr.index 9 (.string s) (.int .i64 (i:Int))).run Tryz.prog w= .ok (.int .u8 34) w:=by
  intro w;rw[lB .i64 hi w,hq];rfl
 have Hlt:=hid (show i<l.length by rw[hl];exact (aAh hi).1);have b1:(i:Int)<1048576:=by have:=Hlt.o;rw[hl,an]at this;omega
 have Hii:Hid (bU q=bU q):=hid rfl;rw[<-hl];clear hn hl hs hi hq Hii;go_enter Tryz.func143,Tryz.ntmps143;go_wp2
 go_loopw [1,7] (fun vi vo wr=>∃(k:Nat) (vb:Value) (out:List UInt8),vb=vo/\vi= .int .i64 (k:Int)/\Hid (QW w wr q l i k vb out)) (fun vi _ _=>n-(intOf vi).toNat)
 case atStart=>exact ⟨i+1,_,[],rfl,rfl,hid (QW.first Hlt.o)⟩
 case round=>
  obtain ⟨k,vb,out,rfl,rfl,H⟩:=hrel;have hn:n=s.size:=Hn.o;have hl:l=s.data.toList:=Hl.o;have hs:=Hs.o;have hq:=Hq.o;have hqi:l[i]? =some q:=by rw[hl];exact Hi.o
  have hlen:l.length=s.size:=by rw[hl,an]
  have hout:out.length<=1000000000:=by have:=H.o.len;have:=H.o.rel.2.1;omega
  have Hout:=hid hout;have hqr:bU q=dqL:=by funext m;unfold bU;rw[if_pos hq]
  clear hout hi0;by_cases hkn:k<n
  ·obtain ⟨c,hc⟩:=dL (s:=s) (by rw[<-hn];exact hkn);have hcl:l[k]? =some c:=by rw[hl];exact hc
   have hdk:=bT hcl;have hidx:=aN (s:=s) (k:Int) rfl hc;have b3:(k:Int)<(s.size:Int):=by omega
   have bk:(k:Int)<1048576:=by omega
   by_cases h34:c.toNat=34
   ·have t1:((c.toNat:Int)==34)=true:=by rw[beq_iff_eq];omega
    have He:=hid (oD (w:=w) H.o.rel hqi (by rw[hqr];rw[hdk];exact uD h34) H.o.row);have hcv:=jG H.o.row.row;clear hn hl hs hq hqi hlen hqr hkn hc hcl hdk H h34;go_wp2
    go_ret3
    exact He.o
   ·have t1:((c.toNat:Int)==34)=false:=bF (by omega);by_cases h92:c.toNat=92
    ·have t2:((c.toNat:Int) != 92)=false:=by rw[bne_eq_false_iff_eq];omega
     by_cases hk1:k+1<n
     ·obtain ⟨d,hd⟩:=dL (s:=s) (k:=k+1) (by omega);have hdl:l[k+1]? =some d:=by rw[hl];exact hd
      have hdk1:=bT hdl;have hidx1:=aN (s:=s) ((k:Int)+1) (by omega) hd;have b4:((k:Int)+1==(s.size:Int))=false:=bF (by omega);by_cases e34:d.toNat=34
      ·have q34:((d.toNat:Int)==34)=true:=by rw[beq_iff_eq];omega
       have hst:bU q (l.drop k)=(bU q (l.drop (k+2))).map fun p=>(d::p.1,p.2+2):=by rw[hqr];rw[hdk,hdk1];exact pk h92 (by omega) (by unfold qe;simp[e34])
       have hW:=H.o;have Hrow:=hid hW.row;have Hown:=hid (fun o=>hW.row.row.alloc o);have Hst:=hid (fun w2 v' (h:RB w w2 v' (out++[d]))=>QW.step hW (show 1<=2 by decide) (by omega) hst h);have Hgo:=hid (gq (k:=k) (m:=2) (z:=(k:Int)+1+1) (by omega));have Hms:=hid (e9 (n:=n) (k:=k) (m:=2) (z:=(k:Int)+1+1) hkn (by decide) (by omega));clear hn hl hs hq hqi hlen hqr hkn hc hcl hdk H hst hW h34 h92 hk1 hd hdl hdk1 e34
       go_wp2_with (at_builtin;refine dG rfl _ _ rfl vb out rfl (Hown.o _) _ d rfl (World.cell?_alloc_new _ _ _ _) Hout.o ?_;intro v' w2 own2 gr2 new2;have Hend:=hid (Hst.o w2 v' (RB.app Hrow.o own2 gr2 new2));clear own2 gr2 new2)
       go_roundw
       case rel=>exact ⟨_,_,_,rfl,Hgo.o,Hend⟩
       case measure=>exact Hms.o
      ·have q34:((d.toNat:Int)==34)=false:=bF (by omega);by_cases e92:d.toNat=92
       ·have q92:((d.toNat:Int)==92)=true:=by rw[beq_iff_eq];omega
        have hst:bU q (l.drop k)=(bU q (l.drop (k+2))).map fun p=>(d::p.1,p.2+2):=by rw[hqr];rw[hdk,hdk1];exact pk h92 (by omega) (by unfold qe;simp[e92])
        have hW:=H.o;have Hrow:=hid hW.row;have Hown:=hid (fun o=>hW.row.row.alloc o);have Hst:=hid (fun w2 v' (h:RB w w2 v' (out++[d]))=>QW.step hW (show 1<=2 by decide) (by omega) hst h);have Hgo:=hid (gq (k:=k) (m:=2) (z:=(k:Int)+1+1) (by omega));have Hms:=hid (e9 (n:=n) (k:=k) (m:=2) (z:=(k:Int)+1+1) hkn (by decide) (by omega));clear hn hl hs hq hqi hlen hqr hkn hc hcl hdk H hst hW h34 h92 hk1 hd hdl hdk1 e34 e92
        go_wp2_with (at_builtin;refine dG rfl _ _ rfl vb out rfl (Hown.o _) _ d rfl (World.cell?_alloc_new _ _ _ _) Hout.o ?_;intro v' w2 own2 gr2 new2;have Hend:=hid (Hst.o w2 v' (RB.app Hrow.o own2 gr2 new2));clear own2 gr2 new2)
        go_roundw
        case rel=>exact ⟨_,_,_,rfl,Hgo.o,Hend⟩
        case measure=>exact Hms.o
       ·have q92:((d.toNat:Int)==92)=false:=bF (by omega);by_cases e110:d.toNat=110
        ·have q110:((d.toNat:Int)==110)=true:=by rw[beq_iff_eq];omega
         have hst:bU q (l.drop k)=(bU q (l.drop (k+2))).map fun p=>(10::p.1,p.2+2):=by rw[hqr];rw[hdk,hdk1];exact pk h92 (by omega) (by unfold qe;simp[e110])
         have hW:=H.o;have Hrow:=hid hW.row;have Hown:=hid (fun o=>hW.row.row.alloc o);have Hst:=hid (fun w2 v' (h:RB w w2 v' (out++[10]))=>QW.step hW (show 1<=2 by decide) (by omega) hst h);have Hgo:=hid (gq (k:=k) (m:=2) (z:=(k:Int)+1+1) (by omega));have Hms:=hid (e9 (n:=n) (k:=k) (m:=2) (z:=(k:Int)+1+1) hkn (by decide) (by omega));clear hn hl hs hq hqi hlen hqr hkn hc hcl hdk H hst hW h34 h92 hk1 hd hdl hdk1 e34 e92 e110
         go_wp2_with (at_builtin;refine dG rfl _ _ rfl vb out rfl (Hown.o _) _ 10 rfl (World.cell?_alloc_new _ _ _ _) Hout.o ?_;intro v' w2 own2 gr2 new2;have Hend:=hid (Hst.o w2 v' (RB.app Hrow.o own2 gr2 new2));clear own2 gr2 new2)
         go_roundw
         case rel=>exact ⟨_,_,_,rfl,Hgo.o,Hend⟩
         case measure=>exact Hms.o
        ·have q110:((d.toNat:Int)==110)=false:=bF (by omega);by_cases e116:d.toNat=116
         ·have q116:((d.toNat:Int)==116)=true:=by rw[beq_iff_eq];omega
          have hst:bU q (l.drop k)=(bU q (l.drop (k+2))).map fun p=>(9::p.1,p.2+2):=by rw[hqr];rw[hdk,hdk1];exact pk h92 (by omega) (by unfold qe;simp[e116])
          have hW:=H.o;have Hrow:=hid hW.row;have Hown:=hid (fun o=>hW.row.row.alloc o);have Hst:=hid (fun w2 v' (h:RB w w2 v' (out++[9]))=>QW.step hW (show 1<=2 by decide) (by omega) hst h);have Hgo:=hid (gq (k:=k) (m:=2) (z:=(k:Int)+1+1) (by omega));have Hms:=hid (e9 (n:=n) (k:=k) (m:=2) (z:=(k:Int)+1+1) hkn (by decide) (by omega));clear hn hl hs hq hqi hlen hqr hkn hc hcl hdk H hst hW h34 h92 hk1 hd hdl hdk1 e34 e92 e110 e116
          go_wp2_with (at_builtin;refine dG rfl _ _ rfl vb out rfl (Hown.o _) _ 9 rfl (World.cell?_alloc_new _ _ _ _) Hout.o ?_;intro v' w2 own2 gr2 new2;have Hend:=hid (Hst.o w2 v' (RB.app Hrow.o own2 gr2 new2));clear own2 gr2 new2)
          go_roundw
          case rel=>exact ⟨_,_,_,rfl,Hgo.o,Hend⟩
          case measure=>exact Hms.o
         ·have q116:((d.toNat:Int)==116)=false:=bF (by omega);have hesc:qe d=none:=by unfold qe;rw[if_neg (by omega),if_neg e110,if_neg e116]
          by_cases e120:d.toNat=120
          ·have q120:((d.toNat:Int)==120)=true:=by rw[beq_iff_eq];omega
           by_cases hk3:k+3<n
           ·obtain ⟨h,hh⟩:=dL (s:=s) (k:=k+2) (by omega);obtain ⟨o,ho⟩:=dL (s:=s) (k:=k+3) (by omega);have hhl:l[k+2]? =some h:=by rw[hl];exact hh
            have hol:l[k+3]? =some o:=by rw[hl];exact ho
            have hdk2:=bT hhl;have hdk3:=bT hol;have hidx2:=aN (s:=s) ((k:Int)+1+1) (by omega) hh;have hidx3:=aN (s:=s) ((k:Int)+1+2) (by omega) ho;have b5:decide ((s.size:Int)<=(k:Int)+1+2)=false:=dF (by omega);have wi1:IntKind.i64.wrap ((k:Int)+1+1)=(k:Int)+1+1:=by rw[IntKind.wrap_i64];omega
            have wi2:IntKind.i64.wrap ((k:Int)+1+2)=(k:Int)+1+2:=by rw[IntKind.wrap_i64];omega
            obtain ⟨hi,lo,hci,hcj,⟨ehi,elo⟩,hval⟩:=C1 h o;have Hci:=hid hci;have Hcj:=hid hcj;have Hval:=hid hval;clear hci hcj hval;have hge:=yh h;have hge2:=yh o;rw[<-ehi]at hge;rw[<-elo]at hge2;by_cases g1:hi<0
            ·skip
             have He:=hid (gO (w:=w) H.o.rel hqi (by rw[hqr,hdk,hdk1,hdk2,hdk3];exact mD h92 e120 (by omega)) (RB.drew H.o.row));clear hn hl hs hq hqi hlen hqr hkn hc hcl hdk H h34 h92 hk1 hd hdl hdk1 e34 e92 e110 e116 e120 hesc hk3 hh ho hhl hol hdk2 hdk3 ehi elo hge hge2
             go_wp2_with fail
             have Bk:=hid (And.intro bk b1);clear bk b1
             go_region_held3 (fun w'=>w'=wr.drew) (first|rfl|assumption)
              (first
               |(go_at_call 177;(first|(with_reducible refine (Hci.o _).mono ?_)|(with_reducible refine (Hcj.o _).mono ?_));rintro e w' ⟨rfl,hw⟩;obtain rfl:=hw.symm))
             all_goals obtain ⟨bk,b1⟩:=Bk.o
             all_goals go_wp2
             all_goals go_ret3
             all_goals exact He.o
            ·have g1':(0:Int)<=hi:=by omega
             by_cases g2:lo<0
             ·skip
              have He:=hid (gO (w:=w) H.o.rel hqi (by rw[hqr,hdk,hdk1,hdk2,hdk3];exact mD h92 e120 (by omega)) (RB.drew H.o.row));clear hn hl hs hq hqi hlen hqr hkn hc hcl hdk H h34 h92 hk1 hd hdl hdk1 e34 e92 e110 e116 e120 hesc hk3 hh ho hhl hol hdk2 hdk3 ehi elo hge hge2
              go_wp2_with fail
              have Bk:=hid (And.intro bk b1);clear bk b1
              go_region_held3 (fun w'=>w'=wr.drew) (first|rfl|assumption)
               (first
                |(go_at_call 177;(first|(with_reducible refine (Hci.o _).mono ?_)|(with_reducible refine (Hcj.o _).mono ?_));rintro e w' ⟨rfl,hw⟩;obtain rfl:=hw.symm))
              all_goals obtain ⟨bk,b1⟩:=Bk.o
              all_goals go_wp2
              all_goals go_ret3
              all_goals exact He.o
             ·have g2':(0:Int)<=lo:=by omega
              have hst:bU q (l.drop k)=(bU q (l.drop (k+4))).map fun p=>(hexB h o::p.1,p.2+4):=by rw[hqr,hdk,hdk1,hdk2,hdk3];exact Du h92 e120 (by omega) (by omega)
              have hW:=H.o;have Hrow:=hid (RB.drew hW.row);have Hown:=hid (fun o=>(RB.drew hW.row).row.alloc o);have Hst:=hid (fun w2 v' (h':RB w w2 v' (out++[hexB h o]))=>QW.step hW (show 1<=4 by decide) (by omega) hst h');have Hgo:=hid (gq (k:=k) (m:=4) (z:=(k:Int)+1+2+1) (by omega));have Hms:=hid (e9 (n:=n) (k:=k) (m:=4) (z:=(k:Int)+1+2+1) hkn (by decide) (by omega));have Hnew:=hid (fun W:World=>E9 (W:=W) (Hval.o g1' g2'))
              have gb1:decide (hi<0)=false:=dF g1;have gb2:decide (lo<0)=false:=dF g2;clear g1 g2 g1' g2';clear hn hl hs hq hqi hlen hqr hkn hc hcl hdk H hst hW h34 h92 hk1 hd hdl hdk1 e34 e92 e110 e116 e120 hesc hk3 hh ho hhl hol hdk2 hdk3 ehi elo hge hge2
              go_wp2_with fail
              have Bk:=hid (And.intro bk b1);clear bk b1
              go_region_held3 (fun w'=>w'=wr.drew) (first|rfl|assumption)
               (first
                |(go_at_call 177;(first|(with_reducible refine (Hci.o _).mono ?_)|(with_reducible refine (Hcj.o _).mono ?_));rintro e w' ⟨rfl,hw⟩;obtain rfl:=hw.symm))
              all_goals obtain ⟨bk,b1⟩:=Bk.o
              all_goals clear wi1 wi2 hidx hidx1 hidx2 hidx3
              all_goals go_wp2_with (at_builtin;refine dG rfl _ _ rfl vb out rfl (Hown.o _) _ (hexB h o) rfl (Hnew.o _) Hout.o ?_;intro v' w2 own2 gr2 new2;have Hend:=hid (Hst.o w2 v' (RB.app Hrow.o own2 gr2 new2));clear own2 gr2 new2)
              all_goals go_roundw
              all_goals first
               |exact ⟨_,_,_,rfl,Hgo.o,Hend⟩
               |exact Hms.o
           ·have b5:decide ((s.size:Int)<=(k:Int)+1+2)=true:=dT (by omega);have He:=hid (gO (w:=w) H.o.rel hqi (by rw[hqr];rw[hdk,hdk1];exact mC h92 e120 (by rw[List.length_drop];omega)) H.o.row);clear hn hl hs hq hqi hlen hqr hkn hc hcl hdk H h34 h92 hk1 hd hdl hdk1 e34 e92 e110 e116 e120 hesc hk3;go_wp2
            go_ret3
            exact He.o
          ·have q120:((d.toNat:Int)==120)=false:=bF (by omega);have He:=hid (gO (w:=w) H.o.rel hqi (by rw[hqr];rw[hdk,hdk1];exact Dv h92 e120 hesc) H.o.row);clear hn hl hs hq hqi hlen hqr hkn hc hcl hdk H h34 h92 hk1 hd hdl hdk1 e34 e92 e110 e116 e120 hesc;go_wp2
           go_ret3
           exact He.o
     ·have b4:((k:Int)+1==(s.size:Int))=true:=by rw[beq_iff_eq];omega
      have He:=hid (gO (w:=w) H.o.rel hqi (by rw[hqr];rw[hdk,dropEnd (by omega)];exact yp h92) H.o.row);clear hn hl hs hq hqi hlen hqr hkn hc hcl hdk H h34 h92 hk1;go_wp2
      go_ret3
      exact He.o
    ·have t2:((c.toNat:Int) != 92)=true:=by rw[bne_iff_ne];omega
     have hst:bU q (l.drop k)=(bU q (l.drop (k+1))).map fun p=>(c::p.1,p.2+1):=by rw[hqr];rw[hdk];exact uC h34 h92
     have hW:=H.o;have Hrow:=hid hW.row;have Hown:=hid (fun o=>hW.row.row.alloc o);have Hst:=hid (fun w2 v' (h:RB w w2 v' (out++[c]))=>QW.step hW (show 1<=1 by decide) (by omega) hst h);have Hgo:=hid (gq (k:=k) (m:=1) (z:=(k:Int)+1) (by omega));have Hms:=hid (e9 (n:=n) (k:=k) (m:=1) (z:=(k:Int)+1) hkn (by decide) (by omega));clear hn hl hs hq hqi hlen hqr hkn hc hcl hdk H hst hW h34 h92
     go_wp2_with (at_builtin;refine dG rfl _ _ rfl vb out rfl (Hown.o _) _ c rfl (World.cell?_alloc_new _ _ _ _) Hout.o ?_;intro v' w2 own2 gr2 new2;have Hend:=hid (Hst.o w2 v' (RB.app Hrow.o own2 gr2 new2));clear own2 gr2 new2)
     go_roundw
     case rel=>exact ⟨_,_,_,rfl,Hgo.o,Hend⟩
     case measure=>exact Hms.o
  ·have b3:decide (k<s.size)=false:=dF (by omega);have He:=hid (gO (w:=w) H.o.rel hqi (by rw[dropEnd (by omega)];exact qG q) H.o.row);clear hn hl hs hq hqi hlen hqr hkn H;go_wp2
   go_ret3
   exact He.o
theorem tI (w:World) (s:ByteArray) (i:Nat) (q:UInt8) (hs:s.size<=1048576) (hi:s.data.toList[i]? =some q) (hq:q.toNat=34\/q.toNat=39):
 Calls Tryz.prog 143 #[.string s,.int .i64 (i:Int)] w (gv w s.data.toList i):=by
 rcases hq with hq|hq
 ·exact pY w s i q hs hi hq
 ·exact pX w s i q hs hi hq
