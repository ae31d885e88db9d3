/-
Parts of a proof.
-/
import Derived.Shelf.Strings.OnBuilder
import Derived.Shelf.Strconv.Itoa3
import Derived.Shelf.Strconv.Itoa4
import Derived.Test.YtfenoaeoedobmaaGreatDoorOn09
import Derived.Test.YtfenoaeoedobmaaGreatDoorOn37
set_option linter.unusedVariables false
set_option linter.unusedSimpArgs false
set_option maxHeartbeats 8000000
set_option maxRecDepth 20000
namespace Go.Proofs.YtfenoaeoedobmaaGreatDoor
open Go Go.RowKit
abbrev NRowW:=NRowM 1048576
structure WrS (w0 w:World) (rb:Nat) (nv:Value) (ms:List NdM):Prop where
 below:Below w0.heap.size w0 w
 rge:w0.heap.size<=rb
 blk:w.heap[rb]? =some (.cells #[nv] 127 (0,0))
 nr:NRowW w0 w rb nv ms
theorem WrS.later {w0 w w2:World} {rb:Nat} {nv:Value} {ms:List NdM} (h:WrS w0 w rb nv ms) (hb:Below w.heap.size w w2):WrS w0 w2 rb nv ms:=
 ⟨h.below.trans (hb.mono h.below.size),h.rge,(hb.block rb (af h.blk)).trans h.blk,h.nr.later hb⟩
theorem WrS.rd_lt {w0 w:World} {rb:Nat} {nv:Value} {ms:List NdM} (h:WrS w0 w rb nv ms) {g:Nat} (hg:RdF rb nv ms g):w0.heap.size<=g/\g<w.heap.size:=by
 rcases hg with rfl|hg
 ·exact ⟨h.rge,af h.blk⟩
 ·have:=h.nr.own_lt hg;exact ⟨this.1,this.2.1⟩
def jk (w0 w:World) (rb:Nat) (nv:Value) (ms:List NdM) (ns2:List Nd) (w':World):Prop:=
 ∃l9 ij,WrS w0 w' rb l9 ij/\nds ij=ns2/\Mod (RdF rb nv ms) w w'/\∀g,nOwn l9 ij g->nOwn nv ms g\/w.heap.size<=g
theorem Sc {w0 w w1 w5:World} {rb n:Nat} {ao gd:Option Addr} {c c5:Nat} {ms:List NdM} {x:Nd} (h:WrS w0 w rb (.slice ao ms.length c) ms) (hn:n=ms.length) (hx:x.kids=[]) (hk:I64 x.kind) (hl:I64 x.line) (ht:x.text.size<=1048576) (cl:x.key.size<=1048576) (hlen:n<1048576)
 (bG:Below w.heap.size w w1) (aB:w5.ownsRow 0 55 6 (.slice gd (n+1) c5) (n+1) (ms.flatMap NdM.cells++NdM.cells ⟨x,.slice none 0 0⟩)) (bC:w1.grownBy w5 (Value.slice ao n c).ownBlock)
 (aA:∀g,(Value.slice gd (n+1) c5).ownBlock=some g->(Value.slice ao n c).ownBlock=some g\/w1.heap.size<=g):
 w5.heap[rb]? =some (.cells #[.slice ao n c] 127 (0,0))/\
 WrS w0 (w5.setCell ⟨rb,0,none⟩ (.slice gd (n+1) c5)) rb (.slice gd (n+1) c5) (ms++[⟨x,.slice none 0 0⟩])/\
 Mod (RdF rb (.slice ao n c) ms) w (w5.setCell ⟨rb,0,none⟩ (.slice gd (n+1) c5))/\
 ∀g,nOwn (.slice gd (n+1) c5) (ms++[⟨x,.slice none 0 0⟩]) g->nOwn (.slice ao n c) ms g\/w.heap.size<=g:=by
 subst hn;have h1:=h.later bG;obtain ⟨FF,lG⟩:=h.nr.app (x:=x) h.below.size bG (af h.blk) hx hk hl ht cl hlen aB bC aA;have hM:Mod (fun b=>(Value.slice ao ms.length c).ownBlock=some b) w1 w5:=(Mod.refl _ _).grown bC (fun b e _=>e);have bg:w5.heap[rb]? =some (.cells #[.slice ao ms.length c] 127 (0,0)):=hM.heap h1.blk (fun e=>(h.nr.new rb e).2 rfl);have hS:Mod (fun b=>b=rb) w5 (w5.setCell ⟨rb,0,none⟩ (.slice gd (ms.length+1) c5)):=(Mod.refl _ _).setCell _ _ (fun _=>rfl)
 have hW:Mod (RdF rb (.slice ao ms.length c) ms) w (w5.setCell ⟨rb,0,none⟩ (.slice gd (ms.length+1) c5)):=
  ((Mod.ofBelow (F:=RdF rb (.slice ao ms.length c) ms) bG (fun b hb mQ=>by omega)).trans' hM (fun i hi q=> .inr (.inl q))).trans' hS (fun i hi q=> .inl q)
 refine ⟨bg,⟨h.below.trans (hW.below h.below.size (fun b hb=>(h.rd_lt hb).1)),h.rge,aI bg 0 _,FF.mod hS (fun g hg e=>(FF.own_lt hg).2.2 e)⟩,hW,fun g hg=> ?_⟩;rcases lG g hg with q|q
 ·exact .inl q
 ·exact .inr (aBl bG.size q)
theorem Sb {w0 w w1 w5:World} {rb i kid q g:Nat} {nv:Value} {gd:Option Addr} {c5:Nat} {ms:List NdM} {m:NdM} (h:WrS w0 w rb nv ms) (hi:ms[i]? =some m) (hg:nv.ownBlock=some g) (hq:q=m.nd.kids.length) (LA:q<1048576)
 (bG:Below w.heap.size w w1) (aB:w5.ownsRow 0 3 1 (.slice gd (q+1) c5) (q+1) (m.nd.kids.flatMap dM++[.int .i64 (kid:Int)])) (bC:w1.grownBy w5 m.kv.ownBlock)
 (aA:∀g,(Value.slice gd (q+1) c5).ownBlock=some g->m.kv.ownBlock=some g\/w1.heap.size<=g):
 Mod (RdF rb nv ms) w w5/\w5.heap[rb]? =w.heap[rb]? /\w5.heap[g]? =w.heap[g]? /\
 WrS w0 (w5.setCell ⟨g,i*6+5,none⟩ (.slice gd (q+1) c5)) rb nv (ms.set i ⟨{m.nd with kids:=m.nd.kids++[(kid:Int)]},.slice gd (q+1) c5⟩)/\
 Mod (RdF rb nv ms) w (w5.setCell ⟨g,i*6+5,none⟩ (.slice gd (q+1) c5))/\
 ∀b,nOwn nv (ms.set i ⟨{m.nd with kids:=m.nd.kids++[(kid:Int)]},.slice gd (q+1) c5⟩) b->nOwn nv ms b\/w.heap.size<=b:=by
 subst hq;have h1:=h.later bG;have pG:=List.mem_of_getElem? hi;have hP:=h1.nr.each m pG;have hM:Mod (fun b=>m.kv.ownBlock=some b) w1 w5:=(Mod.refl _ _).grown bC (fun b e _=>e);have hrb:w5.heap[rb]? =w1.heap[rb]? :=hM.block rb (af h1.blk) (fun e=>(h.nr.kid m pG rb e).2 rfl);have KM:w5.heap[g]? =w1.heap[g]? :=hM.block g (h1.nr.row.lt g hg).2 (fun e=>(h.nr.kid m pG g e).1 hg);have hW:Mod (RdF rb nv ms) w w5:=(Mod.ofBelow (F:=RdF rb nv ms) bG (fun b hb mQ=>by omega)).trans' hM (fun b hb q=> .inr (.inr ⟨m,pG,q⟩))
 have hS:Mod (fun b=>b=g) w5 (w5.setCell ⟨g,i*6+5,none⟩ (.slice gd (m.nd.kids.length+1) c5)):=(Mod.refl _ _).setCell _ _ (fun _=>rfl);have O9:Mod (RdF rb nv ms) w (w5.setCell ⟨g,i*6+5,none⟩ (.slice gd (m.nd.kids.length+1) c5)):=hW.trans' hS (fun b hb q=> .inr (.inl (by rw[q];exact hg)));have xU:g≠rb:=(h.nr.new g hg).2;have hP5:NdP w5 w0.heap.size ⟨{m.nd with kids:=m.nd.kids++[(kid:Int)]},.slice gd (m.nd.kids.length+1) c5⟩:=by
  refine ⟨?_,fun b hb=> ?_,hP.kind,hP.line,hP.text,hP.key,?_⟩
  ·show w5.ownsRow 0 3 1 (.slice gd (m.nd.kids.length+1) c5) (m.nd.kids++[(kid:Int)]).length ((m.nd.kids++[(kid:Int)]).flatMap dM)
   rw[aBj,List.flatMap_append,List.flatMap_singleton];exact aB
  ·rcases aA b hb with q|q
   ·exact hP.fresh b q
   ·exact aBl h1.below.size q
  ·show (m.nd.kids++[(kid:Int)]).length<=1048576
   rw[aBj];simp;omega
 have hN:=NRowM.kids (m':=⟨{m.nd with kids:=m.nd.kids++[(kid:Int)]},.slice gd (m.nd.kids.length+1) c5⟩) h1.nr h1.below.size (af h1.blk) hi hg hM rfl hP5 aA;refine ⟨hW,hrb.trans (bG.block _ (af h.blk)),KM.trans (bG.block _ (h.nr.row.lt g hg).2),⟨h.below.trans (O9.below h.below.size (fun b hb=>(h.rd_lt hb).1)),h.rge,?_,hN⟩,O9,fun b hb=> ?_⟩
 ·rw[hS.block rb (Nat.lt_of_lt_of_le (af h1.blk) hM.size) (fun e=>xU e.symm),hrb];exact h1.blk
 ·rcases hb with hb|⟨x,hx,hb⟩
  ·exact .inl (.inl hb)
  ·rcases List.mem_or_eq_of_mem_set hx with hx|rfl
   ·exact .inl (.inr ⟨x,hx,hb⟩)
   ·rcases aA b hb with q|q
    ·exact .inl (.inr ⟨m,pG,q⟩)
    ·exact .inr (aBl bG.size q)
theorem jk.trans {w0 w w1 w2:World} {rb:Nat} {nv ya:Value} {ms mM:List NdM} {ns2:List Nd} (hs:w.heap.size<=w1.heap.size) (h1:Mod (RdF rb nv ms) w w1) (o1:∀g,nOwn ya mM g->nOwn nv ms g\/w.heap.size<=g) (h:jk w0 w1 rb ya mM ns2 w2):jk w0 w rb nv ms ns2 w2:=by
 obtain ⟨l9,ij,a,b,c,d⟩:=h;exact ⟨l9,ij,a,b,sh (w0:=w0) h1 o1 c,yU hs o1 d⟩
theorem vX {w:World} {B e sz n:Nat} {a:Option Addr} {k c:Nat} {xs:List Value} (h:w.ownsRow B e sz (.slice a k c) n xs):k=n:=by
 rcases h.2 with ⟨hv,hn⟩|⟨g,cap,cur,hv,-,-,hc,-⟩
 ·cases hv;omega
 ·cases hv;rfl
def Ko (ns:List Nd) (p:Option Nat) (x:Nd):List Nd:=match p with|none=>ns++[x]|some p=>cF (ns++[x]) p ns.length
theorem G7 {ns:List Nd} {p:Nat} (hp:p<ns.length) (key text:ByteArray) (q:Bool):Ko ns (some p) ⟨1,key,text,q,0,[]⟩=aK ns p (.sc key text q .nil):=by
 show cF (ns++[_]) p ns.length=_
 unfold aK cF;rw[List.getElem?_append_left hp];obtain ⟨x,hx⟩:=aF hp;rw[hx];simp only;rw[eX hx,List.set_append_left _ _ hp];rfl
theorem G8 {ns:List Nd} {p:Nat} (hp:p<ns.length) (kind:Int) (key:ByteArray):Ko ns (some p) ⟨kind,key,⟨#[]⟩,false,0,[]⟩=aK ns p (.br kind key .nil .nil):=by
 show cF (ns++[_]) p ns.length=_
 unfold aK cF;rw[List.getElem?_append_left hp];obtain ⟨x,hx⟩:=aF hp;rw[hx];simp only;rw[eX hx,List.set_append_left _ _ hp];rfl
def JT (p:Option Nat):Int:=match p with|none=> -1|some p=>(p:Int)
theorem wT {w0 w:World} {rb:Nat} {nv:Value} {ms:List NdM} (h:WrS w0 w rb nv ms) (p:Option Nat) (hp:∀i,p=some i->∃m,ms[i]? =some m/\m.nd.kids.length<1048576) (x:Nd) (hx:x.kids=[]) (hxk:I64 x.kind) (hxl:I64 x.line) (hxt:x.text.size<=1048576) (hxe:x.key.size<=1048576) (hlen:ms.length<1048576):
 Calls Tryz.prog 110 #[.pointer (some ⟨rb,0,none⟩),.int .i64 (JT p),.agg #[.int .i64 x.kind,.string x.key,.string x.text,.bool x.quoted,.int .i64 x.line,.slice none 0 0]] w
  fun r w'=>r= .returned (.int .i64 (ms.length:Int))/\jk w0 w rb nv ms (Ko (nds ms) p x) w':=by
 obtain ⟨ao,c,rfl⟩:=h.nr.form;obtain ⟨n,hn⟩:=ex (ms.length);obtain ⟨gb,KM⟩:=ex (w.heap.size);obtain ⟨wa,CP⟩:=ex (w.alloc (.cells #[.int .i64 x.kind,.string x.key,.string x.text,.bool x.quoted,.int .i64 x.line,.slice none 0 0] 55));have C5:Below w.heap.size w wa:=by rw[CP];exact (aBi _ _).alloc (aBh _) _
 have gQ:wa.heap.size=w.heap.size+1:=by rw[CP];simp
 have hga:wa.heap[gb]? =some (.cells #[.int .i64 x.kind,.string x.key,.string x.text,.bool x.quoted,.int .i64 x.line,.slice none 0 0] 55 (0,0)):=by rw[CP,KM];exact ag _
 have hRa:=h.later C5;have bg:=hRa.blk;rw[<-hn]at bg;have y0:=aa bg 0;simp at y0;have Hg:=hid (And.intro y0 hga);have Hgb:=hid (show gb<wa.heap.size by omega);have Hgn:=hid (show (Value.slice ao n c).ownBlock≠some gb from fun e=>by
  have:=(h.nr.own_lt (g:=gb) (.inl (by rw[<-hn];exact e))).2.1;omega)
 have b9:=hid (fun ob=>show ((wa.alloc ob).drew).ownsRow 0 55 6 (.slice ao n c) n (ms.flatMap NdM.cells) from by
  have:=hRa.nr.row;rw[hn];exact World.ownsRow.alloc (w:=wa) this ob)
 have aX:=hid (fun ob gd c5 (w5:World) (a1:w5.ownsRow 0 55 6 (.slice gd (n+1) c5) (n+1) (ms.flatMap NdM.cells++NdM.cells ⟨x,.slice none 0 0⟩))
  (a2:((wa.alloc ob).drew).grownBy w5 (Value.slice ao n c).ownBlock) (a3:∀g,(Value.slice gd (n+1) c5).ownBlock=some g->(Value.slice ao n c).ownBlock=some g\/((wa.alloc ob).drew).heap.size<=g)=>Sc hRa hn hx hxk hxl hxt hxe (by omega) (((aBi wa.heap.size wa).alloc (aBh _) ob).drew) a1 a2 a3)
 have Hnl:=hid (show n<=2000000 by omega);have Hba:=hid C5;have Qg:=hid gQ;have Hn:=hid hn;have Hp:=hid hp;have Hl:=hid hlen;have Hga:=hid hga;rw[<-hn];clear h hp hx hxk hxl hxt hxe hlen C5 hga hRa bg gQ hn;cases p with
 |none=>
  unfold JT;go_enter Tryz.func110,Tryz.ntmps110;go_upto_region 1 with (fail)
  rw[<-CP,<-KM];clear CP KM;go_upto_region 2 with (fail)
  refine fF (fun w'=>w'.cell? ⟨rb,0,none⟩=some (.slice ao n c)/\w'.heap[gb]? =some (.cells #[.int .i64 x.kind,.string x.key,.string x.text,.bool x.quoted,.int .i64 x.line,.slice none 0 0] 55 (0,0))) (fun i=>decide (i<8)) (by kernel_rfl) ?_;have hS:wa.drew.cell? ⟨rb,0,none⟩=some (.slice ao n c)/\wa.drew.heap[gb]? =some (.cells #[.int .i64 x.kind,.string x.key,.string x.text,.bool x.quoted,.int .i64 x.line,.slice none 0 0] 55 (0,0)):=Hg.o
  refine wL (i:=0) (v:= ?_) rfl ?_ hS ?_;rotate_left
  ·intro w' cf;obtain ⟨s1,s2⟩:=cf;obtain ⟨t0,t1,t2,t3,t4,t5⟩:=cB6 s2;simp at t0 t1 t2 t3 t4 t5;clear s2;go_simp
   try with_reducible rfl
  simp only[Act.put,sA,sZ,sS];refine wL (i:=1) (v:= ?_) rfl ?_ hS ?_;rotate_left
  ·intro w' cf;obtain ⟨s1,s2⟩:=cf;obtain ⟨t0,t1,t2,t3,t4,t5⟩:=cB6 s2;simp at t0 t1 t2 t3 t4 t5;clear s2;go_simp
   try with_reducible rfl
  simp only[Act.put,sA,sZ,sS];refine wL (i:=2) (v:= ?_) rfl ?_ hS ?_;rotate_left
  ·intro w' cf;obtain ⟨s1,s2⟩:=cf;obtain ⟨t0,t1,t2,t3,t4,t5⟩:=cB6 s2;simp at t0 t1 t2 t3 t4 t5;clear s2;go_simp
   try with_reducible rfl
  simp only[Act.put,sA,sZ,sS];refine wL (i:=3) (v:= ?_) rfl ?_ hS ?_;rotate_left
  ·intro w' cf;obtain ⟨s1,s2⟩:=cf;obtain ⟨t0,t1,t2,t3,t4,t5⟩:=cB6 s2;simp at t0 t1 t2 t3 t4 t5;clear s2;go_simp
   try with_reducible rfl
  simp only[Act.put,sA,sZ,sS];refine wL (i:=4) (v:= ?_) rfl ?_ hS ?_;rotate_left
  ·intro w' cf;obtain ⟨s1,s2⟩:=cf;obtain ⟨t0,t1,t2,t3,t4,t5⟩:=cB6 s2;simp at t0 t1 t2 t3 t4 t5;clear s2;go_simp
   try with_reducible rfl
  simp only[Act.put,sA,sZ,sS];refine wL (i:=5) (v:= ?_) rfl ?_ hS ?_;rotate_left
  ·intro w' cf;obtain ⟨s1,s2⟩:=cf;obtain ⟨t0,t1,t2,t3,t4,t5⟩:=cB6 s2;simp at t0 t1 t2 t3 t4 t5;clear s2;go_simp
   try with_reducible rfl
  simp only[Act.put,sA,sZ,sS];refine aM (i:=6) (by kernel_rfl) rfl (fun K hK=> ?_);go_simp;refine hK.out _ _ (fun _=>⟨cA ((aBi wa.drew.heap.size wa.drew).alloc (aBh _) _) hS.1,(ai _ (af hS.2)).trans hS.2⟩) ?_;clear hK K
  try simp only[Act.put,sA,sZ,sS]
  refine aM (i:=7) (by kernel_rfl) rfl (fun K hK=> ?_);refine m9 55 33 (.agg #[.int .i64 0,.string ⟨#[]⟩,.string ⟨#[]⟩,.bool false,.int .i64 0,.slice none 0 0]) 6 80 Tryz.underlying33 ou rfl (by decide) (by decide) rfl _ _ rfl (.slice ao n c) n (ms.flatMap NdM.cells) rfl (b9.o _) wa.heap.size #[.int .i64 x.kind,.string x.key,.string x.text,.bool x.quoted,.int .i64 x.line,.slice none 0 0] (NdM.cells ⟨x,.slice none 0 0⟩) rfl (ag (w:=wa) _) rfl rfl (Aw _ rfl) Hnl.o (n+1) rfl ?_
  intro gd c5 w5 aB bC aA;have HE:=hid (aX.o _ _ _ _ aB bC aA);have q1:=aa HE.o.1 0;have qf:=ah HE.o.1 0;simp at q1;have q2:w5.heap[gb]? =_:=(bC.block gb (Nat.lt_of_lt_of_le Hgb.o (by show wa.heap.size<=(wa.alloc _).heap.size;simp)) (fun e=>Hgn.o e.symm)).trans ((ai _ (af hS.2)).trans hS.2);refine hK.out _ _ (fun _=>⟨q1,q2⟩) ?_;clear hK K aB bC aA b9 aX hS
  try simp only[Act.put,sA,sZ,sS]
  refine aM (i:=8) (by kernel_rfl) rfl (fun K hK=> ?_);go_simp;refine hK.out _ _ (fun h=>absurd h (by decide)) ?_;clear hK K;refine aM (i:=9) (by kernel_rfl) rfl (fun K hK=> ?_);go_simp;refine hK.out _ _ (fun h=>absurd h (by decide)) ?_;clear hK K;refine aM (i:=10) (by kernel_rfl) rfl (fun K hK=> ?_);go_simp;refine hK.out _ _ (fun h=>absurd h (by decide)) ?_;clear hK K;refine fG (by kernel_rfl) ?_ _
  clear q1 q2 qf;go_wp2;refine bodyPost_ret (results_tmp (t:=6) rfl _ _ _) rfl ⟨rfl,?_⟩;refine ⟨_,_,HE.o.2.1,wG _ _,(Mod.ofBelow (F:=RdF rb (.slice ao n c) ms) Hba.o (fun b hb mQ=>by omega)).trans HE.o.2.2.1,fun g hg=> ?_⟩;rcases HE.o.2.2.2 g hg with q|q
  ·exact .inl q
  ·exact .inr (aBl Hba.o.size q)
 |some p=>
  obtain ⟨m,hm,cN⟩:=Hp.o p rfl;unfold JT;have bp:decide ((0:Int)<=(p:Int))=true:=dT (by omega);have bp2:(0:Int)<=(p:Int):=by omega
  have Hm:=hid (And.intro hm cN);clear hm cN;go_enter Tryz.func110,Tryz.ntmps110;go_upto_region 1 with (fail)
  rw[<-CP,<-KM];clear CP KM;go_upto_region 2 with (fail)
  refine fF (fun w'=>w'.cell? ⟨rb,0,none⟩=some (.slice ao n c)/\w'.heap[gb]? =some (.cells #[.int .i64 x.kind,.string x.key,.string x.text,.bool x.quoted,.int .i64 x.line,.slice none 0 0] 55 (0,0))) (fun i=>decide (i<8)) (by kernel_rfl) ?_;have hS:wa.drew.cell? ⟨rb,0,none⟩=some (.slice ao n c)/\wa.drew.heap[gb]? =some (.cells #[.int .i64 x.kind,.string x.key,.string x.text,.bool x.quoted,.int .i64 x.line,.slice none 0 0] 55 (0,0)):=Hg.o
  refine wL (i:=0) (v:= ?_) rfl ?_ hS ?_;rotate_left
  ·intro w' cf;obtain ⟨s1,s2⟩:=cf;obtain ⟨t0,t1,t2,t3,t4,t5⟩:=cB6 s2;simp at t0 t1 t2 t3 t4 t5;clear s2;go_simp
   try with_reducible rfl
  simp only[Act.put,sA,sZ,sS];refine wL (i:=1) (v:= ?_) rfl ?_ hS ?_;rotate_left
  ·intro w' cf;obtain ⟨s1,s2⟩:=cf;obtain ⟨t0,t1,t2,t3,t4,t5⟩:=cB6 s2;simp at t0 t1 t2 t3 t4 t5;clear s2;go_simp
   try with_reducible rfl
  simp only[Act.put,sA,sZ,sS];refine wL (i:=2) (v:= ?_) rfl ?_ hS ?_;rotate_left
  ·intro w' cf;obtain ⟨s1,s2⟩:=cf;obtain ⟨t0,t1,t2,t3,t4,t5⟩:=cB6 s2;simp at t0 t1 t2 t3 t4 t5;clear s2;go_simp
   try with_reducible rfl
  simp only[Act.put,sA,sZ,sS];refine wL (i:=3) (v:= ?_) rfl ?_ hS ?_;rotate_left
  ·intro w' cf;obtain ⟨s1,s2⟩:=cf;obtain ⟨t0,t1,t2,t3,t4,t5⟩:=cB6 s2;simp at t0 t1 t2 t3 t4 t5;clear s2;go_simp
   try with_reducible rfl
  simp only[Act.put,sA,sZ,sS];refine wL (i:=4) (v:= ?_) rfl ?_ hS ?_;rotate_left
  ·intro w' cf;obtain ⟨s1,s2⟩:=cf;obtain ⟨t0,t1,t2,t3,t4,t5⟩:=cB6 s2;simp at t0 t1 t2 t3 t4 t5;clear s2;go_simp
   try with_reducible rfl
  simp only[Act.put,sA,sZ,sS];refine wL (i:=5) (v:= ?_) rfl ?_ hS ?_;rotate_left
  ·intro w' cf;obtain ⟨s1,s2⟩:=cf;obtain ⟨t0,t1,t2,t3,t4,t5⟩:=cB6 s2;simp at t0 t1 t2 t3 t4 t5;clear s2;go_simp
   try with_reducible rfl
  simp only[Act.put,sA,sZ,sS];refine aM (i:=6) (by kernel_rfl) rfl (fun K hK=> ?_);go_simp;refine hK.out _ _ (fun _=>⟨cA ((aBi wa.drew.heap.size wa.drew).alloc (aBh _) _) hS.1,(ai _ (af hS.2)).trans hS.2⟩) ?_;clear hK K
  try simp only[Act.put,sA,sZ,sS]
  refine aM (i:=7) (by kernel_rfl) rfl (fun K hK=> ?_);refine m9 55 33 (.agg #[.int .i64 0,.string ⟨#[]⟩,.string ⟨#[]⟩,.bool false,.int .i64 0,.slice none 0 0]) 6 80 Tryz.underlying33 ou rfl (by decide) (by decide) rfl _ _ rfl (.slice ao n c) n (ms.flatMap NdM.cells) rfl (b9.o _) wa.heap.size #[.int .i64 x.kind,.string x.key,.string x.text,.bool x.quoted,.int .i64 x.line,.slice none 0 0] (NdM.cells ⟨x,.slice none 0 0⟩) rfl (ag (w:=wa) _) rfl rfl (Aw _ rfl) Hnl.o (n+1) rfl ?_
  intro gd c5 w5 aB bC aA;have HE:=hid (aX.o _ _ _ _ aB bC aA);have q1:=aa HE.o.1 0;have qf:=ah HE.o.1 0;simp at q1;have q2:w5.heap[gb]? =_:=(bC.block gb (Nat.lt_of_lt_of_le Hgb.o (by show wa.heap.size<=(wa.alloc _).heap.size;simp)) (fun e=>Hgn.o e.symm)).trans ((ai _ (af hS.2)).trans hS.2);refine hK.out _ _ (fun _=>⟨q1,q2⟩) ?_;clear hK K aB bC aA b9 aX hS
  try simp only[Act.put,sA,sZ,sS]
  refine aM (i:=8) (by kernel_rfl) rfl (fun K hK=> ?_);go_simp;refine hK.out _ _ (fun h=>absurd h (by decide)) ?_;clear hK K;refine aM (i:=9) (by kernel_rfl) rfl (fun K hK=> ?_);go_simp;refine hK.out _ _ (fun h=>absurd h (by decide)) ?_;clear hK K;refine aM (i:=10) (by kernel_rfl) rfl (fun K hK=> ?_);go_simp;refine hK.out _ _ (fun h=>absurd h (by decide)) ?_;clear hK K;refine fG (by kernel_rfl) ?_ _
  clear q1 q2 qf;go_upto_region 4 with (fail)
  obtain ⟨w4,xS⟩:=ex (w5.setCell ⟨rb,0,none⟩ (.slice gd (n+1) c5));have h2:=HE.o.2.1;have hm4:=HE.o.2.2.1;have ho4:=HE.o.2.2.2;rw[<-xS]at h2 hm4 |-;have vh:(ms++[(⟨x,.slice none 0 0⟩:NdM)])[p]? =some m:=by rw[List.getElem?_append_left (aBo Hm.o.1).1];exact Hm.o.1
  obtain ⟨g,c',Wh,hg,bN,LC⟩:=h2.nr.at vh;injection Wh with hnv1 OA hnv3
  subst hnv1;have hP:=h2.nr.each m (List.mem_of_getElem? vh);obtain ⟨ka,q,kc,cN⟩:∃a n c,m.kv= .slice a n c:=by obtain ⟨a,c,h⟩:=(eI hP.row:∃a c,m.kv= .slice a m.nd.kids.length c);exact ⟨a,_,c,h⟩
  have hq:q=m.nd.kids.length:=by
   have:=hP.row;rw[cN]at this;exact (vX this)
  obtain ⟨N,hN⟩:=ex (n+1);have SD:=bN.c5;rw[cN]at SD;have O1:=h2.blk;rw[<-hN]at O1 h2 ho4 hg |-;have z0:=aa O1 0;simp at z0;have Oz:p<n:=by rw[Hn.o];exact (aBo Hm.o.1).1
  have bi:(p:Int)<(N:Int):=by omega
  have Up:=hid (fun ob=>show ((w4.alloc ob).drew).ownsRow 0 3 1 (.slice ka q kc) q (m.nd.kids.flatMap dM) from by
   have:=hP.row;rw[cN,<-hq]at this;exact World.ownsRow.alloc (w:=w4) this ob)
  have Uy:=hid (fun ob ao6 c6 (w6:World) (a1:w6.ownsRow 0 3 1 (.slice ao6 (q+1) c6) (q+1) (m.nd.kids.flatMap dM++[.int .i64 (n:Int)])) (a2:((w4.alloc ob).drew).grownBy w6 (Value.slice ka q kc).ownBlock)
   (a3:∀g,(Value.slice ao6 (q+1) c6).ownBlock=some g->(Value.slice ka q kc).ownBlock=some g\/((w4.alloc ob).drew).heap.size<=g)=>Sb h2 vh hg hq (by have:=Hm.o.2;omega) (((aBi w4.heap.size w4).alloc (aBh _) ob).drew) a1 (by rw[cN];exact a2) (by rw[cN];exact a3))
  have Xr:=hid (show q<=2000000 by have:=Hm.o.2;omega);have Eb:=hid (And.intro z0 SD);have Xx:=hid LC;have Hm4:=hid (And.intro hm4 (And.intro ho4 vh));clear HE xS h2 hm4 ho4 vh OA hnv3 hg bN LC hP cN hq SD O1 z0 hN Hg Hgb Hgn Hga Oz;have Hg:=Eb;clear Eb;refine fF (fun w'=>w'.cell? ⟨rb,0,none⟩=some (.slice (some ⟨g,0,none⟩) N c5)/\w'.cell? ⟨g,p*6+5,none⟩=some (.slice ka q kc)) (fun i=>decide (i<16)) (by kernel_rfl) ?_
  have hS:w4.drew.cell? ⟨rb,0,none⟩=some (.slice (some ⟨g,0,none⟩) N c5)/\w4.drew.cell? ⟨g,p*6+5,none⟩=some (.slice ka q kc):=Hg.o;refine wL (i:=0) (v:= ?_) rfl ?_ hS ?_;rotate_left
  ·intro w' cf;obtain ⟨s1,s2⟩:=cf;go_simp
   try with_reducible rfl
  simp only[Act.put,sA,sZ,sS];refine wL (i:=1) (v:= ?_) rfl ?_ hS ?_;rotate_left
  ·intro w' cf;obtain ⟨s1,s2⟩:=cf;go_simp
   try with_reducible rfl
  simp only[Act.put,sA,sZ,sS];refine wL (i:=2) (v:= ?_) rfl ?_ hS ?_;rotate_left
  ·intro w' cf;obtain ⟨s1,s2⟩:=cf;go_simp
   try with_reducible rfl
  simp only[Act.put,sA,sZ,sS];refine wL (i:=3) (v:= ?_) rfl ?_ hS ?_;rotate_left
  ·intro w' cf;obtain ⟨s1,s2⟩:=cf;go_simp
   try with_reducible rfl
  simp only[Act.put,sA,sZ,sS];refine wL (i:=4) (v:= ?_) rfl ?_ hS ?_;rotate_left
  ·intro w' cf;obtain ⟨s1,s2⟩:=cf;go_simp
   try with_reducible rfl
  simp only[Act.put,sA,sZ,sS];refine wL (i:=5) (v:= ?_) rfl ?_ hS ?_;rotate_left
  ·intro w' cf;obtain ⟨s1,s2⟩:=cf;go_simp
   try with_reducible rfl
  simp only[Act.put,sA,sZ,sS];refine wL (i:=6) (v:= ?_) rfl ?_ hS ?_;rotate_left
  ·intro w' cf;obtain ⟨s1,s2⟩:=cf;go_simp
   try with_reducible rfl
  simp only[Act.put,sA,sZ,sS];refine wL (i:=7) (v:= ?_) rfl ?_ hS ?_;rotate_left
  ·intro w' cf;obtain ⟨s1,s2⟩:=cf;go_simp
   try with_reducible rfl
  simp only[Act.put,sA,sZ,sS];refine wL (i:=8) (v:= ?_) rfl ?_ hS ?_;rotate_left
  ·intro w' cf;obtain ⟨s1,s2⟩:=cf;go_simp
   try with_reducible rfl
  simp only[Act.put,sA,sZ,sS];refine wL (i:=9) (v:= ?_) rfl ?_ hS ?_;rotate_left
  ·intro w' cf;obtain ⟨s1,s2⟩:=cf;go_simp
   try with_reducible rfl
  simp only[Act.put,sA,sZ,sS];refine wL (i:=10) (v:= ?_) rfl ?_ hS ?_;rotate_left
  ·intro w' cf;obtain ⟨s1,s2⟩:=cf;go_simp
   try with_reducible rfl
  simp only[Act.put,sA,sZ,sS];refine wL (i:=11) (v:= ?_) rfl ?_ hS ?_;rotate_left
  ·intro w' cf;obtain ⟨s1,s2⟩:=cf;go_simp
   try with_reducible rfl
  simp only[Act.put,sA,sZ,sS];refine wL (i:=12) (v:= ?_) rfl ?_ hS ?_;rotate_left
  ·intro w' cf;obtain ⟨s1,s2⟩:=cf;go_simp
   try with_reducible rfl
  simp only[Act.put,sA,sZ,sS];refine wL (i:=13) (v:= ?_) rfl ?_ hS ?_;rotate_left
  ·intro w' cf;obtain ⟨s1,s2⟩:=cf;go_simp
   try with_reducible rfl
  simp only[Act.put,sA,sZ,sS];refine aM (i:=14) (by kernel_rfl) rfl (fun K hK=> ?_);go_simp;refine hK.out _ _ (fun _=>⟨cA ((aBi w4.drew.heap.size w4.drew).alloc (aBh _) _) hS.1,cA ((aBi w4.drew.heap.size w4.drew).alloc (aBh _) _) hS.2⟩) ?_;clear hK K
  try simp only[Act.put,sA,sZ,sS]
  refine aM (i:=15) (by kernel_rfl) rfl (fun K hK=> ?_);refine m9 3 53 (.int .i64 0) 1 8 Tryz.underlying53 qJ rfl (by decide) (by decide) rfl _ _ rfl (.slice ka q kc) q (m.nd.kids.flatMap dM) rfl (Up.o _) w4.heap.size #[.int .i64 (n:Int)] [.int .i64 (n:Int)] rfl (ag (w:=w4) _) rfl rfl An Xr.o (q+1) rfl ?_;intro ao6 c6 w6 aB bC aA
  have Tt:=hid (Uy.o _ _ _ _ aB bC aA);have q1:=jP Tt.o.2.2.1 Hg.o.2;have q2:=nN Tt.o.2.2.1 (Xx.o (p*6+5));have q3:=jP Tt.o.2.1 Hg.o.1;refine hK.out _ _ (fun _=>⟨q3,q1⟩) ?_;clear hK K aB bC aA Up Uy hS
  try simp only[Act.put,sA,sZ,sS]
  refine aM (i:=16) (by kernel_rfl) rfl (fun K hK=> ?_);go_simp;refine hK.out _ _ (fun h=>absurd h (by decide)) ?_;clear hK K;refine aM (i:=17) (by kernel_rfl) rfl (fun K hK=> ?_);go_simp;refine hK.out _ _ (fun h=>absurd h (by decide)) ?_;clear hK K;refine aM (i:=18) (by kernel_rfl) rfl (fun K hK=> ?_);go_simp;refine hK.out _ _ (fun h=>absurd h (by decide)) ?_;clear hK K;refine fG (by kernel_rfl) ?_ _
  clear q1 q2 q3;go_wp2;refine bodyPost_ret (results_tmp (t:=6) rfl _ _ _) rfl ⟨rfl,?_⟩;have ll:(nds ms).length=n:=by rw[bP,Hn.o]
  refine ⟨_,_,Tt.o.2.2.2.1,?_,((Mod.ofBelow (F:=RdF rb (.slice ao n c) ms) Hba.o (fun b hb mQ=>by omega)).trans' (Hm4.o.1.trans' Tt.o.2.2.2.2.1 (fun i hi qq=> ?_)) (fun _ _ q=>q)),fun g hg=> ?_⟩
  ·rw[sE Hm4.o.2.2,wG];unfold Ko;rw[ll]
  ·rcases qq with qq|qq
   ·exact .inl qq
   ·rcases Hm4.o.2.1 i qq with qq|qq
    ·exact .inr qq
    ·omega
  ·rcases Tt.o.2.2.2.2.2 g hg with qq|qq
   ·rcases Hm4.o.2.1 g qq with qq|qq
    ·exact .inl qq
    ·exact .inr (aBl Hba.o.size qq)
   ·exact .inr (aBl Hba.o.size (aBl Hm4.o.1.size qq))
theorem jk.before {w0 w w1 w2:World} {rb:Nat} {nv:Value} {ms:List NdM} {ns2:List Nd} (hb:Below w.heap.size w w1) (h:jk w0 w1 rb nv ms ns2 w2):jk w0 w rb nv ms ns2 w2:=
 jk.trans hb.size (Mod.ofBelow hb (fun b hb mQ=>by omega)) (fun g hg=> .inl hg) h
theorem Gu {w0 w:World} {rb:Nat} {nv:Value} {ms:List NdM} (h:WrS w0 w rb nv ms) (p:Option Nat) (hp:∀i,p=some i->∃m,ms[i]? =some m/\m.nd.kids.length<1048576) (kind:Int) (hk:I64 kind) (key:ByteArray) (cl:key.size<=1048576) (hlen:ms.length<1048576):
 Calls Tryz.prog 70 #[.pointer (some ⟨rb,0,none⟩),.int .i64 (JT p),.int .i64 kind,.string key] w
  fun r w'=>r= .returned (.int .i64 (ms.length:Int))/\jk w0 w rb nv ms (Ko (nds ms) p ⟨kind,key,⟨#[]⟩,false,0,[]⟩) w':=by
 have HL:=hid (wT h p hp ⟨kind,key,⟨#[]⟩,false,0,[]⟩ rfl hk (by show I64 0;decide) (by show (0:Nat)<=1048576;decide) cl hlen);obtain ⟨n,hn⟩:=ex (ms.length);rw[<-hn]at HL |-;generalize JT p=pv at*;clear h hp hk cl hlen hn;go_enter Tryz.func70,Tryz.ntmps70
 go_wp2_with fail
 refine HL.o.mono ?_;rintro r w2 ⟨rfl,h2⟩;have H2:=hid h2;clear HL h2;go_wp2;refine bodyPost_ret (results_tmp (t:=8) rfl _ _ _) rfl ⟨rfl,H2.o⟩
theorem QK {w0 w:World} {rb:Nat} {nv:Value} {ms:List NdM} (h:WrS w0 w rb nv ms) (hg:Glob w) (p:Nat) (hp:∃m,ms[p]? =some m/\m.nd.kids.length<1048576) (key:ByteArray) (cl:key.size<=1048576) (s:ByteArray) (hs:s.size<=1048576) (hlen:ms.length<1048576):
 Calls Tryz.prog 71 #[.pointer (some ⟨rb,0,none⟩),.int .i64 (p:Int),.string key,.string s] w
  fun r w'=>(∃v,r= .returned v)/\jk w0 w rb nv ms (aK (nds ms) p (an key s .nil)) w':=by
 have mW:=hid (Cr w s hs hg);have Oz:p<(nds ms).length:=by obtain ⟨m,hm,-⟩:=hp;rw[bP];exact (aBo hm).1
 have HL:=hid (fun w1 (hb:Below w.heap.size w w1)=>wT (h.later hb) (some p) (fun i hi=>by cases hi;exact hp) ⟨1,key,s,!ey s.data.toList,0,[]⟩ rfl (by show I64 1;decide) (by show I64 0;decide) hs cl hlen);have IU:=hid (G7 Oz key s (!ey s.data.toList));obtain ⟨b,hb⟩:=ex (ey s.data.toList);unfold an;rw[<-hb]at mW HL IU |-;unfold JT at HL;clear h hp cl hs hlen hg Oz hb
 go_enter Tryz.func71,Tryz.ntmps71
 go_wp2_with fail
 refine mW.o.mono ?_;rintro r w1 ⟨rfl,bG⟩;have HL1:=hid (HL.o w1 bG);have kQ:=hid bG;clear HL bG mW
 go_wp2_with fail
 refine HL1.o.mono ?_;rintro r w2 ⟨rfl,h2⟩;have H2:=hid (jk.before kQ.o h2);clear HL1 h2;go_wp2
 go_end0
 refine ⟨⟨_,rfl⟩,?_⟩;have:=H2.o;rw[IU.o]at this;exact this
end Go.Proofs.YtfenoaeoedobmaaGreatDoor
namespace Go.Proofs
open Go.Shelf Go.RowKit Go.Sort Go.Lib
def Tryz.lays156_ren:Go.Shelf.Ren:=⟨fun|156=>65|165=>100|166=>101|169=>102|240=>137|241=>138|276=>170|277=>171|n=>n,fun|31=>45|9=>9|3=>3|4=>4|0=>0|20=>20|72=>161|76=>165|70=>159|37=>42|75=>164|127=>209|164=>233|5=>5|80=>167|n=>n,fun|n=>n⟩
theorem Tryz.lays156:Go.Proofs.Lays.n156 Tryz.prog Tryz.lays156_ren:=by repeat' first|kernel_rfl|(intros;kernel_rfl)|exact fun _=>rfl|decide|constructor
theorem Tryz.Builder_Extra_156:Builder.Extra Tryz.prog Tryz.lays156_ren:=by repeat' first|kernel_rfl|(intros;kernel_rfl)|exact fun _=>rfl|decide|constructor
theorem Tryz.strings_Join_none (a:Option Addr) (c:Nat) (sep:ByteArray) (w:World):
 Calls Tryz.prog 65 #[.slice a 0 c,.string sep] w fun e w'=>e= .returned (.string ⟨#[]⟩)/\w'=w:=Any.strings_Join_none Tryz.lays156 Tryz.Builder_Extra_156 a c sep w
theorem Tryz.strings_Join (bk o c:Nat) (xs:List ByteArray) (sep:ByteArray) (w:World) (WA:∀(j:Nat) x,xs[j]? =some x->w.cell? ⟨bk,o+j,none⟩=some (.string x)) (Ye:bk<w.heap.size) (hN:xs.length<=140737488355328) (iQ:xs.length<=c) (hlen:(Lib.join (xs.map (·.data.toList)) sep.data.toList).length<=140737488355328):
 Calls Tryz.prog 65 #[.slice (some ⟨bk,o,none⟩) xs.length c,.string sep] w fun e w'=>e= .returned (.string ⟨(Lib.join (xs.map (·.data.toList)) sep.data.toList).toArray⟩)/\Below w.heap.size w w':=Any.strings_Join Tryz.lays156 Tryz.Builder_Extra_156 bk o c xs sep w WA Ye hN iQ hlen
def Tryz.lays121_ren:Go.Shelf.Ren:=⟨fun|121=>150|214=>183|n=>n,fun|4=>4|9=>9|n=>n,fun|n=>n⟩
theorem Tryz.lays121:Go.Proofs.Lays.n121 Tryz.prog Tryz.lays121_ren:=by repeat' first|kernel_rfl|(intros;kernel_rfl)|exact fun _=>rfl|decide|constructor
theorem Tryz.strconv_FormatBool (b:Bool) (w:World):
 Calls Tryz.prog 150 #[.bool b] w fun e w'=>e= .returned (.string ⟨(Lib.formatBool b).toArray⟩)/\w'=w:=Any.strconv_FormatBool Tryz.lays121 b w
def Tryz.lays283_ren:Go.Shelf.Ren:=⟨fun|283=>200|n=>n,fun|3=>3|9=>9|4=>4|n=>n,fun|n=>n⟩
theorem Tryz.lays283:Go.Proofs.Lays.n283 Tryz.prog Tryz.lays283_ren:=by repeat' first|kernel_rfl|(intros;kernel_rfl)|exact fun _=>rfl|decide|constructor
theorem Tryz.internal_strconv_small (i:Nat) (h:i<100) (w:World):
 Calls Tryz.prog 200 #[.int .i64 i] w fun e w'=>e= .returned (.string ⟨(Lib.decDigits i).toArray⟩)/\w'=w:=Any.internal_strconv_small Tryz.lays283 i h w
def Tryz.laysM284_ren:Go.Shelf.Ren:=⟨fun|284=>201|129=>221|317=>220|318=>222|n=>n,fun|53=>184|3=>3|212=>268|0=>0|4=>4|46=>205|5=>5|9=>9|n=>n,fun|17=>2|n=>n⟩
theorem Tryz.laysM284:Go.Proofs.LaysM.n284 Tryz.prog Tryz.laysM284_ren:=by repeat' first|kernel_rfl|(intros;kernel_rfl)|exact fun _=>rfl|decide|constructor
theorem Tryz.internal_strconv_numDigits (u:Nat) (h1:1<=u) (h2:u<18446744073709551616) (w:World) (nG:Lib.TabIs Tryz.prog w "internal/strconv.uint64pow10" .u64 Lib.pow10Tab):
 Calls Tryz.prog 201 #[.int .u64 u] w fun e w'=>e= .returned (.int .i64 (Lib.nDigits u))/\w'=w:=Any.internal_strconv_numDigits Tryz.laysM284 u h1 h2 w nG
def Tryz.lays285_ren:Go.Shelf.Ren:=⟨fun|285=>202|n=>n,fun|37=>42|53=>184|3=>3|4=>4|51=>228|9=>9|5=>5|0=>0|n=>n,fun|n=>n⟩
theorem Tryz.lays285:Go.Proofs.Lays.n285 Tryz.prog Tryz.lays285_ren:=by repeat' first|kernel_rfl|(intros;kernel_rfl)|exact fun _=>rfl|decide|constructor
theorem Tryz.internal_strconv_formatBase10 (blk off cap:Nat) (u:Nat) (d:Array UInt8) (w:World) (hH:Holds (fun (b:UInt8)=>Value.int .u8 (b.toNat:Int)) w blk off d) (hu:u<10 ^ d.size) (hu64:u<18446744073709551616) (gQ:d.size<4611686018427387904):
 Calls Tryz.prog 202 #[.slice (some ⟨blk,off,none⟩) d.size cap,.int .u64 u] w fun e w'=>
  e= .returned (.tuple #[])/\∃(n v':Nat) (dk:Array UInt8),w'=(putRow (fun (b:UInt8)=>Value.int .u8 (b.toNat:Int)) w blk off dk).drewN n/\FmtInv d.size u 0 v' dk:=Any.internal_strconv_formatBase10 Tryz.lays285 blk off cap u d w hH hu hu64 gQ
def Tryz.laysM171_ren:Go.Shelf.Ren:=⟨fun|171=>112|243=>149|246=>182|283=>200|284=>201|285=>202|286=>203|129=>221|317=>220|318=>222|319=>223|320=>224|337=>231|338=>232|n=>n,fun|3=>3|9=>9|2=>2|4=>4|171=>253|0=>0|53=>184|37=>42|5=>5|173=>256|212=>268|51=>228|20=>20|213=>269|46=>205|232=>280|233=>281|n=>n,fun|17=>2|18=>5|19=>6|n=>n⟩
theorem Tryz.laysM171:Go.Proofs.LaysM.n171 Tryz.prog Tryz.laysM171_ren:=by repeat' first|kernel_rfl|(intros;kernel_rfl)|exact fun _=>rfl|decide|constructor
theorem Tryz.strconv_Itoa (n:Int) (h0: -9223372036854775808<=n) (h1:n<=9223372036854775807) (w:World) (nG:Lib.TabIs Tryz.prog w "internal/strconv.uint64pow10" .u64 Lib.pow10Tab):
 Calls Tryz.prog 112 #[.int .i64 n] w fun e w'=>e= .returned (.string ⟨(Lib.itoa n).toArray⟩)/\∃k os,w'=grow (w.drewN k) os:=Any.strconv_Itoa Tryz.laysM171 n h0 h1 w nG
def Tryz.lays171_ren:Go.Shelf.Ren:=⟨fun|171=>112|243=>149|246=>182|283=>200|284=>201|285=>202|286=>203|129=>221|317=>220|318=>222|319=>223|320=>224|337=>231|338=>232|n=>n,fun|3=>3|9=>9|2=>2|4=>4|171=>253|0=>0|53=>184|37=>42|5=>5|173=>256|212=>268|51=>228|20=>20|213=>269|46=>205|232=>280|233=>281|n=>n,fun|17=>2|18=>5|19=>6|n=>n⟩
theorem Tryz.lays171:Go.Proofs.Lays.n171 Tryz.prog Tryz.lays171_ren:=by repeat' first|kernel_rfl|(intros;kernel_rfl)|exact fun _=>rfl|decide|constructor
theorem Tryz.strconv_Itoa_small (i:Nat) (hi:i<100) (w:World):
 Calls Tryz.prog 112 #[.int .i64 i] w fun e w'=>e= .returned (.string ⟨(Lib.decDigits i).toArray⟩)/\w'=w:=Any.strconv_Itoa_small Tryz.lays171 i hi w
def Tryz.laysM173_ren:Go.Shelf.Ren:=⟨fun|173=>151|246=>182|283=>200|284=>201|285=>202|286=>203|129=>221|317=>220|318=>222|319=>223|320=>224|337=>231|338=>232|n=>n,fun|2=>2|3=>3|9=>9|4=>4|171=>253|0=>0|53=>184|37=>42|5=>5|173=>256|212=>268|51=>228|20=>20|213=>269|46=>205|232=>280|233=>281|n=>n,fun|17=>2|18=>5|19=>6|n=>n⟩
theorem Tryz.laysM173:Go.Proofs.LaysM.n173 Tryz.prog Tryz.laysM173_ren:=by repeat' first|kernel_rfl|(intros;kernel_rfl)|exact fun _=>rfl|decide|constructor
theorem Tryz.strconv_FormatInt_10 (n:Int) (h0: -9223372036854775808<=n) (h1:n<=9223372036854775807) (w:World) (nG:Lib.TabIs Tryz.prog w "internal/strconv.uint64pow10" .u64 Lib.pow10Tab):
 Calls Tryz.prog 151 #[.int .i64 n,.int .i64 10] w fun e w'=>e= .returned (.string ⟨(Lib.itoa n).toArray⟩)/\∃k os,w'=grow (w.drewN k) os:=Any.strconv_FormatInt_10 Tryz.laysM173 n h0 h1 w nG
def Tryz.lays193_ren:Go.Shelf.Ren:=⟨fun|193=>73|n=>n,fun|31=>45|9=>9|4=>4|3=>3|0=>0|n=>n,fun|n=>n⟩
theorem Tryz.lays193:Go.Proofs.Lays.n193 Tryz.prog Tryz.lays193_ren:=by repeat' first|kernel_rfl|(intros;kernel_rfl)|exact fun _=>rfl|decide|constructor
theorem Tryz.slices_Equal_string (b1 o1 n c b2 o2 m d:Nat) (xs ys:List ByteArray) (w:World) (hx:n<=xs.length) (hy:m<=ys.length) (sJ:n<=9223372036854775807) (O2:m<=9223372036854775807) (hc1:∀j,j<xs.length->w.cell? ⟨b1,o1+j,none⟩=some (.string (xs.getD j ByteArray.empty))) (mT:∀j,j<ys.length->w.cell? ⟨b2,o2+j,none⟩=some (.string (ys.getD j ByteArray.empty))):
 Calls Tryz.prog 73 #[.slice (some ⟨b1,o1,none⟩) n c,.slice (some ⟨b2,o2,none⟩) m d] w fun e w'=>e= .returned (.bool (decide (xs.take n=ys.take m)))/\∃q,w'=w.drewN q:=Any.slices_Equal_string Tryz.lays193 b1 o1 n c b2 o2 m d xs ys w hx hy sJ O2 hc1 mT
theorem Tryz.slices_Equal_string_empty (a1 a2:Option Addr) (c m d:Nat) (w:World) (O2:m<=9223372036854775807):
 Calls Tryz.prog 73 #[.slice a1 0 c,.slice a2 m d] w fun e w'=>e= .returned (.bool (decide (m=0)))/\w'=w:=Any.slices_Equal_string_empty Tryz.lays193 a1 a2 c m d w O2
theorem Tryz.slices_Equal_string_lens (a1 a2:Option Addr) (n c m d:Nat) (w:World) (hnm:n≠m):
 Calls Tryz.prog 73 #[.slice a1 n c,.slice a2 m d] w fun e w'=>e= .returned (.bool false)/\w'=w:=Any.slices_Equal_string_lens Tryz.lays193 a1 a2 n c m d w hnm
