/-
Parts of a proof.
-/
import Derived.Test.YtfenoaeoedobmaaGreatDoorOw28
set_option linter.unusedVariables false
set_option linter.unusedSimpArgs false
set_option maxHeartbeats 4000000
set_option maxRecDepth 20000
namespace Go.Proofs.YtfenoaeoedobmaaGreatDoor
open Go Go.RowKit
def OwS (w wr:World) (N:List (List Nd)) (v:Value) (i q:Nat):Prop:=i<=q/\∃ds',ds'.length=i/\RowO fx w wr 33 1 v i ds'/\bQ ds'=N.take i
def OwN (w wr:World) (N:List Nd) (v:Value) (k n:Nat):Prop:=k<=n/\∃ms',ms'.length=k/\RowO NdE w wr 55 6 v k ms'/\nds ms'=N.take k
theorem rD {wi w3:World} {c:Array Value} (gr3:((wi.alloc (.cells c 55)).alloc (.cells #[] 3)).grownBy w3 (some (wi.heap.size+1))):
 Below wi.heap.size wi w3/\w3.heap[wi.heap.size]? =some (.cells c 55 (0,0)):=by
 have m3:Mod (fun g=>g=wi.heap.size+1) ((wi.alloc (.cells c 55)).alloc (.cells #[] 3)) w3:=(Mod.refl _ _).grown gr3 (fun g e _=>by injection e with e;exact e.symm);have hb:Below wi.heap.size wi ((wi.alloc (.cells c 55)).alloc (.cells #[] 3)):=((aAb _ _).alloc (aAa _) _).alloc (by simp) _;refine ⟨hb.trans (m3.below hb.size fun k hk=>by omega),m3.heap ?_ (by omega)⟩
 exact (aj _ (by simp)).trans (ah _)
theorem Cc {wi w3:World} {c:Array Value} (gr3:((wi.alloc (.cells c 55)).alloc (.cells #[] 3)).grownBy w3 (some (wi.heap.size+1))) (kv:Value) (o:Obj):
 Below wi.heap.size wi ((w3.setCell ⟨wi.heap.size,5,none⟩ kv).alloc o):=by
 obtain ⟨hb3,h3⟩:=rD gr3;have m4:Mod (fun g=>g=wi.heap.size) w3 (w3.setCell ⟨wi.heap.size,5,none⟩ kv):=(Mod.refl _ _).setCell _ _ (fun _=>rfl);have hb4:Below wi.heap.size wi (w3.setCell ⟨wi.heap.size,5,none⟩ kv):=hb3.trans (m4.below hb3.size fun k hk=>by omega);exact hb4.alloc hb4.size o
theorem IZ (w3:World) (p:Addr) (kv:Value) (c:Array Value) (e:TypeId):((w3.setCell p kv).alloc (.cells c e)).heap[w3.heap.size]? =some (.cells c e (0,0)):=by
 have:=ah (w:=w3.setCell p kv) (.cells c e)
 simpa using this
theorem Cb {w0 wi w3 w5:World} {v5 v5' kv:Value} {k:Nat} {ms':List NdM} {m:NdM} {c arr:Array Value} (hro:RowO NdE w0 wi 55 6 v5 k ms') (hok:m.Ok w0) (hl:m.nd.kids.length<=1048576) {kn:Nat} (hkn:kn=m.nd.kids.length)
 (own3:w3.ownsRow 0 3 1 kv kn (m.nd.kids.flatMap aP)) (gr3:((wi.alloc (.cells c 55)).alloc (.cells #[] 3)).grownBy w3 (some (wi.heap.size+1)))
 (new3:∀g,kv.ownBlock=some g->some (wi.heap.size+1)=some g\/((wi.alloc (.cells c 55)).alloc (.cells #[] 3)).heap.size<=g)
 (own5:w5.ownsRow 0 55 6 v5' (k+1) (ms'.flatMap NdM.cells++NdM.cells ⟨m.nd,kv⟩)) (gr5:((w3.setCell ⟨wi.heap.size,5,none⟩ kv).alloc (.cells arr 55)).grownBy w5 v5.ownBlock)
 (new5:∀g,v5'.ownBlock=some g->v5.ownBlock=some g\/((w3.setCell ⟨wi.heap.size,5,none⟩ kv).alloc (.cells arr 55)).heap.size<=g):
 RowO NdE w0 w5 55 6 v5' (k+1) (ms'++[⟨m.nd,kv⟩]):=by
 subst hkn;obtain ⟨hb3,h3⟩:=rD gr3;have m4:Mod (fun g=>g=wi.heap.size) w3 (w3.setCell ⟨wi.heap.size,5,none⟩ kv):=(Mod.refl _ _).setCell _ _ (fun _=>rfl);have hb4:Below wi.heap.size wi (w3.setCell ⟨wi.heap.size,5,none⟩ kv):=hb3.trans (m4.below hb3.size fun k hk=>by omega);have hb5:=hb4.alloc hb4.size (.cells arr 55);have hm5:Mod (fun g=>g=wi.heap.size) w3 ((w3.setCell ⟨wi.heap.size,5,none⟩ kv).alloc (.cells arr 55)):=m4.alloc _
 have hge:∀g,kv.ownBlock=some g->wi.heap.size+1<=g:=fun g hg=>by
  rcases new3 g hg with q|q
  ·injection q with q;omega
  ·simp at q;omega
 refine RowO.app (m:=⟨m.nd,kv⟩) hro hb5 ⟨aG own3 hm5 (fun g hg e=>by have:=hge g hg;omega),fun g hg=>by have:=hge g hg;omega,hok.kind,hok.line,hok.text,hok.key,hl⟩ own5 gr5 new5
theorem tA {w:World} {V:Value} {tmps:Array Value} (h2:tmps[2]? =some V):
 (results Tryz.f8 tmps).run Tryz.prog w= .ok V w:=by
 rw[Array.getElem?_eq_some_iff]at h2;obtain ⟨l2,e2⟩:=h2;simp[results,Tryz.results8,Array.getD,l2,e2]
theorem Kv (w:World) (V:Value) (ds:List DocV) (h:DocsR w V ds):
 Calls Tryz.prog 8 #[V] w fun r w'=>∃V' n ds',r= .returned V'/\n=ds'.length/\RowO fx w w' 33 1 V' n ds'/\bQ ds'=bQ ds:=by
 obtain ⟨ao,cap,rfl,hl,hat⟩:=h.sl;obtain ⟨q,hq⟩:=ex (ds.length);rw[<-hq]at hl hat |-;have hNl:(bQ ds).length=q:=by unfold bQ;rw[List.length_map,hq]
 have Hdoc:=hid (fun j (hj:j<q)=>show ∃d b o,ds[j]? =some d/\ao=some ⟨b,o,none⟩/\b<w.heap.size/\w.cell? ⟨b,o+j,none⟩=some d.v/\Nds w d.v d.ms/\(bQ ds)[j]? =some (nds d.ms) from by
  obtain ⟨d,hd⟩:∃d,ds[j]? =some d:=au (by omega);obtain ⟨b,o,e,hb,hc⟩:=hat (by omega);have h1:=hc j d hd 0 d.v rfl;rw[Nat.mul_one,Nat.add_zero]at h1;exact ⟨d,b,o,hd,e,hb,h1,h.each d (List.mem_of_getElem? hd),by unfold bQ;rw[List.getElem?_map,hd];rfl⟩)
 have H0:=hid (show OwS w w (bQ ds) (.slice none 0 0) 0 q from ⟨Nat.zero_le _,[],rfl,RowO.first (aAb _ _),rfl⟩);have Hl:=hid (And.intro hl hNl);clear h hat hq hNl hl;go_enter Tryz.func8,Tryz.ntmps8;go_wp2
 go_loopw [3,4] (fun vv vi wr=>∃(v2:Value) (j:Nat),v2=vv/\vi= .int .i64 (j:Int)/\Hid (OwS w wr (bQ ds) v2 j q)) (fun _ vi _=>q-(intOf vi).toNat)
 case atStart=>exact ⟨_,0,rfl,rfl,H0⟩
 case round=>
  clear H0;obtain ⟨v2,j,rfl,rfl,H⟩:=hrel;by_cases hj:j<q
  ·have tj:decide (j<q)=true:=dT hj;have bj:(j:Int)<(q:Int):=by omega
   obtain ⟨d,b,o,hd,rfl,hblt,hc,hn,hN⟩:=Hdoc.o j hj;obtain ⟨_,ds',hl',hro,hds'⟩:=H.o;have hbw:Below w.heap.size w wr:=hro.row.below;have Hn:=hid (hn.later hbw);obtain ⟨da,dc,hdv,hdl,hdat⟩:=(hn.later hbw).open;obtain ⟨n,hne⟩:=ex (d.ms.length);rw[<-hne]at hdl hdat hdv;rw[hdv]at hc;have Hx:=hid (fun wi (hb:Below wr.heap.size wr wi)=>show wi.cell? ⟨b,o+j,none⟩=some (.slice da n dc) from ((hbw.trans (hb.mono hbw.size)).cell (p:=⟨b,o+j,none⟩) hblt).trans hc)
   have Hdat:=hid hdat;have Hdl:=hid hdl;have Hn0:=hid (show OwN wr wr (nds d.ms) (.slice none 0 0) 0 n from ⟨Nat.zero_le _,[],rfl,RowO.first (aAb _ _),rfl⟩);have Hne:=hid hne;obtain ⟨Hmso,Hgoo⟩:=aM (k:=j) (n:=q) hj (by have:=Hl.o.1;omega);have Hro:=hid hro;have Hds:=hid (And.intro hl' hds');have HN:=hid hN;clear hd hblt hc hn hN hro hds' hl' hbw hdv hdl hdat hne Hdoc H hj;go_wp2
   go_loopw [5,6] (fun vv vi wi=>∃(v5:Value) (k:Nat),v5=vv/\vi= .int .i64 (k:Int)/\Hid (OwN wr wi (nds d.ms) v5 k n)) (fun _ vi _=>n-(intOf vi).toNat)
   case atStart=>exact ⟨_,0,rfl,rfl,Hn0⟩
   case round=>
    clear Hn0;obtain ⟨v5,k,rfl,rfl,H⟩:=hrel;obtain ⟨_,ms',hl',hro,hms'⟩:=H.o;obtain ⟨a5,c5',rfl⟩:=cR hro.row.row;have x1:=Hx.o _ hro.row.below;by_cases hk:k<n
    ·have tk:decide (k<n)=true:=dT hk;have bk:(k:Int)<(n:Int):=by omega
     obtain ⟨b2,o2,rfl,hb2,hat2⟩:=Hdat.o (by omega);obtain ⟨m,hm⟩:∃m,d.ms[k]? =some m:=au (by have:=Hne.o;omega);obtain ⟨hA,hok⟩:=hat2 k m hm;obtain ⟨ka,kc,hkv,hkl,_⟩:=aF hok.kids;obtain ⟨c0,c1,c2,c3,c4,c5⟩:NdAt _ b2 (o2+k*6) m:=⟨(hro.row.below.cell (p:=⟨b2,_,none⟩) hb2).trans hA.c0,(hro.row.below.cell (p:=⟨b2,_,none⟩) hb2).trans hA.c1,(hro.row.below.cell (p:=⟨b2,_,none⟩) hb2).trans hA.c2,(hro.row.below.cell (p:=⟨b2,_,none⟩) hb2).trans hA.c3,(hro.row.below.cell (p:=⟨b2,_,none⟩) hb2).trans hA.c4,(hro.row.below.cell (p:=⟨b2,_,none⟩) hb2).trans hA.c5⟩
     rw[hkv]at c5;obtain ⟨kn,hkn⟩:=ex (m.nd.kids.length);rw[<-hkn]at c5 hkv;have Hok:=hid (And.intro hok hkl);have hwi:=hro.row.below;have Hown0:=hid (fun o1=>show ((wr.alloc o1).alloc (.cells #[] 3)).ownsRow 0 3 1 (.slice (some ⟨wr.heap.size+1,0,none⟩) 0 0) 0 [] from by
      have:=World.ownsRow_made (base:=0) (e:= 3) (size:=1) (wr.alloc o1) #[] 0 (Nat.zero_le _) (by decide) rfl
      simpa using this)
     have x2:=fun ob1 ob2=>((((aAb wr.heap.size wr).alloc (aAa _) ob1).alloc (by simp) ob2).cell (p:=⟨b,o+j,none⟩) (World.block_lt_of_cell? _ _ x1)).trans x1;have x3:=fun ob1 ob2=>((((aAb wr.heap.size wr).alloc (aAa _) ob1).alloc (by simp) ob2).cell (p:=⟨b2,o2+k*6+5,none⟩) (World.block_lt_of_cell? _ _ c5)).trans c5;have Hsl:=hid (fun ob1 ob2=>show SlR ((wr.alloc ob1).alloc ob2) (.slice ka kn kc) 1 m.nd.kids aP from by
      rw[<-hkv];exact hok.kids.later (hwi.trans ((((aAb wr.heap.size wr).alloc (aAa _) ob1).alloc (by simp) ob2).mono hwi.size)))
     have Hkn:=hid hkn;have Hro2:=hid hro;have Hms:=hid (And.intro hl' hms');have Hm:=hid hm;obtain ⟨Hmsr,Hgo⟩:=aM (k:=k) (n:=n) hk (by have:=Hdl.o;omega);have Hk2:=hid (show k<=2000000/\k+1<=n from ⟨by have:=Hdl.o;omega,hk⟩);clear H hro hl' hms' hk hm hA hok hkv hkn hkl hat2 hb2 hwi
     go_wp2_with (first
      |(at_builtin;refine wQ rfl (.tmp 30) (.tmp 38) rfl _ rfl (Hown0.o _) ka kn kc m.nd.kids rfl (Hsl.o _ _) ?_;intro ka3 kc3 w3 own3 gr3 new3;have h3:=(rD gr3).2;have y0:=af h3 0;have y1:=af h3 1;have y2:=af h3 2;have y3:=af h3 3;have y4:=af h3 4;have y5:=af h3 5;have yf:=fun j=>ai h3 j;simp at y0 y1 y2 y3 y4 y5;have H3:=hid (And.intro own3 (And.intro gr3 new3));have Hown5:=hid (fun ob=>(Hro2.o.later (Cc gr3 (.slice ka3 kn kc3) ob)).row.row);clear own3 gr3 new3 h3)
      |(at_builtin;refine eQ 55 33 (.agg #[.int .i64 0,.string ⟨#[]⟩,.string ⟨#[]⟩,.bool false,.int .i64 0,.slice none 0 0]) 6 80 Tryz.underlying33 iI rfl (by decide) (by decide) rfl (.tmp 41) (.tmp 43) rfl (.slice a5 k c5') k _ rfl (Hown5.o _) w3.heap.size _ (NdM.cells ⟨m.nd,.slice ka3 kn kc3⟩) rfl (IZ _ _ _ _ _) rfl rfl (oM _ rfl) Hk2.o.1 (k+1) rfl ?_;intro ao5 c6 w5 own5 gr5 new5;have HE:=hid (Cb Hro2.o Hok.o.1 Hok.o.2 Hkn.o H3.o.1 H3.o.2.1 H3.o.2.2 own5 gr5 new5);clear own5 gr5 new5))
     have HN2:=hid (show OwN _ w5 (nds d.ms) (.slice ao5 (k+1) c6) (k+1) n from ⟨Hk2.o.2,_,by rw[aAc,Hms.o.1];rfl,HE.o,by
      have e3:nds (ms'++[(⟨m.nd,.slice ka3 kn kc3⟩:NdM)])=nds ms'++[m.nd]:=by unfold nds;rw[List.map_append];rfl
      have e4:(nds d.ms)[k]? =some m.nd:=by unfold nds;rw[List.getElem?_map,Hm.o];rfl
      rw[e3,Hms.o.2,List.take_add_one,e4];rfl⟩)
     exact ⟨⟨_,k+1,rfl,Hgo.o,HN2⟩,Hmsr.o⟩
    ·have tk:decide (k<n)=false:=dF hk;obtain rfl:k=n:=by have:=H.o.1;omega
     have hNE:nds ms'=nds d.ms:=by rw[hms',List.take_of_length_le (by rw[bt];have:=Hne.o;omega)]
     have Hend:=hid (fun ob v' w2 (a1:World.ownsRow w2 0 33 1 v' (j+1) (ds'.flatMap DocV.cells++[.slice a5 k c5'])) (a2:(wr.alloc ob).grownBy w2 v2.ownBlock) (a3:∀g,v'.ownBlock=some g->v2.ownBlock=some g\/(wr.alloc ob).heap.size<=g)=>show OwS w w2 (bQ ds) v' (j+1) q from by
      have hdp:=hro.doc (by omega) (by have:=Hdl.o;omega);have h6:=RowO.app (w1:=wr.alloc ob) (v':=v') (w2:=w2) (q:=j+1) (m:=(⟨.slice a5 k c5',ms'⟩:DocV)) Hro.o (hro.row.below.trans (((aAb _ _).alloc (aAa _) ob).mono hro.row.below.size)) (fx.mod (F:=fun _=>False) (x:=(⟨.slice a5 k c5',ms'⟩:DocV)) hdp (bh ((aAb _ _).alloc (aAa _) ob)) (fun _ _ q=>q)) a1 a2 a3
      refine ⟨by omega,_,?_,h6,?_⟩
      ·rw[aAc,Hds.o.1];rfl
      ·have e2:bQ [(⟨.slice a5 k c5',ms'⟩:DocV)]=[nds d.ms]:=by rw[<-hNE];rfl
       have e3:bQ (ds'++[(⟨.slice a5 k c5',ms'⟩:DocV)])=bQ ds'++bQ [(⟨.slice a5 k c5',ms'⟩:DocV)]:=by unfold bQ;rw[List.map_append]
       rw[e3,e2,Hds.o.2,List.take_add_one,HN.o];rfl)
     have Hown:=hid (fun ob=>(Hro.o.later (hro.row.below.trans (((aAb _ _).alloc (aAa _) ob).mono hro.row.below.size))).row.row);have Hj2:=hid (show j<=2000000 by have:=Hl.o.1;omega);have Hul:=hid Tryz.underlying22;clear H hl' hms' hNE hk
     go_wp2_with (at_builtin;refine eQ 33 22 (.slice none 0 0) 1 24 Hul.o kx rfl (by decide) (by decide) rfl (.tmp 45) (.tmp 47) rfl v2 j _ rfl (Hown.o _) _ _ [.slice a5 k c5'] rfl (ah _) rfl rfl (fun u hu=>by rw[List.mem_singleton]at hu;rw[hu];rfl) Hj2.o (j+1) rfl ?_;intro ao4 c4 w2 own2 gr2 new2;have HE:=hid (Hend.o _ _ _ own2 gr2 new2);clear own2 gr2 new2)
     exact ⟨⟨_,j+1,rfl,Hgoo.o,HE⟩,Hmso.o⟩
  ·have tj:decide (j<q)=false:=dF hj;obtain ⟨hjq,ds',hl',hro,hds'⟩:=H.o;go_wp2;refine bodyPost_ret (tA rfl) rfl ⟨_,_,ds',rfl,by omega,hro,?_⟩;rw[hds',List.take_of_length_le (by rw[Hl.o.2];omega)]
theorem xQ {w:World} {v v':Value} {ms ms':List NdM} (h:Nds w v ms) (h':Nds w v' ms') (he:nds ms=nds ms'):∃ao cap ao' cap',v= .slice ao ms.length cap/\v'= .slice ao' ms.length cap'/\ms.length<=1048576/\
 (0<ms.length->∃b o b' o',ao=some ⟨b,o,none⟩/\ao'=some ⟨b',o',none⟩/\∀i,i<ms.length->∃x kv kv',NdAt w b (o+i*6) ⟨x,kv⟩/\NdAt w b' (o'+i*6) ⟨x,kv'⟩/\SlR w kv 1 x.kids aP/\SlR w kv' 1 x.kids aP):=by
 obtain ⟨ao,cap,hv,hl,hat⟩:=h.open;obtain ⟨ao',cap',hv',hl',hat'⟩:=h'.open;have hlen:ms'.length=ms.length:=by rw[<-bt ms',<-he,bt]
 rw[hlen]at hv' hat';refine ⟨ao,cap,ao',cap',hv,hv',hl,fun h0=> ?_⟩;obtain ⟨b,o,ha,_,hc⟩:=hat h0;obtain ⟨b',o',ha',_,hc'⟩:=hat' h0;refine ⟨b,o,b',o',ha,ha',fun i hi=> ?_⟩;obtain ⟨m,hm⟩:=au hi;obtain ⟨m',hm'⟩:∃m',ms'[i]? =some m':=au (by omega);have e:m'.nd=m.nd:=by
  have h1:(nds ms)[i]? =some m.nd:=by unfold nds;rw[List.getElem?_map,hm];rfl
  have h2:(nds ms')[i]? =some m'.nd:=by unfold nds;rw[List.getElem?_map,hm'];rfl
  rw[he,h2]at h1;exact aAf h1
 obtain ⟨x,kv⟩:=m;obtain ⟨x',kv'⟩:=m';simp only at e;subst e;exact ⟨_,kv,kv',(hc i _ hm).1,(hc' i _ hm').1,(hc i _ hm).2.kids,(hc' i _ hm').2.kids⟩
theorem cO (w:World) (i j:Nat):(w.drewN i).drewN j=w.drewN (i+j):=by simp[World.drewN,Nat.add_assoc]
def Tok.a (t:Tok):Array Value:=#[.int .i64 t.kind,.int .i64 t.line,.int .i64 t.col,.string ⟨t.text.toArray⟩,.bool t.quoted]
def PanF (e:Flt):Ending:= .panicked [{v:= .iface 174 (.agg #[.int .i64 e.1,.int .i64 e.2]),recovered:=false}]
structure TokOk (t:Tok):Prop where
 kind:I64 t.kind
 line:I64 t.line
 col:0<=t.col/\t.col<=1048576
 text:t.text.length<=1048576
theorem Eg:TokOk Eh:=⟨by decide,by decide,by decide,by decide⟩
def rdA (lv:Value) (k:Nat) (nv:Value):Array Value:=#[lv,.int .i64 (k:Int),nv]
structure RdS (w0 w:World) (rb:Nat) (lv:Value) (ts:List Tok) (k:Nat) (nv:Value) (ms:List NdM):Prop where
 toks:SlR w0 lv 5 ts Tok.cells
 wf:∀t∈ts,TokOk t
 below:Below w0.heap.size w0 w
 rge:w0.heap.size<=rb
 blk:w.heap[rb]? =some (.cells (rdA lv k nv) 178 (0,0))
 nr:NRow w0 w rb nv ms
 kle:k<=ts.length
theorem RdS.later {w0 w w2:World} {rb:Nat} {lv:Value} {ts:List Tok} {k:Nat} {nv:Value} {ms:List NdM} (h:RdS w0 w rb lv ts k nv ms) (hb:Below w.heap.size w w2):RdS w0 w2 rb lv ts k nv ms:=
 ⟨h.toks,h.wf,h.below.trans (hb.mono h.below.size),h.rge,(hb.block _ (ag h.blk)).trans h.blk,h.nr.later hb,h.kle⟩
theorem RdS.ok {w0 w:World} {rb:Nat} {lv:Value} {ts:List Tok} {k:Nat} {nv:Value} {ms:List NdM} (h:RdS w0 w rb lv ts k nv ms) (j:Nat):TokOk (aq ts j):=by
 unfold aq;cases hj:ts[j]? with
 |none=>exact Eg
 |some t=>exact h.wf t (List.mem_of_getElem? hj)
theorem RdS.move {w0 w:World} {rb:Nat} {lv:Value} {ts:List Tok} {k k2:Nat} {nv:Value} {ms:List NdM} (h:RdS w0 w rb lv ts k nv ms) (hk:k2<=ts.length):RdS w0 (w.setCell ⟨rb,1,none⟩ (.int .i64 (k2:Int))) rb lv ts k2 nv ms:=by
 have hM:Mod (fun b=>b=rb) w (w.setCell ⟨rb,1,none⟩ (.int .i64 (k2:Int))):=(Mod.refl _ _).setCell _ _ (fun _=>rfl);exact ⟨h.toks,h.wf,h.below.trans (hM.below h.below.size (fun b hb=>by rw[hb];exact h.rge)),h.rge,aE h.blk 1 _,h.nr.mod hM (fun g hg e=>(h.nr.own_lt hg).2.2 e),hk⟩
def RdF (rb:Nat) (nv:Value) (ms:List NdM) (g:Nat):Prop:=g=rb\/nOwn nv ms g
theorem RdS.rd_lt {w0 w:World} {rb:Nat} {lv:Value} {ts:List Tok} {k:Nat} {nv:Value} {ms:List NdM} (h:RdS w0 w rb lv ts k nv ms) {g:Nat} (hg:RdF rb nv ms g):w0.heap.size<=g/\g<w.heap.size:=by
 rcases hg with rfl|hg
 ·exact ⟨h.rge,ag h.blk⟩
 ·have:=h.nr.own_lt hg;exact ⟨this.1,this.2.1⟩
def cK (w0 w:World) (rb:Nat) (lv:Value) (ts:List Tok) (nv:Value) (ms:List NdM) (x:Except Flt (Nat×List Nd×Nat)) (r:Ending) (w':World):Prop:=
 match x with
 | .error e=>r=PanF e/\Below w0.heap.size w0 w'/\w.heap.size<=w'.heap.size
 | .ok (k2,ns2,i)=>r= .returned (.int .i64 (i:Int))/\∃nv2 ms2,RdS w0 w' rb lv ts k2 nv2 ms2/\nds ms2=ns2/\Mod (RdF rb nv ms) w w'/\∀g,nOwn nv2 ms2 g->nOwn nv ms g\/w.heap.size<=g
theorem l9 {w0 w w1 w2:World} {rb:Nat} {nv nv1:Value} {ms ms1:List NdM} (h1:Mod (RdF rb nv ms) w w1) (o1:∀g,nOwn nv1 ms1 g->nOwn nv ms g\/w.heap.size<=g) (h2:Mod (RdF rb nv1 ms1) w1 w2):Mod (RdF rb nv ms) w w2:=
 h1.trans' h2 fun i hi q=>by
  rcases q with q|q
  ·exact .inl q
  ·rcases o1 i q with q|q
   ·exact .inr q
   ·omega
theorem qI {w w1:World} {nv nv1 nv2:Value} {ms ms1 ms2:List NdM} (hs:w.heap.size<=w1.heap.size) (o1:∀g,nOwn nv1 ms1 g->nOwn nv ms g\/w.heap.size<=g) (o2:∀g,nOwn nv2 ms2 g->nOwn nv1 ms1 g\/w1.heap.size<=g):∀g,nOwn nv2 ms2 g->nOwn nv ms g\/w.heap.size<=g:=fun g hg=>by
 rcases o2 g hg with q|q
 ·exact o1 g q
 ·exact .inr (by omega)
theorem RdS.tok_at {w0 w:World} {rb:Nat} {lv:Value} {ts:List Tok} {k:Nat} {nv:Value} {ms:List NdM} (h:RdS w0 w rb lv ts k nv ms):∃ao cap,lv= .slice ao ts.length cap/\ts.length<=1048576/\(k<ts.length->∃b o,ao=some ⟨b,o,none⟩/\
 w.cell? ⟨b,o+k*5,none⟩=some (.int .i64 (aq ts k).kind)/\w.cell? ⟨b,o+k*5+1,none⟩=some (.int .i64 (aq ts k).line)/\w.cell? ⟨b,o+k*5+2,none⟩=some (.int .i64 (aq ts k).col)/\w.cell? ⟨b,o+k*5+3,none⟩=some (.string ⟨(aq ts k).text.toArray⟩)/\w.cell? ⟨b,o+k*5+4,none⟩=some (.bool (aq ts k).quoted)):=by
 obtain ⟨ao,cap,hv,hl,hat⟩:=h.toks.later h.below;refine ⟨ao,cap,hv,hl,fun hk=> ?_⟩;obtain ⟨b,o,ha,_,hc⟩:=hat (by omega);obtain ⟨t,ht⟩:=au hk;rw[Cm ht];exact ⟨b,o,ha,hc k t ht 0 _ rfl,hc k t ht 1 _ rfl,hc k t ht 2 _ rfl,hc k t ht 3 _ rfl,hc k t ht 4 _ rfl⟩
theorem bR {w w':World} {p:Addr} {v:Value} (h:Below w.heap.size w w') (hp:w.cell? p=some v):w'.cell? p=some v:=(h.cell (World.block_lt_of_cell? _ _ hp)).trans hp
theorem EA {w:World} {b:Nat} {T:TypeId} {z0 z1 z2 z3 z4:Value} (h:w.heap[b]? =some (.cells #[z0,z1,z2,z3,z4] T (0,0))) (u0 u1 u2 u3 u4:Value):
 Mod (fun k=>k=b) w (((((w.setCell ⟨b,0,none⟩ u0).setCell ⟨b,1,none⟩ u1).setCell ⟨b,2,none⟩ u2).setCell ⟨b,3,none⟩ u3).setCell ⟨b,4,none⟩ u4)/\
 (((((w.setCell ⟨b,0,none⟩ u0).setCell ⟨b,1,none⟩ u1).setCell ⟨b,2,none⟩ u2).setCell ⟨b,3,none⟩ u3).setCell ⟨b,4,none⟩ u4).heap[b]? =some (.cells #[u0,u1,u2,u3,u4] T (0,0)):=by
 have m0:Mod (fun k=>k=b) w (w.setCell ⟨b,0,none⟩ u0):=(Mod.refl _ _).setCell _ _ (fun _=>rfl);have m1:Mod (fun k=>k=b) w ((w.setCell ⟨b,0,none⟩ u0).setCell ⟨b,1,none⟩ u1):=m0.setCell _ _ (fun _=>rfl);have m2:Mod (fun k=>k=b) w (((w.setCell ⟨b,0,none⟩ u0).setCell ⟨b,1,none⟩ u1).setCell ⟨b,2,none⟩ u2):=m1.setCell _ _ (fun _=>rfl);have m3:Mod (fun k=>k=b) w ((((w.setCell ⟨b,0,none⟩ u0).setCell ⟨b,1,none⟩ u1).setCell ⟨b,2,none⟩ u2).setCell ⟨b,3,none⟩ u3):=m2.setCell _ _ (fun _=>rfl)
 have m4:Mod (fun k=>k=b) w (((((w.setCell ⟨b,0,none⟩ u0).setCell ⟨b,1,none⟩ u1).setCell ⟨b,2,none⟩ u2).setCell ⟨b,3,none⟩ u3).setCell ⟨b,4,none⟩ u4):=m3.setCell _ _ (fun _=>rfl);have s0:=aE h 0 u0;have s1:=aE s0 1 u1;have s2:=aE s1 2 u2;have s3:=aE s2 3 u3;exact ⟨m4,aE s3 4 u4⟩
theorem ld {w:World} {b:Nat} {v0 v1 v2 v3 v4:Value} {tmps:Array Value} (h2:tmps[2]? =some (.pointer (some ⟨b,0,none⟩))) (hb:w.heap[b]? =some (.cells #[v0,v1,v2,v3,v4] 121 (0,0))):
 (results Tryz.f108 tmps).run Tryz.prog w= .ok (.agg #[v0,v1,v2,v3,v4]) w:=by
 have h1:=run_loadVar_mid (P:= Tryz.prog) w b 0 121 [v0,v1,v2,v3,v4] _ (gA (l:=[v0,v1,v2,v3,v4]) hb) Tryz.underlying121 rfl (by kernel_rfl);rw[Array.getElem?_eq_some_iff]at h2;obtain ⟨l2,e2⟩:=h2;simp[results,Tryz.results108,asAddr,Array.getD,l2,e2,h1]
theorem fW {w0 w:World} {rb:Nat} {lv:Value} {ts:List Tok} {k:Nat} {nv:Value} {ms:List NdM} (h:RdS w0 w rb lv ts k nv ms):
 Calls Tryz.prog 108 #[.pointer (some ⟨rb,0,none⟩)] w fun r w'=>r= .returned (.agg (aq ts k).a)/\Below w.heap.size w w':=by
 obtain ⟨ao,cap,rfl,hl,hat⟩:=h.tok_at;obtain ⟨n,hn⟩:=ex (ts.length);rw[<-hn]at hl hat;have hblk:=h.blk;rw[<-hn]at hblk;unfold rdA at hblk;have f0:=fun ob=>(aj (w:=w) ob (ag hblk)).trans hblk;have y0:=fun ob=>af (f0 ob) 0;have y1:=fun ob=>af (f0 ob) 1;simp at y0 y1;unfold Tok.a;by_cases hk:k<n
 ·have tk:decide (k<n)=true:=dT hk;have bk:(k:Int)<(n:Int):=by omega
  obtain ⟨b,o,rfl,c0,c1,c2,c3,c4⟩:=hat hk;have e:=fun ob j (v:Value) (hc:w.cell? ⟨b,j,none⟩=some v)=>bR ((aAb w.heap.size w).alloc (aAa _) ob) hc;have d0:=fun ob=>e ob _ _ c0;have d1:=fun ob=>e ob _ _ c1;have d2:=fun ob=>e ob _ _ c2;have d3:=fun ob=>e ob _ _ c3;have d4:=fun ob=>e ob _ _ c4;generalize aq ts k=t at*;clear h hl hat hn hblk f0 c0 c1 c2 c3 c4 e hk;go_enter Tryz.func108,Tryz.ntmps108
  go_wp2;go_quiet (fail);go_wp2;obtain ⟨W,hW⟩:=ex ((w.alloc (.cells #[.int .i64 0,.int .i64 0,.int .i64 0,.string ⟨#[]⟩,.bool false] 121)).drewN nq);have hb:Below w.heap.size w W:=by rw[hW];exact bdH ((aAb _ _).alloc (aAa _) _) nq
  have hn:W.heap[w.heap.size]? =some (.cells #[.int .i64 0,.int .i64 0,.int .i64 0,.string ⟨#[]⟩,.bool false] 121 (0,0)):=by rw[hW];exact ah (w:=w) _
  rw[<-hW];have y0':W.cell? ⟨rb,0,none⟩=some (.slice (some ⟨b,o,none⟩) n cap):=by rw[hW];exact y0 _
  have y1':W.cell? ⟨rb,1,none⟩=some (.int .i64 (k:Int)):=by rw[hW];exact y1 _
  have d0':W.cell? ⟨b,o+k*5,none⟩=some (.int .i64 t.kind):=by rw[hW];exact d0 _
  have d1':W.cell? ⟨b,o+k*5+1,none⟩=some (.int .i64 t.line):=by rw[hW];exact d1 _
  have d2':W.cell? ⟨b,o+k*5+2,none⟩=some (.int .i64 t.col):=by rw[hW];exact d2 _
  have d3':W.cell? ⟨b,o+k*5+3,none⟩=some (.string ⟨t.text.toArray⟩):=by rw[hW];exact d3 _
  have d4':W.cell? ⟨b,o+k*5+4,none⟩=some (.bool t.quoted):=by rw[hW];exact d4 _
  have HE:=hid (EA (w:=W.drew) (b:=w.heap.size) hn (.int .i64 t.kind) (.int .i64 t.line) (.int .i64 t.col) (.string ⟨t.text.toArray⟩) (.bool t.quoted));have Hb:=hid hb;obtain ⟨q0,q1,q2,q3,q4⟩:=cB5 hn;have qf:=fun j=>ai hn j;simp at q0 q1 q2 q3 q4;clear y0 y1 d0 d1 d2 d3 d4 hW hb hn
  go_still_tail 10,(by kernel_rfl)
  repeat still_step
  change wpList _ _ _ _ _ W.drew;go_wp2;refine bodyPost_ret (ld rfl HE.o.2) rfl ⟨rfl,?_⟩;exact Hb.o.drew.trans (HE.o.1.below Hb.o.size (fun k hk=>by omega))
 ·have tk:decide (k<n)=false:=dF hk;rw[gB (by omega)];unfold Eh;clear h hl hat hn hblk f0 hk;go_enter Tryz.func108,Tryz.ntmps108;go_wp2;go_quiet (fail);go_wp2;have HE:=hid (fun n=>EA (w:=(w.alloc (.cells #[.int .i64 0,.int .i64 0,.int .i64 0,.string ⟨#[]⟩,.bool false] 121)).drewN n) (b:=w.heap.size) (ah (w:=w) (.cells #[.int .i64 0,.int .i64 0,.int .i64 0,.string ⟨#[]⟩,.bool false] 121)) (.int .i64 0) (.int .i64 0) (.int .i64 0) (.string ⟨#[]⟩) (.bool false))
  refine bodyPost_ret (ld rfl (HE.o nq).2) rfl ⟨rfl,?_⟩;exact ((bdH ((aAb _ _).alloc (aAa _) _) nq).trans ((HE.o nq).1.below (by simp) (fun k hk=>by omega)))
theorem C5 (w:World) (t:Tok):Calls Tryz.prog 107 #[.agg t.a] w fun r w'=>r= .returned (.bool (hasB t))/\Below w.heap.size w w':=by
 unfold Tok.a hasB;have h2:(t.kind==2||t.kind==3||t.kind==4)=true\/(t.kind==2||t.kind==3||t.kind==4)=false:=by cases (t.kind==2||t.kind==3||t.kind==4)<;>simp
 by_cases k2:(t.kind==2)=true
 ·rw[k2];go_enter Tryz.func107,Tryz.ntmps107;go_wp2;go_ret;exact ⟨rfl,(aAb _ _).alloc (aAa _) _⟩
 ·replace k2:(t.kind==2)=false:=by cases h:(t.kind==2)<;>simp_all
  by_cases k3:(t.kind==3)=true
  ·rw[k2,k3];clear h2;go_enter Tryz.func107,Tryz.ntmps107;go_wp2;go_ret;exact ⟨rfl,(aAb _ _).alloc (aAa _) _⟩
  ·replace k3:(t.kind==3)=false:=by cases h:(t.kind==3)<;>simp_all
   cases k4:(t.kind==4)<;>rw[k2,k3]
   all_goals
    clear h2;go_enter Tryz.func107,Tryz.ntmps107;go_wp2;go_ret;exact ⟨rfl,(aAb _ _).alloc (aAa _) _⟩
def jj (k:Nat) (ns:List Nd) (d:Nat) (kind:Int) (key:ByteArray) (t:Tok):Except Flt (Nat×List Nd×Nat):=
 match iX ns d kind key t with| .error e=> .error e| .ok ns2=> .ok (k,ns2,ns.length)
theorem oL (ms:List NdM) (m:NdM):nds (ms++[m])=nds ms++[m.nd]:=by unfold nds;rw[List.map_append];rfl
theorem AJ {w0 w w1 w5:World} {rb:Nat} {lv:Value} {ts:List Tok} {k n:Nat} {ao ao5:Option Addr} {c c5:Nat} {ms:List NdM} (h:RdS w0 w rb lv ts k (.slice ao ms.length c) ms) {kind:Int} {key:ByteArray} {t:Tok} (hn:n=ms.length) (hk:I64 kind) (hkey:key.size<=1048576) (ht:TokOk t) (hlen:n<4096)
 (hb1:Below w.heap.size w w1) (own2:w5.ownsRow 0 55 6 (.slice ao5 (n+1) c5) (n+1) (ms.flatMap NdM.cells++NdM.cells ⟨⟨kind,key,⟨#[]⟩,false,t.line,[]⟩,.slice none 0 0⟩)) (gr2:w1.grownBy w5 (Value.slice ao n c).ownBlock)
 (new2:∀g,(Value.slice ao5 (n+1) c5).ownBlock=some g->(Value.slice ao n c).ownBlock=some g\/w1.heap.size<=g):
 w5.heap[rb]? =some (.cells #[lv,.int .i64 (k:Int),.slice ao n c] 178 (0,0))/\
 RdS w0 (w5.setCell ⟨rb,2,none⟩ (.slice ao5 (n+1) c5)) rb lv ts k (.slice ao5 (n+1) c5) (ms++[⟨⟨kind,key,⟨#[]⟩,false,t.line,[]⟩,.slice none 0 0⟩])/\
 Mod (RdF rb (.slice ao n c) ms) w (w5.setCell ⟨rb,2,none⟩ (.slice ao5 (n+1) c5))/\
 ∀g,nOwn (.slice ao5 (n+1) c5) (ms++[⟨⟨kind,key,⟨#[]⟩,false,t.line,[]⟩,.slice none 0 0⟩]) g->nOwn (.slice ao n c) ms g\/w.heap.size<=g:=by
 subst hn;have h1:=h.later hb1;obtain ⟨hnr,hno⟩:=h.nr.app (x:=⟨kind,key,⟨#[]⟩,false,t.line,[]⟩) h.below.size hb1 (ag h.blk) rfl hk ht.line (show (0:Nat)<=1048576 by decide) hkey hlen own2 gr2 new2;have hM:Mod (fun b=>(Value.slice ao ms.length c).ownBlock=some b) w1 w5:=(Mod.refl _ _).grown gr2 (fun b e _=>e);have hblk:w5.heap[rb]? =some (.cells (rdA lv k (.slice ao ms.length c)) 178 (0,0)):=hM.heap h1.blk (fun e=>(h.nr.new rb e).2 rfl)
 have hS:Mod (fun b=>b=rb) w5 (w5.setCell ⟨rb,2,none⟩ (.slice ao5 (ms.length+1) c5)):=(Mod.refl _ _).setCell _ _ (fun _=>rfl);have hW:Mod (RdF rb (.slice ao ms.length c) ms) w (w5.setCell ⟨rb,2,none⟩ (.slice ao5 (ms.length+1) c5)):=
  ((Mod.ofBelow (F:=RdF rb (.slice ao ms.length c) ms) hb1 (fun b hb hge=>by omega)).trans' hM (fun i hi q=> .inr (.inl q))).trans' hS (fun i hi q=> .inl q)
 refine ⟨hblk,⟨h.toks,h.wf,h.below.trans (hW.below h.below.size (fun b hb=>(h.rd_lt hb).1)),h.rge,aE hblk 2 _,hnr.mod hS (fun g hg e=>(hnr.own_lt hg).2.2 e),h.kle⟩,hW,fun g hg=> ?_⟩;rcases hno g hg with q|q
 ·exact .inl q
 ·exact .inr (aAe hb1.size q)
theorem lL {w0 w:World} {rb:Nat} {lv:Value} {ts:List Tok} {k:Nat} {nv:Value} {ms:List NdM} (h:RdS w0 w rb lv ts k nv ms) (d:Nat) (hd:d<=17) (kind:Int) (hk:I64 kind) (key:ByteArray) (hkey:key.size<=1048576) (t:Tok) (ht:TokOk t):
 Calls Tryz.prog 148 #[.pointer (some ⟨rb,0,none⟩),.int .i64 kind,.int .i64 ((17-d:Nat):Int),.string key,.agg t.a] w (cK w0 w rb lv ts nv ms (jj k (nds ms) d kind key t)):=by
 unfold Tok.a;obtain ⟨ao,c,rfl⟩:=h.nr.form;have hblk:=h.blk;unfold rdA at hblk;have f0:=fun ob=>(aj (w:=w) ob (ag hblk)).trans hblk;have y2:=fun ob=>af (f0 ob) 2;simp at y2;obtain ⟨n,hn⟩:=ex (ms.length);rw[<-hn]at y2;have hnl:(nds ms).length=n:=by rw[bt,hn]
 by_cases hb:d=0\/n=4096
 ·have hx:jj k (nds ms) d kind key t= .error (t.line,92):=by unfold jj iX;rw[hnl,if_pos hb]
  rw[hx];have HE:=hid (fun ob=>show Below w0.heap.size w0 (w.alloc ob)/\w.heap.size<=(w.alloc ob).heap.size from ⟨h.below.alloc h.below.size _,by simp⟩);rw[<-hn];clear h hblk f0 hx hnl hn ht hk hkey;by_cases hd0:d=0
  ·subst hd0;go_enter Tryz.func148,Tryz.ntmps148;go_wp2;exact ⟨rfl,rfl,HE.o _⟩
  ·obtain rfl:n=4096:=by rcases hb with q|q;exact absurd q hd0;exact q
   have b1:((17-d:Nat):Int)<=16:=by omega
   clear hb;go_enter Tryz.func148,Tryz.ntmps148;go_wp2;exact ⟨rfl,rfl,HE.o _⟩
 ·have b1:decide ((16:Int)<((17-d:Nat):Int))=false:=dF (by omega);have b2:((n:Int)==4096)=false:=beq_eq_false_iff_ne.2 (by omega);have Hw:=hid (show wrap64 (n:Int)=(n:Int) from aW (by omega) (by have:=h.nr.len;omega));have hx:jj k (nds ms) d kind key t= .ok (k,nds ms++[⟨kind,key,⟨#[]⟩,false,t.line,[]⟩],n):=by unfold jj iX;rw[hnl,if_neg hb]
  have hlen:n<4096:=by have:=h.nr.len;omega
  rw[hx,<-hn];have g2:w.cell? ⟨rb,2,none⟩=some (.slice ao n c):=by rw[hn];have:=af hblk 2;simpa using this
  have gf:=ai hblk;have w2f:=fun ob1 ob2=>(aj (w:=w.alloc ob1) ob2 (ag (f0 ob1))).trans (f0 ob1);have x2:=fun ob1 ob2=>af (w2f ob1 ob2) 2;have xf:=fun ob1 ob2 j=>ai (w2f ob1 ob2) j;simp at x2;rw[<-hn]at x2;have z1:=fun (ob2:Obj)=>af ((aj (w:=w.alloc (.cells #[.int .i64 t.kind,.int .i64 t.line,.int .i64 t.col,.string ⟨t.text.toArray⟩,.bool t.quoted] 121)) ob2 (by simp:w.heap.size<_)).trans (ah (w:=w) _)) 1
  simp at z1;have Hown:=hid (fun nd ob1 ob2=>show (((w.alloc ob1).drewN nd).alloc ob2).ownsRow 0 55 6 (.slice ao n c) n (ms.flatMap NdM.cells) from by
   have:=h.nr.row;rw[hn];exact World.ownsRow.alloc (w:=(w.alloc ob1).drewN nd) (this.alloc ob1) ob2)
  have H:=hid h;have Hn:=hid hn;have Hb:=hid (And.intro hk (And.intro hkey (And.intro ht hlen)));have Hjl:=hid (show n<=1000000 by omega);have Hend:=hid (fun ob1 ob2 ao5 c5 (w5:World) (a1:w5.ownsRow 0 55 6 (.slice ao5 (n+1) c5) (n+1) (ms.flatMap NdM.cells++NdM.cells ⟨⟨kind,key,⟨#[]⟩,false,t.line,[]⟩,.slice none 0 0⟩))
   (a2:(((w.alloc ob1).alloc ob2).drew).grownBy w5 (Value.slice ao n c).ownBlock) (a3:∀g,(Value.slice ao5 (n+1) c5).ownBlock=some g->(Value.slice ao n c).ownBlock=some g\/((w.alloc ob1).alloc ob2).drew.heap.size<=g)=>AJ h hn hk hkey ht hlen (((((aAb _ _).alloc (aAa _) ob1).alloc (by simp) ob2)).drew) a1 a2 a3)
  have Hd1:=hid (show 0<6 by decide);have Hd2:=hid (show 80<=1000 by decide);clear h hn hx hnl hlen hb hblk f0 w2f hk hkey ht hd;go_enter Tryz.func148,Tryz.ntmps148;go_wp2
  go_region_law (refine rj 55 33 (.agg #[.int .i64 0,.string ⟨#[]⟩,.string ⟨#[]⟩,.bool false,.int .i64 0,.slice none 0 0]) 6 80 Tryz.underlying33 iI rfl Hd1.o Hd2.o rfl _ _ rfl (.slice ao n c) n (ms.flatMap NdM.cells) rfl (Hown.o _ _ _) (w.heap.size+1) #[.int .i64 kind,.string key,.string ⟨#[]⟩,.bool false,.int .i64 t.line,.slice none 0 0] (NdM.cells ⟨⟨kind,key,⟨#[]⟩,false,t.line,[]⟩,.slice none 0 0⟩) rfl (kN _ _ _) rfl rfl (oM _ rfl) Hjl.o (n+1) rfl ?_;intro ao5 c5 w5 own2 gr2 new2;have HE:=hid (Hend.o _ _ _ _ _ own2 gr2 new2);have q1:=af (HE.o.1) 2;have q2:=ai HE.o.1 2;simp at q1;clear own2 gr2 new2)
  all_goals go_wp2
  all_goals refine bodyPost_ret (results_tmp (t:=10) rfl _ _ _) rfl ⟨congrArg (fun z=>Ending.returned (.int .i64 z)) Hw.o,_,_,HE.o.2.1,?_,HE.o.2.2.1,HE.o.2.2.2⟩
  all_goals exact oL _ _
theorem cK.base {w0 w w3 w':World} {rb:Nat} {lv:Value} {ts:List Tok} {nv:Value} {ms:List NdM} {x:Except Flt (Nat×List Nd×Nat)} {r:Ending} (hb:Below w.heap.size w w3) (h:cK w0 w3 rb lv ts nv ms x r w'):cK w0 w rb lv ts nv ms x r w':=by
 cases x with
 |error e=>exact ⟨h.1,h.2.1,aAe hb.size h.2.2⟩
 |ok y=>
  obtain ⟨hr,nv2,ms2,hR,hn,hm,ho⟩:=h;refine ⟨hr,nv2,ms2,hR,hn,(Mod.ofBelow (F:=RdF rb nv ms) hb (fun k hk hge=>by omega)).trans hm,fun g hg=> ?_⟩;rcases ho g hg with q|q
  ·exact .inl q
  ·exact .inr (aAe hb.size q)
def mK (w0:World) (rb:Nat) (lv:Value) (ts:List Tok) (d:Nat):Prop:=
 ∀(w:World) (k:Nat) (nv:Value) (ms:List NdM) (key:ByteArray),RdS w0 w rb lv ts k nv ms->hasB (aq ts k)=true->key.size<=1048576->
  Calls Tryz.prog 109 #[.pointer (some ⟨rb,0,none⟩),.int .i64 ((17-d:Nat):Int),.string key] w (cK w0 w rb lv ts nv ms (bM ts d k (nds ms) key))
theorem xr {w0 w:World} {rb:Nat} {lv:Value} {ts:List Tok} {k:Nat} {nv:Value} {ms:List NdM} (h:RdS w0 w rb lv ts k nv ms) (d:Nat) (hd:d<=16) (is:Bool) (t:Tok) (ht:TokOk t) (key:ByteArray) (hkey:key.size<=1048576) (IH:mK w0 rb lv ts d):
 Calls Tryz.prog 181 #[.pointer (some ⟨rb,0,none⟩),.bool is,.agg t.a,.int .i64 ((17-d:Nat):Int),.string key] w (cK w0 w rb lv ts nv ms (iy (bM ts d) ts d is t k (nds ms) key)):=by
 have hb1:∀ob,Below w.heap.size w (w.alloc ob):=fun ob=>(aAb _ _).alloc (aAa _) ob;cases is with
 |false=>
  have Hx:=hid (show iy (bM ts d) ts d false t k (nds ms) key=jj k (nds ms) d 1 key t from rfl);have Hbeg:=hid (fun ob=>(lL (h.later (hb1 ob)) d (by omega) 1 (by decide) key hkey t ht).mono (fun r w' hh=>cK.base (hb1 ob) hh));rw[Hx.o];clear Hx h IH hkey ht hd hb1;generalize jj k (nds ms) d 1 key t=X at*;unfold Tok.a at Hbeg |-;go_enter Tryz.func181,Tryz.ntmps181
  go_wp2_with fail
  refine (Hbeg.o _).mono ?_;intro r w' hh;cases X with
  |error e=>
   obtain ⟨rfl,h1,h2⟩:=hh;exact ⟨rfl,rfl,h1,h2⟩
  |ok y=>
   obtain ⟨k2,ns2,i⟩:=y;obtain rfl:=hh.1;have HH:=hid hh;clear hh Hbeg;go_wp2;exact bodyPost_ret (results_tmp (t:=10) rfl _ _ _) rfl HH.o
 |true=>
  have Hnx:=hid (fun ob=>fW (h.later (hb1 ob)));have H:=hid h;have Hb:=hid hb1;have Ht:=hid (And.intro hkey (And.intro ht hd));have IH:=hid IH;cases hhas:hasB (aq ts k) with
  |false=>
   have hx:iy (bM ts d) ts d true t k (nds ms) key=jj k (nds ms) d 1 key t:=by unfold iy;rw[hhas];rfl
   rw[hx];have Hbeg:=hid (fun w3 (hb:Below w.heap.size w w3)=>(lL (h.later hb) d (by omega) 1 (by decide) key hkey t ht).mono (fun r w' hh=>cK.base hb hh));have Hhas:=hid (fun w3=>C5 w3 (aq ts k));rw[hhas]at Hhas;clear hx h hkey ht hd hb1 hhas H IH Ht;generalize jj k (nds ms) d 1 key t=X at*;generalize aq ts k=n at*;unfold Tok.a at Hbeg Hnx Hhas |-;go_enter Tryz.func181,Tryz.ntmps181
   go_wp2_with fail
   refine (Hnx.o _).mono ?_;rintro r w2 ⟨rfl,h2⟩;have Hb2:=hid ((Hb.o _).trans (h2.mono (Hb.o _).size));have c0:=fun j v hc=>bR (p:=⟨w.heap.size,j,none⟩) (v:=v) h2 hc;have y0:=c0 0 _ (af (ah (w:=w) _) 0);have y1:=c0 1 _ (af (ah (w:=w) _) 1);have y2:=c0 2 _ (af (ah (w:=w) _) 2);have y3:=c0 3 _ (af (ah (w:=w) _) 3);have y4:=c0 4 _ (af (ah (w:=w) _) 4)
   simp at y0 y1 y2 y3 y4;clear h2 c0 Hnx
   go_wp2_with fail
   refine (Hhas.o _).mono ?_;rintro r w3 ⟨rfl,h3⟩;have Hb3:=hid (Hb2.o.trans (h3.mono Hb2.o.size))
   replace y0:=bR h3 y0
   replace y1:=bR h3 y1
   replace y2:=bR h3 y2
   replace y3:=bR h3 y3
   replace y4:=bR h3 y4
   clear h3 Hhas Hb2
   go_wp2_with fail
   refine (Hbeg.o _ Hb3.o).mono ?_;intro r w' hh;cases X with
   |error e=>
    obtain ⟨rfl,h1,h2⟩:=hh;exact ⟨rfl,rfl,h1,h2⟩
   |ok y=>
    obtain ⟨k2,ns2,i⟩:=y;obtain rfl:=hh.1;have HH:=hid hh;clear hh Hbeg y0 y1 y2 y3 y4;go_wp2;exact bodyPost_ret (results_tmp (t:=10) rfl _ _ _) rfl HH.o
  |true=>
   have hx:iy (bM ts d) ts d true t k (nds ms) key=bM ts d k (nds ms) key:=by unfold iy;rw[hhas];rfl
   rw[hx];have Hbeg:=hid (fun w3 (hb:Below w.heap.size w w3)=>(IH.o w3 k nv ms key (h.later hb) hhas hkey).mono (fun r w' hh=>cK.base hb hh));have Hhas:=hid (fun w3=>C5 w3 (aq ts k));rw[hhas]at Hhas;clear hx h hkey ht hd hb1 hhas H IH Ht;generalize bM ts d k (nds ms) key=X at*;generalize aq ts k=n at*;unfold Tok.a at Hnx Hhas |-;go_enter Tryz.func181,Tryz.ntmps181
   go_wp2_with fail
   refine (Hnx.o _).mono ?_;rintro r w2 ⟨rfl,h2⟩;have Hb2:=hid ((Hb.o _).trans (h2.mono (Hb.o _).size));clear h2 Hnx
   go_wp2_with fail
   refine (Hhas.o _).mono ?_;rintro r w3 ⟨rfl,h3⟩;have Hb3:=hid (Hb2.o.trans (h3.mono Hb2.o.size));clear h3 Hhas Hb2
   go_wp2_with fail
   refine (Hbeg.o _ Hb3.o).mono ?_;intro r w' hh;cases X with
   |error e=>
    obtain ⟨rfl,h1,h2⟩:=hh;exact ⟨rfl,rfl,h1,h2⟩
   |ok y=>
    obtain ⟨k2,ns2,i⟩:=y;obtain rfl:=hh.1;have HH:=hid hh;clear hh Hbeg;go_wp2;exact bodyPost_ret (results_tmp (t:=10) rfl _ _ _) rfl HH.o
