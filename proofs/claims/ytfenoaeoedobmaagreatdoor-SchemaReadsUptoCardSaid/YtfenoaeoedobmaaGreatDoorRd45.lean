/-
Parts of a proof, one behind the other (laid dense by a program of mine: pack.py).
-/
import Derived.Test.YtfenoaeoedobmaaGreatDoorRd44
set_option linter.unusedVariables false
set_option linter.unusedSimpArgs false
set_option maxHeartbeats 4000000
set_option maxRecDepth 20000
namespace Go.Proofs.YtfenoaeoedobmaaGreatDoor
open Go Go.RowKit
def OwS (w wr:World) (N:List (List Nd)) (v:Value) (i q:Nat):Prop:=i≤q∧∃ds',ds'.length=i∧RowO DocE w wr 33 1 v i ds'∧docsN ds'=N.take i
def OwN (w wr:World) (N:List Nd) (v:Value) (k n:Nat):Prop:=k≤n∧∃ms',ms'.length=k∧RowO NdE w wr 55 6 v k ms'∧nds ms'=N.take k
theorem own_mid {wi w3:World} {c:Array Value} (gr3:((wi.alloc (.cells c 55)).alloc (.cells #[] 3)).grownBy w3 (some (wi.heap.size+1))):
 Below wi.heap.size wi w3∧w3.heap[wi.heap.size]? =some (.cells c 55 (0,0)):=by
 have m3:Mod (fun g=>g=wi.heap.size+1) ((wi.alloc (.cells c 55)).alloc (.cells #[] 3)) w3:=(Mod.refl _ _).grown gr3 (fun g e _=>by injection e with e;exact e.symm);have hb:Below wi.heap.size wi ((wi.alloc (.cells c 55)).alloc (.cells #[] 3)):=((Below.refl _ _).alloc (Nat.le_refl _) _).alloc (by simp) _;refine ⟨hb.trans (m3.below hb.size fun k hk=>by omega),m3.heap ?_ (by omega)⟩
 exact (alloc_old _ (by simp)).trans (alloc_new _)
theorem own_mid2 {wi w3:World} {c:Array Value} (gr3:((wi.alloc (.cells c 55)).alloc (.cells #[] 3)).grownBy w3 (some (wi.heap.size+1))) (kv:Value) (o:Obj):
 Below wi.heap.size wi ((w3.setCell ⟨wi.heap.size,5,none⟩ kv).alloc o):=by
 obtain ⟨hb3,h3⟩:=own_mid gr3;have m4:Mod (fun g=>g=wi.heap.size) w3 (w3.setCell ⟨wi.heap.size,5,none⟩ kv):=(Mod.refl _ _).setCell _ _ (fun _=>rfl);have hb4:Below wi.heap.size wi (w3.setCell ⟨wi.heap.size,5,none⟩ kv):=hb3.trans (m4.below hb3.size fun k hk=>by omega);exact hb4.alloc hb4.size o
theorem new_at (w3:World) (p:Addr) (kv:Value) (c:Array Value) (e:TypeId):((w3.setCell p kv).alloc (.cells c e)).heap[w3.heap.size]? =some (.cells c e (0,0)):=by
 have:=alloc_new (w:=w3.setCell p kv) (.cells c e)
 simpa using this
theorem own_node {w0 wi w3 w5:World} {v5 v5' kv:Value} {k:Nat} {ms':List NdM} {m:NdM} {c arr:Array Value} (hro:RowO NdE w0 wi 55 6 v5 k ms') (hok:m.Ok w0) (hl:m.nd.kids.length≤1048576) {kn:Nat} (hkn:kn=m.nd.kids.length)
 (own3:w3.ownsRow 0 3 1 kv kn (m.nd.kids.flatMap intCell)) (gr3:((wi.alloc (.cells c 55)).alloc (.cells #[] 3)).grownBy w3 (some (wi.heap.size+1)))
 (new3:∀g,kv.ownBlock=some g→some (wi.heap.size+1)=some g∨((wi.alloc (.cells c 55)).alloc (.cells #[] 3)).heap.size≤g)
 (own5:w5.ownsRow 0 55 6 v5' (k+1) (ms'.flatMap NdM.cells++NdM.cells ⟨m.nd,kv⟩)) (gr5:((w3.setCell ⟨wi.heap.size,5,none⟩ kv).alloc (.cells arr 55)).grownBy w5 v5.ownBlock)
 (new5:∀g,v5'.ownBlock=some g→v5.ownBlock=some g∨((w3.setCell ⟨wi.heap.size,5,none⟩ kv).alloc (.cells arr 55)).heap.size≤g):
 RowO NdE w0 w5 55 6 v5' (k+1) (ms'++[⟨m.nd,kv⟩]):=by
 subst hkn;obtain ⟨hb3,h3⟩:=own_mid gr3;have m4:Mod (fun g=>g=wi.heap.size) w3 (w3.setCell ⟨wi.heap.size,5,none⟩ kv):=(Mod.refl _ _).setCell _ _ (fun _=>rfl);have hb4:Below wi.heap.size wi (w3.setCell ⟨wi.heap.size,5,none⟩ kv):=hb3.trans (m4.below hb3.size fun k hk=>by omega);have hb5:=hb4.alloc hb4.size (.cells arr 55);have hm5:Mod (fun g=>g=wi.heap.size) w3 ((w3.setCell ⟨wi.heap.size,5,none⟩ kv).alloc (.cells arr 55)):=m4.alloc _
 have hge:∀g,kv.ownBlock=some g→wi.heap.size+1≤g:=fun g hg=>by
  rcases new3 g hg with q|q
  ·injection q with q;omega
  ·simp at q;omega
 refine RowO.app (m:=⟨m.nd,kv⟩) hro hb5 ⟨ownsRow_mod own3 hm5 (fun g hg e=>by have:=hge g hg;omega),fun g hg=>by have:=hge g hg;omega,hok.kind,hok.line,hok.text,hok.key,hl⟩ own5 gr5 new5
theorem results_own {w:World} {V:Value} {tmps:Array Value} (h2:tmps[2]? =some V):
 (results Tryz.f8 tmps).run Tryz.prog w= .ok V w:=by
 rw[Array.getElem?_eq_some_iff]at h2;obtain ⟨l2,e2⟩:=h2;simp[results,Tryz.results8,Array.getD,l2,e2]
theorem own_c (w:World) (V:Value) (ds:List DocV) (h:DocsR w V ds):
 Calls Tryz.prog 8 #[V] w fun r w'=>∃V' n ds',r= .returned V'∧n=ds'.length∧RowO DocE w w' 33 1 V' n ds'∧docsN ds'=docsN ds:=by
 obtain ⟨ao,cap,rfl,hl,hat⟩:=h.sl;obtain ⟨q,hq⟩:∃q,q=ds.length:=⟨_,rfl⟩;rw[←hq]at hl hat ⊢;have hNl:(docsN ds).length=q:=by unfold docsN;rw[List.length_map,hq]
 have Hdoc:=hid (fun j (hj:j<q)=>show ∃d b o,ds[j]? =some d∧ao=some ⟨b,o,none⟩∧b<w.heap.size∧w.cell? ⟨b,o+j,none⟩=some d.v∧Nds w d.v d.ms∧(docsN ds)[j]? =some (nds d.ms) from by
  obtain ⟨d,hd⟩:∃d,ds[j]? =some d:=at_of_lt (by omega);obtain ⟨b,o,e,hb,hc⟩:=hat (by omega);have h1:=hc j d hd 0 d.v rfl;rw[Nat.mul_one,Nat.add_zero]at h1;exact ⟨d,b,o,hd,e,hb,h1,h.each d (List.mem_of_getElem? hd),by unfold docsN;rw[List.getElem?_map,hd];rfl⟩)
 have H0:=hid (show OwS w w (docsN ds) (.slice none 0 0) 0 q from ⟨Nat.zero_le _,[],rfl,RowO.first (Below.refl _ _),rfl⟩);have Hl:=hid (And.intro hl hNl);clear h hat hq hNl hl;go_enter Tryz.func8,Tryz.ntmps8;go_wp2
 go_loopw [3,4] (fun vv vi wr=>∃(v2:Value) (j:Nat),v2=vv∧vi= .int .i64 (j:Int)∧Hid (OwS w wr (docsN ds) v2 j q)) (fun _ vi _=>q-(intOf vi).toNat)
 case atStart=>exact ⟨_,0,rfl,rfl,H0⟩
 case round=>
  clear H0;obtain ⟨v2,j,rfl,rfl,H⟩:=hrel;by_cases hj:j<q
  ·have tj:decide (j<q)=true:=dT hj;have bj:(j:Int)<(q:Int):=by omega
   obtain ⟨d,b,o,hd,rfl,hblt,hc,hn,hN⟩:=Hdoc.out j hj;obtain ⟨_,ds',hl',hro,hds'⟩:=H.out;have hbw:Below w.heap.size w wr:=hro.row.below;have Hn:=hid (hn.later hbw);obtain ⟨da,dc,hdv,hdl,hdat⟩:=(hn.later hbw).open;obtain ⟨n,hne⟩:∃n,n=d.ms.length:=⟨_,rfl⟩;rw[←hne]at hdl hdat hdv;rw[hdv]at hc;have Hx:=hid (fun wi (hb:Below wr.heap.size wr wi)=>show wi.cell? ⟨b,o+j,none⟩=some (.slice da n dc) from ((hbw.trans (hb.mono hbw.size)).cell (p:=⟨b,o+j,none⟩) hblt).trans hc)
   have Hdat:=hid hdat;have Hdl:=hid hdl;have Hn0:=hid (show OwN wr wr (nds d.ms) (.slice none 0 0) 0 n from ⟨Nat.zero_le _,[],rfl,RowO.first (Below.refl _ _),rfl⟩);have Hne:=hid hne;obtain ⟨Hmso,Hgoo⟩:=step_two (k:=j) (n:=q) hj (by have:=Hl.out.1;omega);have Hro:=hid hro;have Hds:=hid (And.intro hl' hds');have HN:=hid hN;clear hd hblt hc hn hN hro hds' hl' hbw hdv hdl hdat hne Hdoc H hj;go_wp2
   go_loopw [5,6] (fun vv vi wi=>∃(v5:Value) (k:Nat),v5=vv∧vi= .int .i64 (k:Int)∧Hid (OwN wr wi (nds d.ms) v5 k n)) (fun _ vi _=>n-(intOf vi).toNat)
   case atStart=>exact ⟨_,0,rfl,rfl,Hn0⟩
   case round=>
    clear Hn0;obtain ⟨v5,k,rfl,rfl,H⟩:=hrel;obtain ⟨_,ms',hl',hro,hms'⟩:=H.out;obtain ⟨a5,c5',rfl⟩:=row_form hro.row.row;have x1:=Hx.out _ hro.row.below;by_cases hk:k<n
    ·have tk:decide (k<n)=true:=dT hk;have bk:(k:Int)<(n:Int):=by omega
     obtain ⟨b2,o2,rfl,hb2,hat2⟩:=Hdat.out (by omega);obtain ⟨m,hm⟩:∃m,d.ms[k]? =some m:=at_of_lt (by have:=Hne.out;omega);obtain ⟨hA,hok⟩:=hat2 k m hm;obtain ⟨ka,kc,hkv,hkl,_⟩:=ints_open hok.kids;obtain ⟨c0,c1,c2,c3,c4,c5⟩:NdAt _ b2 (o2+k*6) m:=⟨(hro.row.below.cell (p:=⟨b2,_,none⟩) hb2).trans hA.c0,(hro.row.below.cell (p:=⟨b2,_,none⟩) hb2).trans hA.c1,(hro.row.below.cell (p:=⟨b2,_,none⟩) hb2).trans hA.c2,(hro.row.below.cell (p:=⟨b2,_,none⟩) hb2).trans hA.c3,(hro.row.below.cell (p:=⟨b2,_,none⟩) hb2).trans hA.c4,(hro.row.below.cell (p:=⟨b2,_,none⟩) hb2).trans hA.c5⟩
     rw[hkv]at c5;obtain ⟨kn,hkn⟩:∃kn,kn=m.nd.kids.length:=⟨_,rfl⟩;rw[←hkn]at c5 hkv;have Hok:=hid (And.intro hok hkl);have hwi:=hro.row.below;have Hown0:=hid (fun o1=>show ((wr.alloc o1).alloc (.cells #[] 3)).ownsRow 0 3 1 (.slice (some ⟨wr.heap.size+1,0,none⟩) 0 0) 0 [] from by
      have:=World.ownsRow_made (base:=0) (e:= 3) (size:=1) (wr.alloc o1) #[] 0 (Nat.zero_le _) (by decide) rfl
      simpa using this)
     have x2:=fun ob1 ob2=>((((Below.refl wr.heap.size wr).alloc (Nat.le_refl _) ob1).alloc (by simp) ob2).cell (p:=⟨b,o+j,none⟩) (World.block_lt_of_cell? _ _ x1)).trans x1;have x3:=fun ob1 ob2=>((((Below.refl wr.heap.size wr).alloc (Nat.le_refl _) ob1).alloc (by simp) ob2).cell (p:=⟨b2,o2+k*6+5,none⟩) (World.block_lt_of_cell? _ _ c5)).trans c5;have Hsl:=hid (fun ob1 ob2=>show SlR ((wr.alloc ob1).alloc ob2) (.slice ka kn kc) 1 m.nd.kids intCell from by
      rw[←hkv];exact hok.kids.later (hwi.trans ((((Below.refl wr.heap.size wr).alloc (Nat.le_refl _) ob1).alloc (by simp) ob2).mono hwi.size)))
     have Hkn:=hid hkn;have Hro2:=hid hro;have Hms:=hid (And.intro hl' hms');have Hm:=hid hm;obtain ⟨Hmsr,Hgo⟩:=step_two (k:=k) (n:=n) hk (by have:=Hdl.out;omega);have Hk2:=hid (show k≤2000000∧k+1≤n from ⟨by have:=Hdl.out;omega,hk⟩);clear H hro hl' hms' hk hm hA hok hkv hkn hkl hat2 hb2 hwi
     go_wp2_with (first
      |(at_builtin;refine intsAppend rfl (.tmp 30) (.tmp 38) rfl _ rfl (Hown0.out _) ka kn kc m.nd.kids rfl (Hsl.out _ _) ?_;intro ka3 kc3 w3 own3 gr3 new3;have h3:=(own_mid gr3).2;have y0:=cell_blk h3 0;have y1:=cell_blk h3 1;have y2:=cell_blk h3 2;have y3:=cell_blk h3 3;have y4:=cell_blk h3 4;have y5:=cell_blk h3 5;have yf:=fun j=>frozen_blk h3 j;simp at y0 y1 y2 y3 y4 y5;have H3:=hid (And.intro own3 (And.intro gr3 new3));have Hown5:=hid (fun ob=>(Hro2.out.later (own_mid2 gr3 (.slice ka3 kn kc3) ob)).row.row);clear own3 gr3 new3 h3)
      |(at_builtin;refine rowAppendB 55 33 (.agg #[.int .i64 0,.string ⟨#[]⟩,.string ⟨#[]⟩,.bool false,.int .i64 0,.slice none 0 0]) 6 80 Tryz.underlying33 node_info rfl (by decide) (by decide) rfl (.tmp 41) (.tmp 43) rfl (.slice a5 k c5') k _ rfl (Hown5.out _) w3.heap.size _ (NdM.cells ⟨m.nd,.slice ka3 kn kc3⟩) rfl (new_at _ _ _ _ _) rfl rfl (nd_one _ rfl) Hk2.out.1 (k+1) rfl ?_;intro ao5 c6 w5 own5 gr5 new5;have HE:=hid (own_node Hro2.out Hok.out.1 Hok.out.2 Hkn.out H3.out.1 H3.out.2.1 H3.out.2.2 own5 gr5 new5);clear own5 gr5 new5))
     have HN2:=hid (show OwN _ w5 (nds d.ms) (.slice ao5 (k+1) c6) (k+1) n from ⟨Hk2.out.2,_,by rw[List.length_append,Hms.out.1];rfl,HE.out,by
      have e3:nds (ms'++[(⟨m.nd,.slice ka3 kn kc3⟩:NdM)])=nds ms'++[m.nd]:=by unfold nds;rw[List.map_append];rfl
      have e4:(nds d.ms)[k]? =some m.nd:=by unfold nds;rw[List.getElem?_map,Hm.out];rfl
      rw[e3,Hms.out.2,List.take_add_one,e4];rfl⟩)
     exact ⟨⟨_,k+1,rfl,Hgo.out,HN2⟩,Hmsr.out⟩
    ·have tk:decide (k<n)=false:=dF hk;obtain rfl:k=n:=by have:=H.out.1;omega
     have hNE:nds ms'=nds d.ms:=by rw[hms',List.take_of_length_le (by rw[nds_len];have:=Hne.out;omega)]
     have Hend:=hid (fun ob v' w2 (a1:World.ownsRow w2 0 33 1 v' (j+1) (ds'.flatMap DocV.cells++[.slice a5 k c5'])) (a2:(wr.alloc ob).grownBy w2 v2.ownBlock) (a3:∀g,v'.ownBlock=some g→v2.ownBlock=some g∨(wr.alloc ob).heap.size≤g)=>show OwS w w2 (docsN ds) v' (j+1) q from by
      have hdp:=hro.doc (by omega) (by have:=Hdl.out;omega);have h6:=RowO.app (w1:=wr.alloc ob) (v':=v') (w2:=w2) (q:=j+1) (m:=(⟨.slice a5 k c5',ms'⟩:DocV)) Hro.out (hro.row.below.trans (((Below.refl _ _).alloc (Nat.le_refl _) ob).mono hro.row.below.size)) (DocE.mod (F:=fun _=>False) (x:=(⟨.slice a5 k c5',ms'⟩:DocV)) hdp (mod_below ((Below.refl _ _).alloc (Nat.le_refl _) ob)) (fun _ _ q=>q)) a1 a2 a3
      refine ⟨by omega,_,?_,h6,?_⟩
      ·rw[List.length_append,Hds.out.1];rfl
      ·have e2:docsN [(⟨.slice a5 k c5',ms'⟩:DocV)]=[nds d.ms]:=by rw[←hNE];rfl
       have e3:docsN (ds'++[(⟨.slice a5 k c5',ms'⟩:DocV)])=docsN ds'++docsN [(⟨.slice a5 k c5',ms'⟩:DocV)]:=by unfold docsN;rw[List.map_append]
       rw[e3,e2,Hds.out.2,List.take_add_one,HN.out];rfl)
     have Hown:=hid (fun ob=>(Hro.out.later (hro.row.below.trans (((Below.refl _ _).alloc (Nat.le_refl _) ob).mono hro.row.below.size))).row.row);have Hj2:=hid (show j≤2000000 by have:=Hl.out.1;omega);have Hul:=hid Tryz.underlying22;clear H hl' hms' hNE hk
     go_wp2_with (at_builtin;refine rowAppendB 33 22 (.slice none 0 0) 1 24 Hul.out slice_info rfl (by decide) (by decide) rfl (.tmp 45) (.tmp 47) rfl v2 j _ rfl (Hown.out _) _ _ [.slice a5 k c5'] rfl (alloc_new _) rfl rfl (fun u hu=>by rw[List.mem_singleton]at hu;rw[hu];rfl) Hj2.out (j+1) rfl ?_;intro ao4 c4 w2 own2 gr2 new2;have HE:=hid (Hend.out _ _ _ own2 gr2 new2);clear own2 gr2 new2)
     exact ⟨⟨_,j+1,rfl,Hgoo.out,HE⟩,Hmso.out⟩
  ·have tj:decide (j<q)=false:=dF hj;obtain ⟨hjq,ds',hl',hro,hds'⟩:=H.out;go_wp2;refine bodyPost_ret (results_own rfl) rfl ⟨_,_,ds',rfl,by omega,hro,?_⟩;rw[hds',List.take_of_length_le (by rw[Hl.out.2];omega)]
theorem nds_two {w:World} {v v':Value} {ms ms':List NdM} (h:Nds w v ms) (h':Nds w v' ms') (he:nds ms=nds ms'):∃ao cap ao' cap',v= .slice ao ms.length cap∧v'= .slice ao' ms.length cap'∧ms.length≤1048576∧
 (0<ms.length→∃b o b' o',ao=some ⟨b,o,none⟩∧ao'=some ⟨b',o',none⟩∧∀i,i<ms.length→∃x kv kv',NdAt w b (o+i*6) ⟨x,kv⟩∧NdAt w b' (o'+i*6) ⟨x,kv'⟩∧SlR w kv 1 x.kids intCell∧SlR w kv' 1 x.kids intCell):=by
 obtain ⟨ao,cap,hv,hl,hat⟩:=h.open;obtain ⟨ao',cap',hv',hl',hat'⟩:=h'.open;have hlen:ms'.length=ms.length:=by rw[←nds_len ms',←he,nds_len]
 rw[hlen]at hv' hat';refine ⟨ao,cap,ao',cap',hv,hv',hl,fun h0=> ?_⟩;obtain ⟨b,o,ha,_,hc⟩:=hat h0;obtain ⟨b',o',ha',_,hc'⟩:=hat' h0;refine ⟨b,o,b',o',ha,ha',fun i hi=> ?_⟩;obtain ⟨m,hm⟩:=at_of_lt hi;obtain ⟨m',hm'⟩:∃m',ms'[i]? =some m':=at_of_lt (by omega);have e:m'.nd=m.nd:=by
  have h1:(nds ms)[i]? =some m.nd:=by unfold nds;rw[List.getElem?_map,hm];rfl
  have h2:(nds ms')[i]? =some m'.nd:=by unfold nds;rw[List.getElem?_map,hm'];rfl
  rw[he,h2]at h1;exact Option.some.inj h1
 obtain ⟨x,kv⟩:=m;obtain ⟨x',kv'⟩:=m';simp only at e;subst e;exact ⟨_,kv,kv',(hc i _ hm).1,(hc' i _ hm').1,(hc i _ hm).2.kids,(hc' i _ hm').2.kids⟩
theorem drewN_two (w:World) (i j:Nat):(w.drewN i).drewN j=w.drewN (i+j):=by simp[World.drewN,Nat.add_assoc]
theorem nsame_c (w:World) (v v':Value) (ms ms':List NdM) (h:Nds w v ms) (h':Nds w v' ms') (he:nds ms=nds ms'):
 Calls Tryz.prog 23 #[v,v'] w fun r w'=>r= .returned (.bool true)∧∃nd,w'=w.drewN nd:=by
 obtain ⟨ao,cap,ao',cap',rfl,rfl,hl,hat⟩:=nds_two h h' he;obtain ⟨n,hn⟩:∃n,n=ms.length:=⟨_,rfl⟩;rw[←hn]at hl hat ⊢;have Hat:=hid hat;have Hl:=hid hl;have hne:((n:Int) != (n:Int))=false:=by simp
 clear h h' he hat hn hl;go_enter Tryz.func23,Tryz.ntmps23;go_wp2
 go_loopw [5,6] (fun vi v6 wr=>∃(j nd:Nat),vi= .int .i64 (j:Int)∧j≤n∧wr=w.drewN nd) (fun vi _ _=>n-(intOf vi).toNat)
 case atStart=>exact ⟨0,0,rfl,Nat.zero_le _,rfl⟩
 case round=>
  obtain ⟨j,nd,rfl,hj,rfl⟩:=hrel;by_cases hjn:j<n
  ·have tj:decide (j<n)=true:=dT hjn;have bj:(j:Int)<(n:Int):=by omega
   obtain ⟨b,o,b',o',rfl,rfl,hx⟩:=Hat.out (by omega);obtain ⟨x,kv,kv',hA,hB,hk,hk'⟩:=hx j hjn;obtain ⟨ka,kc,rfl,hkl,hkat⟩:=ints_open hk;obtain ⟨ka',kc',rfl,_,hkat'⟩:=ints_open hk';obtain ⟨q,hq⟩:∃q,q=x.kids.length:=⟨_,rfl⟩;obtain ⟨c0,c1,c2,c3,c4,c5⟩:=hA;obtain ⟨d0,d1,d2,d3,d4,d5⟩:=hB;simp only at c0 c1 c2 c3 c4 c5 d0 d1 d2 d3 d4 d5;rw[←hq]at hkl hkat hkat' c5 d5;have Hk:=hid (And.intro hkl (And.intro hkat hkat'))
   have Hq:=hid hq;obtain ⟨Hms,Hgo⟩:=step_two (k:=j) (n:=n) hjn (by have:=Hl.out;omega);have Hj:=hid hjn;clear hx hk hk' hkl hkat hkat' hq c3 c4 d3 d4 hj hjn;go_wp2;go_quiet (fail);go_wp2
   go_loopw [6] (fun vi wr=>∃(k nk:Nat),vi= .int .i64 (k:Int)∧k≤q∧wr=w.drewN nk) (fun vi _=>q-(intOf vi).toNat)
   case atStart=>exact ⟨0,nd+nq,rfl,Nat.zero_le _,drewN_two _ _ _⟩
   case round=>
    obtain ⟨k,nk,rfl,hk,rfl⟩:=hrel;by_cases hkq:k<q
    ·have tk:decide (k<q)=true:=dT hkq;have bk:(k:Int)<(q:Int):=by omega
     obtain ⟨b2,o2,rfl,_,hx⟩:=Hk.out.2.1 (by omega);obtain ⟨b3,o3,rfl,_,hy⟩:=Hk.out.2.2 (by omega);obtain ⟨z,hz⟩:∃z,x.kids[k]? =some z:=at_of_lt (by have:=Hq.out;omega);have e2:=hx k z hz;have e3:=hy k z hz;obtain ⟨Hms2,Hgo2⟩:=step_two (k:=k) (n:=q) hkq (by have:=Hk.out.1;omega);have Hkq:=hid hkq;clear hx hy hz hk hkq;go_wp2;go_quiet (fail);go_wp2;go_roundw
     case rel=>exact ⟨k+1,_,Hgo2.out,by have:=Hkq.out;omega,rfl⟩
     case measure=>exact Hms2.out
    ·have tk:decide (k<q)=false:=dF hkq;go_wp2;go_roundw
     case rel=>exact ⟨j+1,nk,Hgo.out,by have:=Hj.out;omega,rfl⟩
     case measure=>exact Hms.out
  ·have tj:decide (j<n)=false:=dF hjn;go_wp2;go_ret;exact ⟨rfl,nd,rfl⟩
theorem lsame_c (w:World) (v v':Value) (ms ms':List NdM) (h:Nds w v ms) (h':Nds w v' ms') (he:nds ms=nds ms'):
 Calls Tryz.prog 11 #[v,v'] w fun r w'=>r= .returned (.bool true)∧∃nd,w'=w.drewN nd:=by
 have Hs:=hid (nsame_c w v v' ms ms' h h' he);obtain ⟨ao,cap,ao',cap',rfl,rfl,hl,hat⟩:=nds_two h h' he;obtain ⟨n,hn⟩:∃n,n=ms.length:=⟨_,rfl⟩;rw[←hn]at hl hat Hs ⊢;have Hat:=hid hat;have Hl:=hid hl;clear h h' he hat hn hl;go_enter Tryz.func11,Tryz.ntmps11
 go_wp2_with fail
 refine Hs.out.mono ?_;rintro r w1 ⟨rfl,n0,rfl⟩;clear Hs;go_wp2
 go_loopw [5] (fun vi wr=>∃(j nd:Nat),vi= .int .i64 (j:Int)∧j≤n∧wr=w.drewN nd) (fun vi _=>n-(intOf vi).toNat)
 case atStart=>exact ⟨0,n0,rfl,Nat.zero_le _,rfl⟩
 case round=>
  obtain ⟨j,nd,rfl,hj,rfl⟩:=hrel;by_cases hjn:j<n
  ·have tj:decide (j<n)=true:=dT hjn;have bj:(j:Int)<(n:Int):=by omega
   obtain ⟨b,o,b',o',rfl,rfl,hx⟩:=Hat.out (by omega);obtain ⟨x,kv,kv',hA,hB,hk,hk'⟩:=hx j hjn;obtain ⟨c0,c1,c2,c3,c4,c5⟩:=hA;obtain ⟨d0,d1,d2,d3,d4,d5⟩:=hB;simp only at c0 c1 c2 c3 c4 c5 d0 d1 d2 d3 d4 d5;obtain ⟨Hms,Hgo⟩:=step_two (k:=j) (n:=n) hjn (by have:=Hl.out;omega);have Hj:=hid hjn;clear hx hk hk' c0 c1 c2 c5 d0 d1 d2 d5 hj hjn;go_wp2;go_quiet (fail);go_wp2;go_roundw
   case rel=>exact ⟨j+1,_,Hgo.out,by have:=Hj.out;omega,rfl⟩
   case measure=>exact Hms.out
  ·have tj:decide (j<n)=false:=dF hjn;go_wp2;go_ret;exact ⟨rfl,nd,rfl⟩
theorem sl_two {α:Type} {w:World} {v v':Value} {sz:Nat} {xs:List α} {cells:α→List Value} (h:SlR w v sz xs cells) (h':SlR w v' sz xs cells):∃n ao cap ao' cap',n=xs.length∧v= .slice ao n cap∧v'= .slice ao' n cap'∧n≤1048576∧
 (∀i,i<n→∃x b o b' o',xs[i]? =some x∧ao=some ⟨b,o,none⟩∧ao'=some ⟨b',o',none⟩∧b<w.heap.size∧b'<w.heap.size∧(∀j u,(cells x)[j]? =some u→w.cell? ⟨b,o+i*sz+j,none⟩=some u)∧(∀j u,(cells x)[j]? =some u→w.cell? ⟨b',o'+i*sz+j,none⟩=some u)):=by
 obtain ⟨ao,cap,hv,hl,hat⟩:=h;obtain ⟨ao',cap',hv',_,hat'⟩:=h';refine ⟨_,ao,cap,ao',cap',rfl,hv,hv',hl,fun i hi=> ?_⟩;obtain ⟨b,o,ha,hb,hc⟩:=hat (by omega);obtain ⟨b',o',ha',hb',hc'⟩:=hat' (by omega);obtain ⟨x,hx⟩:=at_of_lt hi;exact ⟨x,b,o,b',o',hx,ha,ha',hb,hb',hc i x hx,hc' i x hx⟩
theorem blk2 {w w2:World} {a1 a2:Array Value} {T:TypeId} (hb:Below (w.heap.size+2) ((w.alloc (.cells a1 T)).alloc (.cells a2 T)) w2):w2.heap[w.heap.size]? =some (.cells a1 T (0,0))∧w2.heap[w.heap.size+1]? =some (.cells a2 T (0,0)):=by
 have h1:((w.alloc (.cells a1 T)).alloc (.cells a2 T)).heap[w.heap.size]? =some (.cells a1 T (0,0)):=(alloc_old _ (by simp)).trans (alloc_new _);have h2:((w.alloc (.cells a1 T)).alloc (.cells a2 T)).heap[w.heap.size+1]? =some (.cells a2 T (0,0)):=by
  have:=alloc_new (w:=w.alloc (.cells a1 T)) (.cells a2 T)
  simpa using this
 exact ⟨(hb.block _ (by omega)).trans h1,(hb.block _ (by omega)).trans h2⟩
theorem two_below (w:World) (o1 o2:Obj):Below w.heap.size w ((w.alloc o1).alloc o2):=((Below.refl _ _).alloc (Nat.le_refl _) o1).alloc (by simp) o2
theorem key_c' (w:World) (r:Res) (ev tv rv ev' tv' rv':Value) (T:TypeId) (hT:T= 49)
 (he:∃a n c,ev= .slice a n c) (ht:∃a n c,tv= .slice a n c) (hr:∃a n c,rv= .slice a n c) (he':∃a n c,ev'= .slice a n c) (ht':∃a n c,tv'= .slice a n c) (hr':∃a n c,rv'= .slice a n c):
 Calls Tryz.prog 28 #[.agg (resA r ev tv rv),.agg (resA r ev' tv' rv')] w fun e w'=>e= .returned (.bool true)∧Below w.heap.size w w':=by
 obtain ⟨a1,n1,c1,rfl⟩:=he;obtain ⟨a2,n2,c2,rfl⟩:=ht;obtain ⟨a3,n3,c3,rfl⟩:=hr;obtain ⟨a4,n4,c4,rfl⟩:=he';obtain ⟨a5,n5,c5,rfl⟩:=ht';obtain ⟨a6,n6,c6,rfl⟩:=hr';unfold resA;go_enter Tryz.func28,Tryz.ntmps28;go_wp2;go_ret;exact ⟨rfl,two_below _ _ _⟩
theorem sl_form {α:Type} {w:World} {v:Value} {sz:Nat} {xs:List α} {cells:α→List Value} (h:SlR w v sz xs cells):∃a n c,v= .slice a n c:=by
 obtain ⟨a,c,e,_⟩:=h;exact ⟨a,_,c,e⟩
theorem _root_.Go.RowKit.Below.keeps {w w':World} {p:Addr} {v:Value} (h:Below w.heap.size w w') (hp:w.cell? p=some v):w'.cell? p=some v:=(h.cell (World.block_lt_of_cell? _ _ hp)).trans hp
theorem eqIn_rul (t:Rul) (w:World):(Op.equalIn 10000 60 (.agg #[.string t.path,.string t.method,.string t.split,.bool t.allow]) (.agg #[.string t.path,.string t.method,.string t.split,.bool t.allow])).run Tryz.prog w= .ok true w:=by
 rw[run_equalIn_agg w 9999 _ _ _ (by kernel_rfl) (by kernel_rfl)];have e: Tryz.prog.fieldsOf 60 =(match Tryz.prog.underlying 60 with|some (.struct fs)=>fs|_=>#[]):=rfl;rw[Tryz.underlying60]at e;rw[e];simp[Op.eqFields,part,Tryz.isAgg4,Tryz.isAgg9,run_equalIn_bool' w 9998 _ _ _ Tryz.underlying4,run_equalIn_string w 9998 _ _ _ Tryz.underlying9]
theorem neq_rul (t:Rul) (w:World):(binOp .neq 60 (.agg #[.string t.path,.string t.method,.string t.split,.bool t.allow]) (.agg #[.string t.path,.string t.method,.string t.split,.bool t.allow])).run Tryz.prog w= .ok (.bool false) w:=by
 rw[run_neq_struct,eqIn_rul];rfl
theorem below_drewN {B:Nat} {a w:World} (h:Below B a w) (n:Nat):Below B a (w.drewN n):=⟨h.os,h.tape,h.output,h.size,h.block⟩
theorem rsame_c (w:World) (r:Res) (ev tv rv ev' tv' rv':Value) (h:ResL w r ev tv rv) (h':ResL w r ev' tv' rv'):
 Calls Tryz.prog 17 #[.agg (resA r ev tv rv),.agg (resA r ev' tv' rv')] w fun e w'=>e= .returned (.bool true)∧Below w.heap.size w w':=by
 obtain ⟨W,hW⟩:∃W,W=(w.alloc (.cells (resA r ev tv rv) 49)).alloc (.cells (resA r ev' tv' rv') 49):=⟨_,rfl⟩;have hbW:Below w.heap.size w W:=by rw[hW];exact two_below _ _ _
 have hblk:∀w2,Below (w.heap.size+2) W w2→w2.heap[w.heap.size]? =some (.cells (resA r ev tv rv) 49 (0,0))∧w2.heap[w.heap.size+1]? =some (.cells (resA r ev' tv' rv') 49 (0,0)):=fun w2 hb=>by rw[hW]at hb;exact blk2 hb
 have Hkey:=hid (key_c' W r ev tv rv ev' tv' rv' _ rfl (sl_form h.e) (sl_form h.t) (sl_form h.r) (sl_form h'.e) (sl_form h'.t) (sl_form h'.r));obtain ⟨ne,ea,ec,ea',ec',hne,rfl,rfl,hle,he⟩:=sl_two (h.e.later hbW) (h'.e.later hbW);obtain ⟨nt,ta,tc,ta',tc',hnt,rfl,rfl,hlt,ht⟩:=sl_two (h.t.later hbW) (h'.t.later hbW);obtain ⟨nr,ra,rc,ra',rc',hnr,rfl,rfl,hlr,hr⟩:=sl_two (h.r.later hbW) (h'.r.later hbW)
 have hsz:W.heap.size=w.heap.size+2:=by rw[hW];simp
 obtain ⟨b,hb⟩:∃b,b=w.heap.size:=⟨_,rfl⟩;unfold resA at hblk hW Hkey ⊢;have Hblk:=hid hblk;have HbW:=hid hbW;have He:=hid (And.intro hle he);have Ht:=hid (And.intro hlt ht);have Hr:=hid (And.intro hlr hr);have Hsz:=hid hsz;clear h h' hblk hbW hle he hlt ht hlr hr hne hnt hnr hsz;go_enter Tryz.func17,Tryz.ntmps17
 go_wp2_with fail
 rw[←hW,←hb];clear hW;refine Hkey.out.mono ?_;rintro x w1 ⟨rfl,hb1⟩;have Hb1:=hid (hb1.mono (Nat.le_of_eq Hsz.out.symm));obtain ⟨f1,f2⟩:=Hblk.out w1 Hb1.out;rw[←hb]at f1 f2;have y0:=cell_blk f1 0;have y1:=cell_blk f1 1;have y2:=cell_blk f1 2;have y3:=cell_blk f1 3;have y4:=cell_blk f1 4;have y5:=cell_blk f1 5;have y6:=cell_blk f1 6;have y7:=cell_blk f1 7;have z0:=cell_blk f2 0;have z1:=cell_blk f2 1
 have z2:=cell_blk f2 2;have z3:=cell_blk f2 3;have z4:=cell_blk f2 4;have z5:=cell_blk f2 5;have z6:=cell_blk f2 6;have z7:=cell_blk f2 7;simp at y0 y1 y2 y3 y4 y5 y6 y7 z0 z1 z2 z3 z4 z5 z6 z7;have HB:=hid hb;clear f1 f2 hb1 Hkey hb;go_wp2;clear y0 y1 y2 y3 y4 y5 y6 y7 z0 z1 z2 z3 z4 z5 z6 z7
 go_loopw [5] (fun vi wr=>∃j:Nat,vi= .int .i64 (j:Int)∧Hid (j≤ne∧Below (w.heap.size+2) W wr)) (fun vi _=>ne-(intOf vi).toNat)
 case atStart=>exact ⟨0,rfl,hid ⟨Nat.zero_le _,Hb1.out⟩⟩
 case round=>
  clear Hb1;obtain ⟨j,rfl,H⟩:=hrel;obtain ⟨f1,f2⟩:=Hblk.out wr H.out.2;rw[←HB.out]at f1 f2;by_cases hj:j<ne
  ·have tj:decide (j<ne)=true:=dT hj;have bj:(j:Int)<(ne:Int):=by omega
   have y2:=cell_blk f1 2;have z2:=cell_blk f2 2;simp at y2 z2;obtain ⟨s,b1,o1,b2,o2,hs,rfl,rfl,l1,l2,q1,q2⟩:=He.out.2 j hj;have q3:=(H.out.2.cell (p:=⟨b1,_,none⟩) (by rw[←Hsz.out];exact l1)).trans (q1 0 _ rfl);have q4:=(H.out.2.cell (p:=⟨b2,_,none⟩) (by rw[←Hsz.out];exact l2)).trans (q2 0 _ rfl);simp only[Nat.mul_one,Nat.add_zero]at q3 q4;have HH:=hid (fun k=>show j+1≤ne∧Below (w.heap.size+2) W (wr.drewN k) from ⟨hj,below_drewN H.out.2 k⟩)
   obtain ⟨Hms,Hgo⟩:=step_two (k:=j) (n:=ne) hj (by have:=He.out.1;omega);clear f1 f2 q1 q2 hs H hj l1 l2;go_wp2;go_quiet (fail);go_wp2;go_roundw
   case rel=>exact ⟨j+1,Hgo.out,hid (HH.out _)⟩
   case measure=>exact Hms.out
  ·have tj:decide (j<ne)=false:=dF hj;have y2:=cell_blk f1 2;simp at y2;have Hb1:=hid H.out.2;clear f1 f2 H hj;go_wp2;clear y2
   go_loopw [6,7,8] (fun vi v7 v8 wr=>∃j:Nat,vi= .int .i64 (j:Int)∧Hid (j≤nt∧Below (w.heap.size+2) W wr)) (fun vi _ _ _=>nt-(intOf vi).toNat)
   case atStart=>exact ⟨0,rfl,hid ⟨Nat.zero_le _,Hb1.out⟩⟩
   case round=>
    clear Hb1;obtain ⟨j,rfl,H⟩:=hrel;obtain ⟨f1,f2⟩:=Hblk.out wr H.out.2;rw[←HB.out]at f1 f2;by_cases hj:j<nt
    ·have tj:decide (j<nt)=true:=dT hj;have bj:(j:Int)<(nt:Int):=by omega
     have y3:=cell_blk f1 3;have z3:=cell_blk f2 3;simp at y3 z3;obtain ⟨s,b1,o1,b2,o2,hs,rfl,rfl,l1,l2,q1,q2⟩:=Ht.out.2 j hj;have e1:=fun k=>(H.out.2.cell (p:=⟨b1,o1+j*3+k,none⟩) (by rw[←Hsz.out];exact l1));have e2:=fun k=>(H.out.2.cell (p:=⟨b2,o2+j*3+k,none⟩) (by rw[←Hsz.out];exact l2));have c0:=(e1 0).trans (q1 0 _ rfl);have c1:=(e1 1).trans (q1 1 _ rfl);have c2:=(e1 2).trans (q1 2 _ rfl);have d0:=(e2 0).trans (q2 0 _ rfl)
     have d1:=(e2 1).trans (q2 1 _ rfl);have d2:=(e2 2).trans (q2 2 _ rfl);simp only[Nat.add_zero]at c0 d0;obtain ⟨Hms,Hgo⟩:=step_two (k:=j) (n:=nt) hj (by have:=Ht.out.1;omega);have hsf:∀(W:World) (a:Addr) (r:Nat),(store a (.float .f64 r)).run Tryz.prog W=stored Tryz.prog W a (.float .f64 r) .plain:=fun W a r=>run_store _ W a _ _ rfl;have HE:=hid (fun o1' o2'=>show j+1≤nt∧Below (w.heap.size+2) W ((wr.alloc o1').alloc o2').drew from ⟨hj,(H.out.2.trans ((two_below wr o1' o2').mono (Nat.le_trans (Nat.le_of_eq Hsz.out.symm) H.out.2.size))).drew⟩)
     have hf1:(FloatKind.f64.format.order s.weight s.weight != some .eq)= !(FloatKind.f64.format.order s.weight s.weight==some .eq):=rfl;cases hf2:(FloatKind.f64.format.order s.weight s.weight==some .eq)
     all_goals rw[hf2]at hf1
     all_goals simp only[Bool.not_true,Bool.not_false]at hf1
     clear f1 f2 q1 q2 hs l1 l2 e1 e2 H hj
     all_goals
      have HS:=hid (fun w' (hw:Below wr.heap.size wr w')=>show w'.cell? ⟨b,3,none⟩=some (.slice (some ⟨b1,o1,none⟩) nt tc)∧w'.cell? ⟨b+1,3,none⟩=some (.slice (some ⟨b2,o2,none⟩) nt tc')∧w'.cell? ⟨b1,o1+j*3,none⟩=some (.string s.service)∧w'.cell? ⟨b1,o1+j*3+1,none⟩=some (.string s.split)∧w'.cell? ⟨b1,o1+j*3+2,none⟩=some (.float .f64 s.weight)∧w'.cell? ⟨b2,o2+j*3,none⟩=some (.string s.service)∧w'.cell? ⟨b2,o2+j*3+1,none⟩=some (.string s.split)∧w'.cell? ⟨b2,o2+j*3+2,none⟩=some (.float .f64 s.weight) from
       ⟨hw.keeps y3,hw.keeps z3,hw.keeps c0,hw.keeps c1,hw.keeps c2,hw.keeps d0,hw.keeps d1,hw.keeps d2⟩)
      go_wp2
      go_region_held3 (fun w'=>w'.cell? ⟨b,3,none⟩=some (.slice (some ⟨b1,o1,none⟩) nt tc)∧w'.cell? ⟨b+1,3,none⟩=some (.slice (some ⟨b2,o2,none⟩) nt tc')∧w'.cell? ⟨b1,o1+j*3,none⟩=some (.string s.service)∧w'.cell? ⟨b1,o1+j*3+1,none⟩=some (.string s.split)∧w'.cell? ⟨b1,o1+j*3+2,none⟩=some (.float .f64 s.weight)∧w'.cell? ⟨b2,o2+j*3,none⟩=some (.string s.service)∧w'.cell? ⟨b2,o2+j*3+1,none⟩=some (.string s.split)∧w'.cell? ⟨b2,o2+j*3+2,none⟩=some (.float .f64 s.weight)) (first|exact ⟨y3,z3,c0,c1,c2,d0,d1,d2⟩|(refine HS.out _ ?_;repeat' (first|exact Below.refl _ _|exact Nat.le_refl _|refine Below.drew ?_|refine Below.alloc ?_ ?_ _|refine Below.setCell ?_ ?_ _|(simp;done)))) (fail)
     all_goals go_wp2
     all_goals go_roundw
     all_goals first|exact ⟨j+1,Hgo.out,hid (HE.out _ _)⟩|exact Hms.out
    ·have tj:decide (j<nt)=false:=dF hj;have y3:=cell_blk f1 3;simp at y3;have Hb1:=hid H.out.2;clear f1 f2 H hj;go_wp2;clear y3
     go_loopw [9] (fun vi wr=>∃j:Nat,vi= .int .i64 (j:Int)∧Hid (j≤nr∧Below (w.heap.size+2) W wr)) (fun vi _=>nr-(intOf vi).toNat)
     case atStart=>exact ⟨0,rfl,hid ⟨Nat.zero_le _,Hb1.out⟩⟩
     case round=>
      clear Hb1;obtain ⟨j,rfl,H⟩:=hrel;obtain ⟨f1,f2⟩:=Hblk.out wr H.out.2;rw[←HB.out]at f1 f2;by_cases hj:j<nr
      ·have tj:decide (j<nr)=true:=dT hj;have bj:(j:Int)<(nr:Int):=by omega
       have y5:=cell_blk f1 5;have z5:=cell_blk f2 5;simp at y5 z5;obtain ⟨s,b1,o1,b2,o2,hs,rfl,rfl,l1,l2,q1,q2⟩:=Hr.out.2 j hj;have e1:=fun k=>(H.out.2.cell (p:=⟨b1,o1+j*4+k,none⟩) (by rw[←Hsz.out];exact l1));have e2:=fun k=>(H.out.2.cell (p:=⟨b2,o2+j*4+k,none⟩) (by rw[←Hsz.out];exact l2));have c0:=(e1 0).trans (q1 0 _ rfl);have c1:=(e1 1).trans (q1 1 _ rfl);have c2:=(e1 2).trans (q1 2 _ rfl);have c3:=(e1 3).trans (q1 3 _ rfl)
       have d0:=(e2 0).trans (q2 0 _ rfl);have d1:=(e2 1).trans (q2 1 _ rfl);have d2:=(e2 2).trans (q2 2 _ rfl);have d3:=(e2 3).trans (q2 3 _ rfl);simp only[Nat.add_zero]at c0 d0;have k1:=fun w=>neq_rul s w;have HH:=hid (fun k=>show j+1≤nr∧Below (w.heap.size+2) W (wr.drewN k) from ⟨hj,below_drewN H.out.2 k⟩);obtain ⟨Hms,Hgo⟩:=step_two (k:=j) (n:=nr) hj (by have:=Hr.out.1;omega);clear f1 f2 q1 q2 hs H hj l1 l2 e1 e2
       go_wp2;go_quiet (fail);go_wp2;go_roundw
       case rel=>exact ⟨j+1,Hgo.out,hid (HH.out _)⟩
       case measure=>exact Hms.out
      ·have tj:decide (j<nr)=false:=dF hj;have y5:=cell_blk f1 5;simp at y5;have HE:=hid (HbW.out.trans (H.out.2.mono (show w.heap.size≤w.heap.size+2 by omega)));clear f1 f2 H hj;go_wp2;go_ret;exact ⟨rfl,HE.out⟩
theorem rsl_at {w:World} {V:Value} {ms:List RsM} (h:RsL w V ms):∃ao cap,V= .slice ao ms.length cap∧ms.length≤1048576∧(∀i m,ms[i]? =some m→∃b o,ao=some ⟨b,o,none⟩∧b<w.heap.size∧(∀j u,m.cells[j]? =some u→w.cell? ⟨b,o+i*8+j,none⟩=some u)∧ResL w m.r m.ev m.tv m.rv):=by
 obtain ⟨ao,cap,hv,hl,hat⟩:=h.sl;refine ⟨ao,cap,hv,hl,fun i m hm=> ?_⟩;have hi:i<ms.length:=(List.getElem?_eq_some_iff.1 hm).1;obtain ⟨b,o,ha,hb,hc⟩:=hat (by omega);exact ⟨b,o,ha,hb,hc i m hm,h.each m (List.mem_of_getElem? hm)⟩
theorem ResL.later {w w2:World} {r:Res} {ev tv rv:Value} (h:ResL w r ev tv rv) (hb:Below w.heap.size w w2):ResL w2 r ev tv rv:=⟨h.e.later hb,h.t.later hb,h.r.later hb⟩
theorem lists_c (w:World) (V V':Value) (ms ms':List RsM) (h:RsL w V ms) (h':RsL w V' ms') (he:ms.map (·.r)=ms'.map (·.r)):
 Calls Tryz.prog 13 #[V,V'] w fun e w'=>e= .returned (.bool true)∧Below w.heap.size w w':=by
 have hlen:ms'.length=ms.length:=by rw[←List.length_map (·.r),←he,List.length_map]
 obtain ⟨ao,cap,rfl,hl,hat⟩:=rsl_at h;obtain ⟨ao',cap',rfl,hl',hat'⟩:=rsl_at h';rw[hlen];obtain ⟨n,hn⟩:∃n,n=ms.length:=⟨_,rfl⟩;have hx:∀i,i<n→∃(m m':RsM) (b o b' o':Nat),m'.r=m.r∧ao=some ⟨b,o,none⟩∧ao'=some ⟨b',o',none⟩∧b<w.heap.size∧b'<w.heap.size∧(∀j u,m.cells[j]? =some u→w.cell? ⟨b,o+i*8+j,none⟩=some u)∧(∀j u,m'.cells[j]? =some u→w.cell? ⟨b',o'+i*8+j,none⟩=some u)∧ResL w m.r m.ev m.tv m.rv∧ResL w m'.r m'.ev m'.tv m'.rv:=by
  intro i hi;obtain ⟨m,hm⟩:∃m,ms[i]? =some m:=at_of_lt (by omega);obtain ⟨m',hm'⟩:∃m,ms'[i]? =some m:=at_of_lt (by omega);obtain ⟨b,o,ha,hb,hc,hr⟩:=hat i m hm;obtain ⟨b',o',ha',hb',hc',hr'⟩:=hat' i m' hm';have e1:(ms.map (·.r))[i]? =some m.r:=by rw[List.getElem?_map,hm];rfl
  have e2:(ms'.map (·.r))[i]? =some m'.r:=by rw[List.getElem?_map,hm'];rfl
  rw[he,e2]at e1;exact ⟨m,m',b,o,b',o',Option.some.inj e1,ha,ha',hb,hb',hc,hc',hr,hr'⟩
 rw[←hn]at hl ⊢;have Hx:=hid hx;have Hl:=hid hl;have hne:((n:Int) != (n:Int))=false:=by simp
 clear h h' he hlen hl hl' hat hat' hx hn;go_enter Tryz.func13,Tryz.ntmps13;go_wp2
 go_loopw [5] (fun vi wr=>∃j:Nat,vi= .int .i64 (j:Int)∧Hid (j≤n∧Below w.heap.size w wr)) (fun vi _=>n-(intOf vi).toNat)
 case atStart=>exact ⟨0,rfl,hid ⟨Nat.zero_le _,Below.refl _ _⟩⟩
 case round=>
  obtain ⟨j,rfl,H⟩:=hrel;by_cases hj:j<n
  ·have tj:decide (j<n)=true:=dT hj;have bj:(j:Int)<(n:Int):=by omega
   obtain ⟨m,m',b,o,b',o',hmm,rfl,rfl,hb,hb',hc,hc',hr,hr'⟩:=Hx.out j hj;obtain ⟨r,ev,tv,rv⟩:=m;obtain ⟨r',ev',tv',rv'⟩:=m';simp only at hmm hr hr';subst hmm;have HS:=hid (rsame_c wr.drew r' ev tv rv ev' tv' rv' (hr.later (H.out.2.drew)) (hr'.later (H.out.2.drew)));obtain ⟨a1,n1,c1,e1⟩:=sl_form hr.e;obtain ⟨a2,n2,c2,e2⟩:=sl_form hr.t;obtain ⟨a3,n3,c3,e3⟩:=sl_form hr.r;obtain ⟨a4,n4,c4,e4⟩:=sl_form hr'.e
   obtain ⟨a5,n5,c5,e5⟩:=sl_form hr'.t;obtain ⟨a6,n6,c6,e6⟩:=sl_form hr'.r;have f:=fun i=>H.out.2.cell (p:=⟨b,o+j*8+i,none⟩) hb;have f':=fun i=>H.out.2.cell (p:=⟨b',o'+j*8+i,none⟩) hb';have y0:=(f 0).trans (hc 0 _ rfl);have y1:=(f 1).trans (hc 1 _ rfl);have y2:=(f 2).trans (hc 2 _ rfl);have y3:=(f 3).trans (hc 3 _ rfl);have y4:=(f 4).trans (hc 4 _ rfl);have y5:=(f 5).trans (hc 5 _ rfl);have y6:=(f 6).trans (hc 6 _ rfl)
   have y7:=(f 7).trans (hc 7 _ rfl);have z0:=(f' 0).trans (hc' 0 _ rfl);have z1:=(f' 1).trans (hc' 1 _ rfl);have z2:=(f' 2).trans (hc' 2 _ rfl);have z3:=(f' 3).trans (hc' 3 _ rfl);have z4:=(f' 4).trans (hc' 4 _ rfl);have z5:=(f' 5).trans (hc' 5 _ rfl);have z6:=(f' 6).trans (hc' 6 _ rfl);have z7:=(f' 7).trans (hc' 7 _ rfl);rw[e1,e2,e3,e4,e5,e6]at HS;rw[e1]at y2;rw[e2]at y3;rw[e3]at y5;rw[e4]at z2;rw[e5]at z3
   rw[e6]at z5;unfold resA at HS;simp only[Nat.add_zero]at y0 z0;have HH:=hid (fun w4 (h4:Below wr.drew.heap.size wr.drew w4)=>show j+1≤n∧Below w.heap.size w w4 from ⟨hj,H.out.2.drew.trans (h4.mono H.out.2.drew.size)⟩);obtain ⟨Hms,Hgo⟩:=step_two (k:=j) (n:=n) hj (by have:=Hl.out;omega);clear hb hb' hc hc' hr hr' e1 e2 e3 e4 e5 e6 f f' H hj;go_wp2
   go_still_tail 8,(by kernel_rfl)
   repeat still_step
   change wpList _ _ _ _ _ wr.drew
   go_wp2_with fail
   refine HS.out.mono ?_;rintro x w4 ⟨rfl,h4⟩;have HE:=hid (HH.out _ h4);clear h4 HS HH;go_wp2;go_roundw
   case rel=>exact ⟨j+1,Hgo.out,HE⟩
   case measure=>exact Hms.out
  ·have tj:decide (j<n)=false:=dF hj;have HE:=hid H.out.2;clear H hj;go_wp2;go_ret;exact ⟨rfl,HE.out⟩
end Go.Proofs.YtfenoaeoedobmaaGreatDoor
