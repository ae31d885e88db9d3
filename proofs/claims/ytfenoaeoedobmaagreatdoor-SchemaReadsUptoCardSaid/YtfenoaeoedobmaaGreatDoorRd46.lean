/-
Parts of a proof, one behind the other (laid dense by a program of mine: pack.py).
-/
import Derived.Test.YtfenoaeoedobmaaGreatDoorRows
import Derived.Test.YtfenoaeoedobmaaGreatDoorCards
import Derived.Test.YtfenoaeoedobmaaGreatDoorTie
import Derived.OpenShut
import Derived.ShutString
import Derived.Deep.Slices
import Derived.Deep.DeepHandedRow
import Derived.Lib.LaidTab
import Derived.Stop.LaidErr
import Derived.Shelf.Vars
import Derived.Test.YtfenoaeoedobmaaGreatDoorRd45
set_option linter.unusedVariables false
set_option linter.unusedSimpArgs false
set_option maxHeartbeats 4000000
set_option maxRecDepth 100000
namespace Go.Proofs.YtfenoaeoedobmaaGreatDoor
open Go Go.RowKit
def uniX (x:Except (Nat×Stop) (List Res)):List Res×Int×Int×Int:=match x with| .ok L=>(L,0,0,0)| .error e=>([],(e.1:Int),e.2.1,e.2.2)
theorem rsl_nil (w:World):RsL w (.slice none 0 0) []:=⟨⟨none,0,rfl,by decide,fun h=>by cases h⟩,nofun⟩
theorem SDec.uni {w0 w':World} {x:Except (Nat×Stop) (List Res)} {r:Ending} (h:SDec w0 x r w'):∃(V:Value) (ms:List RsM) (d l c:Int),r= .returned (.tuple #[V,.agg #[.int .i64 d,.int .i64 l,.int .i64 c]])∧RsL w' V ms∧Below w0.heap.size w0 w'∧(ms.map (·.r),d,l,c)=uniX x:=by
 unfold SDec at h;cases x with
 |ok L=>
  obtain ⟨⟨V,n,ms,e,hr,hn,hb,hL⟩,hw⟩:=h;exact ⟨V,ms,0,0,0,e,hr.toL hn hb,hw,by rw[hL];rfl⟩
 |error e=>
  obtain ⟨e2,hw⟩:=h;exact ⟨_,[],_,_,_,e2,rsl_nil _,hw,rfl⟩
theorem SDecR.uni {w0 w':World} {x:Except (Nat×Stop) (List Res)} {r:Ending} (h:SDecR w0 x r w'):∃(V:Value) (ms:List RsM) (d l c:Int),r= .returned (.tuple #[V,.int .i64 d,.int .i64 l,.int .i64 c])∧RsL w' V ms∧Below w0.heap.size w0 w'∧(ms.map (·.r),d,l,c)=uniX x:=by
 unfold SDecR at h;cases x with
 |ok L=>
  obtain ⟨⟨V,n,ms,e,hr,hn,hb,hL⟩,hw⟩:=h;exact ⟨V,ms,0,0,0,e,hr.toL hn hb,hw,by rw[hL];rfl⟩
 |error e=>
  obtain ⟨e2,hw⟩:=h;exact ⟨_,[],_,_,_,e2,rsl_nil _,hw,rfl⟩
theorem num_c (w:World) (c:Int):Calls Tryz.prog 12 #[.int .i64 c] w fun e w'=>e= .returned (.int .i64 c)∧w'=w:=by
 go_enter Tryz.func12,Tryz.ntmps12;go_wp2;go_ret;exact ⟨rfl,rfl⟩
theorem docs_two {w:World} {V V':Value} {ds ds':List DocV} (h:DocsR w V ds) (h':DocsR w V' ds') (he:docsN ds=docsN ds'):∃n ao cap ao' cap',V= .slice ao n cap∧V'= .slice ao' n cap'∧n≤1048576∧
 (∀i,i<n→∃(b o b' o':Nat) (d d':DocV),ao=some ⟨b,o,none⟩∧ao'=some ⟨b',o',none⟩∧w.cell? ⟨b,o+i,none⟩=some d.v∧w.cell? ⟨b',o'+i,none⟩=some d'.v∧Nds w d.v d.ms∧Nds w d'.v d'.ms∧nds d.ms=nds d'.ms):=by
 obtain ⟨ao,cap,hv,hl,hat⟩:=h.sl;obtain ⟨ao',cap',hv',hl',hat'⟩:=h'.sl;have hlen:ds'.length=ds.length:=by
  have h1:=congrArg List.length he;unfold docsN at h1;rw[List.length_map,List.length_map]at h1;exact h1.symm
 rw[hlen]at hv';refine ⟨_,ao,cap,ao',cap',hv,hv',hl,fun i hi=> ?_⟩;obtain ⟨d,hd⟩:∃d,ds[i]? =some d:=at_of_lt hi;obtain ⟨d',hd'⟩:∃d,ds'[i]? =some d:=at_of_lt (by omega);obtain ⟨b,o,ha,_,hc⟩:=hat (by omega);obtain ⟨b',o',ha',_,hc'⟩:=hat' (by omega);have h1:=hc i d hd 0 d.v rfl;have h2:=hc' i d' hd' 0 d'.v rfl;rw[Nat.mul_one,Nat.add_zero]at h1 h2;refine ⟨b,o,b',o',d,d',ha,ha',h1,h2,h.each d (List.mem_of_getElem? hd),h'.each d' (List.mem_of_getElem? hd'),?_⟩
 have e1:(docsN ds)[i]? =some (nds d.ms):=by unfold docsN;rw[List.getElem?_map,hd];rfl
 have e2:(docsN ds')[i]? =some (nds d'.ms):=by unfold docsN;rw[List.getElem?_map,hd'];rfl
 rw[he,e2]at e1;exact (Option.some.inj e1).symm
theorem schemaReads_c (w:World) (V:Value) (ds:List DocV) (h:DocsR w V ds) (hg:Glob w):
 Calls Tryz.prog 3 #[V] w fun e w'=>e= .returned (.bool true)∧Below w.heap.size w w':=by
 have Ho:=hid (own_c w V ds h);have Hd:=hid h;have Hg:=hid hg;clear h hg;go_enter Tryz.func3,Tryz.ntmps3
 go_wp2_with fail
 refine Ho.out.mono ?_;rintro e w1 ⟨V1,n1,ds1,rfl,hn1,hro,hN⟩;have hb1:=hro.row.below;have hdl:ds1.length=ds.length:=by
  have h1:=congrArg List.length hN;unfold docsN at h1
  rwa [List.length_map,List.length_map]at h1
 have hdb:ds.length≤1048576:=by
  obtain ⟨_,_,_,hl,_⟩:=Hd.out.sl;exact hl
 have hd1:DocsR w1 V1 ds1:=hro.docs hn1 (by omega);have Hd1:=hid hd1;have HN:=hid hN;have Hb1:=hid hb1;have Hdec:=hid (decode_c w1 V1 ds1 hd1 (Hg.out.later hb1));clear hn1 hro hN hb1 hdl hdb hd1 Ho
 go_wp2_with fail
 refine Hdec.out.mono ?_;intro e w2 hdec;obtain ⟨L,ms,d,l,c,rfl,hL,hb2,hu⟩:=hdec.uni;obtain ⟨w3,hw3⟩:∃w3,w3=w2.alloc (.cells #[.int .i64 d,.int .i64 l,.int .i64 c] 27):=⟨_,rfl⟩;have hb3:Below w2.heap.size w2 w3:=by rw[hw3];exact (Below.refl _ _).alloc (Nat.le_refl _) _
 have hf3:w3.heap[w2.heap.size]? =some (.cells #[.int .i64 d,.int .i64 l,.int .i64 c] 27 (0,0)):=by rw[hw3];exact alloc_new _
 have Hdec2:=hid (rdecode_c w3 V ds (Hd.out.later ((Hb1.out.trans (hb2.mono Hb1.out.size)).trans (hb3.mono (Nat.le_trans Hb1.out.size hb2.size)))) (Hg.out.later ((Hb1.out.trans (hb2.mono Hb1.out.size)).trans (hb3.mono (Nat.le_trans Hb1.out.size hb2.size)))));have Hu:=hid hu;have HL:=hid (hL.later hb3);have Hf3:=hid hf3;have Hb3:=hid (And.intro hb2 hb3);clear Hdec hdec hL hb2 hu hb3 hf3
 go_wp2_with fail
 rw[←hw3];refine Hdec2.out.mono ?_;intro e w4 hdec;obtain ⟨M,ms',d',l',c',rfl,hM,hb4,hu'⟩:=hdec.uni;have hd4:Below w.heap.size w w4:=((Hb1.out.trans (Hb3.out.1.mono Hb1.out.size)).trans (Hb3.out.2.mono (Nat.le_trans Hb1.out.size Hb3.out.1.size))).trans (hb4.mono (Nat.le_trans (Nat.le_trans Hb1.out.size Hb3.out.1.size) Hb3.out.2.size));have hd14:Below w1.heap.size w1 w4:=(Hb3.out.1.trans (Hb3.out.2.mono Hb3.out.1.size)).trans (hb4.mono (Nat.le_trans Hb3.out.1.size Hb3.out.2.size))
 obtain ⟨n,ao,cap,ao',cap',rfl,rfl,hn,hx⟩:=docs_two (Hd1.out.later hd14) (Hd.out.later hd4) HN.out;obtain ⟨hms,rfl,rfl,rfl⟩:ms'.map (·.r)=ms.map (·.r)∧d'=d∧l'=l∧c'=c:=by
  have h1:=hu';rw[←HN.out,←Hu.out]at h1
  simpa using h1
 obtain ⟨fb,hfb⟩:∃fb,fb=w2.heap.size:=⟨_,rfl⟩;have hf4:w4.heap[fb]? =some (.cells #[.int .i64 d',.int .i64 l',.int .i64 c'] 27 (0,0)):=by rw[hfb];exact (hb4.block _ (lt_of_heap Hf3.out)).trans Hf3.out
 rw[←hfb];have Hf4:=hid hf4;have Hd4:=hid hd4;have HL4:=hid (And.intro (HL.out.later hb4) (And.intro hM hms));have Hx:=hid hx;have Hn:=hid hn;clear hdec hM hb4 hu' hd4 hd14 hx hms hf4 hfb Hf3 HL Hu Hdec2 hw3 Hb3 Hb1 Hd1 Hd Hg HN hn;go_wp2
 go_loopw [10] (fun vi wr=>∃j:Nat,vi= .int .i64 (j:Int)∧Hid (j≤n∧Below w4.heap.size w4 wr)) (fun vi _=>n-(intOf vi).toNat)
 case atStart=>exact ⟨0,rfl,hid ⟨Nat.zero_le _,Below.refl _ _⟩⟩
 case round=>
  obtain ⟨j,rfl,H⟩:=hrel;by_cases hj:j<n
  ·have tj:decide (j<n)=true:=dT hj;have bj:(j:Int)<(n:Int):=by omega
   obtain ⟨b,o,b',o',d,d',rfl,rfl,y,z,hn,hn',he⟩:=Hx.out j hj;have y1:=H.out.2.keeps y;have z1:=H.out.2.keeps z;have HS:=hid (lsame_c wr.drew d.v d'.v d.ms d'.ms (hn.later (H.out.2.drew)) (hn'.later (H.out.2.drew)) he);obtain ⟨a1,n1,c1,e1⟩:=sl_form hn.sl;obtain ⟨a2,n2,c2,e2⟩:=sl_form hn'.sl;rw[e1]at y1 HS;rw[e2]at z1 HS;have HH:=hid (fun k=>show j+1≤n∧Below w4.heap.size w4 (wr.drew.drewN k) from ⟨hj,below_drewN H.out.2.drew k⟩)
   obtain ⟨Hms,Hgo⟩:=step_two (k:=j) (n:=n) hj (by have:=Hn.out;omega);clear y z hn hn' he e1 e2 H hj;go_wp2
   go_still_tail 8,(by kernel_rfl)
   repeat still_step
   change wpList _ _ _ _ _ wr.drew
   go_wp2_with fail
   refine HS.out.mono ?_;rintro x w5 ⟨rfl,k,rfl⟩;have HE2:=hid (show j+1≤n∧Below w4.heap.size w4 (wr.drewN (1+k)) from ⟨(HH.out k).1,(drewN_two wr 1 k) ▸ (HH.out k).2⟩);clear HS HH;go_wp2;go_roundw
   case rel=>exact ⟨j+1,Hgo.out,HE2⟩
   case measure=>exact Hms.out
  ·have tj:decide (j<n)=false:=dF hj;have hf:=(H.out.2.block _ (lt_of_heap Hf4.out)).trans Hf4.out;have y0:=cell_blk hf 0;have y1:=cell_blk hf 1;have y2:=cell_blk hf 2;simp at y0 y1 y2;have HE:=hid (And.intro (Hd4.out.trans (H.out.2.mono Hd4.out.size)) (Nat.le_trans Hd4.out.size H.out.2.size));have HS:=hid (lists_c wr L M ms ms' (HL4.out.1.later H.out.2) (HL4.out.2.1.later H.out.2) HL4.out.2.2.symm)
   clear H hj hf
   go_wp2_with fail
   refine (num_c _ _).mono ?_;rintro x w5 ⟨rfl,rfl⟩
   go_wp2_with fail
   refine HS.out.mono ?_;rintro x w6 ⟨rfl,h6⟩;have HF:=hid (HE.out.1.trans (h6.mono HE.out.2));clear h6 HE;go_wp2;go_ret;exact ⟨rfl,HF.out⟩
end Go.Proofs.YtfenoaeoedobmaaGreatDoor
namespace Go.Proofs.YtfenoaeoedobmaaGreatDoor
open Go Go.ChangeShapes Go.WideShapes Go.ChangeAt Go.RowKit Go.Deep
theorem one_le {H:Type} (d:DataW H):1≤Rows.uptoBulk d:=by
 cases d with
 |lit l=>cases l<;>simp[Rows.uptoBulk]
 |nil=>simp[Rows.uptoBulk]
 |ptr d=>simp[Rows.uptoBulk]
 |slice elems spare=>simp[Rows.uptoBulk]
 |agg parts=>simp[Rows.uptoBulk]
 |iface t d=>simp[Rows.uptoBulk]
 |map entries=>simp[Rows.uptoBulk]
 |held h=>simp[Rows.uptoBulk]
theorem part_le {H:Type} {d:DataW H} {l:List (DataW H)} (h:d∈l):Rows.uptoBulk d≤Rows.uptoBulkAll l:=by
 induction l with
 |nil=>cases h
 |cons x r ih=>
  simp only[Rows.uptoBulkAll];cases List.mem_cons.1 h with
  |inl e=>subst e;omega
  |inr e=>have:=ih e;omega
theorem length_le {H:Type} (l:List (DataW H)):l.length≤Rows.uptoBulkAll l:=by
 induction l with
 |nil=>simp[Rows.uptoBulkAll]
 |cons x r ih=>have:=one_le x;simp only[Rows.uptoBulkAll,List.length_cons];omega
theorem cellsI: Tryz.prog.cellsOf 3 =1:=by kernel_rfl
theorem cellsB: Tryz.prog.cellsOf 4 =1:=by kernel_rfl
theorem cellsS: Tryz.prog.cellsOf 9 =1:=by kernel_rfl
theorem cellsSlI: Tryz.prog.cellsOf 53 =1:=by kernel_rfl
theorem cellsNd: Tryz.prog.cellsOf 55 =6:=by kernel_rfl
theorem cellsSlN: Tryz.prog.cellsOf 33 =1:=by kernel_rfl
theorem take_one {cs:List Value} {o:Nat} {v:Value} (h:(cs.drop o).take 1=[v]):cs[o]? =some v:=by
 have h1:((cs.drop o).take 1)[0]? =some v:=by rw[h];rfl
 simpa[List.getElem?_take,List.getElem?_drop] using h1
section
variable {H:Type} {enc:TypeId×Value→H} {W:World} {sp:Nat→Bool} {held:Bool} {n:Nat}
theorem fld {fs:Array Field} {xs:List (DataW H×List MemPlace)} {cs:List Value} {base:Nat} (hf:∀(i:Nat) (f:Field),fs[i]? =some f→DataW.trod enc Tryz.prog W base sp held n f.type ((cs.drop f.offset).take (Tryz.prog.cellsOf f.type))=xs[i]?)
 (hl:xs.length=fs.size) (i:Nat) (f:Field) (hi:fs[i]? =some f):∃y,y∈xs∧DataW.trod enc Tryz.prog W base sp held n f.type ((cs.drop f.offset).take (Tryz.prog.cellsOf f.type))=some y:=by
 have hlt:i<xs.length:=by rw[hl];exact (Array.getElem?_eq_some_iff.1 hi).1
 exact ⟨xs[i],List.getElem_mem hlt,(hf i f hi).trans (List.getElem?_eq_getElem hlt)⟩
theorem leafI {base:Nat} {cs:List Value} {o:Nat} {y:DataW H×List MemPlace} (h:DataW.trod enc Tryz.prog W base sp held n 3 ((cs.drop o).take (Tryz.prog.cellsOf 3))=some y):∃z:Int,cs[o]? =some (.int .i64 z)∧I64 z:=by
 rw[cellsI]at h;obtain ⟨z,e,_,hw⟩:=DataW.trod_int Tryz.underlying3 h;exact ⟨z,take_one e,by simpa[Lit.wf,IntKind.min,IntKind.max,IntKind.signed,IntKind.bits] using hw⟩
theorem leafB {base:Nat} {cs:List Value} {o:Nat} {y:DataW H×List MemPlace} (h:DataW.trod enc Tryz.prog W base sp held n 4 ((cs.drop o).take (Tryz.prog.cellsOf 4))=some y):∃z:Bool,cs[o]? =some (.bool z):=by
 rw[cellsB]at h;obtain ⟨z,e,_⟩:=DataW.trod_bool Tryz.underlying4 h;exact ⟨z,take_one e⟩
theorem leafS {base:Nat} {cs:List Value} {o:Nat} {y:DataW H×List MemPlace} (h:DataW.trod enc Tryz.prog W base sp held n 9 ((cs.drop o).take (Tryz.prog.cellsOf 9))=some y):∃s:ByteArray,cs[o]? =some (.string s)∧s.size≤Rows.uptoBulk y.1:=by
 rw[cellsS]at h;obtain ⟨s,e,rfl,_⟩:=DataW.trod_string Tryz.underlying9 h;refine ⟨s,take_one e,?_⟩;simp only[Rows.uptoBulk];rw[Array.length_toList,ByteArray.size_data];omega
theorem agg_part {xs:List (DataW H×List MemPlace)} {y:DataW H×List MemPlace} (h:y∈xs):Rows.uptoBulk y.1≤Rows.uptoBulk (.agg (xs.map (·.1))):=by
 have:=part_le (List.mem_map.2 ⟨y,h,rfl⟩:y.1∈xs.map (·.1));simp only[Rows.uptoBulk];omega
end
section
variable {H:Type} {enc:TypeId×Value→H} {W:World} {sp:Nat→Bool} {held:Bool} {base:Nat}
theorem slr_in {α:Type} {T E:TypeId} {sz n:Nat} {cs:List Value} {x:DataW H×List MemPlace} (cells:α→List Value) (good:α→Nat→Prop) (hT: Tryz.prog.underlying T=some (.slice E)) (hE: Tryz.prog.cellsOf E=sz) (hsz:0<sz) (hlen:∀a,(cells a).length=sz)
 (elem:∀m cs y,DataW.trod enc Tryz.prog W base sp held m E cs=some y→∃a:α,(∀(j:Nat) (u:Value),(cells a)[j]? =some u→cs[j]? =some u)∧good a (Rows.uptoBulk y.1))
 (h:DataW.trod enc Tryz.prog W base sp held n T cs=some x):
 ∃(ao:Option Addr) (cap:Nat) (xs:List α),cs=[.slice ao xs.length cap]∧xs.length≤Rows.uptoBulk x.1∧(0<xs.length→∃b o,ao=some ⟨b,o,none⟩∧b<W.heap.size∧∀i a,xs[i]? =some a→∀j u,(cells a)[j]? =some u→W.cell? ⟨b,o+i*sz+j,none⟩=some u)∧∀a∈xs,∃B,B≤Rows.uptoBulk x.1∧good a B:=by
 rcases open_slice hT h with ⟨hcs,_⟩|⟨a,len,cap,m,nn,D,Pl,hcs,hb,hl,hm,hmm,hx,hi⟩
 ·exact ⟨none,0,[],hcs,Nat.zero_le _,(fun h=>absurd h (Nat.lt_irrefl 0)),(fun a h=>by cases h)⟩
 ·have hlm:len≤m:=by rw[hmm];split<;>omega
  have hd:x.1= .slice ((List.range len).map D) ((List.range (m-len)).map fun j=>D (len+j)):=congrArg Prod.fst hx;have hDi:∀i,i<len→Rows.uptoBulk (D i)≤Rows.uptoBulk x.1:=fun i hlt=>by
   rw[hd];simp only[Rows.uptoBulk];have:=part_le (List.mem_map.2 ⟨i,List.mem_range.2 hlt,rfl⟩:D i∈(List.range len).map D);omega
  have hle:len≤Rows.uptoBulk x.1:=by
   rw[hd];simp only[Rows.uptoBulk];have:=length_le ((List.range len).map D);simp at this;omega
  have key:∀i:Fin len,∃o:α,(∀(j:Nat) (u:Value),(cells o)[j]? =some u→W.cell? (a.add (i*sz+j))=some u)∧good o (Rows.uptoBulk (D i)):=by
   intro ⟨i,hlt⟩;obtain ⟨cs',hc,ht⟩:=hi i (by omega);obtain ⟨o,ho,hw⟩:=elem _ _ _ ht;rw[hE]at hc;obtain ⟨_,hcl,hat⟩:=World.cells?_some hc;refine ⟨o,fun j u hj=> ?_,hw⟩;have hlt2:j<sz:=by rw[←hlen o];exact (List.getElem?_eq_some_iff.1 hj).1
   rw[←Go.Deep.add_add,hat j hlt2];exact ho j u hj
  obtain ⟨C,hC⟩:=Classical.axiomOfChoice key;have hget:∀(i:Nat) (z:α),(List.ofFn C)[i]? =some z→∃h:i<len,C ⟨i,h⟩=z:=fun i z hz=>by
   rw[List.getElem?_ofFn]at hz
   split at hz
   ·exact ⟨by assumption,Option.some.inj hz⟩
   ·cases hz
  refine ⟨some a,cap,List.ofFn C,by rw[hcs,List.length_ofFn],by rw[List.length_ofFn];exact hle,fun h0=> ?_,fun z hz=> ?_⟩
  ·rw[List.length_ofFn]at h0;obtain ⟨u0,hu0⟩:∃u0,(cells (C ⟨0,h0⟩))[0]? =some u0:=⟨_,List.getElem?_eq_getElem (by rw[hlen];exact hsz)⟩;have hc0:=(hC ⟨0,h0⟩).1 0 u0 hu0;obtain ⟨g,o,spn⟩:=a;have hsp:spn=none:=by
    cases spn with
    |none=>rfl
    |some k=>simp[Addr.add,World.cell?]at hc0;split at hc0<;>cases hc0
   subst hsp;refine ⟨g,o,rfl,by simpa[Addr.add] using World.block_lt_of_cell? W _ hc0,fun i z hz j u hj=> ?_⟩;obtain ⟨hlt,hz2⟩:=hget i z hz;rw[←hz2]at hj;have q:=(hC ⟨i,hlt⟩).1 j u hj;rw[Addr.add_lit]at q;rw[Nat.add_assoc];exact q
  ·obtain ⟨i,hi2,hzi⟩:=List.getElem_of_mem hz;obtain ⟨hlt,hz2⟩:=hget i z (by rw[List.getElem?_eq_getElem hi2,hzi]);exact ⟨_,hDi i hlt,by rw[←hz2];exact (hC ⟨i,hlt⟩).2⟩
theorem slrS {α:Type} {sz:Nat} {cells:α→List Value} {ao:Option Addr} {cap:Nat} {xs:List α} (h1:xs.length≤1048576) (h:0<xs.length→∃b o,ao=some ⟨b,o,none⟩∧b<W.heap.size∧∀i a,xs[i]? =some a→∀j u,(cells a)[j]? =some u→W.cell? ⟨b,o+i*sz+j,none⟩=some u):SlR W (.slice ao xs.length cap) sz xs cells:=
 ⟨ao,cap,rfl,h1,h⟩
theorem cells6 {cs:List Value} {a b c d e f:Value} (h0:cs[0]? =some a) (h1:cs[1]? =some b) (h2:cs[2]? =some c) (h3:cs[3]? =some d) (h4:cs[4]? =some e) (h5:cs[5]? =some f):∀(j:Nat) (u:Value),[a,b,c,d,e,f][j]? =some u→cs[j]? =some u:=by
 intro j u hj
 match j with
 |0=>obtain rfl:=Option.some.inj hj;exact h0
 |1=>obtain rfl:=Option.some.inj hj;exact h1
 |2=>obtain rfl:=Option.some.inj hj;exact h2
 |3=>obtain rfl:=Option.some.inj hj;exact h3
 |4=>obtain rfl:=Option.some.inj hj;exact h4
 |5=>obtain rfl:=Option.some.inj hj;exact h5
 |k+6=>simp at hj
theorem int_in (n:Nat) (cs:List Value) (y:DataW H×List MemPlace) (h:DataW.trod enc Tryz.prog W base sp held n 3 cs=some y):∃z:Int,(∀(j:Nat) (u:Value),(intCell z)[j]? =some u→cs[j]? =some u)∧True:=by
 obtain ⟨z,e,_,hw⟩:=DataW.trod_int Tryz.underlying3 h;exact ⟨z,fun j u hj=>by rw[e];exact hj,trivial⟩
theorem node_in (n:Nat) (cs:List Value) (y:DataW H×List MemPlace) (h:DataW.trod enc Tryz.prog W base sp held n 55 cs=some y):∃m:NdM,(∀(j:Nat) (u:Value),m.cells[j]? =some u→cs[j]? =some u)∧(Rows.uptoBulk y.1≤1048576→m.Ok W):=by
 obtain ⟨xs,n1,_,rfl,_,hl,hf⟩:=DataW.trod_struct Tryz.underlying55 h;obtain ⟨y0,m0,t0⟩:=fld hf hl 0 _ rfl;obtain ⟨y1,m1,t1⟩:=fld hf hl 1 _ rfl;obtain ⟨y2,m2,t2⟩:=fld hf hl 2 _ rfl;obtain ⟨y3,m3,t3⟩:=fld hf hl 3 _ rfl;obtain ⟨y4,m4,t4⟩:=fld hf hl 4 _ rfl;obtain ⟨y5,m5,t5⟩:=fld hf hl 5 _ rfl;obtain ⟨kind,c0,w0⟩:=leafI t0;obtain ⟨key,c1,w1⟩:=leafS t1;obtain ⟨text,c2,w2⟩:=leafS t2;obtain ⟨quoted,c3⟩:=leafB t3
 obtain ⟨line,c4,w4⟩:=leafI t4;change DataW.trod enc Tryz.prog W base sp held _ 53 ((cs.drop 5).take (Tryz.prog.cellsOf 53))=some y5 at t5;rw[cellsSlI]at t5;obtain ⟨ao,cap,ks,e5,hb,hm,_⟩:=slr_in intCell (fun _ _=>True) Tryz.underlying53 cellsI (by decide) (fun _=>rfl) int_in t5;have b1:=agg_part m1;have b2:=agg_part m2;have b5:=agg_part m5;refine ⟨⟨⟨kind,key,text,quoted,line,ks⟩,.slice ao ks.length cap⟩,cells6 c0 c1 c2 c3 c4 (take_one e5),fun hB=> ?_⟩
 change Rows.uptoBulk (DataW.agg (xs.map (·.1)))≤1048576 at hB;exact ⟨w0,w4,show key.size≤1048576 by omega,show text.size≤1048576 by omega,slrS (by omega) hm⟩
theorem doc_in (n:Nat) (cs:List Value) (y:DataW H×List MemPlace) (h:DataW.trod enc Tryz.prog W base sp held n 33 cs=some y):∃d:DocV,(∀(j:Nat) (u:Value),d.cells[j]? =some u→cs[j]? =some u)∧(Rows.uptoBulk y.1≤1048576→Nds W d.v d.ms):=by
 obtain ⟨ao,cap,ms,e,hb,hm,hms⟩:=slr_in NdM.cells (fun m B=>B≤1048576→m.Ok W) Tryz.underlying33 cellsNd (by decide) (fun _=>rfl) node_in h;refine ⟨⟨.slice ao ms.length cap,ms⟩,fun j u hj=>by rw[e];exact hj,fun hB=>⟨slrS (by omega) hm,fun m hmm=> ?_⟩⟩;obtain ⟨B,hB2,hg⟩:=hms m hmm;exact hg (by omega)
end
theorem docs_opened {W:World} {H:Type} {enc:TypeId×Value→H} {b0:Nat} {v:Value} {d:DataW H} {p:List MemPlace} (hv:Value.okWide Tryz.prog W .any b0 22 v) (h:DataW.Trod enc Tryz.prog W 0 (fun _=>true) true 22 v d p) (hB:Rows.uptoBulk d≤1048576):
 ∃ds:List DocV,DocsR W v ds:=by
 obtain ⟨a0,len0,cap0,rfl⟩:=okWide_slice Tryz.underlying22 hv;obtain ⟨fuel,hf⟩:=h;obtain ⟨ao,cap,ds,e1,hb1,hm1,hh⟩:=slr_in DocV.cells (fun d B=>B≤1048576→Nds W d.v d.ms) Tryz.underlying22 cellsSlN (by decide) (fun _=>rfl) doc_in hf;have e1':[Value.slice a0 len0 cap0]=[Value.slice ao ds.length cap]:=e1;have hb1':ds.length≤Rows.uptoBulk d:=hb1;rw[(List.cons.inj e1').1];refine ⟨ds,slrS (by omega) hm1,fun x hx=> ?_⟩
 obtain ⟨B,hB2,hg⟩:=hh x hx;have hB3:B≤Rows.uptoBulk d:=hB2;exact hg (by omega)
end Go.Proofs.YtfenoaeoedobmaaGreatDoor
namespace Go.Proofs.YtfenoaeoedobmaaGreatDoor
open Go.ChangeShapes Go.WideShapes Go.ChangeAt Go.RowKit
theorem own:ownKnob Tryz.prog.godebug=none:=by kernel_rfl
theorem laidOut:laidOutB Tryz.prog=true:=by kernel_rfl
theorem gER: Tryz.prog.globalNamed "strconv.ErrRange"=some 4 :=by kernel_rfl
theorem gERType:(Tryz.prog.globals[4]?).map (·.type)=some 164 :=by kernel_rfl
theorem cellsES: Tryz.prog.cellsOf 279 =1:=by kernel_rfl
theorem cellsStr: Tryz.prog.cellsOf 9 =1:=by kernel_rfl
theorem star:"*"++"errors.errorString"="*errors.errorString":=by decide
theorem rowES (u:TypeId) (h: Tryz.prog.typeName? 3 u=some "*errors.errorString"):u= 277 :=
 typeName_ptr_named (nm:="errors.errorString") (by rw[star];kernel_rfl) (by kernel_rfl) (by decide) u (by rw[star];exact h)
def laid5:List (String×DataW Unit):=[("math/bits.deBruijn32tab",Rows.laid_math_bits_deBruijn32tab),("math/bits.deBruijn64tab",Rows.laid_math_bits_deBruijn64tab),("internal/strconv.uint64pow10",Rows.laid_internal_strconv_uint64pow10),("strconv.ErrRange",Rows.laid_strconv_ErrRange),("strconv.ErrSyntax",Rows.laid_strconv_ErrSyntax)]
theorem glob_of_laid {W:World} (h:laidMetH Tryz.prog laid5 W) (hs:W.ShapedOpen Tryz.prog):Glob W:=by
 have hL:laidMet Tryz.prog laid5 W:=h;obtain ⟨a1,s1,hv1,-,-,-⟩:=laid_sentinel hL.tail.tail.tail gER gERType Tryz.underlying164 rowES Tryz.underlying277 Tryz.underlying279 rfl rfl Tryz.underlying9 cellsES cellsStr;refine ⟨?_,⟨_,by have h0:=World.var?_cell gER hv1 0;simpa using h0,Or.inr ⟨_,_,rfl⟩⟩⟩;exact cell_of_shapedOpen_int (g:= 1) (t:= 3) (zero:=#[.int .i64 0]) (k:= .i64) hs (of_decide_eq_true (by kernel_rfl)) (by kernel_rfl) (by kernel_rfl) (by kernel_rfl) (by kernel_rfl) Tryz.underlying3
abbrev synS:ByteArray:={data:=#[105,110,118,97,108,105,100,32,115,121,110,116,97,120]}
abbrev rngS:ByteArray:={data:=#[118,97,108,117,101,32,111,117,116,32,111,102,32,114,97,110,103,101]}
noncomputable def low:Nat:=(World.holding Tryz.prog default ⟨#[],#[],[]⟩).heap.size
def put1 (cs:Array Value):Obj→Obj
 | .cells _ t frozen=> .cells cs t frozen
 |o=>o
def litV:Lit→Value
 | .int k n=> .int k n
 | .bool b=> .bool b
 |_=>undef
def flatD:Nat→DataW Unit→List Value
 |0,_=>[]
 |_+1,.lit l=>[litV l]
 |n+1,.agg l=>l.flatMap (flatD n)
 |_+1,_=>[]
noncomputable def laidWorld (os:Os):World:=
 let w0:=World.holding Tryz.prog os ⟨#[.cells #[.string synS] 279,.cells #[.string rngS] 279],#[],[]⟩
 {w0 with heap:=(((((w0.heap.modify 3 (put1 #[.iface 277 (.pointer (some ⟨low,0,none⟩))])).modify 4 (put1 #[.iface 277 (.pointer (some ⟨low+1,0,none⟩))])).modify 2 (put1 (flatD 4 Rows.laid_internal_strconv_uint64pow10).toArray)).modify 5 (put1 (flatD 4 Rows.laid_math_bits_deBruijn32tab).toArray)).modify 6 (put1 (flatD 4 Rows.laid_math_bits_deBruijn64tab).toArray))}
theorem laid_met (os:Os) (args:Array Value):laidMet Tryz.prog laid5 ((laidWorld os).forCall (fun _ _=>0) ⟨#[],args,[]⟩).memory:=
 laidMet_of_run' 8 (by kernel_rfl) (by kernel_rfl)
end Go.Proofs.YtfenoaeoedobmaaGreatDoor
