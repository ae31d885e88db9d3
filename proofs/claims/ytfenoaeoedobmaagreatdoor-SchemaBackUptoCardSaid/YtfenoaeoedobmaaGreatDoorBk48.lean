/-
Parts of a proof.
-/
import Derived.Test.YtfenoaeoedobmaaGreatDoorCards
import Derived.Test.YtfenoaeoedobmaaGreatDoorTie
import Derived.Deep.DeepHandedRow
import Derived.Lib.LaidTab
import Derived.Stop.LaidErr
import Derived.Shelf.Vars
import Derived.Test.YtfenoaeoedobmaaGreatDoorBk47
set_option maxRecDepth 100000
set_option linter.unusedVariables false
set_option linter.unusedSimpArgs false
namespace Go.Proofs.YtfenoaeoedobmaaGreatDoor
open Go Go.ChangeShapes Go.WideShapes Go.ChangeAt Go.RowKit Go.Deep
theorem aYt {H:Type} (c:Nat):∀l:List (DataW H),(∀y∈l,c<=Rows.uptoBulk y)->c*l.length<=Rows.uptoBulkAll l
 |[],_=>by simp[Rows.uptoBulkAll]
 |y::r,h=>by
  have h1:=h y (List.mem_cons_self ..);have h2:=aYt c r (fun z hz=>h z (List.mem_cons_of_mem _ hz));simp only[Rows.uptoBulkAll,a7f,Nat.mul_succ];omega
theorem cellsF: Tryz.prog.cellsOf 56 =1:=by kernel_rfl
theorem a64: Tryz.prog.cellsOf 58 =3:=by kernel_rfl
theorem a65: Tryz.prog.cellsOf 60 =4:=by kernel_rfl
theorem a2y: Tryz.prog.cellsOf 45 =1:=by kernel_rfl
theorem a2z: Tryz.prog.cellsOf 46 =1:=by kernel_rfl
theorem a23: Tryz.prog.cellsOf 47 =1:=by kernel_rfl
theorem a66: Tryz.prog.cellsOf 49 =8:=by kernel_rfl
theorem a25 {H:Type} {enc:TypeId×Value->H} {P:Program} {w:World} {base:Nat} {spare:Nat->Bool} {held:Bool} {k:FloatKind} {fuel:Nat} {t:TypeId} {cs:List Value} {x:DataW H×List MemPlace} (ht:P.underlying t=some (.float k)) (h:DataW.trod enc P w base spare held fuel t cs=some x):∃n,cs=[.float k n]/\x=(.lit (.float k n),[])/\(Lit.float k n).wf=true:=by
 cases fuel with
 |zero=>simp[DataW.trod]at h
 |succ n=>
  unfold DataW.trod at h;rw[ht]at h
  split at h<;>simp_all
section
variable {H:Type} {enc:TypeId×Value->H} {W:World} {sp:Nat->Bool} {held:Bool} {base:Nat}
theorem aQs {α:Type} {T E:TypeId} {sz n:Nat} {cs:List Value} {x:DataW H×List MemPlace} (cells:α->List Value) (good:α->Nat->Prop) (c:Nat) (hgc:∀a B,good a B->c<=B) (hT: Tryz.prog.underlying T=some (.slice E)) (hE: Tryz.prog.cellsOf E=sz) (hsz:0<sz) (hlen:∀a,(cells a).length=sz)
 (elem:∀m cs y,DataW.trod enc Tryz.prog W base sp held m E cs=some y->∃a:α,(∀(j:Nat) (u:Value),(cells a)[j]? =some u->cs[j]? =some u)/\good a (Rows.uptoBulk y.1))
 (h:DataW.trod enc Tryz.prog W base sp held n T cs=some x):
 ∃(ao:Option Addr) (cap:Nat) (xs:List α),cs=[.slice ao xs.length cap]/\c*xs.length+1<=Rows.uptoBulk x.1/\(0<xs.length->∃b o,ao=some ⟨b,o,none⟩/\b<W.heap.size/\∀i a,xs[i]? =some a->∀j u,(cells a)[j]? =some u->W.cell? ⟨b,o+i*sz+j,none⟩=some u)/\∀a∈xs,∃B,B<=Rows.uptoBulk x.1/\good a B:=by
 rcases open_slice hT h with ⟨hcs,hx0⟩|⟨a,len,cap,m,nn,D,Pl,hcs,hb,hl,hm,hmm,hx,hi⟩
 ·exact ⟨none,0,[],hcs,(by rw[hx0];simp[Rows.uptoBulk]),(fun h=>absurd h (Nat.lt_irrefl 0)),(fun a h=>by cases h)⟩
 ·have hlm:len<=m:=by rw[hmm];split<;>omega
  have hd:x.1= .slice ((List.range len).map D) ((List.range (m-len)).map fun j=>D (len+j)):=congrArg Prod.fst hx;have hDi:∀i,i<len->Rows.uptoBulk (D i)<=Rows.uptoBulk x.1:=fun i hlt=>by
   rw[hd];simp only[Rows.uptoBulk];have:=aQr (List.mem_map.2 ⟨i,List.mem_range.2 hlt,rfl⟩:D i∈(List.range len).map D);omega
  have key:∀i:Fin len,∃o:α,(∀(j:Nat) (u:Value),(cells o)[j]? =some u->W.cell? (a.add (i*sz+j))=some u)/\good o (Rows.uptoBulk (D i)):=by
   intro ⟨i,hlt⟩;obtain ⟨cs',hc,ht⟩:=hi i (by omega);obtain ⟨o,ho,hw⟩:=elem _ _ _ ht;rw[hE]at hc;obtain ⟨_,hcl,hat⟩:=World.cells?_some hc;refine ⟨o,fun j u hj=> ?_,hw⟩;have hlt2:j<sz:=by rw[<-hlen o];exact (a7j hj).1
   rw[<-Go.Deep.add_add,hat j hlt2];exact ho j u hj
  obtain ⟨C,hC⟩:=Classical.axiomOfChoice key;have hle:c*len+1<=Rows.uptoBulk x.1:=by
   rw[hd];simp only[Rows.uptoBulk];have:=aYt c ((List.range len).map D) (fun y hy=>by
    obtain ⟨i,hi2,e⟩:=List.mem_map.1 hy;have hlt:=List.mem_range.1 hi2;have:=hgc _ _ (hC ⟨i,hlt⟩).2;rw[<-e];exact this)
   rw[List.length_map,List.length_range]at this;omega
  have hget:∀(i:Nat) (z:α),(List.ofFn C)[i]? =some z->∃h:i<len,C ⟨i,h⟩=z:=fun i z hz=>by
   rw[List.getElem?_ofFn]at hz
   split at hz
   ·exact ⟨by assumption,a7h hz⟩
   ·cases hz
  refine ⟨some a,cap,List.ofFn C,by rw[hcs,List.length_ofFn],by rw[List.length_ofFn];exact hle,fun h0=> ?_,fun z hz=> ?_⟩
  ·rw[List.length_ofFn]at h0;obtain ⟨u0,hu0⟩:∃u0,(cells (C ⟨0,h0⟩))[0]? =some u0:=⟨_,a7i (by rw[hlen];exact hsz)⟩;have hc0:=(hC ⟨0,h0⟩).1 0 u0 hu0;obtain ⟨g,o,spn⟩:=a;have hsp:spn=none:=by
    cases spn with
    |none=>rfl
    |some k=>simp[Addr.add,World.cell?]at hc0;split at hc0<;>cases hc0
   subst hsp;refine ⟨g,o,rfl,by simpa[Addr.add] using World.block_lt_of_cell? W _ hc0,fun i z hz j u hj=> ?_⟩;obtain ⟨hlt,hz2⟩:=hget i z hz;rw[<-hz2]at hj;have q:=(hC ⟨i,hlt⟩).1 j u hj;rw[Addr.add_lit]at q;rw[Nat.add_assoc];exact q
  ·obtain ⟨i,hi2,hzi⟩:=List.getElem_of_mem hz;obtain ⟨hlt,hz2⟩:=hget i z (by rw[a7i hi2,hzi]);exact ⟨_,hDi i hlt,by rw[<-hz2];exact (hC ⟨i,hlt⟩).2⟩
theorem a67 {n:Nat} {cs:List Value} {o:Nat} {y:DataW H×List MemPlace} (h:DataW.trod enc Tryz.prog W base sp held n 56 ((cs.drop o).take (Tryz.prog.cellsOf 56))=some y):∃z:Nat,cs[o]? =some (.float .f64 z)/\z<18446744073709551616:=by
 rw[cellsF]at h;obtain ⟨z,e,_,hw⟩:=a25 Tryz.underlying56 h;exact ⟨z,aFa e,by simpa[Lit.wf] using hw⟩
theorem a68 (n:Nat) (cs:List Value) (y:DataW H×List MemPlace) (h:DataW.trod enc Tryz.prog W base sp held n 9 cs=some y):∃s:ByteArray,(∀(j:Nat) (u:Value),(aAp s)[j]? =some u->cs[j]? =some u)/\s.size+1<=Rows.uptoBulk y.1:=by
 obtain ⟨s,rfl,rfl,_⟩:=DataW.trod_string Tryz.underlying9 h;refine ⟨s,fun j u hj=>hj,?_⟩;simp only[Rows.uptoBulk];rw[Array.length_toList,ByteArray.size_data];omega
theorem aYu {l:List (DataW H×List MemPlace)}:Rows.uptoBulk (.agg (l.map (·.1)))=Rows.uptoBulkAll (l.map (·.1))+1:=by simp only[Rows.uptoBulk]
theorem tgt_in (n:Nat) (cs:List Value) (y:DataW H×List MemPlace) (h:DataW.trod enc Tryz.prog W base sp held n 58 cs=some y):∃t:Tgt,(∀(j:Nat) (u:Value),(aA6 t)[j]? =some u->cs[j]? =some u)/\(4<=Rows.uptoBulk y.1/\t.service.size<=Rows.uptoBulk y.1/\t.split.size<=Rows.uptoBulk y.1/\t.weight<18446744073709551616):=by
 obtain ⟨xs,n1,_,rfl,_,hl,hf⟩:=DataW.trod_struct Tryz.underlying58 h;obtain ⟨y0,m0,t0⟩:=fld hf hl 0 _ rfl;obtain ⟨y1,m1,t1⟩:=fld hf hl 1 _ rfl;obtain ⟨y2,m2,t2⟩:=fld hf hl 2 _ rfl;obtain ⟨sv,c0,w0⟩:=leafS t0;obtain ⟨st,c1,w1⟩:=leafS t1;obtain ⟨wt,c2,w2⟩:=a67 t2;have b0:=aHg m0;have b1:=aHg m1;refine ⟨⟨sv,st,wt⟩,fun j u hj=> ?_,?_,by show sv.size<=Rows.uptoBulk (DataW.agg (xs.map (·.1)));omega,by show st.size<=Rows.uptoBulk (DataW.agg (xs.map (·.1)));omega,w2⟩
 ·unfold aA6 at hj
  match j with
  |0=>obtain rfl:=a7h hj;exact c0
  |1=>obtain rfl:=a7h hj;exact c1
  |2=>obtain rfl:=a7h hj;exact c2
  |k+3=>simp at hj
 ·show 4<=Rows.uptoBulk (DataW.agg (xs.map (·.1)))
  rw[aYu];have:=aKj (xs.map (·.1));rw[List.length_map,hl]at this;have h3:3<=Rows.uptoBulkAll (xs.map (·.1)):=this;omega
theorem rul_in (n:Nat) (cs:List Value) (y:DataW H×List MemPlace) (h:DataW.trod enc Tryz.prog W base sp held n 60 cs=some y):∃t:Rul,(∀(j:Nat) (u:Value),(aAy t)[j]? =some u->cs[j]? =some u)/\(5<=Rows.uptoBulk y.1/\t.path.size<=Rows.uptoBulk y.1/\t.method.size<=Rows.uptoBulk y.1/\t.split.size<=Rows.uptoBulk y.1):=by
 obtain ⟨xs,n1,_,rfl,_,hl,hf⟩:=DataW.trod_struct Tryz.underlying60 h;obtain ⟨y0,m0,t0⟩:=fld hf hl 0 _ rfl;obtain ⟨y1,m1,t1⟩:=fld hf hl 1 _ rfl;obtain ⟨y2,m2,t2⟩:=fld hf hl 2 _ rfl;obtain ⟨y3,m3,t3⟩:=fld hf hl 3 _ rfl;obtain ⟨sp1,c0,w0⟩:=leafS t0;obtain ⟨sm,c1,w1⟩:=leafS t1;obtain ⟨st,c2,w2⟩:=leafS t2;obtain ⟨al,c3⟩:=leafB t3;have b0:=aHg m0;have b1:=aHg m1;have b2:=aHg m2
 refine ⟨⟨sp1,sm,st,al⟩,fun j u hj=> ?_,?_,by show sp1.size<=Rows.uptoBulk (DataW.agg (xs.map (·.1)));omega,by show sm.size<=Rows.uptoBulk (DataW.agg (xs.map (·.1)));omega,by show st.size<=Rows.uptoBulk (DataW.agg (xs.map (·.1)));omega⟩
 ·unfold aAy at hj
  match j with
  |0=>obtain rfl:=a7h hj;exact c0
  |1=>obtain rfl:=a7h hj;exact c1
  |2=>obtain rfl:=a7h hj;exact c2
  |3=>obtain rfl:=a7h hj;exact c3
  |k+4=>simp at hj
 ·show 5<=Rows.uptoBulk (DataW.agg (xs.map (·.1)))
  rw[aYu];have:=aKj (xs.map (·.1));rw[List.length_map,hl]at this;have h3:4<=Rows.uptoBulkAll (xs.map (·.1)):=this;omega
theorem eight {l:List (DataW H×List MemPlace)} (hl:l.length=8):∃a b c d e f g h,l=[a,b,c,d,e,f,g,h]:=by
 match l,hl with
 |[a,b,c,d,e,f,g,h],_=>exact ⟨a,b,c,d,e,f,g,h,rfl⟩
theorem res_in (n:Nat) (cs:List Value) (y:DataW H×List MemPlace) (h:DataW.trod enc Tryz.prog W base sp held n 49 cs=some y):∃m:RsM,(∀(j:Nat) (u:Value),m.cells[j]? =some u->cs[j]? =some u)/\(Rows.uptoBulk y.1<=1048576->ResL W m.r m.ev m.tv m.rv/\ResZ m.r):=by
 obtain ⟨xs,n1,_,rfl,_,hl,hf⟩:=DataW.trod_struct Tryz.underlying49 h;obtain ⟨y0,y1,y2,y3,y4,y5,y6,y7,rfl⟩:=eight (show xs.length=8 from hl);have t0:=hf 0 _ rfl;have t1:=hf 1 _ rfl;have t2:=hf 2 _ rfl;have t3:=hf 3 _ rfl;have t4:=hf 4 _ rfl;have t5:=hf 5 _ rfl;have t6:=hf 6 _ rfl;have t7:=hf 7 _ rfl;change DataW.trod enc Tryz.prog W base sp held _ 3 ((cs.drop 0).take (Tryz.prog.cellsOf 3))=some y0 at t0
 change DataW.trod enc Tryz.prog W base sp held _ 9 ((cs.drop 1).take (Tryz.prog.cellsOf 9))=some y1 at t1;change DataW.trod enc Tryz.prog W base sp held _ 45 ((cs.drop 2).take (Tryz.prog.cellsOf 45))=some y2 at t2;change DataW.trod enc Tryz.prog W base sp held _ 46 ((cs.drop 3).take (Tryz.prog.cellsOf 46))=some y3 at t3;change DataW.trod enc Tryz.prog W base sp held _ 9 ((cs.drop 4).take (Tryz.prog.cellsOf 9))=some y4 at t4
 change DataW.trod enc Tryz.prog W base sp held _ 47 ((cs.drop 5).take (Tryz.prog.cellsOf 47))=some y5 at t5;change DataW.trod enc Tryz.prog W base sp held _ 9 ((cs.drop 6).take (Tryz.prog.cellsOf 9))=some y6 at t6;change DataW.trod enc Tryz.prog W base sp held _ 4 ((cs.drop 7).take (Tryz.prog.cellsOf 4))=some y7 at t7;obtain ⟨kind,c0,w0⟩:=leafI t0
 obtain ⟨name,c1,w1⟩:=leafS t1;obtain ⟨host,c4,w4⟩:=leafS t4;obtain ⟨route,c6,w6⟩:=leafS t6;obtain ⟨del,c7⟩:=leafB t7;rw[a2y]at t2;rw[a2z]at t3;rw[a23]at t5;obtain ⟨ao2,cap2,es,e2,hb2,hm2,hg2⟩:=aQs aAp (fun s B=>s.size+1<=B) 1 (fun a B h=>by omega) Tryz.underlying45 a4c (by decide) (fun _=>rfl) a68 t2;obtain ⟨ao3,cap3,ts,e3,hb3,hm3,hg3⟩:=aQs aA6 (fun t B=>4<=B/\t.service.size<=B/\t.split.size<=B/\t.weight<18446744073709551616) 4 (fun a B h=>h.1) Tryz.underlying46 a64 (by decide) (fun _=>rfl) tgt_in t3
 obtain ⟨ao5,cap5,us,e5,hb5,hm5,hg5⟩:=aQs aAy (fun t B=>5<=B/\t.path.size<=B/\t.method.size<=B/\t.split.size<=B) 5 (fun a B h=>h.1) Tryz.underlying47 a65 (by decide) (fun _=>rfl) rul_in t5;refine ⟨⟨⟨kind,name,es,ts,host,us,route,del⟩,.slice ao2 es.length cap2,.slice ao3 ts.length cap3,.slice ao5 us.length cap5⟩,fun j u hj=> ?_,fun hB=> ?_⟩
 ·unfold RsM.cells resA at hj
  match j with
  |0=>obtain rfl:=a7h hj;exact c0
  |1=>obtain rfl:=a7h hj;exact c1
  |2=>obtain rfl:=a7h hj;exact aFa e2
  |3=>obtain rfl:=a7h hj;exact aFa e3
  |4=>obtain rfl:=a7h hj;exact c4
  |5=>obtain rfl:=a7h hj;exact aFa e5
  |6=>obtain rfl:=a7h hj;exact c6
  |7=>obtain rfl:=a7h hj;exact c7
  |k+8=>simp at hj
 ·change Rows.uptoBulk (DataW.agg (List.map (·.1) [y0,y1,y2,y3,y4,y5,y6,y7]))<=1048576 at hB;simp only[List.map_cons,List.map_nil,Rows.uptoBulk,Rows.uptoBulkAll]at hB;have p0:=aLu y0.1;have p1:=aLu y1.1;have p4:=aLu y4.1;have p6:=aLu y6.1;have p7:=aLu y7.1;refine ⟨⟨slrS (by omega) hm2,slrS (by omega) hm3,slrS (by omega) hm5⟩,w0,by show name.size<=_;omega,by show host.size<=_;omega,by show route.size<=_;omega,fun x hx=> ?_,fun x hx=> ?_,fun x hx=> ?_,by show es.length+3*ts.length+4*us.length+8<=1048576;omega⟩
  ·obtain ⟨B,hB2,q1⟩:=hg2 x hx;have q2:x.size+1<=B:=q1;omega
  ·obtain ⟨B,hB2,q0,q1,q2,q3⟩:=hg3 x hx;exact ⟨by omega,by omega,q3⟩
  ·obtain ⟨B,hB2,q0,q1,q2,q3⟩:=hg5 x hx;exact ⟨by omega,by omega,by omega⟩
end
theorem aQt {W:World} {H:Type} {enc:TypeId×Value->H} {b0:Nat} {v:Value} {d:DataW H} {p:List MemPlace} (hv:Value.okWide Tryz.prog W .any b0 24 v) (h:DataW.Trod enc Tryz.prog W 0 (fun _=>true) true 24 v d p) (hB:Rows.uptoBulk d<=1048576):
 ∃ms:List RsM,RsL W v ms/\∀m∈ms,ResZ m.r:=by
 obtain ⟨a0,len0,cap0,rfl⟩:=okWide_slice Tryz.underlying24 hv;obtain ⟨fuel,hf⟩:=h;obtain ⟨ao,cap,ds,e1,hb1,hm1,hh⟩:=slr_in RsM.cells (fun m B=>B<=1048576->ResL W m.r m.ev m.tv m.rv/\ResZ m.r) Tryz.underlying24 a66 (by decide) (fun _=>rfl) res_in hf;have e1':[Value.slice a0 len0 cap0]=[Value.slice ao ds.length cap]:=e1;have hb1':ds.length<=Rows.uptoBulk d:=hb1;rw[(List.cons.inj e1').1]
 have hx:∀x∈ds,ResL W x.r x.ev x.tv x.rv/\ResZ x.r:=fun x hx=>by
  obtain ⟨B,hB2,hg⟩:=hh x hx;have hB3:B<=Rows.uptoBulk d:=hB2;exact hg (by omega)
 exact ⟨ds,⟨slrS (by omega) hm1,fun x h=>(hx x h).1⟩,fun x h=>(hx x h).2⟩
end Go.Proofs.YtfenoaeoedobmaaGreatDoor
namespace Go.Proofs.YtfenoaeoedobmaaGreatDoor
open Go.ChangeShapes Go.WideShapes Go.ChangeAt Go.RowKit
theorem own:ownKnob Tryz.prog.godebug=none:=by kernel_rfl
theorem a69:laidOutB Tryz.prog=true:=by kernel_rfl
theorem gER: Tryz.prog.globalNamed "strconv.ErrRange"=some 4 :=by kernel_rfl
theorem a7a:(Tryz.prog.globals[4]?).map (·.type)=some 164 :=by kernel_rfl
theorem a7b: Tryz.prog.cellsOf 279 =1:=by kernel_rfl
theorem a26: Tryz.prog.cellsOf 9 =1:=by kernel_rfl
theorem star:"*"++"errors.errorString"="*errors.errorString":=by decide
theorem rowES (u:TypeId) (h: Tryz.prog.typeName? 3 u=some "*errors.errorString"):u= 277 :=
 typeName_ptr_named (nm:="errors.errorString") (by rw[star];kernel_rfl) (by kernel_rfl) (by decide) u (by rw[star];exact h)
def laid5:List (String×DataW Unit):=[("math/bits.deBruijn32tab",Rows.laid_math_bits_deBruijn32tab),("math/bits.deBruijn64tab",Rows.laid_math_bits_deBruijn64tab),("internal/strconv.uint64pow10",Rows.laid_internal_strconv_uint64pow10),("strconv.ErrRange",Rows.laid_strconv_ErrRange),("strconv.ErrSyntax",Rows.laid_strconv_ErrSyntax)]
theorem aPb {W:World} (h:laidMetH Tryz.prog laid5 W) (hs:W.ShapedOpen Tryz.prog):Glob W:=by
 have hL:laidMet Tryz.prog laid5 W:=h;obtain ⟨a1,s1,hv1,-,-,-⟩:=laid_sentinel hL.tail.tail.tail gER a7a Tryz.underlying164 rowES Tryz.underlying277 Tryz.underlying279 rfl rfl Tryz.underlying9 a7b a26;refine ⟨?_,⟨_,by have h0:=World.var?_cell gER hv1 0;simpa using h0,Or.inr ⟨_,_,rfl⟩⟩⟩;exact cell_of_shapedOpen_int (g:= 1) (t:= 3) (zero:=#[.int .i64 0]) (k:= .i64) hs (of_decide_eq_true (by kernel_rfl)) (by kernel_rfl) (by kernel_rfl) (by kernel_rfl) (by kernel_rfl) Tryz.underlying3
abbrev synS:ByteArray:={data:=#[105,110,118,97,108,105,100,32,115,121,110,116,97,120]}
abbrev rngS:ByteArray:={data:=#[118,97,108,117,101,32,111,117,116,32,111,102,32,114,97,110,103,101]}
noncomputable def low:Nat:=(World.holding Tryz.prog default ⟨#[],#[],[]⟩).heap.size
def put1 (cs:Array Value):Obj->Obj
 | .cells _ t frozen=> .cells cs t frozen
 |o=>o
def litV:Lit->Value
 | .int k n=> .int k n
 | .bool b=> .bool b
 |_=>undef
def flatD:Nat->DataW Unit->List Value
 |0,_=>[]
 |_+1,.lit l=>[litV l]
 |n+1,.agg l=>l.flatMap (flatD n)
 |_+1,_=>[]
noncomputable def aKk (os:Os):World:=
 let w0:=World.holding Tryz.prog os ⟨#[.cells #[.string synS] 279,.cells #[.string rngS] 279],#[],[]⟩
 {w0 with heap:=(((((w0.heap.modify 3 (put1 #[.iface 277 (.pointer (some ⟨low,0,none⟩))])).modify 4 (put1 #[.iface 277 (.pointer (some ⟨low+1,0,none⟩))])).modify 2 (put1 (flatD 4 Rows.laid_internal_strconv_uint64pow10).toArray)).modify 5 (put1 (flatD 4 Rows.laid_math_bits_deBruijn32tab).toArray)).modify 6 (put1 (flatD 4 Rows.laid_math_bits_deBruijn64tab).toArray))}
theorem a27 (os:Os) (args:Array Value):laidMet Tryz.prog laid5 ((aKk os).forCall (fun _ _=>0) ⟨#[],args,[]⟩).memory:=
 laidMet_of_run' 8 (by kernel_rfl) (by kernel_rfl)
theorem gP10: Tryz.prog.globalNamed "internal/strconv.uint64pow10"=some 2 :=by kernel_rfl
theorem aQu {W:World} (h:laidMetH Tryz.prog laid5 W):Tab W:=by
 have hL:laidMet Tryz.prog laid5 W:=h;exact Lib.tabIs_of_head gP10 (by kernel_rfl) Tryz.underlying268 Tryz.underlying184 (by kernel_rfl) (by kernel_rfl) hL.tail.tail
theorem aM6 {W:World} (h:laidMetH Tryz.prog laid5 W) (hs:W.ShapedOpen Tryz.prog):GlobT W:=
 ⟨aPb h hs,aQu h⟩
