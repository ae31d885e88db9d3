/-
Parts of a proof.
-/
import Derived.Test.YtfenoaeoedobmaaGreatDoorRows
import Derived.Test.YtfenoaeoedobmaaGreatDoorCards
import Derived.Test.YtfenoaeoedobmaaGreatDoorTie
import Derived.OpenShut
import Derived.ShutString
import Derived.Deep.Slices
import Derived.Deep.DeepHandedRow
import Derived.Lib.LaidTab
import Derived.Stop.LaidErr
import Derived.Shelf.Vars
import Derived.Test.YtfenoaeoedobmaaGreatDoorOw38
import Derived.Test.YtfenoaeoedobmaaGreatDoorOw46
set_option linter.unusedVariables false
set_option linter.unusedSimpArgs false
set_option maxHeartbeats 8000000
set_option maxRecDepth 100000
namespace Go.Proofs.YtfenoaeoedobmaaGreatDoor
open Go Go.RowKit
theorem AL.uniO {w0 w':World} {x:Except (Nat×Stop) (List Res)} {r:Ending} (h:AL w0 x r w'):∃(V:Value) (ms:List RsM) (d l c:Int),r= .returned (.tuple #[V,.agg #[.int .i64 d,.int .i64 l,.int .i64 c]])/\RsO w0 w' V ms.length ms/\ms.length<=1048576/\Below w0.heap.size w0 w'/\(ms.map (·.r),d,l,c)=D3 x:=by
 unfold AL at h;cases x with
 |ok L=>
  obtain ⟨⟨V,n,ms,e,hr,hn,hb,hL⟩,hw⟩:=h;subst hn;exact ⟨V,ms,0,0,0,e,hr,hb,hw,by rw[hL];rfl⟩
 |error e=>
  obtain ⟨e2,hw⟩:=h;exact ⟨_,[],_,_,_,e2,RsO.first hw,by decide,hw,rfl⟩
theorem yL {N:List (List Nd)} {L:List Res} {d l c:Int} (h:(L,d,l,c)=D3 (eh N 0)):∀r∈L,ResZ r:=by
 cases hd:eh N 0 with
 |ok rs=>
  rw[hd]at h;have e:L=rs:=congrArg Prod.fst h;subst e;exact fun r hr=>zk (W:=fun x=>x<INF) (fun _ q=>q) (xc (fun _ _ q=>vl q) hd r hr)
 |error e=>
  rw[hd]at h;have e:L=[]:=congrArg Prod.fst h;subst e;exact fun r hr=>nomatch hr
theorem uw (d l c:Int) (w:World):(Op.equalIn 10000 27 (.agg #[.int .i64 d,.int .i64 l,.int .i64 c]) (.agg #[.int .i64 d,.int .i64 l,.int .i64 c])).run Tryz.prog w= .ok true w:=by
 rw[run_equalIn_agg w 9999 _ _ _ (by kernel_rfl) (by kernel_rfl)];have e: Tryz.prog.fieldsOf 27 =(match Tryz.prog.underlying 27 with|some (.struct fs)=>fs|_=>#[]):=rfl;rw[Tryz.underlying27]at e;rw[e];simp[Op.eqFields,part,Tryz.isAgg3,Tryz.isAgg25,run_equalIn_int w 9998 3 .i64 _ _ _ Tryz.underlying3,run_equalIn_int w 9998 25 .i64 _ _ _ Tryz.underlying25]
theorem Fb (d l c:Int) (w:World):(binOp .neq 27 (.agg #[.int .i64 d,.int .i64 l,.int .i64 c]) (.agg #[.int .i64 d,.int .i64 l,.int .i64 c])).run Tryz.prog w= .ok (.bool false) w:=by
 rw[run_neq_struct,uw];rfl
theorem FK (d l c:Int) (w:World):(binOp .eql 27 (.agg #[.int .i64 d,.int .i64 l,.int .i64 c]) (.agg #[.int .i64 d,.int .i64 l,.int .i64 c])).run Tryz.prog w= .ok (.bool true) w:=by
 rw[run_eql_struct,uw];rfl
theorem qE {w w2:World} {b n cap:Nat} {ms:List RsM} (h:RsL w (.slice (some ⟨b,0,none⟩) n cap) ms) (hb:Below w.heap.size w w2) {i:Nat} {m:RsM} (hm:ms[i]? =some m):
 (w2.cell? ⟨b,i*8,none⟩=some (.int .i64 m.r.kind)/\w2.cell? ⟨b,i*8+1,none⟩=some (.string m.r.name)/\w2.cell? ⟨b,i*8+2,none⟩=some m.ev/\w2.cell? ⟨b,i*8+3,none⟩=some m.tv/\w2.cell? ⟨b,i*8+4,none⟩=some (.string m.r.host)/\w2.cell? ⟨b,i*8+5,none⟩=some m.rv/\w2.cell? ⟨b,i*8+6,none⟩=some (.string m.r.route)/\w2.cell? ⟨b,i*8+7,none⟩=some (.bool m.r.del))/\ResL w2 m.r m.ev m.tv m.rv:=by
 obtain ⟨ao,c,e,_,hat⟩:=ox (h.later hb);obtain ⟨b2,o,ha,_,hc,hr⟩:=hat i m hm;injection e with e1 _ _
 rw[<-e1]at ha;injection ha with ha
 injection ha with q1 q2 _
 subst q1;subst q2;have hx:=fun j u (hu:m.cells[j]? =some u)=>(show w2.cell? ⟨b,i*8+j,none⟩=some u by have:=hc j u hu;rwa [Nat.zero_add]at this);exact ⟨⟨hx 0 _ rfl,hx 1 _ rfl,hx 2 _ rfl,hx 3 _ rfl,hx 4 _ rfl,hx 5 _ rfl,hx 6 _ rfl,hx 7 _ rfl⟩,hr⟩
theorem tw {w0 wr:World} {v:Value} {n:Nat} {ms:List RsM} (h:RsO w0 wr v n ms) (h0:0<n):∃b cap,v= .slice (some ⟨b,0,none⟩) n cap:=by
 obtain ⟨a,cap,e,hx⟩:=iH h.row.row;obtain ⟨g,c,rfl,_⟩:=hx h0;exact ⟨g,cap,e⟩
theorem ow {w0 wr:World} {v:Value} {n:Nat} {ms:List RsM} (h:RsO w0 wr v n ms):∃a cap,v= .slice a n cap:=by
 obtain ⟨a,cap,e,_⟩:=iH h.row.row;exact ⟨a,cap,e⟩
theorem mA (w:World) (d l c:Int):(w.alloc (.cells #[.int .i64 d,.int .i64 l,.int .i64 c] 27)).heap[w.heap.size]? =some (.cells #[.int .i64 d,.int .i64 l,.int .i64 c] 27 (0,0)):=ah _
theorem AD.later {w w2:World} {av:Value} {n:Nat} {c:Nat->Nat} {E:Nat->Nat->Value} {m:Nat->Nat->Nat} (h:AD w av n c E m) (hb:Below w.heap.size w w2):AD w2 av n c E m:=by
 obtain ⟨L,hr,hL⟩:=h.row;refine ⟨⟨L,aG hr (bh hb) (fun _ _ q=>q),hL⟩,fun q k h1 h2 h3=> ?_⟩;obtain ⟨xs,hx⟩:=h.lst q k h1 h2 h3;exact ⟨xs,aG hx (bh hb) (fun _ _ q=>q)⟩
theorem RsO.modL {w0 w w2:World} {v:Value} {n:Nat} {ms:List RsM} {F:Nat->Prop} (h:RsO w0 w v n ms) (hn:n=ms.length) (hb:n<=1048576) (hM:Mod F w w2) (hF:∀g,w0.heap.size<=g->¬F g):RsL w2 v ms:=
 ⟨SlR.ofRow (aG h.row.row hM (fun g hx=>hF g (h.row.new g hx))) hn BB hb (by decide),fun m hm=>((h.each m hm).modM hM (fun g hg=>hF g ((h.each m hm).own_lt hg).1)).toL⟩
theorem sY (w:World) (V:Value) (ds:List DocV) (h:DocsR w V ds) (hg:GlobT w):
 Calls Tryz.prog 7 #[V] w fun e w'=>e= .returned (.bool true)/\Below w.heap.size w w':=by
 obtain ⟨ao,cap,rfl,hl,_⟩:=h.sl;obtain ⟨nd,hnd⟩:=ex (ds.length);rw[<-hnd]at hl h |-;have Ha:=hid (F8 w hg);have Hg:=hid (fun w2 (hb:Below w.heap.size w w2)=>hg.later hb);have Hoc:=hid (fun w2 (hb:Below w.heap.size w w2)=>Kv w2 _ ds (h.later hb));have Hde:=hid (fun (w2 w3:World) (V1:Value) (n1:Nat) (ds1:List DocV) (hb:Below w.heap.size w w2) (hn1:n1=ds1.length) (hro:RowO fx w2 w3 33 1 V1 n1 ds1) (hN:bQ ds1=bQ ds)=>show Calls Tryz.prog 9 #[V1] w3 (AL w3 (eh (bQ ds) 0))/\Below w2.heap.size w2 w3 from by
  have hdl:ds1.length=ds.length:=by
   have h1:=congrArg List.length hN;unfold bQ at h1
   rwa [List.length_map,List.length_map]at h1
  have hb3:=hb.trans (hro.row.below.mono hb.size);have:=uL w3 V1 ds1 (hro.docs hn1 (by rw[hn1,hdl,<-hnd];exact hl)) (Hg.o w3 hb3).gl;rw[hN]at this;exact ⟨this,hro.row.below⟩)
 obtain ⟨X,hX⟩:=ex (eh (bQ ds) 0);have HX:=hid hX;rw[<-hX]at Hde;clear h hg hl hnd hX;go_enter Tryz.func7,Tryz.ntmps7
 go_wp2_with fail
 refine Ha.o.mono ?_;rintro e w0 ⟨rfl,hb0⟩;have Ho:=hid (Hoc.o w0 hb0);have Hb0:=hid hb0;clear hb0 Ha
 go_wp2_with fail
 refine Ho.o.mono ?_;rintro e w1 ⟨V1,n1,ds1,rfl,hn1,hro,hN⟩;obtain ⟨hdec,hb1⟩:=Hde.o w0 w1 V1 n1 ds1 Hb0.o hn1 hro hN;have Hdec:=hid hdec;have Hb1:=hid (Hb0.o.trans (hb1.mono Hb0.o.size));clear hdec hn1 hro hN hb1 Ho Hb0
 go_wp2_with fail
 refine Hdec.o.mono ?_;intro e w2 hd;obtain ⟨VA,ma,fd,fl,fc,rfl,hA,hAl,hb2,hu⟩:=hd.uniO;obtain ⟨w3,hw3⟩:=ex (w2.alloc (.cells #[.int .i64 fd,.int .i64 fl,.int .i64 fc] 27));have hb3:Below w2.heap.size w2 w3:=by rw[hw3];exact (aAb _ _).alloc (aAa _) _
 have hf3:w3.heap[w2.heap.size]? =some (.cells #[.int .i64 fd,.int .i64 fl,.int .i64 fc] 27 (0,0)):=by rw[hw3];exact mA _ _ _ _
 have hs3:w3.heap.size=w2.heap.size+1:=by rw[hw3];simp
 have hbw3:Below w.heap.size w w3:=(Hb1.o.trans (hb2.mono Hb1.o.size)).trans (hb3.mono (aAe Hb1.o.size hb2.size));obtain ⟨fb,hfb⟩:=ex (w2.heap.size);rw[<-hfb]at hf3 hs3;obtain ⟨E,M,hFE,hDE⟩:∃E M,AF w1.heap.size fb VA ma.length E M/\AD w3 VA ma.length (cc 0 0) E M:=by
  have:=AF.first (s1:=fb) hA rfl hAl (Nat.le_of_eq hfb.symm);exact ⟨_,_,this.1,this.2.later hb3⟩
 have hA3:=hA.later hb3;obtain ⟨n,hn⟩:=ex (ma.length);rw[<-hn]at hA3 hAl hFE hDE;obtain ⟨aA,cA,hVA⟩:=ow hA3;subst hVA;have HF:=hid hFE;have HD:=hid hDE;have HA:=hid (show RsO w1 w3 (.slice aA n cA) n ma/\n<=1048576/\n=ma.length/\(ma.map (·.r),fd,fl,fc)=D3 X/\w1.heap.size<=fb/\w3.heap.size=fb+1 from ⟨hA3,hAl,hn,hu,by rw[hfb];exact hb2.size,hs3⟩);have Hf3:=hid hf3;have Hb3:=hid hbw3;have H13:=hid (show w.heap.size<=w1.heap.size from Hb1.o.size)
 have Ho:=hid (Hoc.o w3 hbw3);clear hd hA hb2 hu hb3 hf3 hs3 hbw3 hA3 hn hAl hFE hDE Hdec Hb1
 go_wp2_with fail
 rw[<-hw3,<-hfb];clear hw3 hfb;refine Ho.o.mono ?_;rintro e w4 ⟨V4,n4,ds4,rfl,hn4,hro,hN⟩;obtain ⟨hdec,hb4⟩:=Hde.o w3 w4 V4 n4 ds4 Hb3.o hn4 hro hN;have Hdec:=hid hdec;have Hb4:=hid hb4;clear hdec hn4 hro hN hb4 Ho
 go_wp2_with fail
 refine Hdec.o.mono ?_;intro e w5 hd;obtain ⟨VB,mb,gd,gl,gc,rfl,hB,hBl,hb5,hu⟩:=hd.uniO;have hE:(mb.map (·.r),gd,gl,gc)=(ma.map (·.r),fd,fl,fc):=hu.trans HA.o.2.2.2.1.symm;simp only[Prod.mk.injEq]at hE;obtain ⟨hmm,rfl,rfl,rfl⟩:=hE;obtain ⟨w6,hw6⟩:=ex (w5.alloc (.cells #[.int .i64 gd,.int .i64 gl,.int .i64 gc] 27));have hb6:Below w5.heap.size w5 w6:=by rw[hw6];exact (aAb _ _).alloc (aAa _) _
 have hf6:w6.heap[w5.heap.size]? =some (.cells #[.int .i64 gd,.int .i64 gl,.int .i64 gc] 27 (0,0)):=by rw[hw6];exact mA _ _ _ _
 have hb36:Below w3.heap.size w3 w6:=(Hb4.o.trans (hb5.mono Hb4.o.size)).trans (hb6.mono (aAe Hb4.o.size hb5.size));obtain ⟨gb,hgb⟩:=ex (w5.heap.size);rw[<-hgb]at hf6;have hB6:=hB.later hb6;have hbn:mb.length=n:=by rw[HA.o.2.2.1,<-List.length_map (f:=fun m:RsM=>m.r),hmm,List.length_map]
 rw[hbn]at hB6;obtain ⟨aB,cB,hVB⟩:=ow hB6;subst hVB;have HB:=hid (show RsO w4 w6 (.slice aB n cB) n mb/\n=mb.length/\mb.map (·.r)=ma.map (·.r)/\w3.heap.size<=w4.heap.size from ⟨hB6,hbn.symm,hmm,Hb4.o.size⟩);have hf36:=(hb36.block _ (ag Hf3.o)).trans Hf3.o;obtain ⟨x0,x1,x2⟩:=cB3 hf36;obtain ⟨y0,y1,y2⟩:=cB3 hf6;simp at x0 x1 x2 y0 y1 y2;have Hf6:=hid hf36;have Hb36:=hid hb36;have HL:=hid (xX w6 _ _ ma mb ((HA.o.1.later hb36).toL HA.o.2.2.1 HA.o.2.1) (hB6.toL hbn.symm HA.o.2.1) hmm.symm)
 have hne:=fun W=>Fb gd gl gc W;clear hd hB hBl hb5 hu hmm hb6 hf6 hb36 hB6 hbn hf36 Hdec Hb4 Hf3;go_upto_region 5 with (fail)
 rw[<-hw6,<-hgb];clear hw6 hgb
 go_wp2_with fail
 refine HL.o.mono ?_;rintro e w7 ⟨rfl,hb7⟩;have Hb7:=hid hb7;have Hw7:=hid ((Hb3.o.trans (Hb36.o.mono Hb3.o.size)).trans (hb7.mono (aAe Hb3.o.size Hb36.o.size)));have HzA:=hid (show ∀r∈ma.map (fun m:RsM=>m.r),ResZ r from yL (N:=bQ ds) (HA.o.2.2.2.1.trans (congrArg D3 HX.o)));clear hb7 HL x0 x1 x2 y0 y1 y2 hne;go_wp2
 rename_i Q0 K0 hK0
 change KM.wp _ _ _ _;refine Kx (P:=fun _ wr=>Below w7.heap.size w7 wr) HA.o.2.1 ⟨rfl,rfl,rfl,rfl,rfl,rfl,rfl⟩ (aAb _ _) (fun i wr Q' a' hi H hfr ok'=> ?_) (fun a' wr hfr H=> ?_)
 ·obtain ⟨m,hm⟩:∃m,ma[i]? =some m:=au (by rw[<-HA.o.2.2.1];exact hi);obtain ⟨m',hm'⟩:∃m',mb[i]? =some m':=au (by rw[<-HB.o.2.1];exact hi);have hmr:m'.r=m.r:=by
   have e1:(mb.map (·.r))[i]? =some m'.r:=by rw[List.getElem?_map,hm'];rfl
   have e2:(ma.map (·.r))[i]? =some m.r:=by rw[List.getElem?_map,hm];rfl
   rw[HB.o.2.2.1,e2]at e1;exact (aAf e1).symm
  obtain ⟨b,ca,eA⟩:=tw HA.o.1 (by omega);obtain ⟨b',cb,eB⟩:=tw HB.o.1 (by omega);injection eA with eA1 _ eA2
  injection eB with eB1 _ eB2
  subst eA1;subst eA2;subst eB1;subst eB2;have h37:=Hb36.o.trans (Hb7.o.mono Hb36.o.size);have h3r:=h37.trans (H.mono h37.size);have h6r:=Hb7.o.trans (H.mono Hb7.o.size);obtain ⟨hc,hL⟩:=qE (HA.o.1.toL HA.o.2.2.1 HA.o.2.1) h3r hm;have HB2:=fun w2 (hb:Below w6.heap.size w6 w2)=>qE (HB.o.1.toL HB.o.2.1 HA.o.2.1) hb hm';have hz:ResZ m.r:=HzA.o m.r (List.mem_map.2 ⟨m,List.mem_of_getElem? hm,rfl⟩)
  have hwr:=Hw7.o.trans (H.mono Hw7.o.size);change (Code.seq owR (Code.seq E0 (Code.seq EZ EY))).wp _ _ _ _;refine wp_seq (ow_r (r:=m.r) (ev:=m.ev) (tv:=m.tv) (rv:=m.rv) hfr hi hc hz hL (Hg.o wr hwr) (fun a' w8 w9 xv yv ms ms' hf h8 hD hap hn1 h9 hD2 hn2=> ?_));change (Code.seq E0 (Code.seq EZ EY)).wp _ _ _ _;have hX:=(XS.first hD hap).later h9;refine KH _ hf hX (fun a2 w10 f2 hX2 hM2=> ?_)
  refine KG _ f2 hX2 (fun k m hk hm=>CL hk hm) (fun a3 w11 f3 hM3=> ?_);have hM:=hM2.trans hM3;have hy:Nds w11 yv ms':=(fx.mod (x:=(⟨yv,ms'⟩:DocV)) hD2 hM (fun g hg q=>by have:=(fx.lt hD2 g hg).1;have:=q.2;omega):DocP w11 w8.heap.size ⟨yv,ms'⟩).nds;have h89:Below wr.heap.size wr w9:=h8.trans (h9.mono h8.size);have hb11:Below wr.heap.size wr w11:=h89.trans (hM.below h89.size (fun g q=>q.1))
  obtain ⟨c1,c2⟩:=HB2 w11 (h6r.trans (hb11.mono h6r.size));refine KF (r:=m'.r) f3 hi c1 (by rw[hmr];exact hz) c2 (Hg.o w11 (hwr.trans (hb11.mono hwr.size))) hy (by rw[hmr];exact hn2) (fun a4 w12 f4 hb12=>ok' a4 w12 f4 ?_);exact (H.trans (hb11.mono H.size)).trans (hb12.mono (aAe H.size hb11.size))
 refine jU (hK0 _ _ ?_);have h37:=Hb36.o.trans (Hb7.o.mono Hb36.o.size);have h3r:=h37.trans (H.mono h37.size);have h6r:=Hb7.o.trans (H.mono Hb7.o.size);have hwr:=Hw7.o.trans (H.mono Hw7.o.size);have HDr:=hid (HD.o.later h3r);have Hfr:=hid ((h6r.block _ (ag Hf6.o)).trans Hf6.o);have HBr:=hid (HB.o.1.later h6r);have Hwr:=hid hwr;obtain ⟨vv,rfl,eE⟩:=hfr.shape;simp only[ik,eE];clear eE;clear h37 h3r h6r hwr H hfr hK0 HzA Hb7 HD Hf6 Hb36 Hw7 Hb3
 go_wp2
 rename_i Q1 K1 hK1
 change KL.wp _ _ _ _;refine Kw (P:=fun i w'=>AD w' (.slice aA n cA) n (cc i 0) E M/\Mod (InS w1.heap.size fb) wr w') HA.o.2.1 ⟨rfl,rfl,rfl,rfl,rfl,rfl,rfl⟩ ⟨HDr.o,Mod.refl _ _⟩ (fun i w8 Q' a' hi H hfr ok'=> ?_) (fun a' w8 hfr H=> ?_)
 ·have hF:=HF.o;change (Code.seq IT (Code.seq IS (Code.seq IQ (Code.seq IP (Code.seq IN (Code.seq IM IL)))))).wp _ _ _ _;refine KE _ hF H.1 hi hfr (fun a2 w9 f2 d2 m2=> ?_);refine KD _ hF d2 hi f2 (fun a3 w10 f3 d3 m3=> ?_);refine KC _ hF d3 hi f3 (fun a4 w11 f4 d4 m4=> ?_);refine KB _ hF d4 hi f4 (fun a5 w12 f5 d5 m5=> ?_);refine KA _ hF d5 hi f5 (fun a6 w13 f6 d6 m6=> ?_)
  refine Kz _ hF d6 hi f6 (fun a7 w14 f7 d7 m7=> ?_);obtain ⟨ga,cap,cx,e1,hx,hsz⟩:=d7.rowAt (by omega);have e1':=e1;injection e1' with _ _ e3
  subst e3;exact Ky hF d7 e1 hx hsz hi f7 (fun a8 w15 f8 d8 m8=>ok' a8 w15 f8 ⟨d8,H.2.trans (m2.trans (m3.trans (m4.trans (m5.trans (m6.trans (m7.trans m8))))))⟩)
 refine jU (hK1 _ _ ?_);obtain ⟨Hd8,hM8⟩:=H;obtain ⟨wA,hwA⟩:=ex (w8.alloc (.cells #[.int .i64 0,.string ⟨#[]⟩,.slice none 0 0,.slice none 0 0,.string ⟨#[]⟩,.slice none 0 0,.string ⟨#[]⟩,.bool false,.int .i64 0,.string ⟨#[]⟩,.slice none 0 0,.slice none 0 0,.string ⟨#[]⟩,.slice none 0 0,.string ⟨#[]⟩,.bool false] 49));have hbA:Below w8.heap.size w8 wA:=by rw[hwA];exact (aAb _ _).alloc (aAa _) _
 have Hown:Hid (∃xs,wA.ownsRow 0 49 8 (.slice aA n cA) n xs):=hid (by
  obtain ⟨L,hr,_⟩:=Hd8.row;exact ⟨L,aG hr (bh hbA) (fun _ _ q=>q)⟩)
 have Hnew:Hid (wA.heap[w8.heap.size]? =some (.cells #[.int .i64 0,.string ⟨#[]⟩,.slice none 0 0,.slice none 0 0,.string ⟨#[]⟩,.slice none 0 0,.string ⟨#[]⟩,.bool false,.int .i64 0,.string ⟨#[]⟩,.slice none 0 0,.slice none 0 0,.string ⟨#[]⟩,.slice none 0 0,.string ⟨#[]⟩,.bool false] 49 (0,0))):=hid (by rw[hwA];exact ah _);have HMA:=hid (hM8.trans ((bh hbA).mono (fun _ _ q=>q.elim)))
 have Hl:=hid (show n<=2000000 from aAe HA.o.2.1 (by decide));have Hone:=hid (show ∀u∈([.int .i64 0,.string ⟨#[]⟩,.slice none 0 0,.slice none 0 0,.string ⟨#[]⟩,.slice none 0 0,.string ⟨#[]⟩,.bool false,.int .i64 0,.string ⟨#[]⟩,.slice none 0 0,.slice none 0 0,.string ⟨#[]⟩,.slice none 0 0,.string ⟨#[]⟩,.bool false]:List Value),u.oneCell'=true from by decide);have HwA:=hid hwA;obtain ⟨vv2,rfl,eE⟩:=hfr.shape;simp only[ik,eE];clear eE
 clear hfr hK1 HDr Hd8 hM8 hbA hwA
 go_wp2_with (at_builtin;rw[<-HwA.o];refine nY 24 49 (.agg tC.toArray) 8 136 Tryz.underlying24 tB rfl (by decide) (by decide) rfl (.tmp 240) (.tmp 243) rfl _ n rfl Hown.o _ _ _ rfl Hnew.o rfl rfl Hone.o Hl.o ?_;intro ao4 c4 w9 gr2;have HM9:=hid (HMA.o.grown gr2 (fun k e _=>HF.o.fr k e));have Hb9:=hid (Hwr.o.trans (HM9.o.below Hwr.o.size (fun g q=>aAe H13.o q.1)));have Ho:=hid (Hoc.o w9 Hb9.o);clear gr2 HwA HMA Hown Hnew Hone)
 refine Ho.o.mono ?_;rintro e w10 ⟨V6,n6,ds6,rfl,hn6,hro,hN⟩;obtain ⟨hdec,hb10⟩:=Hde.o w9 w10 V6 n6 ds6 Hb9.o hn6 hro hN;have Hdec:=hid hdec;have Hb10:=hid hb10;clear hdec hn6 hro hN hb10 Ho
 go_wp2_with fail
 refine Hdec.o.mono ?_;intro e w11 hd;obtain ⟨VC,mc,kd,kl,kc,rfl,hC,hCl,hb11,hu⟩:=hd.uniO;have hE:(mc.map (·.r),kd,kl,kc)=(ma.map (·.r),gd,gl,gc):=hu.trans HA.o.2.2.2.1.symm;simp only[Prod.mk.injEq]at hE;obtain ⟨hmm,rfl,rfl,rfl⟩:=hE;obtain ⟨w12,hw12⟩:=ex (w11.alloc (.cells #[.int .i64 kd,.int .i64 kl,.int .i64 kc] 27));have hb12:Below w11.heap.size w11 w12:=by rw[hw12];exact (aAb _ _).alloc (aAa _) _
 have hf12:w12.heap[w11.heap.size]? =some (.cells #[.int .i64 kd,.int .i64 kl,.int .i64 kc] 27 (0,0)):=by rw[hw12];exact mA _ _ _ _
 have hb9:Below w9.heap.size w9 w12:=(Hb10.o.trans (hb11.mono Hb10.o.size)).trans (hb12.mono (aAe Hb10.o.size hb11.size));obtain ⟨hb,hhb⟩:=ex (w11.heap.size);rw[<-hhb]at hf12;have hC12:=hC.later hb12;obtain ⟨aC,cC,hVC⟩:=ow hC12;subst hVC;have hcn:mc.length=n:=by rw[HA.o.2.2.1,<-List.length_map (f:=fun m:RsM=>m.r),hmm,List.length_map]
 have hM12:=HM9.o.trans ((bh hb9).mono (fun _ _ q=>q.elim));have hf3:w12.heap[fb]? =some (.cells #[.int .i64 kd,.int .i64 kl,.int .i64 kc] 27 (0,0)):=hM12.heap Hfr.o (fun e=>Nat.lt_irrefl _ e.2);obtain ⟨x0,x1,x2⟩:=cB3 hf3;obtain ⟨y0,y1,y2⟩:=cB3 hf12;simp at x0 x1 x2 y0 y1 y2;have HL:=hid (xX w12 _ _ mb mc (HBr.o.modL HB.o.2.1 HA.o.2.1 hM12 (fun g q e=>by have:=HB.o.2.2.2;have:=HA.o.2.2.2.2.2;have:=e.2;omega)) (hC12.toL rfl (by rw[hcn];exact HA.o.2.1)) (HB.o.2.2.1.trans hmm.symm))
 have heq:=fun W=>FK kd kl kc W;have t2:decide ((2:Int)<=(n:Int)+2)=true:=dT (by omega);have HE:=hid (Hb9.o.trans (hb9.mono Hb9.o.size));clear hd hC hCl hb11 hu hmm hb12 hf12 hb9 hC12 hcn hM12 hf3 Hdec Hb10 HM9 Hb9;go_upto_region 51 with (fail)
 rw[<-hw12,<-hhb];clear hw12 hhb
 go_wp2_with fail
 refine HL.o.mono ?_;rintro e w13 ⟨rfl,hb13⟩;have HEE:=hid (HE.o.trans (hb13.mono HE.o.size));clear hb13 HL x0 x1 x2 y0 y1 y2 heq HE;go_wp2;refine bodyPost_ret (results_tmp (t:=2) rfl _ _ _) rfl ⟨rfl,HEE.o⟩
end Go.Proofs.YtfenoaeoedobmaaGreatDoor
namespace Go.Proofs.YtfenoaeoedobmaaGreatDoor
open Go Go.ChangeShapes Go.WideShapes Go.ChangeAt Go.RowKit Go.Deep
theorem one_le {H:Type} (d:DataW H):1<=Rows.uptoBulk d:=by
 cases d with
 |lit l=>cases l<;>simp[Rows.uptoBulk]
 |nil=>simp[Rows.uptoBulk]
 |ptr d=>simp[Rows.uptoBulk]
 |slice elems spare=>simp[Rows.uptoBulk]
 |agg parts=>simp[Rows.uptoBulk]
 |iface t d=>simp[Rows.uptoBulk]
 |map entries=>simp[Rows.uptoBulk]
 |held h=>simp[Rows.uptoBulk]
theorem xM {H:Type} {d:DataW H} {l:List (DataW H)} (h:d∈l):Rows.uptoBulk d<=Rows.uptoBulkAll l:=by
 induction l with
 |nil=>cases h
 |cons x r ih=>
  simp only[Rows.uptoBulkAll];cases List.mem_cons.1 h with
  |inl e=>subst e;omega
  |inr e=>have:=ih e;omega
theorem length_le {H:Type} (l:List (DataW H)):l.length<=Rows.uptoBulkAll l:=by
 induction l with
 |nil=>simp[Rows.uptoBulkAll]
 |cons x r ih=>have:=one_le x;simp only[Rows.uptoBulkAll,aAd];omega
theorem DJ: Tryz.prog.cellsOf 3 =1:=by kernel_rfl
theorem Jz: Tryz.prog.cellsOf 4 =1:=by kernel_rfl
theorem Jy: Tryz.prog.cellsOf 9 =1:=by kernel_rfl
theorem DI: Tryz.prog.cellsOf 53 =1:=by kernel_rfl
theorem F2: Tryz.prog.cellsOf 55 =6:=by kernel_rfl
theorem DH: Tryz.prog.cellsOf 33 =1:=by kernel_rfl
theorem take_one {cs:List Value} {o:Nat} {v:Value} (h:(cs.drop o).take 1=[v]):cs[o]? =some v:=by
 have h1:((cs.drop o).take 1)[0]? =some v:=by rw[h];rfl
 simpa[List.getElem?_take,List.getElem?_drop] using h1
section
variable {H:Type} {enc:TypeId×Value->H} {W:World} {sp:Nat->Bool} {held:Bool} {n:Nat}
theorem fld {fs:Array Field} {xs:List (DataW H×List MemPlace)} {cs:List Value} {base:Nat} (hf:∀(i:Nat) (f:Field),fs[i]? =some f->DataW.trod enc Tryz.prog W base sp held n f.type ((cs.drop f.offset).take (Tryz.prog.cellsOf f.type))=xs[i]?)
 (hl:xs.length=fs.size) (i:Nat) (f:Field) (hi:fs[i]? =some f):∃y,y∈xs/\DataW.trod enc Tryz.prog W base sp held n f.type ((cs.drop f.offset).take (Tryz.prog.cellsOf f.type))=some y:=by
 have hlt:i<xs.length:=by rw[hl];exact (Array.getElem?_eq_some_iff.1 hi).1
 exact ⟨xs[i],List.getElem_mem hlt,(hf i f hi).trans (aAg hlt)⟩
theorem Gw {base:Nat} {cs:List Value} {o:Nat} {y:DataW H×List MemPlace} (h:DataW.trod enc Tryz.prog W base sp held n 3 ((cs.drop o).take (Tryz.prog.cellsOf 3))=some y):∃z:Int,cs[o]? =some (.int .i64 z)/\I64 z:=by
 rw[DJ]at h;obtain ⟨z,e,_,hw⟩:=DataW.trod_int Tryz.underlying3 h;exact ⟨z,take_one e,by simpa[Lit.wf,IntKind.min,IntKind.max,IntKind.signed,IntKind.bits] using hw⟩
theorem KV {base:Nat} {cs:List Value} {o:Nat} {y:DataW H×List MemPlace} (h:DataW.trod enc Tryz.prog W base sp held n 4 ((cs.drop o).take (Tryz.prog.cellsOf 4))=some y):∃z:Bool,cs[o]? =some (.bool z):=by
 rw[Jz]at h;obtain ⟨z,e,_⟩:=DataW.trod_bool Tryz.underlying4 h;exact ⟨z,take_one e⟩
theorem Gv {base:Nat} {cs:List Value} {o:Nat} {y:DataW H×List MemPlace} (h:DataW.trod enc Tryz.prog W base sp held n 9 ((cs.drop o).take (Tryz.prog.cellsOf 9))=some y):∃s:ByteArray,cs[o]? =some (.string s)/\s.size<=Rows.uptoBulk y.1:=by
 rw[Jy]at h;obtain ⟨s,e,rfl,_⟩:=DataW.trod_string Tryz.underlying9 h;refine ⟨s,take_one e,?_⟩;simp only[Rows.uptoBulk];rw[Array.length_toList,ByteArray.size_data];omega
theorem pK {xs:List (DataW H×List MemPlace)} {y:DataW H×List MemPlace} (h:y∈xs):Rows.uptoBulk y.1<=Rows.uptoBulk (.agg (xs.map (·.1))):=by
 have:=xM (List.mem_map.2 ⟨y,h,rfl⟩:y.1∈xs.map (·.1));simp only[Rows.uptoBulk];omega
end
section
variable {H:Type} {enc:TypeId×Value->H} {W:World} {sp:Nat->Bool} {held:Bool} {base:Nat}
theorem vC {α:Type} {T E:TypeId} {sz n:Nat} {cs:List Value} {x:DataW H×List MemPlace} (cells:α->List Value) (good:α->Nat->Prop) (hT: Tryz.prog.underlying T=some (.slice E)) (hE: Tryz.prog.cellsOf E=sz) (hsz:0<sz) (hlen:∀a,(cells a).length=sz)
 (elem:∀m cs y,DataW.trod enc Tryz.prog W base sp held m E cs=some y->∃a:α,(∀(j:Nat) (u:Value),(cells a)[j]? =some u->cs[j]? =some u)/\good a (Rows.uptoBulk y.1))
 (h:DataW.trod enc Tryz.prog W base sp held n T cs=some x):
 ∃(ao:Option Addr) (cap:Nat) (xs:List α),cs=[.slice ao xs.length cap]/\xs.length<=Rows.uptoBulk x.1/\(0<xs.length->∃b o,ao=some ⟨b,o,none⟩/\b<W.heap.size/\∀i a,xs[i]? =some a->∀j u,(cells a)[j]? =some u->W.cell? ⟨b,o+i*sz+j,none⟩=some u)/\∀a∈xs,∃B,B<=Rows.uptoBulk x.1/\good a B:=by
 rcases open_slice hT h with ⟨hcs,_⟩|⟨a,len,cap,m,nn,D,Pl,hcs,hb,hl,hm,hmm,hx,hi⟩
 ·exact ⟨none,0,[],hcs,Nat.zero_le _,(fun h=>absurd h (Nat.lt_irrefl 0)),(fun a h=>by cases h)⟩
 ·have hlm:len<=m:=by rw[hmm];split<;>omega
  have hd:x.1= .slice ((List.range len).map D) ((List.range (m-len)).map fun j=>D (len+j)):=congrArg Prod.fst hx;have hDi:∀i,i<len->Rows.uptoBulk (D i)<=Rows.uptoBulk x.1:=fun i hlt=>by
   rw[hd];simp only[Rows.uptoBulk];have:=xM (List.mem_map.2 ⟨i,List.mem_range.2 hlt,rfl⟩:D i∈(List.range len).map D);omega
  have hle:len<=Rows.uptoBulk x.1:=by
   rw[hd];simp only[Rows.uptoBulk];have:=length_le ((List.range len).map D);simp at this;omega
  have key:∀i:Fin len,∃o:α,(∀(j:Nat) (u:Value),(cells o)[j]? =some u->W.cell? (a.add (i*sz+j))=some u)/\good o (Rows.uptoBulk (D i)):=by
   intro ⟨i,hlt⟩;obtain ⟨cs',hc,ht⟩:=hi i (by omega);obtain ⟨o,ho,hw⟩:=elem _ _ _ ht;rw[hE]at hc;obtain ⟨_,hcl,hat⟩:=World.cells?_some hc;refine ⟨o,fun j u hj=> ?_,hw⟩;have hlt2:j<sz:=by rw[<-hlen o];exact (aAh hj).1
   rw[<-Go.Deep.add_add,hat j hlt2];exact ho j u hj
  obtain ⟨C,hC⟩:=Classical.axiomOfChoice key;have hget:∀(i:Nat) (z:α),(List.ofFn C)[i]? =some z->∃h:i<len,C ⟨i,h⟩=z:=fun i z hz=>by
   rw[List.getElem?_ofFn]at hz
   split at hz
   ·exact ⟨by assumption,aAf hz⟩
   ·cases hz
  refine ⟨some a,cap,List.ofFn C,by rw[hcs,List.length_ofFn],by rw[List.length_ofFn];exact hle,fun h0=> ?_,fun z hz=> ?_⟩
  ·rw[List.length_ofFn]at h0;obtain ⟨u0,hu0⟩:∃u0,(cells (C ⟨0,h0⟩))[0]? =some u0:=⟨_,aAg (by rw[hlen];exact hsz)⟩;have hc0:=(hC ⟨0,h0⟩).1 0 u0 hu0;obtain ⟨g,o,spn⟩:=a;have hsp:spn=none:=by
    cases spn with
    |none=>rfl
    |some k=>simp[Addr.add,World.cell?]at hc0;split at hc0<;>cases hc0
   subst hsp;refine ⟨g,o,rfl,by simpa[Addr.add] using World.block_lt_of_cell? W _ hc0,fun i z hz j u hj=> ?_⟩;obtain ⟨hlt,hz2⟩:=hget i z hz;rw[<-hz2]at hj;have q:=(hC ⟨i,hlt⟩).1 j u hj;rw[Addr.add_lit]at q;rw[Nat.add_assoc];exact q
  ·obtain ⟨i,hi2,hzi⟩:=List.getElem_of_mem hz;obtain ⟨hlt,hz2⟩:=hget i z (by rw[aAg hi2,hzi]);exact ⟨_,hDi i hlt,by rw[<-hz2];exact (hC ⟨i,hlt⟩).2⟩
theorem Ii {α:Type} {sz:Nat} {cells:α->List Value} {ao:Option Addr} {cap:Nat} {xs:List α} (h1:xs.length<=1048576) (h:0<xs.length->∃b o,ao=some ⟨b,o,none⟩/\b<W.heap.size/\∀i a,xs[i]? =some a->∀j u,(cells a)[j]? =some u->W.cell? ⟨b,o+i*sz+j,none⟩=some u):SlR W (.slice ao xs.length cap) sz xs cells:=
 ⟨ao,cap,rfl,h1,h⟩
theorem JA {cs:List Value} {a b c d e f:Value} (h0:cs[0]? =some a) (h1:cs[1]? =some b) (h2:cs[2]? =some c) (h3:cs[3]? =some d) (h4:cs[4]? =some e) (h5:cs[5]? =some f):∀(j:Nat) (u:Value),[a,b,c,d,e,f][j]? =some u->cs[j]? =some u:=by
 intro j u hj
 match j with
 |0=>obtain rfl:=aAf hj;exact h0
 |1=>obtain rfl:=aAf hj;exact h1
 |2=>obtain rfl:=aAf hj;exact h2
 |3=>obtain rfl:=aAf hj;exact h3
 |4=>obtain rfl:=aAf hj;exact h4
 |5=>obtain rfl:=aAf hj;exact h5
 |k+6=>simp at hj
theorem Jd (n:Nat) (cs:List Value) (y:DataW H×List MemPlace) (h:DataW.trod enc Tryz.prog W base sp held n 3 cs=some y):∃z:Int,(∀(j:Nat) (u:Value),(aP z)[j]? =some u->cs[j]? =some u)/\True:=by
 obtain ⟨z,e,_,hw⟩:=DataW.trod_int Tryz.underlying3 h;exact ⟨z,fun j u hj=>by rw[e];exact hj,trivial⟩
theorem E8 (n:Nat) (cs:List Value) (y:DataW H×List MemPlace) (h:DataW.trod enc Tryz.prog W base sp held n 55 cs=some y):∃m:NdM,(∀(j:Nat) (u:Value),m.cells[j]? =some u->cs[j]? =some u)/\(Rows.uptoBulk y.1<=1048576->m.Ok W):=by
 obtain ⟨xs,n1,_,rfl,_,hl,hf⟩:=DataW.trod_struct Tryz.underlying55 h;obtain ⟨y0,m0,t0⟩:=fld hf hl 0 _ rfl;obtain ⟨y1,m1,t1⟩:=fld hf hl 1 _ rfl;obtain ⟨y2,m2,t2⟩:=fld hf hl 2 _ rfl;obtain ⟨y3,m3,t3⟩:=fld hf hl 3 _ rfl;obtain ⟨y4,m4,t4⟩:=fld hf hl 4 _ rfl;obtain ⟨y5,m5,t5⟩:=fld hf hl 5 _ rfl;obtain ⟨kind,c0,w0⟩:=Gw t0;obtain ⟨key,c1,w1⟩:=Gv t1;obtain ⟨text,c2,w2⟩:=Gv t2;obtain ⟨quoted,c3⟩:=KV t3
 obtain ⟨line,c4,w4⟩:=Gw t4;change DataW.trod enc Tryz.prog W base sp held _ 53 ((cs.drop 5).take (Tryz.prog.cellsOf 53))=some y5 at t5;rw[DI]at t5;obtain ⟨ao,cap,ks,e5,hb,hm,_⟩:=vC aP (fun _ _=>True) Tryz.underlying53 DJ (by decide) (fun _=>rfl) Jd t5;have b1:=pK m1;have b2:=pK m2;have b5:=pK m5;refine ⟨⟨⟨kind,key,text,quoted,line,ks⟩,.slice ao ks.length cap⟩,JA c0 c1 c2 c3 c4 (take_one e5),fun hB=> ?_⟩
 change Rows.uptoBulk (DataW.agg (xs.map (·.1)))<=1048576 at hB;exact ⟨w0,w4,show key.size<=1048576 by omega,show text.size<=1048576 by omega,Ii (by omega) hm⟩
theorem Jt (n:Nat) (cs:List Value) (y:DataW H×List MemPlace) (h:DataW.trod enc Tryz.prog W base sp held n 33 cs=some y):∃d:DocV,(∀(j:Nat) (u:Value),d.cells[j]? =some u->cs[j]? =some u)/\(Rows.uptoBulk y.1<=1048576->Nds W d.v d.ms):=by
 obtain ⟨ao,cap,ms,e,hb,hm,hms⟩:=vC NdM.cells (fun m B=>B<=1048576->m.Ok W) Tryz.underlying33 F2 (by decide) (fun _=>rfl) E8 h;refine ⟨⟨.slice ao ms.length cap,ms⟩,fun j u hj=>by rw[e];exact hj,fun hB=>⟨Ii (by omega) hm,fun m hmm=> ?_⟩⟩;obtain ⟨B,hB2,hg⟩:=hms m hmm;exact hg (by omega)
end
theorem uE {W:World} {H:Type} {enc:TypeId×Value->H} {b0:Nat} {v:Value} {d:DataW H} {p:List MemPlace} (hv:Value.okWide Tryz.prog W .any b0 22 v) (h:DataW.Trod enc Tryz.prog W 0 (fun _=>true) true 22 v d p) (hB:Rows.uptoBulk d<=1048576):
 ∃ds:List DocV,DocsR W v ds:=by
 obtain ⟨a0,len0,cap0,rfl⟩:=okWide_slice Tryz.underlying22 hv;obtain ⟨fuel,hf⟩:=h;obtain ⟨ao,cap,ds,e1,hb1,hm1,hh⟩:=vC DocV.cells (fun d B=>B<=1048576->Nds W d.v d.ms) Tryz.underlying22 DH (by decide) (fun _=>rfl) Jt hf;have e1':[Value.slice a0 len0 cap0]=[Value.slice ao ds.length cap]:=e1;have hb1':ds.length<=Rows.uptoBulk d:=hb1;rw[(List.cons.inj e1').1];refine ⟨ds,Ii (by omega) hm1,fun x hx=> ?_⟩
 obtain ⟨B,hB2,hg⟩:=hh x hx;have hB3:B<=Rows.uptoBulk d:=hB2;exact hg (by omega)
end Go.Proofs.YtfenoaeoedobmaaGreatDoor
namespace Go.Proofs.YtfenoaeoedobmaaGreatDoor
open Go.ChangeShapes Go.WideShapes Go.ChangeAt Go.RowKit
theorem own:ownKnob Tryz.prog.godebug=none:=by kernel_rfl
theorem laidOut:laidOutB Tryz.prog=true:=by kernel_rfl
theorem gER: Tryz.prog.globalNamed "strconv.ErrRange"=some 4 :=by kernel_rfl
theorem FC:(Tryz.prog.globals[4]?).map (·.type)=some 164 :=by kernel_rfl
theorem F5: Tryz.prog.cellsOf 279 =1:=by kernel_rfl
theorem DG: Tryz.prog.cellsOf 9 =1:=by kernel_rfl
theorem star:"*"++"errors.errorString"="*errors.errorString":=by decide
theorem Ke (u:TypeId) (h: Tryz.prog.typeName? 3 u=some "*errors.errorString"):u= 277 :=
 typeName_ptr_named (nm:="errors.errorString") (by rw[star];kernel_rfl) (by kernel_rfl) (by decide) u (by rw[star];exact h)
def oV:List (String×DataW Unit):=[("math/bits.deBruijn32tab",Rows.laid_math_bits_deBruijn32tab),("math/bits.deBruijn64tab",Rows.laid_math_bits_deBruijn64tab),("internal/strconv.uint64pow10",Rows.laid_internal_strconv_uint64pow10),("strconv.ErrRange",Rows.laid_strconv_ErrRange),("strconv.ErrSyntax",Rows.laid_strconv_ErrSyntax)]
theorem rX {W:World} (h:laidMetH Tryz.prog oV W) (hs:W.ShapedOpen Tryz.prog):Glob W:=by
 have hL:laidMet Tryz.prog oV W:=h;obtain ⟨a1,s1,hv1,-,-,-⟩:=laid_sentinel hL.tail.tail.tail gER FC Tryz.underlying164 Ke Tryz.underlying277 Tryz.underlying279 rfl rfl Tryz.underlying9 F5 DG;refine ⟨?_,⟨_,by have h0:=World.var?_cell gER hv1 0;simpa using h0,Or.inr ⟨_,_,rfl⟩⟩⟩;exact cell_of_shapedOpen_int (g:= 1) (t:= 3) (zero:=#[.int .i64 0]) (k:= .i64) hs (of_decide_eq_true (by kernel_rfl)) (by kernel_rfl) (by kernel_rfl) (by kernel_rfl) (by kernel_rfl) Tryz.underlying3
abbrev synS:ByteArray:={data:=#[105,110,118,97,108,105,100,32,115,121,110,116,97,120]}
abbrev rngS:ByteArray:={data:=#[118,97,108,117,101,32,111,117,116,32,111,102,32,114,97,110,103,101]}
noncomputable def low:Nat:=(World.holding Tryz.prog default ⟨#[],#[],[]⟩).heap.size
def BW (cs:Array Value):Obj->Obj
 | .cells _ t frozen=> .cells cs t frozen
 |o=>o
def litV:Lit->Value
 | .int k n=> .int k n
 | .bool b=> .bool b
 |_=>undef
def yk:Nat->DataW Unit->List Value
 |0,_=>[]
 |_+1,.lit l=>[litV l]
 |n+1,.agg l=>l.flatMap (yk n)
 |_+1,_=>[]
noncomputable def mo (os:Os):World:=
 let w0:=World.holding Tryz.prog os ⟨#[.cells #[.string synS] 279,.cells #[.string rngS] 279],#[],[]⟩
 {w0 with heap:=(((((w0.heap.modify 3 (BW #[.iface 277 (.pointer (some ⟨low,0,none⟩))])).modify 4 (BW #[.iface 277 (.pointer (some ⟨low+1,0,none⟩))])).modify 2 (BW (yk 4 Rows.laid_internal_strconv_uint64pow10).toArray)).modify 5 (BW (yk 4 Rows.laid_math_bits_deBruijn32tab).toArray)).modify 6 (BW (yk 4 Rows.laid_math_bits_deBruijn64tab).toArray))}
theorem CI (os:Os) (args:Array Value):laidMet Tryz.prog oV ((mo os).forCall (fun _ _=>0) ⟨#[],args,[]⟩).memory:=
 laidMet_of_run' 8 (by kernel_rfl) (by kernel_rfl)
