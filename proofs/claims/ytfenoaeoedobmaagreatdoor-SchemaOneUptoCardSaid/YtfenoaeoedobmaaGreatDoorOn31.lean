/-
Parts of a proof.
-/
import Derived.StillTailTactics
import Derived.Test.YtfenoaeoedobmaaGreatDoorOn30
set_option linter.unusedVariables false
set_option linter.unusedSimpArgs false
set_option maxHeartbeats 4000000
set_option maxRecDepth 20000
namespace Go.Proofs.YtfenoaeoedobmaaGreatDoor
open Go Go.RowKit
def Dw (ns:List Nd) (m:Nd) (r:Res) (k:Nat):R Res:=if k=1 then dX ns m r else if k=2 then iu ns m r else if k=3 then gH ns m r else eV ns m r
def Cm (db:Nat):Array Value:=#[.nilFunc,.func (.func 47) #[.pointer (some ⟨db,0,none⟩)] #[],.func (.func 48) #[.pointer (some ⟨db,0,none⟩)] #[],.func (.func 49) #[.pointer (some ⟨db,0,none⟩)] #[],.func (.func 50) #[.pointer (some ⟨db,0,none⟩)] #[]]
def GP (k:Nat):Nat:=if k=1 then 47 else if k=2 then 48 else if k=3 then 49 else 50
theorem Xa {w0 w:World} {db b o cap n k:Nat} {ms:List NdM} {m:NdM} {kd:Int} {nm:ByteArray} {dl:Bool} (h:DocB w0 w db b o cap ms) (hm:m∈ms) (hrb:w0.heap.size<=n) (hne:n≠db) (eP:1<=k) (ue:k<=4)
 (bg:w.heap[n]? =some (.cells #[.int .i64 kd,.string nm,.slice none 0 0,.slice none 0 0,.string ⟨#[]⟩,.slice none 0 0,.string ⟨#[]⟩,.bool dl] 49 (0,0))):
 Calls Tryz.prog (GP k) #[.pointer (some ⟨db,0,none⟩),m.v,.pointer (some ⟨n,0,none⟩)] w (eO w n (Dw (nds ms) m.nd ⟨kd,nm,[],[],⟨#[]⟩,[],⟨#[]⟩,dl⟩ k)):=by
 match k,eP,ue with
 |1,_,_=>exact (Jp w0 w db b o cap ms h m hm n hrb hne kd nm _ _ _ _ dl bg).mono fun e w' he=>Bp he
 |2,_,_=>exact (Rc w0 w db b o cap ms h m hm n hrb hne kd nm _ _ _ _ dl bg).mono fun e w' he=>Gf he
 |3,_,_=>exact Rv w0 w db b o cap ms h m hm n hrb hne kd nm dl bg
 |4,_,_=>exact Nh w0 w db b o cap ms h m hm n hrb hne kd nm dl bg
theorem Rw (k db:Nat) (eP:1<=k) (ue:k<=4):(Cm db)[k]? =some (.func (.func (GP k)) #[.pointer (some ⟨db,0,none⟩)] #[]):=by
 match k,eP,ue with
 |1,_,_=>rfl
 |2,_,_=>rfl
 |3,_,_=>rfl
 |4,_,_=>rfl
theorem JC {w:World} {lo lo' rb:Nat} {r:Res} (h:Qb w lo rb r) (hl:lo'<=lo):Qb w lo' rb r:=by
 obtain ⟨ev,tv,rv,h1,h2⟩:=h;exact ⟨ev,tv,rv,h1,h2.down hl⟩
section
variable {w0 w:World} {Q:Exit->Act->World->Prop} {a:Act} {ms:List NdM} {n db kb qb gb b o cap k:Nat} {m0 mk:NdM} {rs:Res}
theorem rd_f (X:Code) (hf:RdD a n db kb) (h:RdW w0 w n db kb b o cap ms m0 ⟨(k:Int),rs.name,[],[],⟨#[]⟩,[],⟨#[]⟩,false⟩) (eP:1<=k) (ue:k<=4)
 (bad:∀e a' w',Dw (nds ms) m0.nd ⟨(k:Int),rs.name,[],[],⟨#[]⟩,[],⟨#[]⟩,false⟩ k= .error e->RdB a' n->RdE w0 w' n->Q (.panic (jl e)) a' w')
 (ok:∀a' w' r,Dw (nds ms) m0.nd ⟨(k:Int),rs.name,[],[],⟨#[]⟩,[],⟨#[]⟩,false⟩ k= .ok r->RdB a' n->Below w0.heap.size w0 w'->Qb w' (n+1+1+1) n r->w'.heap[n+1]? =some (.cells #[.int .i64 0] 3 (0,0))->w'.heap[n+1+1]? =some (.cells #[.int .i64 0] 25 (0,0))->X.wp Tryz.prog Q a' w'):
 (Code.seq VG (Code.seq VF X)).wp Tryz.prog Q a w:=by
 have hM:=h.doc.toM;have gn:=hM.ok h.hm;obtain ⟨ay,cy,cT,_,_⟩:=aL gn.kids;obtain ⟨qy,fM⟩:=ex (m0.nd.kids.length);rw[<-fM]at cT;have BG:=hid cT;have hmf:∀(fn:Fn) (first cap:Array Value) (w:World),(Instr.makeFunc fn first cap).run Tryz.prog w= .ok (.func fn first cap) w:=fun _ _ _ _=>rfl;have X5:∀(W:World) (a:Addr),(store a .nilFunc).run Tryz.prog W=stored Tryz.prog W a .nilFunc .plain:=fun W a=>run_store _ W a _ _ rfl
 have hsf:∀(W:World) (a:Addr) (fn:Fn) (f c:Array Value),(store a (.func fn f c)).run Tryz.prog W=stored Tryz.prog W a (.func fn f c) .plain:=fun W a fn f c=>run_store _ W a _ _ rfl;have Hc:=hid (fun w3 (h3:RdW w0 w3 n db kb b o cap ms m0 ⟨(k:Int),rs.name,[],[],⟨#[]⟩,[],⟨#[]⟩,false⟩)=>Xa h3.doc h3.hm (by rw[h3.nn];exact aBh _) (by have:=h3.ndb;omega) eP ue h3.res);rw[bA cT]at Hc;have Hra:=hid (Rw k db eP ue)
 have HW:=hid h;have aG:=hid bad;have bh:=hid ok;generalize Dw (nds ms) m0.nd ⟨(k:Int),rs.name,[],[],⟨#[]⟩,[],⟨#[]⟩,false⟩ k=dx at*;obtain ⟨vv,rfl,eE⟩:=hf.shape;simp only[lB,eE];clear eE;clear hf bad ok h hM gn cT fM;dsimp only[VG,VF,jC,cm,ncl,ncr,ncx,Tryz.f21]
 go_wp2_with fail
 have bG:=(aBi w.heap.size w).alloc (aBh _) (.cells (Cm db) 96);have oB:=ag (w:=w) (.cells (Cm db) 96);change Code.wp _ _ _ _ (w.alloc (.cells (Cm db) 96));obtain ⟨ab,Yg⟩:=ex (w.heap.size);rw[<-Yg]at oB |-;generalize w.alloc (.cells (Cm db) 96)=w1 at*
 have Ts:=hid (HW.o.later bG);obtain ⟨k0,k1,k2,k3,k4,k5⟩:=bm Ts.o.kid BG.o;have r0:=aa Ts.o.res 0;have ra:=aa oB k;have rb:w1.cell? ⟨ab,k,none⟩=some (.func (.func (GP k)) #[.pointer (some ⟨db,0,none⟩)] #[]):=ra.trans Hra.o;unfold bV at r0;simp at r0;have hk5:k<5:=by omega
 clear Yg bG oB ra HW;have hF:GP k=if k=1 then 47 else if k=2 then 48 else if k=3 then 49 else 50 :=rfl
 rw[hF]at rb Hc;clear hF Hra;rcases (show k=1\/k=2\/k=3\/k=4 by omega) with rfl|rfl|rfl|rfl
 all_goals
  simp at rb r0;clear eP ue hk5
  go_still_tail 5,(by kernel_rfl)
 all_goals
  change wpList _ _ _ _ _ w1.drew
 all_goals
  go_wp2_with fail
  have XL:=Ts.o.drewN 1;refine (Hc.o _ XL).mono ?_;intro r w4 hp;have Wy:=XL.doc.step (F:=fun k=>k=n) hp.2 (fun e=>by have:=XL.ndb;omega) (fun k e=>by rw[e,XL.nn];exact aBh _);have Wq:=hp.2.heap XL.lin (by omega);have he4:=hp.2.heap XL.err (by omega);clear XL;cases dx with
  |error e=>
   obtain ⟨⟨rfl,r2,ev,tv,rv,hb⟩,hm⟩:=hp;exact aG.o e _ _ rfl ⟨rfl,rfl,rfl,rfl,rfl⟩ ⟨Wy.below,⟨r2,ev,tv,rv,hb⟩,Wq,he4,Ts.o.nn⟩
  |ok rr=>
   obtain ⟨⟨rfl,hb⟩,hm⟩:=hp;have hb:=JC (lo':=n+1+1+1) hb (by have:=af Ts.o.err;show n+1+1+1<=w1.heap.size;omega);have HF:=hid (⟨Wy,Wq,he4,hb⟩:_/\_/\_/\_);clear Wy Wq he4 hb hm aG;go_wp2;exact bh.o _ _ rr rfl ⟨rfl,rfl,rfl,rfl,rfl⟩ HF.o.1.below HF.o.2.2.2 HF.o.2.1 HF.o.2.2.1
end
noncomputable def rdx:Code:=nct (ncr (ncr nk))
noncomputable def VH:Code:=ncl (ncl rdx)
noncomputable def EO:Code:=ncr (ncl rdx)
noncomputable def M5:Code:=ncl (ncr rdx)
noncomputable def Cn:Code:=ncr (ncr rdx)
structure RdV (a:Act) (n db kb f vb:Nat) (o:Nat):Prop where
 d:RdD a n db kb
 s9:a.tmps[9]? =some (.pointer (some ⟨f,o,none⟩))
 s10:a.tmps[10]? =some (.pointer (some ⟨vb,0,none⟩))
theorem RdV.shape {a:Act} {n db kb f vb o:Nat} (h:RdV a n db kb f vb o):∃v:Nat->Value,a=lB n v/\v 2= .pointer (some ⟨n,0,none⟩)/\v 3= .pointer (some ⟨n+1,0,none⟩)/\v 4= .pointer (some ⟨n+1+1,0,none⟩)/\v 5= .pointer (some ⟨db,0,none⟩)/\v 6= .pointer (some ⟨kb,0,none⟩)/\v 9= .pointer (some ⟨f,o,none⟩)/\v 10= .pointer (some ⟨vb,0,none⟩):=by
 obtain ⟨v,hv,hd⟩:=wm n a h.d.size h.d.dfr;exact ⟨v,hd,hv 2 _ h.d.s2,hv 3 _ h.d.s3,hv 4 _ h.d.s4,hv 5 _ h.d.s5,hv 6 _ h.d.s6,hv 9 _ h.s9,hv 10 _ h.s10⟩
structure RdP (a:Act) (n db kb f:Nat) (o:Nat):Prop where
 d:RdD a n db kb
 s9:a.tmps[9]? =some (.pointer (some ⟨f,o,none⟩))
theorem RdP.shape {a:Act} {n db kb f o:Nat} (h:RdP a n db kb f o):∃v:Nat->Value,a=lB n v/\v 2= .pointer (some ⟨n,0,none⟩)/\v 3= .pointer (some ⟨n+1,0,none⟩)/\v 4= .pointer (some ⟨n+1+1,0,none⟩)/\v 5= .pointer (some ⟨db,0,none⟩)/\v 6= .pointer (some ⟨kb,0,none⟩)/\v 9= .pointer (some ⟨f,o,none⟩):=by
 obtain ⟨v,hv,hd⟩:=wm n a h.d.size h.d.dfr;exact ⟨v,hd,hv 2 _ h.d.s2,hv 3 _ h.d.s3,hv 4 _ h.d.s4,hv 5 _ h.d.s5,hv 6 _ h.d.s6,hv 9 _ h.s9⟩
section
variable {w0 w:World} {Q:Exit->Act->World->Prop} {a:Act} {ms:List NdM} {n db kb qb gb b o cap k:Nat} {m0 mk:NdM} {rs:Res}
theorem Y3 (X:Code) (hf:RdD a n db kb) (h:RdW w0 w n db kb b o cap ms m0 rs)
 (eh:bH (nds ms) m0.nd bu=none)
 (ok:∀a' w',RdD a' n db kb->RdW w0 w' n db kb b o cap ms m0 rs->X.wp Tryz.prog Q a' w'):(Code.seq nk X).wp Tryz.prog Q a w:=by
 have hM:=h.doc.toM;have gn:=hM.ok h.hm;obtain ⟨ay,cy,cT,_,_⟩:=aL gn.kids;obtain ⟨qy,fM⟩:=ex (m0.nd.kids.length);rw[<-fM]at cT;have Hf:=hid (oD w db b o cap ms hM m0 h.hm bu);rw[bA cT,eh]at Hf;have C1:fO b o none= .pointer none:=rfl;rw[C1]at Hf;unfold bu at Hf;obtain ⟨k0,k1,k2,k3,k4,k5⟩:=bm h.kid cT;have HW:=hid h;have bh:=hid ok;obtain ⟨vv,rfl,eE⟩:=hf.shape
 simp only[lB,eE];clear eE;clear hf ok h hM gn cT fM eh C1;dsimp only[nk,cm,ncl,ncr,ncx,Tryz.f21]
 go_wp2_with fail
 refine Hf.o.mono ?_;rintro r w3 ⟨rfl,aV⟩;have uw:=hid (HW.o.later aV);clear aV Hf HW;go_wp2;exact bh.o _ _ ⟨rfl,rfl,rfl,rfl,rfl,rfl,rfl⟩ uw.o
def Tj (w:World) (vb:Nat) (v:Val):Prop:=w.heap[vb]? =some (.cells #[.int .i64 v.kind,.bool v.bool,.int .i64 v.int,.float .f64 v.real,.string v.text] 91 (0,0))
theorem xa {w3:World} {b o2 o3:Nat} {t:ByteArray} {q:Bool} (h2:w3.cell? ⟨b,o2,none⟩=some (.string t)) (h3:w3.cell? ⟨b,o3,none⟩=some (.bool q)):Below w3.heap.size w3 w3.drew/\w3.drew.cell? ⟨b,o2,none⟩=some (.string t)/\w3.drew.cell? ⟨b,o3,none⟩=some (.bool q):=⟨(aBi _ _).drew,h2,h3⟩
theorem N8 {w3 w':World} {b o2 o3:Nat} {t:ByteArray} {q:Bool} (h:Below w3.heap.size w3 w'/\w'.cell? ⟨b,o2,none⟩=some (.string t)/\w'.cell? ⟨b,o3,none⟩=some (.bool q)):Below w3.heap.size w3 w':=h.1
theorem u7 {w3 w' w4:World} {b o2 o3:Nat} {t:ByteArray} {q:Bool} (h:Below w3.heap.size w3 w'/\w'.cell? ⟨b,o2,none⟩=some (.string t)/\w'.cell? ⟨b,o3,none⟩=some (.bool q)) (hb:Below w'.heap.size w' w4):Below w3.heap.size w3 w4/\w4.cell? ⟨b,o2,none⟩=some (.string t)/\w4.cell? ⟨b,o3,none⟩=some (.bool q):=
 ⟨h.1.trans (hb.mono h.1.size),(hb.cell (eW h.2.1)).trans h.2.1,(hb.cell (eW h.2.2)).trans h.2.2⟩
theorem qH {w3 w':World} {b o2 o3:Nat} {t:ByteArray} {q:Bool} (h:Below w3.heap.size w3 w'/\w'.cell? ⟨b,o2,none⟩=some (.string t)/\w'.cell? ⟨b,o3,none⟩=some (.bool q)) (ob:Obj):Below w3.heap.size w3 (w'.alloc ob)/\(w'.alloc ob).cell? ⟨b,o2,none⟩=some (.string t)/\(w'.alloc ob).cell? ⟨b,o3,none⟩=some (.bool q):=
 u7 h ((aBi _ _).alloc (aBh _) ob)
theorem Ee {w w4:World} {c0 c1 c2 c3 c4:Value} {T:TypeId} (hb:Below (w.alloc (.cells #[c0,c1,c2,c3,c4] T)).drew.heap.size (w.alloc (.cells #[c0,c1,c2,c3,c4] T)).drew w4):
 w4.cell? ⟨w.heap.size,0,none⟩=some c0/\w4.cell? ⟨w.heap.size,1,none⟩=some c1/\w4.cell? ⟨w.heap.size,2,none⟩=some c2/\w4.cell? ⟨w.heap.size,3,none⟩=some c3/\w4.cell? ⟨w.heap.size,4,none⟩=some c4/\∀j,w4.frozen? ⟨w.heap.size,j,none⟩=false:=by
 have h:=(hb.block _ (af (ag (w:=w) _))).trans (ag (w:=w) _);exact ⟨aa h 0,aa h 1,aa h 2,aa h 3,aa h 4,fun j=>ah h j⟩
theorem IZ {w w4:World} {c0 c1 c2 c3 c4:Value} {T:TypeId} {G:Prop} (hb:Below (w.alloc (.cells #[c0,c1,c2,c3,c4] T)).drew.heap.size (w.alloc (.cells #[c0,c1,c2,c3,c4] T)).drew w4)
 (h:w4.cell? ⟨w.heap.size,0,none⟩=some c0->w4.cell? ⟨w.heap.size,1,none⟩=some c1->w4.cell? ⟨w.heap.size,2,none⟩=some c2->w4.cell? ⟨w.heap.size,3,none⟩=some c3->w4.cell? ⟨w.heap.size,4,none⟩=some c4->(∀j,w4.frozen? ⟨w.heap.size,j,none⟩=false)->G):G:=by
 obtain ⟨z0,z1,z2,z3,z4,zf⟩:=Ee hb;exact h z0 z1 z2 z3 z4 zf
theorem TN {w3:World} {b o2 o3:Nat} {t:ByteArray} {q:Bool} (h2:w3.cell? ⟨b,o2,none⟩=some (.string t)) (h3:w3.cell? ⟨b,o3,none⟩=some (.bool q)) (ob:Obj):Below w3.heap.size w3 (w3.alloc ob).drew/\(w3.alloc ob).drew.cell? ⟨b,o2,none⟩=some (.string t)/\(w3.alloc ob).drew.cell? ⟨b,o3,none⟩=some (.bool q):=
 ⟨(qH ⟨aBi _ _,h2,h3⟩ ob).1.drew,(qH ⟨aBi _ _,h2,h3⟩ ob).2.1,(qH ⟨aBi _ _,h2,h3⟩ ob).2.2⟩
theorem Zi {w3 w4:World} {b o2 o3:Nat} {t:ByteArray} {q:Bool} (h2:w3.cell? ⟨b,o2,none⟩=some (.string t)) (h3:w3.cell? ⟨b,o3,none⟩=some (.bool q)) (hb:Below w3.drew.heap.size w3.drew w4):Below w3.heap.size w3 w4/\w4.cell? ⟨b,o2,none⟩=some (.string t)/\w4.cell? ⟨b,o3,none⟩=some (.bool q):=u7 (xa h2 h3) hb
theorem TK {w3 w4:World} {b o2 o3:Nat} {t:ByteArray} {q:Bool} {ob:Obj} (h2:w3.cell? ⟨b,o2,none⟩=some (.string t)) (h3:w3.cell? ⟨b,o3,none⟩=some (.bool q)) (hb:Below (w3.alloc ob).drew.heap.size (w3.alloc ob).drew w4):Below w3.heap.size w3 w4/\w4.cell? ⟨b,o2,none⟩=some (.string t)/\w4.cell? ⟨b,o3,none⟩=some (.bool q):=u7 (TN h2 h3 ob) hb
theorem TM {w3 w4:World} {b o2 o3:Nat} {t:ByteArray} {q:Bool} (h2:w3.cell? ⟨b,o2,none⟩=some (.string t)) (h3:w3.cell? ⟨b,o3,none⟩=some (.bool q)) (hb:Below w3.drew.heap.size w3.drew w4) (ob:Obj):
 Below w3.heap.size w3 (w4.alloc ob)/\(w4.alloc ob).cell? ⟨b,o2,none⟩=some (.string t)/\(w4.alloc ob).cell? ⟨b,o3,none⟩=some (.bool q):=
 qH (u7 (xa h2 h3) hb) ob
theorem TL {w3 w4:World} {b o2 o3:Nat} {t:ByteArray} {q:Bool} {ob:Obj} {v0 v1 v2 v3 v4:Value} (h2:w3.cell? ⟨b,o2,none⟩=some (.string t)) (h3:w3.cell? ⟨b,o3,none⟩=some (.bool q)) (hb:Below (w3.alloc ob).drew.heap.size (w3.alloc ob).drew w4):
 Below w3.heap.size w3 (((((w4.setCell ⟨w3.heap.size,0,none⟩ v0).setCell ⟨w3.heap.size,1,none⟩ v1).setCell ⟨w3.heap.size,2,none⟩ v2).setCell ⟨w3.heap.size,3,none⟩ v3).setCell ⟨w3.heap.size,4,none⟩ v4)/\
 (((((w4.setCell ⟨w3.heap.size,0,none⟩ v0).setCell ⟨w3.heap.size,1,none⟩ v1).setCell ⟨w3.heap.size,2,none⟩ v2).setCell ⟨w3.heap.size,3,none⟩ v3).setCell ⟨w3.heap.size,4,none⟩ v4).cell? ⟨b,o2,none⟩=some (.string t)/\
 (((((w4.setCell ⟨w3.heap.size,0,none⟩ v0).setCell ⟨w3.heap.size,1,none⟩ v1).setCell ⟨w3.heap.size,2,none⟩ v2).setCell ⟨w3.heap.size,3,none⟩ v3).setCell ⟨w3.heap.size,4,none⟩ v4).cell? ⟨b,o3,none⟩=some (.bool q):=by
 have h:=TK h2 h3 hb;have hB:Below w3.heap.size w3 (((((w4.setCell ⟨w3.heap.size,0,none⟩ v0).setCell ⟨w3.heap.size,1,none⟩ v1).setCell ⟨w3.heap.size,2,none⟩ v2).setCell ⟨w3.heap.size,3,none⟩ v3).setCell ⟨w3.heap.size,4,none⟩ v4):=
  ((((h.1.setCell (p:=⟨w3.heap.size,0,none⟩) (aBh _) v0).setCell (p:=⟨w3.heap.size,1,none⟩) (aBh _) v1).setCell (p:=⟨w3.heap.size,2,none⟩) (aBh _) v2).setCell (p:=⟨w3.heap.size,3,none⟩) (aBh _) v3).setCell (p:=⟨w3.heap.size,4,none⟩) (aBh _) v4
 exact ⟨hB,(hB.cell (eW h2)).trans h2,(hB.cell (eW h3)).trans h3⟩
theorem UD {w3 w4:World} {c0 c1 c2 c3 c4:Value} {v0 v1 v2 v3 v4:Value} {T:TypeId} (hb:Below (w3.alloc (.cells #[c0,c1,c2,c3,c4] T)).drew.heap.size (w3.alloc (.cells #[c0,c1,c2,c3,c4] T)).drew w4):
 (((((w4.setCell ⟨w3.heap.size,0,none⟩ v0).setCell ⟨w3.heap.size,1,none⟩ v1).setCell ⟨w3.heap.size,2,none⟩ v2).setCell ⟨w3.heap.size,3,none⟩ v3).setCell ⟨w3.heap.size,4,none⟩ v4).heap[w3.heap.size]? =some (.cells #[v0,v1,v2,v3,v4] T (0,0)):=by
 have h:w4.heap[w3.heap.size]? =some (.cells #[c0,c1,c2,c3,c4] T (0,0)):=(hb.block _ (af (ag (w:=w3) _))).trans (ag (w:=w3) _);have g0:=aI h 0 v0;have g1:=aI g0 1 v1;have g2:=aI g1 2 v2;have g3:=aI g2 3 v3;have g4:=aI g3 4 v4;exact g4
noncomputable def TG:Code:=ncl nk
noncomputable def TF:Code:=ncl (ncr nk)
theorem Y2 (X:Code) (hf:RdD a n db kb) (h:RdW w0 w n db kb b o cap ms m0 rs)
 (eh:bH (nds ms) m0.nd bu=some k)
 (ok:∀Q1 a' w',(∀ch a w,Q (.panic ch) a w->Q1 (.panic ch) a w)->(∀a w,Q .ret a w->Q1 .ret a w)->RdP a' n db kb b (o+k*6)->RdW w0 w' n db kb b o cap ms m0 rs->rdx.wp Tryz.prog Q1 a' w'):(Code.seq nk X).wp Tryz.prog Q a w:=by
 have hM:=h.doc.toM;have gn:=hM.ok h.hm;obtain ⟨ay,cy,cT,_,_⟩:=aL gn.kids;obtain ⟨qy,fM⟩:=ex (m0.nd.kids.length);rw[<-fM]at cT;have Hf:=hid (oD w db b o cap ms hM m0 h.hm bu);rw[bA cT,eh]at Hf;have C1:fO b o (some k)= .pointer (some ⟨b,o+k*6,none⟩):=rfl;rw[C1]at Hf;unfold bu at Hf;obtain ⟨k0,k1,k2,k3,k4,k5⟩:=bm h.kid cT;have HW:=hid h;have bh:=hid ok
 obtain ⟨vv,rfl,eE⟩:=hf.shape;simp only[lB,eE];clear eE;clear hf ok h hM gn cT fM eh C1
 show (Code.seq (Code.seq TG (Code.seq TF (Code.cond (.tmp 57) rdx .skip))) X).wp _ _ _ _
 dsimp only[nk,cm,ncb,nce,ncl,nco,ncr,ncs,nct,ncx,TG,TF,Tryz.f21]
 go_wp2_with fail
 refine Hf.o.mono ?_;rintro r w3 ⟨rfl,aV⟩;have uw:=hid (HW.o.later aV);clear aV Hf HW
 go_wp2_with fail
 exact bh.o _ _ _ (fun ch a w h=>h) (fun a w h=>h) ⟨⟨rfl,rfl,rfl,rfl,rfl,rfl,rfl⟩,rfl⟩ uw.o
theorem Y1 (Y:Code) (hf:RdP a n db kb b (o+k*6)) (h:RdW w0 w n db kb b o cap ms m0 rs) (hk:ms[k]? =some mk)
 (ok:∀a' w' vb,RdV a' n db kb b vb (o+k*6)->RdW w0 w' n db kb b o cap ms m0 rs->Tj w' vb (aZ mk.nd.text mk.nd.quoted)->Y.wp Tryz.prog Q a' w'):(Code.seq VH Y).wp Tryz.prog Q a w:=by
 have hM:=h.doc.toM;have c:=(hM.at hk).1;have gA:=(hM.at hk).2.text;have x2:=c.c2;have x3:=c.c3;have cw:= @kA;have HW:=hid h;have Hr3:=hid (fun w1 (bG:Below w.heap.size w w1)=>se w1 mk.nd.text (by omega) mk.nd.quoted (h.doc.g.later bG).rng);unfold rG at Hr3;unfold Tj at ok;have zm:=wh mk.nd.text mk.nd.quoted;generalize aZ mk.nd.text mk.nd.quoted=rv at*;obtain ⟨vk,vbl,vi,vr,vt⟩:=rv
 unfold Val.v b8 at Hr3;simp only at zm Hr3 ok;have bh:=hid ok;obtain ⟨vv,rfl,eE⟩:=hf.shape;simp only[lB,eE];clear eE;clear hf ok h hM c gA hk;dsimp only[nk,cm,ncb,nce,ncl,nco,ncr,ncs,nct,ncx,VH,rdx,Tryz.f21]
 go_wp2_with fail
 refine jR ?_;have hK0:=xa (w3:=w) x2 x3
 go_region_held3 (fun w'=>Below w.heap.size w w'/\w'.cell? ⟨b,o+k*6+2,none⟩=some (.string mk.nd.text)/\w'.cell? ⟨b,o+k*6+3,none⟩=some (.bool mk.nd.quoted)) (first|exact hK0|with_reducible exact TN x2 x3 _|with_reducible exact Zi x2 x3 bX|with_reducible exact TK x2 x3 bX|with_reducible exact TM x2 x3 bX _|with_reducible exact TL x2 x3 bX)
  (first|(go_at_call 44;refine (Hr3.o _ ?_).mono ?_;(refine N8 (b:=b) (o2:=o+k*6+2) (o3:=o+k*6+3) (t:=mk.nd.text) (q:=mk.nd.quoted) ?_;assumption);rintro r w4 ⟨rfl,bX⟩;try (refine IZ bX ?_;intro z0 z1 z2 z3 z4 zf)))
 all_goals go_wp2_with fail
 ·refine bh.o _ _ _ ⟨⟨rfl,rfl,rfl,rfl,rfl,rfl,rfl⟩,rfl,rfl⟩ ?_ ?_
  ·exact HW.o.later (TM x2 x3 bX _).1
  ·exact ag _
 ·refine bh.o _ _ _ ⟨⟨rfl,rfl,rfl,rfl,rfl,rfl,rfl⟩,rfl,rfl⟩ ?_ ?_
  ·exact HW.o.later (TL x2 x3 bX).1
  ·exact UD bX
end
section
variable {w0 w:World} {Q:Exit->Act->World->Prop} {a:Act} {ms:List NdM} {n db kb qb gb b o cap k vb:Nat} {m0 mk:NdM} {rs:Res}
theorem CO {m:Nd} (h:¬m.kind=1):isTrue m=false:=by
 unfold isTrue;rw[dF (fun q=>h q.1)];rfl
theorem Ku {m:Nd} (h:m.kind=1):isTrue m=(decide ((aZ m.text m.quoted).kind=2)&&(aZ m.text m.quoted).bool):=by
 unfold isTrue;by_cases e:(aZ m.text m.quoted).kind=2
 ·rw[dT ⟨h,e⟩,dT e]
 ·rw[dF (fun q=>e q.2),dF e]
theorem Y0 (hf:RdV a n db kb b vb (o+k*6)) (h:RdW w0 w n db kb b o cap ms m0 rs) (hk:ms[k]? =some mk) (hv:Tj w vb (aZ mk.nd.text mk.nd.quoted))
 (bad:∀a' w',isTrue mk.nd=false->RdB a' n->RdE w0 w' n->Q (.panic (jl (mk.nd.line,123))) a' w')
 (ok:∀a' w',isTrue mk.nd=true->RdD a' n db kb->RdW w0 w' n db kb b o cap ms m0 rs->Q .normal a' w'):EO.wp Tryz.prog Q a w:=by
 have hM:=h.doc.toM;have c:=(hM.at hk).1;have x0:=c.c0;have x4:=c.c4;have HW:=hid h;have ZU:¬mk.nd.kind=1->isTrue mk.nd=false:=CO;have vl:mk.nd.kind=1->isTrue mk.nd=(decide ((aZ mk.nd.text mk.nd.quoted).kind=2)&&(aZ mk.nd.text mk.nd.quoted).bool):=Ku;have Ls:=hid (fun w3 l e=>lg w3 l e);unfold Tj at hv;generalize isTrue mk.nd=it at*;generalize aZ mk.nd.text mk.nd.quoted=rv at*
 obtain ⟨vk,vbl,vi,vr,vt⟩:=rv;simp only at hv vl;obtain ⟨y0,y1⟩:=cB2 hv;simp at y0 y1;generalize mk.nd.kind=kd at*;have bh:=hid ok;have aG:=hid bad;obtain ⟨vv,rfl,eE⟩:=hf.shape;simp only[lB,eE];clear eE;clear hf ok bad h hM c hk hv;by_cases gu:kd=1
 ·have KL:=vl gu;subst gu;clear ZU vl;by_cases eZ:vk=2
  ·subst eZ;simp only[decide_true]at KL;cases vbl with
   |true=>
    have HO:=hid (fun a' w'=>bh.o a' w' KL);clear KL bh aG Ls;dsimp only[nk,cm,ncb,nce,ncl,nco,ncr,ncs,nct,ncx,EO,rdx,Tryz.f21];go_wp2;exact HO.o _ _ ⟨rfl,rfl,rfl,rfl,rfl,rfl,rfl⟩ HW.o
   |false=>
    have HB:=hid (fun a' w'=>aG.o a' w' KL);clear KL bh aG;dsimp only[nk,cm,ncb,nce,ncl,nco,ncr,ncs,nct,ncx,EO,rdx,Tryz.f21]
    go_wp2_with fail
    refine (Ls.o _ _ _).mono ?_;rintro r w3 ⟨rfl,rfl⟩;exact HB.o _ _ ⟨rfl,rfl,rfl,rfl,rfl⟩ HW.o.toE
  ·rw[dF eZ]at KL;have HB:=hid (fun a' w'=>aG.o a' w' KL);clear KL bh aG;dsimp only[nk,cm,ncb,nce,ncl,nco,ncr,ncs,nct,ncx,EO,rdx,Tryz.f21]
   go_wp2_with fail
   refine (Ls.o _ _ _).mono ?_;rintro r w3 ⟨rfl,rfl⟩;exact HB.o _ _ ⟨rfl,rfl,rfl,rfl,rfl⟩ HW.o.toE
 ·have KL:=ZU gu;have HB:=hid (fun a' w'=>aG.o a' w' KL);clear ZU vl KL bh aG;dsimp only[nk,cm,ncb,nce,ncl,nco,ncr,ncs,nct,ncx,EO,rdx,Tryz.f21]
  go_wp2_with fail
  refine (Ls.o _ _ _).mono ?_;rintro r w3 ⟨rfl,rfl⟩;exact HB.o _ _ ⟨rfl,rfl,rfl,rfl,rfl⟩ HW.o.toE
theorem YM (w:World) (x y z:ByteArray):SlR (w.alloc (.cells #[.string x,.string y,.string z] 9)) (.slice (some ⟨w.heap.size,0,none⟩) 3 3) 1 [x,y,z] bc:=by
 refine ⟨_,_,rfl,by simp,fun _=>⟨_,_,rfl,by simp,?_⟩⟩;intro i s hi j u hj;have hn:=ag (w:=w) (.cells #[.string x,.string y,.string z] 9);rw[aa hn]
 match i,j,hi,hj with
 |0,0,hi,hj=>cases hi;cases hj;rfl
 |1,0,hi,hj=>cases hi;cases hj;rfl
 |2,0,hi,hj=>cases hi;cases hj;rfl
theorem YZ (Y:Code) (hf:RdD a n db kb) (h:RdW w0 w n db kb b o cap ms m0 rs)
 (bad:∀e a' w',bE (nds ms) [kKind,bJ,bu] m0.nd.kids= .error e->RdB a' n->RdE w0 w' n->Q (.panic (jl e)) a' w')
 (ok:∀a' w',bE (nds ms) [kKind,bJ,bu] m0.nd.kids= .ok ()->RdD a' n db kb->RdW w0 w' n db kb b o cap ms m0 rs->Y.wp Tryz.prog Q a' w'):(Code.seq M5 Y).wp Tryz.prog Q a w:=by
 have hM:=h.doc.toM;have gn:=hM.ok h.hm;obtain ⟨ay,cy,cT,_,_⟩:=aL gn.kids;obtain ⟨qy,fM⟩:=ex (m0.nd.kids.length);rw[<-fM]at cT;have bG:=(aBi w.heap.size w).alloc (aBh _) (.cells #[.string kKind,.string bJ,.string bu] 9);have Ho:=hid (wA _ db b o cap ms (h.doc.later bG).toM m0 h.hm _ _ (YM w kKind bJ bu));rw[bA cT]at Ho;have HW:=hid (h.later bG)
 obtain ⟨k0,k1,k2,k3,k4,k5⟩:=bm h.kid cT;have bh:=hid ok;have aG:=hid bad;obtain ⟨vv,rfl,eE⟩:=hf.shape;simp only[lB,eE];clear eE;clear hf ok bad h hM gn cT fM bG;unfold D5 at Ho;cases kY:bE (nds ms) [kKind,bJ,bu] m0.nd.kids with
 |error e=>
  rw[kY]at Ho;have HB:=hid (fun a' w'=>aG.o e a' w' kY);clear kY bh aG;unfold kKind bJ bu at Ho HW;simp only at Ho;dsimp only[nk,cm,ncb,nce,ncl,nco,ncr,ncs,nct,ncx,M5,rdx,Tryz.f21]
  go_wp2_with fail
  refine Ho.o.mono ?_;rintro r w4 ⟨rfl,bX⟩;exact HB.o _ _ ⟨rfl,rfl,rfl,rfl,rfl⟩ (HW.o.later bX).toE
 |ok u=>
  rw[kY]at Ho;have HO:=hid (fun a' w'=>bh.o a' w' kY);clear kY bh aG;unfold kKind bJ bu at Ho HW;simp only at Ho;dsimp only[nk,cm,ncb,nce,ncl,nco,ncr,ncs,nct,ncx,M5,rdx,Tryz.f21]
  go_wp2_with fail
  refine Ho.o.mono ?_;rintro r w4 ⟨rfl,bX⟩;have XK:=hid (HW.o.later bX);clear bX Ho HW k0 k1 k2 k3 k4 k5;go_wp2;exact HO.o _ _ ⟨rfl,rfl,rfl,rfl,rfl,rfl,rfl⟩ XK.o
end
noncomputable def TE:Code:=ncl Cn
noncomputable def M4:Code:=ncr Cn
section
variable {w0 w:World} {Q:Exit->Act->World->Prop} {a:Act} {ms:List NdM} {n db kb qb gb b o cap k vb:Nat} {m0 mk:NdM} {rs:Res}
theorem YX {ev tv rv:Value} (hf:RdB a n) (hl:ResL w rs ev tv rv) (h1:w.heap[n]? =some (.cells (bV rs ev tv rv) 49 (0,0))) (h2:w.heap[n+1]? =some (.cells #[.int .i64 0] 3 (0,0))) (h3:w.heap[n+1+1]? =some (.cells #[.int .i64 0] 25 (0,0)))
 (ok:∀a' w',RdB a' n->Mod (fun k=>k=n\/k=n+1\/k=n+1+1) w w'->w'.heap[n]? =some (.cells (bV rs ev tv rv) 49 (0,0))->w'.heap[n+1]? =some (.cells #[.int .i64 0] 3 (0,0))->w'.heap[n+1+1]? =some (.cells #[.int .i64 0] 25 (0,0))->Q .ret a' w'):
 M4.wp Tryz.prog Q a w:=by
 obtain ⟨ae,ce,rfl,_⟩:=hl.e;obtain ⟨at',ct,rfl,_⟩:=hl.t;obtain ⟨ar,cr,rfl,_⟩:=hl.r;have HE:=hid (pA (l:= .int .i64 0) (e:= .int .i64 0) (v0:= .int .i64 rs.kind) (v1:= .string rs.name) (v2:= .slice ae rs.endps.length ce) (v3:= .slice at' rs.targets.length ct) (v4:= .string rs.host) (v5:= .slice ar rs.rules.length cr) (v6:= .string rs.route) (v7:= .bool rs.del) h1 rfl h2 h3);obtain ⟨c0,c1,c2,c3,c4,c5,c6,c7⟩:=cB8 h1
 have f1:=fun j=>ah h1 j;have l1:=aa h2 0;have l2:=ah h2 0;have l3:=aa h3 0;have l4:=ah h3 0;unfold bV at c0 c1 c2 c3 c4 c5 c6 c7;simp at c0 c1 c2 c3 c4 c5 c6 c7 l1 l3;have bh:=hid ok;obtain ⟨vv,rfl,eE⟩:=hf.shape;simp only[lB,eE];clear eE;clear hf ok hl h1 h2 h3;dsimp only[nk,cm,ncb,nce,ncl,nco,ncr,ncs,nct,ncx,M4,Cn,rdx,Tryz.f21]
 go_wp2;obtain ⟨z1,z2,z3,z4⟩:=HE.o _ rfl;exact bh.o _ _ ⟨rfl,rfl,rfl,rfl,rfl⟩ z1 z2 z3 z4
theorem MT (w:World) (kd:Int) (nm:ByteArray) (dl:Bool):ResL w ⟨kd,nm,[],[],⟨#[]⟩,[],⟨#[]⟩,dl⟩ (.slice none 0 0) (.slice none 0 0) (.slice none 0 0):=
 ⟨⟨none,0,rfl,by simp,fun h=>absurd h (by simp)⟩,⟨none,0,rfl,by simp,fun h=>absurd h (by simp)⟩,⟨none,0,rfl,by simp,fun h=>absurd h (by simp)⟩⟩
theorem MS (w:World) (lo:Nat) (kd:Int) (nm:ByteArray) (dl:Bool):ResN w lo ⟨kd,nm,[],[],⟨#[]⟩,[],⟨#[]⟩,dl⟩ (.slice none 0 0) (.slice none 0 0) (.slice none 0 0):=
 ⟨World.ownsRow_nil _ _ _ _,World.ownsRow_nil _ _ _ _,World.ownsRow_nil _ _ _ _,nofun,nofun,nofun,by simp⟩
theorem YY {kd:Int} {nm:ByteArray} (hf:RdD a n db kb) (h:RdW w0 w n db kb b o cap ms m0 ⟨kd,nm,[],[],⟨#[]⟩,[],⟨#[]⟩,false⟩)
 (ok:∀a' w',RdB a' n->Below w0.heap.size w0 w'->w'.heap[n]? =some (.cells (bV ⟨kd,nm,[],[],⟨#[]⟩,[],⟨#[]⟩,true⟩ (.slice none 0 0) (.slice none 0 0) (.slice none 0 0)) 49 (0,0))->w'.heap[n+1]? =some (.cells #[.int .i64 0] 3 (0,0))->w'.heap[n+1+1]? =some (.cells #[.int .i64 0] 25 (0,0))->Q .ret a' w'):
 Cn.wp Tryz.prog Q a w:=by
 have hp:RdW w0 (w.setCell ⟨n,7,none⟩ (.bool true)) n db kb b o cap ms m0 ⟨kd,nm,[],[],⟨#[]⟩,[],⟨#[]⟩,true⟩:=h.put 7 (.bool true) rfl;have c7:=aa h.res 7;have f7:=ah h.res 7;unfold bV at c7;simp at c7;have HG:=hid (fun a' (im:RdB a' n)=>YX (Q:=Q) im (MT _ kd nm true) hp.res hp.lin hp.err (fun a2 w2 q1 q2 q3 q4 q5=>ok a2 w2 q1 (hp.doc.below.trans (q2.below hp.doc.below.size fun i hi=>by have:=hp.nn;omega)) q3 q4 q5))
 obtain ⟨vv,rfl,eE⟩:=hf.shape;simp only[lB,eE];clear eE;clear hf ok hp h
 show (Code.seq TE M4).wp _ _ _ _
 dsimp only[nk,cm,ncb,nce,ncl,nco,ncr,ncs,nct,ncx,TE,Cn,rdx,Tryz.f21];refine wp_seq ?_;go_wp2;exact HG.o _ ⟨rfl,rfl,rfl,rfl,rfl⟩
def Dz (ns:List Nd) (m x:Nd):R Unit:=if isTrue x=false then .error (x.line,123) else bE ns [kKind,bJ,bu] m.kids
theorem YR {kd:Int} {nm:ByteArray} (hf:RdP a n db kb b (o+k*6)) (h:RdW w0 w n db kb b o cap ms m0 ⟨kd,nm,[],[],⟨#[]⟩,[],⟨#[]⟩,false⟩) (hk:ms[k]? =some mk)
 (bad:∀e a' w',Dz (nds ms) m0.nd mk.nd= .error e->RdB a' n->RdE w0 w' n->Q (.panic (jl e)) a' w')
 (ok:∀a' w',Dz (nds ms) m0.nd mk.nd= .ok ()->RdB a' n->Below w0.heap.size w0 w'->w'.heap[n]? =some (.cells (bV ⟨kd,nm,[],[],⟨#[]⟩,[],⟨#[]⟩,true⟩ (.slice none 0 0) (.slice none 0 0) (.slice none 0 0)) 49 (0,0))->w'.heap[n+1]? =some (.cells #[.int .i64 0] 3 (0,0))->w'.heap[n+1+1]? =some (.cells #[.int .i64 0] 25 (0,0))->Q .ret a' w'):
 rdx.wp Tryz.prog Q a w:=by
 show (Code.seq (Code.seq VH EO) (Code.seq M5 Cn)).wp _ _ _ _
 refine wp_seq ?_;refine Y1 (ms:=ms) (m0:=m0) EO hf h hk ?_;intro a1 w1 vb gJ h1 hv;refine Y0 gJ h1 hk hv ?_ ?_
 ·intro a2 w2 ht mG h2;exact bad _ _ _ (by unfold Dz;rw[if_pos ht]) mG h2
 ·intro a2 w2 ht mG h2
  show (Code.seq M5 Cn).wp _ _ _ _
  have hd:Dz (nds ms) m0.nd mk.nd=bE (nds ms) [kKind,bJ,bu] m0.nd.kids:=by unfold Dz;rw[if_neg (by rw[ht];simp)]
  rw[hd]at bad ok;refine YZ Cn mG h2 (fun e a' w' he=>bad e a' w' he) ?_;intro a3 w3 ho OS h3;exact YY OS h3 (fun a' w'=>ok a' w' ho)
end
def F5 (ns:List Nd) (m:Nd) (k:Nat) (s:ByteArray):R Res:=
 match aY ns m bu with
 |some x=>(match Dz ns m x with| .error e=> .error e| .ok ()=> .ok ⟨(k:Int),s,[],[],⟨#[]⟩,[],⟨#[]⟩,true⟩)
 |none=>nS ns m ⟨(k:Int),s,[],[],⟨#[]⟩,[],⟨#[]⟩,false⟩ k
def zy (ns:List Nd) (m:Nd) (k:Nat):R Res:=match nwP ns m bJ aD with| .error e=> .error e| .ok s=>F5 ns m k s
def F6 (ns:List Nd) (m:Nd):R Res:=
 match dg m with
 | .error e=> .error e
 | .ok ()=>match bt ns m kKind with
  | .error e=> .error e
  | .ok k=>if kindN k=0 then .error (k.line,120) else zy ns m (kindN k)
theorem SZ {ns:List Nd} (h:dj ns=true):dO ns=F6 ns (ns[0]!):=by
 unfold dO F6 zy F5 nwP Dz;rw[if_neg (by rw[h];simp)];cases dg (ns[0]!) with
 |error e=>rfl
 |ok u=>
  cases bt ns (ns[0]!) kKind with
  |error e=>rfl
  |ok k=>
   by_cases hk:kindN k=0
   ·simp only[if_pos hk]
   ·simp only[if_neg hk];cases bt ns (ns[0]!) bJ with
    |error e=>rfl
    |ok n=>
     cases hw:aO n aD with
     |error e=>simp only[hw]
     |ok s=>
      simp only[hw];cases aY ns (ns[0]!) bu with
      |none=>rfl
      |some x=>
       simp only;by_cases ht:isTrue x=false
       ·simp only[if_pos ht]
       ·simp only[if_neg ht];rfl
noncomputable def EN:Code:=(ncr (ncr (ncr (ncr (ncr (ncx Tryz.f21.body))))))
theorem JH:EN=Code.seq rd6 (Code.seq rd7 (Code.seq rd8 (Code.seq rd9 (Code.seq JI (Code.seq M6 (Code.seq nk (Code.seq M3 (Code.seq VG (Code.seq VF (Code.seq VE rdT)))))))))):=rfl
theorem Rx {w0 w:World} {a:Act} {ms:List NdM} {n db kb b o cap:Nat} {m0:NdM} (hf:RdD a n db kb) (h:RdW w0 w n db kb b o cap ms m0 Res.zero) (h0:ms[0]? =some m0) (ht:dj (nds ms)=true):
 EN.wp Tryz.prog (bodyPostD Tryz.prog Tryz.f21 (rD w0 (dO (nds ms)))) a w:=by
 have hd:dO (nds ms)=F6 (nds ms) m0.nd:=by rw[SZ ht,gI h0]
 rw[hd,JH];refine rd_a _ hf h ?_ ?_
 ·intro e a' w' he im h';refine sf ?_ im h';rcases he with he|⟨h1,h2⟩
  ·unfold F6;rw[he]
  ·unfold F6;rw[h1,h2]
 intro a1 w1 mk qb gb rQ hnp cN gJ h1 hq hg LA hgl;have KP:F6 (nds ms) m0.nd=if kindN mk.nd=0 then .error (mk.nd.line,120) else zy (nds ms) m0.nd (kindN mk.nd):=by unfold F6;rw[rQ,hnp]
 rw[KP];refine rd_b _ gJ h1 rfl cN hq hg LA hgl ?_ ?_
 ·intro a' w' hk im h';exact sf (by rw[if_pos hk]) im h'
 intro a2 w2 eP ue mG h2;rw[if_neg (by omega:¬kindN mk.nd=0)];generalize kindN mk.nd=k at*;refine rd_c _ mG h2 ?_ ?_
 ·intro e a' w' he im h';exact sf (by unfold zy;rw[he]) im h'
 intro a3 w3 s hs OS h3;have Z7:zy (nds ms) m0.nd k=F5 (nds ms) m0.nd k s:=by unfold zy;rw[hs]
 rw[Z7];cases eh:bH (nds ms) m0.nd bu with
 |some x=>
  obtain ⟨mx,St,ed,fh,_⟩:=cC h3.doc.toM h3.hm eh;have Wy:F5 (nds ms) m0.nd k s=match Dz (nds ms) m0.nd mx.nd with| .error e=> .error e| .ok ()=> .ok ⟨(k:Int),s,[],[],⟨#[]⟩,[],⟨#[]⟩,true⟩:=by
   unfold F5 aY;rw[eh];simp only[Option.map_some,fh]
  rw[Wy];refine Y2 _ OS h3 eh ?_;intro Q1 a4 w4 hp hr T8 h4;refine YR T8 h4 St ?_ ?_
  ·intro e a' w' he im h';exact hp _ _ _ (sf (by rw[he]) im h')
  ·intro a' w' he im hb z1 z2 z3;exact hr _ _ (M0 (by rw[he]) im hb z1 (MS _ _ _ _ _) z2 z3)
 |none=>
  have Wy:F5 (nds ms) m0.nd k s=match bE (nds ms) (kKind::bJ::oM k) m0.nd.kids with| .error e=> .error e| .ok ()=>Dw (nds ms) m0.nd ⟨(k:Int),s,[],[],⟨#[]⟩,[],⟨#[]⟩,false⟩ k:=by
   unfold F5 aY;rw[eh];rfl
  rw[Wy];refine Y3 _ OS h3 eh ?_;intro a4 w4 T8 h4;cases kY:bE (nds ms) (kKind::bJ::oM k) m0.nd.kids with
  |error e=>
   refine M1 _ T8 h4 rfl eP ue ?_ kY;intro e2 a' w' he im h';rw[kY]at he;injection he with he
   exact sf (by rw[he]) im h'
  |ok u=>
   refine Ry _ T8 h4 rfl eP ue kY ?_;intro a5 w5 _ Z2 h5;refine rd_f (rs:=⟨(k:Int),s,[],[],⟨#[]⟩,[],⟨#[]⟩,false⟩) _ Z2 h5 eP ue ?_ ?_
   ·intro e a' w' he im h';exact sf he im h'
   ·intro a6 w6 r he hf6 oO dw hl6 he6;obtain ⟨ev,tv,rv,hr,hN⟩:=dw;refine rd_g hf6 hN.toL hr hl6 he6 ?_;intro a7 w7 hf7 hm z1 z2 z3;have Ss:=h5.nn;exact M0 he hf7 (oO.trans (hm.below oO.size fun i hi=>by omega)) z1 ((hN.mod hm (fun g hg e=>by have:=hN.fe g hg;omega) (fun g hg e=>by have:=hN.ft g hg;omega) (fun g hg e=>by have:=hN.fu g hg;omega)).down (by omega)) z2 z3
