/-
Parts of a proof.
-/
import Derived.StillTailTactics
import Derived.Test.YtfenoaeoedobmaaGreatDoorOw25
set_option linter.unusedVariables false
set_option linter.unusedSimpArgs false
set_option maxHeartbeats 4000000
set_option maxRecDepth 20000
namespace Go.Proofs.YtfenoaeoedobmaaGreatDoor
open Go Go.RowKit
def uI (ns:List Nd) (m:Nd) (r:Res) (k:Nat):R Res:=if k=1 then fG ns m r else if k=2 then jq ns m r else if k=3 then ig ns m r else fA ns m r
def tG (db:Nat):Array Value:=#[.nilFunc,.func (.func 47) #[.pointer (some ⟨db,0,none⟩)] #[],.func (.func 48) #[.pointer (some ⟨db,0,none⟩)] #[],.func (.func 49) #[.pointer (some ⟨db,0,none⟩)] #[],.func (.func 50) #[.pointer (some ⟨db,0,none⟩)] #[]]
def xK (k:Nat):Nat:=if k=1 then 47 else if k=2 then 48 else if k=3 then 49 else 50
theorem Jv {w0 w:World} {db b o cap n k:Nat} {ms:List NdM} {m:NdM} {kd:Int} {nm:ByteArray} {dl:Bool} (h:DocB w0 w db b o cap ms) (hm:m∈ms) (hrb:w0.heap.size<=n) (hne:n≠db) (hk1:1<=k) (hk4:k<=4)
 (hblk:w.heap[n]? =some (.cells #[.int .i64 kd,.string nm,.slice none 0 0,.slice none 0 0,.string ⟨#[]⟩,.slice none 0 0,.string ⟨#[]⟩,.bool dl] 49 (0,0))):
 Calls Tryz.prog (xK k) #[.pointer (some ⟨db,0,none⟩),m.v,.pointer (some ⟨n,0,none⟩)] w (dr w n (uI (nds ms) m.nd ⟨kd,nm,[],[],⟨#[]⟩,[],⟨#[]⟩,dl⟩ k)):=by
 match k,hk1,hk4 with
 |1,_,_=>exact (zb w0 w db b o cap ms h m hm n hrb hne kd nm _ _ _ _ dl hblk).mono fun e w' he=>sq he
 |2,_,_=>exact (Er w0 w db b o cap ms h m hm n hrb hne kd nm _ _ _ _ dl hblk).mono fun e w' he=>xn he
 |3,_,_=>exact EN w0 w db b o cap ms h m hm n hrb hne kd nm dl hblk
 |4,_,_=>exact B5 w0 w db b o cap ms h m hm n hrb hne kd nm dl hblk
theorem EP (k db:Nat) (hk1:1<=k) (hk4:k<=4):(tG db)[k]? =some (.func (.func (xK k)) #[.pointer (some ⟨db,0,none⟩)] #[]):=by
 match k,hk1,hk4 with
 |1,_,_=>rfl
 |2,_,_=>rfl
 |3,_,_=>rfl
 |4,_,_=>rfl
theorem zm {w:World} {lo lo' rb:Nat} {r:Res} (h:DS w lo rb r) (hl:lo'<=lo):DS w lo' rb r:=by
 obtain ⟨ev,tv,rv,h1,h2⟩:=h;exact ⟨ev,tv,rv,h1,h2.down hl⟩
section
variable {w0 w:World} {Q:Exit->Act->World->Prop} {a:Act} {ms:List NdM} {n db kb qb gb b o cap k:Nat} {m0 mk:NdM} {rs:Res}
theorem rd_f (X:Code) (hf:RdD a n db kb) (h:RdW w0 w n db kb b o cap ms m0 ⟨(k:Int),rs.name,[],[],⟨#[]⟩,[],⟨#[]⟩,false⟩) (hk1:1<=k) (hk4:k<=4)
 (bad:∀e a' w',uI (nds ms) m0.nd ⟨(k:Int),rs.name,[],[],⟨#[]⟩,[],⟨#[]⟩,false⟩ k= .error e->RdB a' n->RdE w0 w' n->Q (.panic (gh e)) a' w')
 (ok:∀a' w' r,uI (nds ms) m0.nd ⟨(k:Int),rs.name,[],[],⟨#[]⟩,[],⟨#[]⟩,false⟩ k= .ok r->RdB a' n->Below w0.heap.size w0 w'->DS w' (n+1+1+1) n r->w'.heap[n+1]? =some (.cells #[.int .i64 0] 3 (0,0))->w'.heap[n+1+1]? =some (.cells #[.int .i64 0] 25 (0,0))->X.wp Tryz.prog Q a' w'):
 (Code.seq IE (Code.seq ID X)).wp Tryz.prog Q a w:=by
 have hM:=h.doc.toM;have hyo:=hM.ok h.hm;obtain ⟨ay,cy,hyv,_,_⟩:=aF hyo.kids;obtain ⟨qy,hqy⟩:=ex (m0.nd.kids.length);rw[<-hqy]at hyv;have Hyv:=hid hyv;have hmf:∀(fn:Fn) (first cap:Array Value) (w:World),(Instr.makeFunc fn first cap).run Tryz.prog w= .ok (.func fn first cap) w:=fun _ _ _ _=>rfl;have hsn:∀(W:World) (a:Addr),(store a .nilFunc).run Tryz.prog W=stored Tryz.prog W a .nilFunc .plain:=fun W a=>run_store _ W a _ _ rfl
 have hsf:∀(W:World) (a:Addr) (fn:Fn) (f c:Array Value),(store a (.func fn f c)).run Tryz.prog W=stored Tryz.prog W a (.func fn f c) .plain:=fun W a fn f c=>run_store _ W a _ _ rfl;have Hc:=hid (fun w3 (h3:RdW w0 w3 n db kb b o cap ms m0 ⟨(k:Int),rs.name,[],[],⟨#[]⟩,[],⟨#[]⟩,false⟩)=>Jv h3.doc h3.hm (by rw[h3.nn];exact aAa _) (by have:=h3.ndb;omega) hk1 hk4 h3.res);rw[aZ hyv]at Hc;have Hra:=hid (EP k db hk1 hk4)
 have HW:=hid h;have Hbad:=hid bad;have Hok:=hid ok;generalize uI (nds ms) m0.nd ⟨(k:Int),rs.name,[],[],⟨#[]⟩,[],⟨#[]⟩,false⟩ k=dx at*;obtain ⟨vv,rfl,eE⟩:=hf.shape;simp only[iE,eE];clear eE;clear hf bad ok h hM hyo hyv hqy;dsimp only[IE,ID,gu,bL,ncl,ncr,ncx,Tryz.f21]
 go_wp2_with fail
 have hb1:=(aAb w.heap.size w).alloc (aAa _) (.cells (tG db) 96);have hn1:=ah (w:=w) (.cells (tG db) 96);change Code.wp _ _ _ _ (w.alloc (.cells (tG db) 96));obtain ⟨ab,hab⟩:=ex (w.heap.size);rw[<-hab]at hn1 |-;generalize w.alloc (.cells (tG db) 96)=w1 at*
 have HW1:=hid (HW.o.later hb1);obtain ⟨k0,k1,k2,k3,k4,k5⟩:=aV HW1.o.kid Hyv.o;have r0:=af HW1.o.res 0;have ra:=af hn1 k;have rb:w1.cell? ⟨ab,k,none⟩=some (.func (.func (xK k)) #[.pointer (some ⟨db,0,none⟩)] #[]):=ra.trans Hra.o;unfold bJ at r0;simp at r0;have hk5:k<5:=by omega
 clear hab hb1 hn1 ra HW;have hF:xK k=if k=1 then 47 else if k=2 then 48 else if k=3 then 49 else 50 :=rfl
 rw[hF]at rb Hc;clear hF Hra;rcases (show k=1\/k=2\/k=3\/k=4 by omega) with rfl|rfl|rfl|rfl
 all_goals
  simp at rb r0;clear hk1 hk4 hk5
  go_still_tail 5,(by kernel_rfl)
 all_goals
  change wpList _ _ _ _ _ w1.drew
 all_goals
  go_wp2_with fail
  have HW2:=HW1.o.drewN 1;refine (Hc.o _ HW2).mono ?_;intro r w4 hp;have hd4:=HW2.doc.step (F:=fun k=>k=n) hp.2 (fun e=>by have:=HW2.ndb;omega) (fun k e=>by rw[e,HW2.nn];exact aAa _);have hl4:=hp.2.heap HW2.lin (by omega);have he4:=hp.2.heap HW2.err (by omega);clear HW2;cases dx with
  |error e=>
   obtain ⟨⟨rfl,r2,ev,tv,rv,hb⟩,hm⟩:=hp;exact Hbad.o e _ _ rfl ⟨rfl,rfl,rfl,rfl,rfl⟩ ⟨hd4.below,⟨r2,ev,tv,rv,hb⟩,hl4,he4,HW1.o.nn⟩
  |ok rr=>
   obtain ⟨⟨rfl,hb⟩,hm⟩:=hp;have hb:=zm (lo':=n+1+1+1) hb (by have:=ag HW1.o.err;show n+1+1+1<=w1.heap.size;omega);have HF:=hid (⟨hd4,hl4,he4,hb⟩:_/\_/\_/\_);clear hd4 hl4 he4 hb hm Hbad;go_wp2;exact Hok.o _ _ rr rfl ⟨rfl,rfl,rfl,rfl,rfl⟩ HF.o.1.below HF.o.2.2.2 HF.o.2.1 HF.o.2.2.1
end
noncomputable def rdx:Code:=nct (ncr (ncr ju))
noncomputable def IF:Code:=ncl (ncl rdx)
noncomputable def vR:Code:=ncr (ncl rdx)
noncomputable def BS:Code:=ncl (ncr rdx)
noncomputable def tH:Code:=ncr (ncr rdx)
structure RdV (a:Act) (n db kb f vb:Nat) (o:Nat):Prop where
 d:RdD a n db kb
 s9:a.tmps[9]? =some (.pointer (some ⟨f,o,none⟩))
 s10:a.tmps[10]? =some (.pointer (some ⟨vb,0,none⟩))
theorem RdV.shape {a:Act} {n db kb f vb o:Nat} (h:RdV a n db kb f vb o):∃v:Nat->Value,a=iE n v/\v 2= .pointer (some ⟨n,0,none⟩)/\v 3= .pointer (some ⟨n+1,0,none⟩)/\v 4= .pointer (some ⟨n+1+1,0,none⟩)/\v 5= .pointer (some ⟨db,0,none⟩)/\v 6= .pointer (some ⟨kb,0,none⟩)/\v 9= .pointer (some ⟨f,o,none⟩)/\v 10= .pointer (some ⟨vb,0,none⟩):=by
 obtain ⟨v,hv,hd⟩:=oC n a h.d.size h.d.dfr;exact ⟨v,hd,hv 2 _ h.d.s2,hv 3 _ h.d.s3,hv 4 _ h.d.s4,hv 5 _ h.d.s5,hv 6 _ h.d.s6,hv 9 _ h.s9,hv 10 _ h.s10⟩
structure RdP (a:Act) (n db kb f:Nat) (o:Nat):Prop where
 d:RdD a n db kb
 s9:a.tmps[9]? =some (.pointer (some ⟨f,o,none⟩))
theorem RdP.shape {a:Act} {n db kb f o:Nat} (h:RdP a n db kb f o):∃v:Nat->Value,a=iE n v/\v 2= .pointer (some ⟨n,0,none⟩)/\v 3= .pointer (some ⟨n+1,0,none⟩)/\v 4= .pointer (some ⟨n+1+1,0,none⟩)/\v 5= .pointer (some ⟨db,0,none⟩)/\v 6= .pointer (some ⟨kb,0,none⟩)/\v 9= .pointer (some ⟨f,o,none⟩):=by
 obtain ⟨v,hv,hd⟩:=oC n a h.d.size h.d.dfr;exact ⟨v,hd,hv 2 _ h.d.s2,hv 3 _ h.d.s3,hv 4 _ h.d.s4,hv 5 _ h.d.s5,hv 6 _ h.d.s6,hv 9 _ h.s9⟩
section
variable {w0 w:World} {Q:Exit->Act->World->Prop} {a:Act} {ms:List NdM} {n db kb qb gb b o cap k:Nat} {m0 mk:NdM} {rs:Res}
theorem Kr (X:Code) (hf:RdD a n db kb) (h:RdW w0 w n db kb b o cap ms m0 rs)
 (hfn:bz (nds ms) m0.nd bu=none)
 (ok:∀a' w',RdD a' n db kb->RdW w0 w' n db kb b o cap ms m0 rs->X.wp Tryz.prog Q a' w'):(Code.seq ju X).wp Tryz.prog Q a w:=by
 have hM:=h.doc.toM;have hyo:=hM.ok h.hm;obtain ⟨ay,cy,hyv,_,_⟩:=aF hyo.kids;obtain ⟨qy,hqy⟩:=ex (m0.nd.kids.length);rw[<-hqy]at hyv;have Hf:=hid (j2 w db b o cap ms hM m0 h.hm bu);rw[aZ hyv,hfn]at Hf;have hfa:eg b o none= .pointer none:=rfl;rw[hfa]at Hf;unfold bu at Hf;obtain ⟨k0,k1,k2,k3,k4,k5⟩:=aV h.kid hyv;have HW:=hid h;have Hok:=hid ok;obtain ⟨vv,rfl,eE⟩:=hf.shape
 simp only[iE,eE];clear eE;clear hf ok h hM hyo hyv hqy hfn hfa;dsimp only[ju,bL,ncl,ncr,ncx,Tryz.f21]
 go_wp2_with fail
 refine Hf.o.mono ?_;rintro r w3 ⟨rfl,hb3⟩;have HW3:=hid (HW.o.later hb3);clear hb3 Hf HW;go_wp2;exact Hok.o _ _ ⟨rfl,rfl,rfl,rfl,rfl,rfl,rfl⟩ HW3.o
def Gf (w:World) (vb:Nat) (v:Val):Prop:=w.heap[vb]? =some (.cells #[.int .i64 v.kind,.bool v.bool,.int .i64 v.int,.float .f64 v.real,.string v.text] 91 (0,0))
theorem o8 {w3:World} {b o2 o3:Nat} {t:ByteArray} {q:Bool} (h2:w3.cell? ⟨b,o2,none⟩=some (.string t)) (h3:w3.cell? ⟨b,o3,none⟩=some (.bool q)):Below w3.heap.size w3 w3.drew/\w3.drew.cell? ⟨b,o2,none⟩=some (.string t)/\w3.drew.cell? ⟨b,o3,none⟩=some (.bool q):=⟨(aAb _ _).drew,h2,h3⟩
theorem CT {w3 w':World} {b o2 o3:Nat} {t:ByteArray} {q:Bool} (h:Below w3.heap.size w3 w'/\w'.cell? ⟨b,o2,none⟩=some (.string t)/\w'.cell? ⟨b,o3,none⟩=some (.bool q)):Below w3.heap.size w3 w':=h.1
theorem nU {w3 w' w4:World} {b o2 o3:Nat} {t:ByteArray} {q:Bool} (h:Below w3.heap.size w3 w'/\w'.cell? ⟨b,o2,none⟩=some (.string t)/\w'.cell? ⟨b,o3,none⟩=some (.bool q)) (hb:Below w'.heap.size w' w4):Below w3.heap.size w3 w4/\w4.cell? ⟨b,o2,none⟩=some (.string t)/\w4.cell? ⟨b,o3,none⟩=some (.bool q):=
 ⟨h.1.trans (hb.mono h.1.size),(hb.cell (dB h.2.1)).trans h.2.1,(hb.cell (dB h.2.2)).trans h.2.2⟩
theorem lz {w3 w':World} {b o2 o3:Nat} {t:ByteArray} {q:Bool} (h:Below w3.heap.size w3 w'/\w'.cell? ⟨b,o2,none⟩=some (.string t)/\w'.cell? ⟨b,o3,none⟩=some (.bool q)) (ob:Obj):Below w3.heap.size w3 (w'.alloc ob)/\(w'.alloc ob).cell? ⟨b,o2,none⟩=some (.string t)/\(w'.alloc ob).cell? ⟨b,o3,none⟩=some (.bool q):=
 nU h ((aAb _ _).alloc (aAa _) ob)
theorem vj {w w4:World} {c0 c1 c2 c3 c4:Value} {T:TypeId} (hb:Below (w.alloc (.cells #[c0,c1,c2,c3,c4] T)).drew.heap.size (w.alloc (.cells #[c0,c1,c2,c3,c4] T)).drew w4):
 w4.cell? ⟨w.heap.size,0,none⟩=some c0/\w4.cell? ⟨w.heap.size,1,none⟩=some c1/\w4.cell? ⟨w.heap.size,2,none⟩=some c2/\w4.cell? ⟨w.heap.size,3,none⟩=some c3/\w4.cell? ⟨w.heap.size,4,none⟩=some c4/\∀j,w4.frozen? ⟨w.heap.size,j,none⟩=false:=by
 have h:=(hb.block _ (ag (ah (w:=w) _))).trans (ah (w:=w) _);exact ⟨af h 0,af h 1,af h 2,af h 3,af h 4,fun j=>ai h j⟩
theorem yC {w w4:World} {c0 c1 c2 c3 c4:Value} {T:TypeId} {G:Prop} (hb:Below (w.alloc (.cells #[c0,c1,c2,c3,c4] T)).drew.heap.size (w.alloc (.cells #[c0,c1,c2,c3,c4] T)).drew w4)
 (h:w4.cell? ⟨w.heap.size,0,none⟩=some c0->w4.cell? ⟨w.heap.size,1,none⟩=some c1->w4.cell? ⟨w.heap.size,2,none⟩=some c2->w4.cell? ⟨w.heap.size,3,none⟩=some c3->w4.cell? ⟨w.heap.size,4,none⟩=some c4->(∀j,w4.frozen? ⟨w.heap.size,j,none⟩=false)->G):G:=by
 obtain ⟨z0,z1,z2,z3,z4,zf⟩:=vj hb;exact h z0 z1 z2 z3 z4 zf
theorem GB {w3:World} {b o2 o3:Nat} {t:ByteArray} {q:Bool} (h2:w3.cell? ⟨b,o2,none⟩=some (.string t)) (h3:w3.cell? ⟨b,o3,none⟩=some (.bool q)) (ob:Obj):Below w3.heap.size w3 (w3.alloc ob).drew/\(w3.alloc ob).drew.cell? ⟨b,o2,none⟩=some (.string t)/\(w3.alloc ob).drew.cell? ⟨b,o3,none⟩=some (.bool q):=
 ⟨(lz ⟨aAb _ _,h2,h3⟩ ob).1.drew,(lz ⟨aAb _ _,h2,h3⟩ ob).2.1,(lz ⟨aAb _ _,h2,h3⟩ ob).2.2⟩
theorem KZ {w3 w4:World} {b o2 o3:Nat} {t:ByteArray} {q:Bool} (h2:w3.cell? ⟨b,o2,none⟩=some (.string t)) (h3:w3.cell? ⟨b,o3,none⟩=some (.bool q)) (hb:Below w3.drew.heap.size w3.drew w4):Below w3.heap.size w3 w4/\w4.cell? ⟨b,o2,none⟩=some (.string t)/\w4.cell? ⟨b,o3,none⟩=some (.bool q):=nU (o8 h2 h3) hb
theorem Gy {w3 w4:World} {b o2 o3:Nat} {t:ByteArray} {q:Bool} {ob:Obj} (h2:w3.cell? ⟨b,o2,none⟩=some (.string t)) (h3:w3.cell? ⟨b,o3,none⟩=some (.bool q)) (hb:Below (w3.alloc ob).drew.heap.size (w3.alloc ob).drew w4):Below w3.heap.size w3 w4/\w4.cell? ⟨b,o2,none⟩=some (.string t)/\w4.cell? ⟨b,o3,none⟩=some (.bool q):=nU (GB h2 h3 ob) hb
theorem GA {w3 w4:World} {b o2 o3:Nat} {t:ByteArray} {q:Bool} (h2:w3.cell? ⟨b,o2,none⟩=some (.string t)) (h3:w3.cell? ⟨b,o3,none⟩=some (.bool q)) (hb:Below w3.drew.heap.size w3.drew w4) (ob:Obj):
 Below w3.heap.size w3 (w4.alloc ob)/\(w4.alloc ob).cell? ⟨b,o2,none⟩=some (.string t)/\(w4.alloc ob).cell? ⟨b,o3,none⟩=some (.bool q):=
 lz (nU (o8 h2 h3) hb) ob
theorem Gz {w3 w4:World} {b o2 o3:Nat} {t:ByteArray} {q:Bool} {ob:Obj} {v0 v1 v2 v3 v4:Value} (h2:w3.cell? ⟨b,o2,none⟩=some (.string t)) (h3:w3.cell? ⟨b,o3,none⟩=some (.bool q)) (hb:Below (w3.alloc ob).drew.heap.size (w3.alloc ob).drew w4):
 Below w3.heap.size w3 (((((w4.setCell ⟨w3.heap.size,0,none⟩ v0).setCell ⟨w3.heap.size,1,none⟩ v1).setCell ⟨w3.heap.size,2,none⟩ v2).setCell ⟨w3.heap.size,3,none⟩ v3).setCell ⟨w3.heap.size,4,none⟩ v4)/\
 (((((w4.setCell ⟨w3.heap.size,0,none⟩ v0).setCell ⟨w3.heap.size,1,none⟩ v1).setCell ⟨w3.heap.size,2,none⟩ v2).setCell ⟨w3.heap.size,3,none⟩ v3).setCell ⟨w3.heap.size,4,none⟩ v4).cell? ⟨b,o2,none⟩=some (.string t)/\
 (((((w4.setCell ⟨w3.heap.size,0,none⟩ v0).setCell ⟨w3.heap.size,1,none⟩ v1).setCell ⟨w3.heap.size,2,none⟩ v2).setCell ⟨w3.heap.size,3,none⟩ v3).setCell ⟨w3.heap.size,4,none⟩ v4).cell? ⟨b,o3,none⟩=some (.bool q):=by
 have h:=Gy h2 h3 hb;have hB:Below w3.heap.size w3 (((((w4.setCell ⟨w3.heap.size,0,none⟩ v0).setCell ⟨w3.heap.size,1,none⟩ v1).setCell ⟨w3.heap.size,2,none⟩ v2).setCell ⟨w3.heap.size,3,none⟩ v3).setCell ⟨w3.heap.size,4,none⟩ v4):=
  ((((h.1.setCell (p:=⟨w3.heap.size,0,none⟩) (aAa _) v0).setCell (p:=⟨w3.heap.size,1,none⟩) (aAa _) v1).setCell (p:=⟨w3.heap.size,2,none⟩) (aAa _) v2).setCell (p:=⟨w3.heap.size,3,none⟩) (aAa _) v3).setCell (p:=⟨w3.heap.size,4,none⟩) (aAa _) v4
 exact ⟨hB,(hB.cell (dB h2)).trans h2,(hB.cell (dB h3)).trans h3⟩
theorem GF {w3 w4:World} {c0 c1 c2 c3 c4:Value} {v0 v1 v2 v3 v4:Value} {T:TypeId} (hb:Below (w3.alloc (.cells #[c0,c1,c2,c3,c4] T)).drew.heap.size (w3.alloc (.cells #[c0,c1,c2,c3,c4] T)).drew w4):
 (((((w4.setCell ⟨w3.heap.size,0,none⟩ v0).setCell ⟨w3.heap.size,1,none⟩ v1).setCell ⟨w3.heap.size,2,none⟩ v2).setCell ⟨w3.heap.size,3,none⟩ v3).setCell ⟨w3.heap.size,4,none⟩ v4).heap[w3.heap.size]? =some (.cells #[v0,v1,v2,v3,v4] T (0,0)):=by
 have h:w4.heap[w3.heap.size]? =some (.cells #[c0,c1,c2,c3,c4] T (0,0)):=(hb.block _ (ag (ah (w:=w3) _))).trans (ah (w:=w3) _);have g0:=aE h 0 v0;have g1:=aE g0 1 v1;have g2:=aE g1 2 v2;have g3:=aE g2 3 v3;have g4:=aE g3 4 v4;exact g4
noncomputable def Gu:Code:=ncl ju
noncomputable def Gt:Code:=ncl (ncr ju)
theorem Kq (X:Code) (hf:RdD a n db kb) (h:RdW w0 w n db kb b o cap ms m0 rs)
 (hfn:bz (nds ms) m0.nd bu=some k)
 (ok:∀Q1 a' w',(∀ch a w,Q (.panic ch) a w->Q1 (.panic ch) a w)->(∀a w,Q .ret a w->Q1 .ret a w)->RdP a' n db kb b (o+k*6)->RdW w0 w' n db kb b o cap ms m0 rs->rdx.wp Tryz.prog Q1 a' w'):(Code.seq ju X).wp Tryz.prog Q a w:=by
 have hM:=h.doc.toM;have hyo:=hM.ok h.hm;obtain ⟨ay,cy,hyv,_,_⟩:=aF hyo.kids;obtain ⟨qy,hqy⟩:=ex (m0.nd.kids.length);rw[<-hqy]at hyv;have Hf:=hid (j2 w db b o cap ms hM m0 h.hm bu);rw[aZ hyv,hfn]at Hf;have hfa:eg b o (some k)= .pointer (some ⟨b,o+k*6,none⟩):=rfl;rw[hfa]at Hf;unfold bu at Hf;obtain ⟨k0,k1,k2,k3,k4,k5⟩:=aV h.kid hyv;have HW:=hid h;have Hok:=hid ok
 obtain ⟨vv,rfl,eE⟩:=hf.shape;simp only[iE,eE];clear eE;clear hf ok h hM hyo hyv hqy hfn hfa
 show (Code.seq (Code.seq Gu (Code.seq Gt (Code.cond (.tmp 57) rdx .skip))) X).wp _ _ _ _
 dsimp only[ju,bL,ncb,nce,ncl,nco,ncr,ncs,nct,ncx,Gu,Gt,Tryz.f21]
 go_wp2_with fail
 refine Hf.o.mono ?_;rintro r w3 ⟨rfl,hb3⟩;have HW3:=hid (HW.o.later hb3);clear hb3 Hf HW
 go_wp2_with fail
 exact Hok.o _ _ _ (fun ch a w h=>h) (fun a w h=>h) ⟨⟨rfl,rfl,rfl,rfl,rfl,rfl,rfl⟩,rfl⟩ HW3.o
theorem Kp (Y:Code) (hf:RdP a n db kb b (o+k*6)) (h:RdW w0 w n db kb b o cap ms m0 rs) (hk:ms[k]? =some mk)
 (ok:∀a' w' vb,RdV a' n db kb b vb (o+k*6)->RdW w0 w' n db kb b o cap ms m0 rs->Gf w' vb (aX mk.nd.text mk.nd.quoted)->Y.wp Tryz.prog Q a' w'):(Code.seq IF Y).wp Tryz.prog Q a w:=by
 have hM:=h.doc.toM;have c:=(hM.at hk).1;have hts:=(hM.at hk).2.text;have x2:=c.c2;have x3:=c.c3;have hst:= @gZ;have HW:=hid h;have Hr3:=hid (fun w1 (hb1:Below w.heap.size w w1)=>l5 w1 mk.nd.text (by omega) mk.nd.quoted (h.doc.g.later hb1).rng);unfold lO at Hr3;unfold Gf at ok;have hrl:=oB mk.nd.text mk.nd.quoted;generalize aX mk.nd.text mk.nd.quoted=rv at*;obtain ⟨vk,vbl,vi,vr,vt⟩:=rv
 unfold Val.v bI at Hr3;simp only at hrl Hr3 ok;have Hok:=hid ok;obtain ⟨vv,rfl,eE⟩:=hf.shape;simp only[iE,eE];clear eE;clear hf ok h hM c hts hk;dsimp only[ju,bL,ncb,nce,ncl,nco,ncr,ncs,nct,ncx,IF,rdx,Tryz.f21]
 go_wp2_with fail
 refine gE ?_;have hK0:=o8 (w3:=w) x2 x3
 go_region_held3 (fun w'=>Below w.heap.size w w'/\w'.cell? ⟨b,o+k*6+2,none⟩=some (.string mk.nd.text)/\w'.cell? ⟨b,o+k*6+3,none⟩=some (.bool mk.nd.quoted)) (first|exact hK0|with_reducible exact GB x2 x3 _|with_reducible exact KZ x2 x3 hb4|with_reducible exact Gy x2 x3 hb4|with_reducible exact GA x2 x3 hb4 _|with_reducible exact Gz x2 x3 hb4)
  (first|(go_at_call 44;refine (Hr3.o _ ?_).mono ?_;(refine CT (b:=b) (o2:=o+k*6+2) (o3:=o+k*6+3) (t:=mk.nd.text) (q:=mk.nd.quoted) ?_;assumption);rintro r w4 ⟨rfl,hb4⟩;try (refine yC hb4 ?_;intro z0 z1 z2 z3 z4 zf)))
 all_goals go_wp2_with fail
 ·refine Hok.o _ _ _ ⟨⟨rfl,rfl,rfl,rfl,rfl,rfl,rfl⟩,rfl,rfl⟩ ?_ ?_
  ·exact HW.o.later (GA x2 x3 hb4 _).1
  ·exact ah _
 ·refine Hok.o _ _ _ ⟨⟨rfl,rfl,rfl,rfl,rfl,rfl,rfl⟩,rfl,rfl⟩ ?_ ?_
  ·exact HW.o.later (Gz x2 x3 hb4).1
  ·exact GF hb4
end
section
variable {w0 w:World} {Q:Exit->Act->World->Prop} {a:Act} {ms:List NdM} {n db kb qb gb b o cap k vb:Nat} {m0 mk:NdM} {rs:Res}
theorem ug {m:Nd} (h:¬m.kind=1):isTrue m=false:=by
 unfold isTrue;rw[dF (fun q=>h q.1)];rfl
theorem Ag {m:Nd} (h:m.kind=1):isTrue m=(decide ((aX m.text m.quoted).kind=2)&&(aX m.text m.quoted).bool):=by
 unfold isTrue;by_cases e:(aX m.text m.quoted).kind=2
 ·rw[dT ⟨h,e⟩,dT e]
 ·rw[dF (fun q=>e q.2),dF e]
theorem Ko (hf:RdV a n db kb b vb (o+k*6)) (h:RdW w0 w n db kb b o cap ms m0 rs) (hk:ms[k]? =some mk) (hv:Gf w vb (aX mk.nd.text mk.nd.quoted))
 (bad:∀a' w',isTrue mk.nd=false->RdB a' n->RdE w0 w' n->Q (.panic (gh (mk.nd.line,123))) a' w')
 (ok:∀a' w',isTrue mk.nd=true->RdD a' n db kb->RdW w0 w' n db kb b o cap ms m0 rs->Q .normal a' w'):vR.wp Tryz.prog Q a w:=by
 have hM:=h.doc.toM;have c:=(hM.at hk).1;have x0:=c.c0;have x4:=c.c4;have HW:=hid h;have hi1:¬mk.nd.kind=1->isTrue mk.nd=false:=ug;have hi2:mk.nd.kind=1->isTrue mk.nd=(decide ((aX mk.nd.text mk.nd.quoted).kind=2)&&(aX mk.nd.text mk.nd.quoted).bool):=Ag;have Hfl:=hid (fun w3 l e=>iu w3 l e);unfold Gf at hv;generalize isTrue mk.nd=it at*;generalize aX mk.nd.text mk.nd.quoted=rv at*
 obtain ⟨vk,vbl,vi,vr,vt⟩:=rv;simp only at hv hi2;obtain ⟨y0,y1⟩:=cB2 hv;simp at y0 y1;generalize mk.nd.kind=kd at*;have Hok:=hid ok;have Hbad:=hid bad;obtain ⟨vv,rfl,eE⟩:=hf.shape;simp only[iE,eE];clear eE;clear hf ok bad h hM c hk hv;by_cases hkd:kd=1
 ·have hit:=hi2 hkd;subst hkd;clear hi1 hi2;by_cases hk2:vk=2
  ·subst hk2;simp only[decide_true]at hit;cases vbl with
   |true=>
    have HO:=hid (fun a' w'=>Hok.o a' w' hit);clear hit Hok Hbad Hfl;dsimp only[ju,bL,ncb,nce,ncl,nco,ncr,ncs,nct,ncx,vR,rdx,Tryz.f21];go_wp2;exact HO.o _ _ ⟨rfl,rfl,rfl,rfl,rfl,rfl,rfl⟩ HW.o
   |false=>
    have HB:=hid (fun a' w'=>Hbad.o a' w' hit);clear hit Hok Hbad;dsimp only[ju,bL,ncb,nce,ncl,nco,ncr,ncs,nct,ncx,vR,rdx,Tryz.f21]
    go_wp2_with fail
    refine (Hfl.o _ _ _).mono ?_;rintro r w3 ⟨rfl,rfl⟩;exact HB.o _ _ ⟨rfl,rfl,rfl,rfl,rfl⟩ HW.o.toE
  ·rw[dF hk2]at hit;have HB:=hid (fun a' w'=>Hbad.o a' w' hit);clear hit Hok Hbad;dsimp only[ju,bL,ncb,nce,ncl,nco,ncr,ncs,nct,ncx,vR,rdx,Tryz.f21]
   go_wp2_with fail
   refine (Hfl.o _ _ _).mono ?_;rintro r w3 ⟨rfl,rfl⟩;exact HB.o _ _ ⟨rfl,rfl,rfl,rfl,rfl⟩ HW.o.toE
 ·have hit:=hi1 hkd;have HB:=hid (fun a' w'=>Hbad.o a' w' hit);clear hi1 hi2 hit Hok Hbad;dsimp only[ju,bL,ncb,nce,ncl,nco,ncr,ncs,nct,ncx,vR,rdx,Tryz.f21]
  go_wp2_with fail
  refine (Hfl.o _ _ _).mono ?_;rintro r w3 ⟨rfl,rfl⟩;exact HB.o _ _ ⟨rfl,rfl,rfl,rfl,rfl⟩ HW.o.toE
theorem Kb (w:World) (x y z:ByteArray):SlR (w.alloc (.cells #[.string x,.string y,.string z] 9)) (.slice (some ⟨w.heap.size,0,none⟩) 3 3) 1 [x,y,z] aR:=by
 refine ⟨_,_,rfl,by simp,fun _=>⟨_,_,rfl,by simp,?_⟩⟩;intro i s hi j u hj;have hn:=ah (w:=w) (.cells #[.string x,.string y,.string z] 9);rw[af hn]
 match i,j,hi,hj with
 |0,0,hi,hj=>cases hi;cases hj;rfl
 |1,0,hi,hj=>cases hi;cases hj;rfl
 |2,0,hi,hj=>cases hi;cases hj;rfl
theorem Kn (Y:Code) (hf:RdD a n db kb) (h:RdW w0 w n db kb b o cap ms m0 rs)
 (bad:∀e a' w',bG (nds ms) [kKind,bB,bu] m0.nd.kids= .error e->RdB a' n->RdE w0 w' n->Q (.panic (gh e)) a' w')
 (ok:∀a' w',bG (nds ms) [kKind,bB,bu] m0.nd.kids= .ok ()->RdD a' n db kb->RdW w0 w' n db kb b o cap ms m0 rs->Y.wp Tryz.prog Q a' w'):(Code.seq BS Y).wp Tryz.prog Q a w:=by
 have hM:=h.doc.toM;have hyo:=hM.ok h.hm;obtain ⟨ay,cy,hyv,_,_⟩:=aF hyo.kids;obtain ⟨qy,hqy⟩:=ex (m0.nd.kids.length);rw[<-hqy]at hyv;have hb1:=(aAb w.heap.size w).alloc (aAa _) (.cells #[.string kKind,.string bB,.string bu] 9);have Ho:=hid (oI _ db b o cap ms (h.doc.later hb1).toM m0 h.hm _ _ (Kb w kKind bB bu));rw[aZ hyv]at Ho;have HW:=hid (h.later hb1)
 obtain ⟨k0,k1,k2,k3,k4,k5⟩:=aV h.kid hyv;have Hok:=hid ok;have Hbad:=hid bad;obtain ⟨vv,rfl,eE⟩:=hf.shape;simp only[iE,eE];clear eE;clear hf ok bad h hM hyo hyv hqy hb1;unfold Ends at Ho;cases hop:bG (nds ms) [kKind,bB,bu] m0.nd.kids with
 |error e=>
  rw[hop]at Ho;have HB:=hid (fun a' w'=>Hbad.o e a' w' hop);clear hop Hok Hbad;unfold kKind bB bu at Ho HW;simp only at Ho;dsimp only[ju,bL,ncb,nce,ncl,nco,ncr,ncs,nct,ncx,BS,rdx,Tryz.f21]
  go_wp2_with fail
  refine Ho.o.mono ?_;rintro r w4 ⟨rfl,hb4⟩;exact HB.o _ _ ⟨rfl,rfl,rfl,rfl,rfl⟩ (HW.o.later hb4).toE
 |ok u=>
  rw[hop]at Ho;have HO:=hid (fun a' w'=>Hok.o a' w' hop);clear hop Hok Hbad;unfold kKind bB bu at Ho HW;simp only at Ho;dsimp only[ju,bL,ncb,nce,ncl,nco,ncr,ncs,nct,ncx,BS,rdx,Tryz.f21]
  go_wp2_with fail
  refine Ho.o.mono ?_;rintro r w4 ⟨rfl,hb4⟩;have HW4:=hid (HW.o.later hb4);clear hb4 Ho HW k0 k1 k2 k3 k4 k5;go_wp2;exact HO.o _ _ ⟨rfl,rfl,rfl,rfl,rfl,rfl,rfl⟩ HW4.o
end
noncomputable def Gs:Code:=ncl tH
noncomputable def BR:Code:=ncr tH
section
variable {w0 w:World} {Q:Exit->Act->World->Prop} {a:Act} {ms:List NdM} {n db kb qb gb b o cap k vb:Nat} {m0 mk:NdM} {rs:Res}
theorem Kl {ev tv rv:Value} (hf:RdB a n) (hl:ResL w rs ev tv rv) (h1:w.heap[n]? =some (.cells (bJ rs ev tv rv) 49 (0,0))) (h2:w.heap[n+1]? =some (.cells #[.int .i64 0] 3 (0,0))) (h3:w.heap[n+1+1]? =some (.cells #[.int .i64 0] 25 (0,0)))
 (ok:∀a' w',RdB a' n->Mod (fun k=>k=n\/k=n+1\/k=n+1+1) w w'->w'.heap[n]? =some (.cells (bJ rs ev tv rv) 49 (0,0))->w'.heap[n+1]? =some (.cells #[.int .i64 0] 3 (0,0))->w'.heap[n+1+1]? =some (.cells #[.int .i64 0] 25 (0,0))->Q .ret a' w'):
 BR.wp Tryz.prog Q a w:=by
 obtain ⟨ae,ce,rfl,_⟩:=hl.e;obtain ⟨at',ct,rfl,_⟩:=hl.t;obtain ⟨ar,cr,rfl,_⟩:=hl.r;have HE:=hid (kF (l:= .int .i64 0) (e:= .int .i64 0) (v0:= .int .i64 rs.kind) (v1:= .string rs.name) (v2:= .slice ae rs.endps.length ce) (v3:= .slice at' rs.targets.length ct) (v4:= .string rs.host) (v5:= .slice ar rs.rules.length cr) (v6:= .string rs.route) (v7:= .bool rs.del) h1 rfl h2 h3);obtain ⟨c0,c1,c2,c3,c4,c5,c6,c7⟩:=cB8 h1
 have f1:=fun j=>ai h1 j;have l1:=af h2 0;have l2:=ai h2 0;have l3:=af h3 0;have l4:=ai h3 0;unfold bJ at c0 c1 c2 c3 c4 c5 c6 c7;simp at c0 c1 c2 c3 c4 c5 c6 c7 l1 l3;have Hok:=hid ok;obtain ⟨vv,rfl,eE⟩:=hf.shape;simp only[iE,eE];clear eE;clear hf ok hl h1 h2 h3;dsimp only[ju,bL,ncb,nce,ncl,nco,ncr,ncs,nct,ncx,BR,tH,rdx,Tryz.f21]
 go_wp2;obtain ⟨z1,z2,z3,z4⟩:=HE.o _ rfl;exact Hok.o _ _ ⟨rfl,rfl,rfl,rfl,rfl⟩ z1 z2 z3 z4
theorem BH (w:World) (kd:Int) (nm:ByteArray) (dl:Bool):ResL w ⟨kd,nm,[],[],⟨#[]⟩,[],⟨#[]⟩,dl⟩ (.slice none 0 0) (.slice none 0 0) (.slice none 0 0):=
 ⟨⟨none,0,rfl,by simp,fun h=>absurd h (by simp)⟩,⟨none,0,rfl,by simp,fun h=>absurd h (by simp)⟩,⟨none,0,rfl,by simp,fun h=>absurd h (by simp)⟩⟩
theorem BG (w:World) (lo:Nat) (kd:Int) (nm:ByteArray) (dl:Bool):ResN w lo ⟨kd,nm,[],[],⟨#[]⟩,[],⟨#[]⟩,dl⟩ (.slice none 0 0) (.slice none 0 0) (.slice none 0 0):=
 ⟨World.ownsRow_nil _ _ _ _,World.ownsRow_nil _ _ _ _,World.ownsRow_nil _ _ _ _,nofun,nofun,nofun,by simp⟩
theorem Km {kd:Int} {nm:ByteArray} (hf:RdD a n db kb) (h:RdW w0 w n db kb b o cap ms m0 ⟨kd,nm,[],[],⟨#[]⟩,[],⟨#[]⟩,false⟩)
 (ok:∀a' w',RdB a' n->Below w0.heap.size w0 w'->w'.heap[n]? =some (.cells (bJ ⟨kd,nm,[],[],⟨#[]⟩,[],⟨#[]⟩,true⟩ (.slice none 0 0) (.slice none 0 0) (.slice none 0 0)) 49 (0,0))->w'.heap[n+1]? =some (.cells #[.int .i64 0] 3 (0,0))->w'.heap[n+1+1]? =some (.cells #[.int .i64 0] 25 (0,0))->Q .ret a' w'):
 tH.wp Tryz.prog Q a w:=by
 have hp:RdW w0 (w.setCell ⟨n,7,none⟩ (.bool true)) n db kb b o cap ms m0 ⟨kd,nm,[],[],⟨#[]⟩,[],⟨#[]⟩,true⟩:=h.put 7 (.bool true) rfl;have c7:=af h.res 7;have f7:=ai h.res 7;unfold bJ at c7;simp at c7;have HG:=hid (fun a' (hf':RdB a' n)=>Kl (Q:=Q) hf' (BH _ kd nm true) hp.res hp.lin hp.err (fun a2 w2 q1 q2 q3 q4 q5=>ok a2 w2 q1 (hp.doc.below.trans (q2.below hp.doc.below.size fun i hi=>by have:=hp.nn;omega)) q3 q4 q5))
 obtain ⟨vv,rfl,eE⟩:=hf.shape;simp only[iE,eE];clear eE;clear hf ok hp h
 show (Code.seq Gs BR).wp _ _ _ _
 dsimp only[ju,bL,ncb,nce,ncl,nco,ncr,ncs,nct,ncx,Gs,tH,rdx,Tryz.f21];refine wp_seq ?_;go_wp2;exact HG.o _ ⟨rfl,rfl,rfl,rfl,rfl⟩
def uK (ns:List Nd) (m x:Nd):R Unit:=if isTrue x=false then .error (x.line,123) else bG ns [kKind,bB,bu] m.kids
theorem Kf {kd:Int} {nm:ByteArray} (hf:RdP a n db kb b (o+k*6)) (h:RdW w0 w n db kb b o cap ms m0 ⟨kd,nm,[],[],⟨#[]⟩,[],⟨#[]⟩,false⟩) (hk:ms[k]? =some mk)
 (bad:∀e a' w',uK (nds ms) m0.nd mk.nd= .error e->RdB a' n->RdE w0 w' n->Q (.panic (gh e)) a' w')
 (ok:∀a' w',uK (nds ms) m0.nd mk.nd= .ok ()->RdB a' n->Below w0.heap.size w0 w'->w'.heap[n]? =some (.cells (bJ ⟨kd,nm,[],[],⟨#[]⟩,[],⟨#[]⟩,true⟩ (.slice none 0 0) (.slice none 0 0) (.slice none 0 0)) 49 (0,0))->w'.heap[n+1]? =some (.cells #[.int .i64 0] 3 (0,0))->w'.heap[n+1+1]? =some (.cells #[.int .i64 0] 25 (0,0))->Q .ret a' w'):
 rdx.wp Tryz.prog Q a w:=by
 show (Code.seq (Code.seq IF vR) (Code.seq BS tH)).wp _ _ _ _
 refine wp_seq ?_;refine Kp (ms:=ms) (m0:=m0) vR hf h hk ?_;intro a1 w1 vb hf1 h1 hv;refine Ko hf1 h1 hk hv ?_ ?_
 ·intro a2 w2 ht hf2 h2;exact bad _ _ _ (by unfold uK;rw[if_pos ht]) hf2 h2
 ·intro a2 w2 ht hf2 h2
  show (Code.seq BS tH).wp _ _ _ _
  have hd:uK (nds ms) m0.nd mk.nd=bG (nds ms) [kKind,bB,bu] m0.nd.kids:=by unfold uK;rw[if_neg (by rw[ht];simp)]
  rw[hd]at bad ok;refine Kn tH hf2 h2 (fun e a' w' he=>bad e a' w' he) ?_;intro a3 w3 ho hf3 h3;exact Km hf3 h3 (fun a' w'=>ok a' w' ho)
end
def xd (ns:List Nd) (m:Nd) (k:Nat) (s:ByteArray):R Res:=
 match bC ns m bu with
 |some x=>(match uK ns m x with| .error e=> .error e| .ok ()=> .ok ⟨(k:Int),s,[],[],⟨#[]⟩,[],⟨#[]⟩,true⟩)
 |none=>qZ ns m ⟨(k:Int),s,[],[],⟨#[]⟩,[],⟨#[]⟩,false⟩ k
def qV (ns:List Nd) (m:Nd) (k:Nat):R Res:=match nwP ns m bB isName with| .error e=> .error e| .ok s=>xd ns m k s
def xe (ns:List Nd) (m:Nd):R Res:=
 match dt m with
 | .error e=> .error e
 | .ok ()=>match bH ns m kKind with
  | .error e=> .error e
  | .ok k=>if kindN k=0 then .error (k.line,120) else qV ns m (kindN k)
theorem FO {ns:List Nd} (h:dI ns=true):fR ns=xe ns (ns[0]!):=by
 unfold fR xe qV xd nwP uK;rw[if_neg (by rw[h];simp)];cases dt (ns[0]!) with
 |error e=>rfl
 |ok u=>
  cases bH ns (ns[0]!) kKind with
  |error e=>rfl
  |ok k=>
   by_cases hk:kindN k=0
   ·simp only[if_pos hk]
   ·simp only[if_neg hk];cases bH ns (ns[0]!) bB with
    |error e=>rfl
    |ok n=>
     cases hw:aS n isName with
     |error e=>simp only[hw]
     |ok s=>
      simp only[hw];cases bC ns (ns[0]!) bu with
      |none=>rfl
      |some x=>
       simp only;by_cases ht:isTrue x=false
       ·simp only[if_pos ht]
       ·simp only[if_neg ht];rfl
noncomputable def vQ:Code:=(ncr (ncr (ncr (ncr (ncr (ncx Tryz.f21.body))))))
theorem zu:vQ=Code.seq rd6 (Code.seq rd7 (Code.seq rd8 (Code.seq rd9 (Code.seq zv (Code.seq BT (Code.seq ju (Code.seq BQ (Code.seq IE (Code.seq ID (Code.seq IC rdT)))))))))):=rfl
theorem ER {w0 w:World} {a:Act} {ms:List NdM} {n db kb b o cap:Nat} {m0:NdM} (hf:RdD a n db kb) (h:RdW w0 w n db kb b o cap ms m0 Res.zero) (h0:ms[0]? =some m0) (ht:dI (nds ms)=true):
 vQ.wp Tryz.prog (bodyPostD Tryz.prog Tryz.f21 (lM w0 (fR (nds ms)))) a w:=by
 have hd:fR (nds ms)=xe (nds ms) m0.nd:=by rw[FO ht,eS h0]
 rw[hd,zu];refine rd_a _ hf h ?_ ?_
 ·intro e a' w' he hf' h';refine l6 ?_ hf' h';rcases he with he|⟨h1,h2⟩
  ·unfold xe;rw[he]
  ·unfold xe;rw[h1,h2]
 intro a1 w1 mk qb gb hmp hnp hmk hf1 h1 hq hg hql hgl;have hd1:xe (nds ms) m0.nd=if kindN mk.nd=0 then .error (mk.nd.line,120) else qV (nds ms) m0.nd (kindN mk.nd):=by unfold xe;rw[hmp,hnp]
 rw[hd1];refine rd_b _ hf1 h1 rfl hmk hq hg hql hgl ?_ ?_
 ·intro a' w' hk hf' h';exact l6 (by rw[if_pos hk]) hf' h'
 intro a2 w2 hk1 hk4 hf2 h2;rw[if_neg (by omega:¬kindN mk.nd=0)];generalize kindN mk.nd=k at*;refine rd_c _ hf2 h2 ?_ ?_
 ·intro e a' w' he hf' h';exact l6 (by unfold qV;rw[he]) hf' h'
 intro a3 w3 s hs hf3 h3;have hd3:qV (nds ms) m0.nd k=xd (nds ms) m0.nd k s:=by unfold qV;rw[hs]
 rw[hd3];cases hfn:bz (nds ms) m0.nd bu with
 |some x=>
  obtain ⟨mx,hmx,hmem,hnd,_⟩:=bS h3.doc.toM h3.hm hfn;have hd4:xd (nds ms) m0.nd k s=match uK (nds ms) m0.nd mx.nd with| .error e=> .error e| .ok ()=> .ok ⟨(k:Int),s,[],[],⟨#[]⟩,[],⟨#[]⟩,true⟩:=by
   unfold xd bC;rw[hfn];simp only[Option.map_some,hnd]
  rw[hd4];refine Kq _ hf3 h3 hfn ?_;intro Q1 a4 w4 hp hr hf4 h4;refine Kf hf4 h4 hmx ?_ ?_
  ·intro e a' w' he hf' h';exact hp _ _ _ (l6 (by rw[he]) hf' h')
  ·intro a' w' he hf' hb z1 z2 z3;exact hr _ _ (BO (by rw[he]) hf' hb z1 (BG _ _ _ _ _) z2 z3)
 |none=>
  have hd4:xd (nds ms) m0.nd k s=match bG (nds ms) (kKind::bB::p7 k) m0.nd.kids with| .error e=> .error e| .ok ()=>uI (nds ms) m0.nd ⟨(k:Int),s,[],[],⟨#[]⟩,[],⟨#[]⟩,false⟩ k:=by
   unfold xd bC;rw[hfn];rfl
  rw[hd4];refine Kr _ hf3 h3 hfn ?_;intro a4 w4 hf4 h4;cases hop:bG (nds ms) (kKind::bB::p7 k) m0.nd.kids with
  |error e=>
   refine BP _ hf4 h4 rfl hk1 hk4 ?_ hop;intro e2 a' w' he hf' h';rw[hop]at he;injection he with he
   exact l6 (by rw[he]) hf' h'
  |ok u=>
   refine ES _ hf4 h4 rfl hk1 hk4 hop ?_;intro a5 w5 _ hf5 h5;refine rd_f (rs:=⟨(k:Int),s,[],[],⟨#[]⟩,[],⟨#[]⟩,false⟩) _ hf5 h5 hk1 hk4 ?_ ?_
   ·intro e a' w' he hf' h';exact l6 he hf' h'
   ·intro a6 w6 r he hf6 hb6 hres hl6 he6;obtain ⟨ev,tv,rv,hr,hN⟩:=hres;refine rd_g hf6 hN.toL hr hl6 he6 ?_;intro a7 w7 hf7 hm z1 z2 z3;have hn5:=h5.nn;exact BO he hf7 (hb6.trans (hm.below hb6.size fun i hi=>by omega)) z1 ((hN.mod hm (fun g hg e=>by have:=hN.fe g hg;omega) (fun g hg e=>by have:=hN.ft g hg;omega) (fun g hg e=>by have:=hN.fu g hg;omega)).down (by omega)) z2 z3
