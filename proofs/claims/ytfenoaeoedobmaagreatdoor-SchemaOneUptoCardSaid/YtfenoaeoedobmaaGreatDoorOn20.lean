/-
Parts of a proof.
-/
import Derived.Test.YtfenoaeoedobmaaGreatDoorOn19
set_option linter.unusedVariables false
set_option linter.unusedSimpArgs false
set_option maxHeartbeats 4000000
set_option maxRecDepth 20000
namespace Go.Proofs.YtfenoaeoedobmaaGreatDoor
open Go Go.RowKit
section
variable {w0 w:World} {Q:Exit->Act->World->Prop} {a:Act} {ms:List NdM} {pb ind nb b2 o2 q cap2 b o n cap:Nat} {th:Bool} {v:Value} {l:List UInt8} {m:NdM}
theorem R0 {LAY:Nat->Nat->Bool->List UInt8->List UInt8} (hN:Nds w0 (.slice (some ⟨b,o,none⟩) n cap) ms) (hb:b<w0.heap.size) (bN:∀i m,ms[i]? =some m->NdAt w0 b (o+i*6) m/\m.Ok w0) (hn:ms.length=n)
 (hf:LyA a pb (.slice (some ⟨b,o,none⟩) n cap) ind nb b2 o2 q cap2 0 th) (hB:Base w0 w pb v) (h:Pg w pb v l) (hA:Apart w pb v nb (NdO m)) (cd:m.nd.kind=2\/m.nd.kind=3) (hq:q=m.nd.kids.length) (X6:q<=1048576)
 (hx:∀j x,m.nd.kids[j]? =some x->w0.cell? ⟨b2,o2+j,none⟩=some (.int .i64 x)) (bI:b2<w0.heap.size) (Ie:∀x∈m.nd.kids,∃k:Nat,x=(k:Int)/\k<n) (pI:ind<=10000)
 (ih:∀(k:Nat) th w1 v1 l1,(k:Int)∈m.nd.kids->Base w0 w1 pb v1->Pg w1 pb v1 l1->Calls Tryz.prog 64 #[.pointer (some ⟨pb,0,none⟩),.slice (some ⟨b,o,none⟩) n cap,.int .i64 (k:Int),.int .i64 ((ind:Int)+2),.bool th] w1 fun r w'=>r= .returned (.tuple #[])/\∃v',PgTo w1 pb v1 w' v' (LAY k (ind+2) th l1))
 (ok:∀a' w' v',a'.defers=[]->PgTo w pb v w' v' (kt (nds ms) LAY m.nd.kind ind m.nd.kids th l)->Q (.exit 0) a' w'):(ncb VZ).wp Tryz.prog Q a w:=by
 show (Code.loop (Code.seq VY (Code.seq VX (Code.seq (Code.block 1 G1) Zd)))).wp Tryz.prog Q a w
 refine wp_loop (fun a' w'=>∃(j:Nat) (th':Bool) (v':Value) (l':List UInt8),j<=q/\LyA a' pb (.slice (some ⟨b,o,none⟩) n cap) ind nb b2 o2 q cap2 j th'/\PgTo w pb v w' v' l'/\Apart w' pb v' nb (NdO m)/\
  kt (nds ms) LAY m.nd.kind ind m.nd.kids th l=kt (nds ms) LAY m.nd.kind ind (m.nd.kids.drop j) th' l') (fun a' _=>q-(intOf (a'.tmps.getD 38 undef)).toNat) ⟨0,th,v,l,Nat.zero_le _,hf,PgTo.refl h,hA,rfl⟩ ?_
 clear hf hA;rintro a1 w1 ⟨j,th1,v1,l1,hj,gJ,TY,hA1,hs⟩;by_cases g7:j<q
 ·obtain ⟨x,TP⟩:∃x,m.nd.kids[j]? =some x:=aF (by omega);have hxm:=List.mem_of_getElem? TP;obtain ⟨k,rfl,cg⟩:=Ie x hxm;have rT:m.nd.kids.drop j=(k:Int)::m.nd.kids.drop (j+1):=by
   obtain ⟨aN,he⟩:=aBo TP;rw[List.drop_eq_getElem_cons aN,he]
  rw[rT,Kp]at hs;obtain ⟨mk,cN⟩:∃mk,ms[k]? =some mk:=aF (by omega);obtain ⟨c,hok⟩:=bN k mk cN;have gu:=gI cN;have mj:(jd m.nd.kind mk.nd.key).length<=5000000:=by
   have h3:=hok.key;have h2:=lC mk.nd.key.data.toList;rw[aq]at h2;unfold jd
   split
   ·rw[aBj];unfold nD
    split
    ·rw[aq];simp;omega
    ·simp;omega
   ·simp
  have HR:∀(Q':Exit->Act->World->Prop) (a':Act),LyA a' pb (.slice (some ⟨b,o,none⟩) n cap) ind nb b2 o2 q cap2 j th1->
   (∀a2 w2 v2 l2,LyA a2 pb (.slice (some ⟨b,o,none⟩) n cap) ind nb b2 o2 q cap2 j false->PgTo w pb v w2 v2 l2->Apart w2 pb v2 nb (NdO m)->kt (nds ms) LAY m.nd.kind ind m.nd.kids th l=kt (nds ms) LAY m.nd.kind ind (m.nd.kids.drop (j+1)) false l2->Q' .normal a2 w2)->
   G1.wp Tryz.prog Q' a' w1:=by
   intro Q' a' im hok'
   show (Code.seq R6 (Code.seq R5 (Code.seq R4 (Code.seq R3 (Code.seq R2 (Code.seq R1 NN)))))).wp Tryz.prog Q' a' w1
   have WL:=hB.step TY;refine ly_a _ im TY.pg ((WL.below.cell bI).trans (hx j _ TP)) g7 pI (fun a2 w2 v2 f2 p2=> ?_);have CU:=TY.trans p2;have LJ:=WL.step p2;have hA2:=hA1.step p2;have mT:NdAt w2 b (o+k*6) mk:=⟨(LJ.below.cell hb).trans c.c0,(LJ.below.cell hb).trans c.c1,(LJ.below.cell hb).trans c.c2,(LJ.below.cell hb).trans c.c3,(LJ.below.cell hb).trans c.c4,(LJ.below.cell hb).trans c.c5⟩
   refine ly_b _ f2 p2.pg mT (hok.later LJ.below) cg (aa hA2.blk 0) (af hA2.blk) cd (fun a3 w3 f3 p3 hK3=> ?_);have Qw:=CU.trans p3;have hB3:=LJ.step p3;have hA3:=hA2.step p3;refine ly_c (LAY:=LAY) (ns:=nds ms) f3 p3.pg hK3 (hok.later hB3.below) hA3 gu rfl mj pI (fun th4 w4 v4 l4 p4=>ih k th4 w4 v4 l4 hxm (hB3.step p4) p4.pg) (fun a5 w5 v5 f5 p5=> ?_);exact hok' a5 w5 v5 _ f5 (Qw.trans p5) (hA3.step p5) hs
  obtain ⟨cY,df⟩:=bL (k:=j) (n:=q) g7 (by omega);have mX:=hid HR;have Hj:=hid g7;have tj:decide (j<q)=true:=dT g7;have wj:wrap64 ((j:Int)+1)=(j:Int)+1:=bK (by omega) (by omega);obtain ⟨vv,rfl,eE⟩:=gJ.shape;simp only[uB,eE];clear eE;clear gJ hs TP hxm rT hx hj g7 ok hN bN hn hq cd hB h TY hA1 cN c hok gu mj ih HR Ie cg pI X6 hb bI;dsimp only[VY,VX,ncs,ncl,ncr,ncb,nco,nct,nce,ncx,Tryz.f64]
  go_wp2
  rename_i Q1 K1 AV
  refine mX.o _ _ ⟨rfl,rfl,rfl,rfl,rfl,rfl,rfl,rfl,rfl,rfl,rfl⟩ (fun a2 w2 v2 l2 f2 p2 A2 e2=>AV _ _ ?_);have HE:=hid (show j+1<=q/\PgTo w pb v w2 v2 l2/\Apart w2 pb v2 nb (NdO m)/\kt (nds ms) LAY m.nd.kind ind m.nd.kids th l=kt (nds ms) LAY m.nd.kind ind (m.nd.kids.drop (j+1)) false l2 from ⟨Hj.o,p2,A2,e2⟩);obtain ⟨v2',rfl,eE⟩:=f2.shape;simp only[uB,eE];clear eE;clear f2 p2 A2 e2 mX;dsimp only[Zd,ncs,ncl,ncr,ncb,nco,nct,nce,ncx,Tryz.f64]
  go_wp2;obtain ⟨z1,z2,z3,z4⟩:=HE.o;exact ⟨⟨j+1,false,v2,l2,z1,⟨rfl,rfl,rfl,rfl,rfl,rfl,rfl,rfl,rfl,rfl,congrArg some df.o⟩,z2,z3,z4⟩,cY.o⟩
 ·have ej:j=q:=by omega
  subst ej;have jA:kt (nds ms) LAY m.nd.kind ind m.nd.kids th l=l1:=by
   rw[hs,List.drop_eq_nil_of_le (by omega)];rfl
  rw[jA]at ok;have HO:=hid (fun a' hd=>ok a' w1 v1 hd TY);have tj:decide (j<j)=false:=dF (Nat.lt_irrefl j);obtain ⟨vv,rfl,eE⟩:=gJ.shape;simp only[uB,eE];clear eE;clear gJ hs hx hj g7 ok hN bN hn hq cd hB h TY hA1 ih Ie pI X6 hb bI jA;dsimp only[VY,VX,ncs,ncl,ncr,ncb,nco,nct,nce,ncx,Tryz.f64];go_wp2;exact HO.o _ rfl
end
theorem Pt (s:ByteArray):(s.extract 1 s.size).data.toList=s.data.toList.tail:=by
 rw[ByteArray.data_extract,Array.toList_extract,List.extract_eq_take_drop,List.drop_one,List.take_of_length_le];rw[List.length_tail,Array.length_toList];exact aBh _
theorem V6 {ns:List Nd} (ht:dj ns=true) {i:Nat} (hi:i<ns.length) (hk:¬(ns[i]!).kind=1):
 ((ns[i]!).kind=2\/(ns[i]!).kind=3)/\(∀x∈(ns[i]!).kids,∃k:Nat,x=(k:Int)/\i<k/\k<ns.length):=by
 obtain ⟨_,hg⟩:=(jI ns).1 ht;have h:=hg.node i hi;unfold kE at h
 split at h
 ·cases h
 ·rename_i h0
  rw[if_neg (fun q=>hk q.1)]at h
  split at h
  ·cases h
  ·rename_i h2
   have hR:eS ns (ns[i]!).kind (ns[i]!).kids (i:Int) []=true:=Decidable.not_not.1 fun hh=>h2 ⟨by omega,.inr (.inr (.inr hh))⟩;refine ⟨by omega,fun x hx=> ?_⟩;have:=(iB hR).1 x hx;exact ⟨x.toNat,by omega,by omega,by omega⟩
theorem Km {ns:List Nd} {f i ind:Nat} {th:Bool} {out:List UInt8} (h:(ns[i]!).kind=1) (h2:fa (ns[i]!)=[]):kV ns (f+1) i ind th out=out:=by rw[kV,if_pos h,if_pos h2]
theorem Fu {ns:List Nd} {f i ind:Nat} {th:Bool} {out:List UInt8} (h:(ns[i]!).kind=1) (h2:¬fa (ns[i]!)=[]):kV ns (f+1) i ind th out=gW (gW out (fa (ns[i]!)).tail) [10]:=by rw[kV,if_pos h,if_neg h2]
theorem Kn {ns:List Nd} {f i ind:Nat} {th:Bool} {out:List UInt8} (h:¬(ns[i]!).kind=1):kV ns (f+1) i ind th out=kt ns (kV ns f) (ns[i]!).kind ind (ns[i]!).kids th out:=by rw[kV,if_neg h]
theorem Zf {w0:World} {V:Value} {ms:List NdM} (hN0:Nds w0 V ms) (ht:dj (nds ms)=true):∀(f i ind:Nat) (th:Bool) (w:World) (pb:Nat) (v:Value) (l:List UInt8),Base w0 w pb v->Pg w pb v l->i<ms.length->ms.length<=i+f->ind<=2*i->
 Calls Tryz.prog 64 #[.pointer (some ⟨pb,0,none⟩),V,.int .i64 (i:Int),.int .i64 (ind:Int),.bool th] w fun r w'=>r= .returned (.tuple #[])/\∃v',PgTo w pb v w' v' (kV (nds ms) f i ind th l):=by
 obtain ⟨ao,cap,hv,hl,qS⟩:=hN0.open;have hN:=hN0;obtain ⟨n,hn⟩:=ex (ms.length);rw[<-hn]at hv hl qS |-;rw[hv]at hN;subst hv;have ll:(nds ms).length=n:=by rw[bP,hn]
 have hn4:n<=4096:=by
  have:=((jI _).1 ht).1.2.1;omega
 intro f
 induction f with
 |zero=>
  intro i ind th w pb v l _ _ h1 h2;omega
 |succ f ih=>
  intro i ind th w pb v l hB h hi hf pI;obtain ⟨b,o,rfl,hb,bN⟩:=qS (by omega);obtain ⟨m,hm⟩:∃m,ms[i]? =some m:=aF (by omega);obtain ⟨c,hok⟩:=bN i m hm;have fh:(nds ms)[i]! =m.nd:=gI hm;have bi:(i:Int)<(n:Int):=by omega
  obtain ⟨kp,cap2,cI,mF,hks⟩:=aL hok.kids;obtain ⟨q,hq⟩:=ex (m.nd.kids.length);rw[<-hq]at cI mF hks;have gv:=hB.below;have x0:=(gv.cell (p:=⟨b,o+i*6,none⟩) hb).trans c.c0;have x1:=(gv.cell (p:=⟨b,o+i*6+1,none⟩) hb).trans c.c1;have x2:=(gv.cell (p:=⟨b,o+i*6+2,none⟩) hb).trans c.c2;have x3:=(gv.cell (p:=⟨b,o+i*6+3,none⟩) hb).trans c.c3;have x4:=(gv.cell (p:=⟨b,o+i*6+4,none⟩) hb).trans c.c4
  have x5:=(gv.cell (p:=⟨b,o+i*6+5,none⟩) hb).trans c.c5;rw[cI]at x5;have HA:=hid (Apart.new h (NdO m));have HP:=hid ((PgTo.refl h).alloc (NdO m));have hE:NdO m= .cells #[.int .i64 m.nd.kind,.string m.nd.key,.string m.nd.text,.bool m.nd.quoted,.int .i64 m.nd.line,.slice kp q cap2] 55 :=by unfold NdO;rw[cI]
  by_cases h1:m.nd.kind=1
  ·have t1:(m.nd.kind==1)=true:=by rw[beq_iff_eq];exact h1
   have qQ:m.v= .agg #[.int .i64 m.nd.kind,.string m.nd.key,.string m.nd.text,.bool m.nd.quoted,.int .i64 m.nd.line,.slice kp q cap2]:=by unfold NdM.v;rw[cI]
   have Ht:=hid (fun w1 (bG:Below w.heap.size w w1)=>Iw w1 m ((hok.later hB.below).later bG));rw[qQ]at Ht;rw[hE]at HP;have Sm:(fa m.nd).length<=5000000:=by
    have h3:=hok.text;have h2:=lC m.nd.text.data.toList;rw[aq]at h2;unfold fa
    split
    ·rw[aBk];omega
    ·split
     ·rw[aBk,aq];omega
     ·simp
   have pG:∀(fn:Fn) (first cap:Array Value) (w:World),(Instr.makeFunc fn first cap).run Tryz.prog w= .ok (.func fn first cap) w:=fun _ _ _ _=>rfl;have fD:=hid (fun o=>(aBi w.heap.size w).alloc (aBh _) o);by_cases h2:fa m.nd=[]
   ·have dw:=Km (ns:=nds ms) (f:=f) (i:=i) (ind:=ind) (th:=th) (out:=l) (by rw[fh];exact h1) (by rw[fh];exact h2);rw[dw];rw[h2]at Ht;clear hB h hi hf pI hm c hok fh cI mF hks hq gv hE h1 qQ Sm h2 dw ih bN qS hN hN0 hn hl ll hn4 ht hb HA;go_enter Tryz.func64,Tryz.ntmps64
    go_wp2_with fail
    refine (Ht.o _ (fD.o _)).mono ?_;rintro r w1 ⟨rfl,bG⟩;have BH:=hid (HP.o.trans (PgTo.below HP.o.pg bG));clear bG HP Ht fD;go_wp2
    first|go_end0|refine bodyPost_ret (results_none rfl _ _ _) rfl ?_
    exact ⟨rfl,_,BH.o⟩
   ·have dw:=Fu (ns:=nds ms) (f:=f) (i:=i) (ind:=ind) (th:=th) (out:=l) (by rw[fh];exact h1) (by rw[fh];exact h2);rw[fh]at dw;rw[dw];obtain ⟨s,hs⟩:∃s:ByteArray,s=⟨(fa m.nd).toArray⟩:=⟨_,rfl⟩;have jg:s.data.toList=fa m.nd:=by rw[hs]
    rw[<-hs]at Ht;have Zv:s≠⟨#[]⟩:=fun e=>h2 (by rw[<-jg,e]);obtain ⟨k4,k5,k6⟩:=jT Zv;have gQ:s.size=(fa m.nd).length:=by rw[<-jg,aq]
    have hsp:0<s.size:=by
     rw[gQ];exact List.length_pos_iff.2 h2
    have b1:(1:Int)<=(s.size:Int):=by omega
    have Ig:=Pt s;rw[jg]at Ig;obtain ⟨s1,AM⟩:=ex (s.extract 1 s.size);have Zu:s1.size<=5000000:=by rw[AM,ByteArray.size_extract];omega
    rw[<-AM]at Ig;have Hp:=hid (fun w1 v1 (h1:Pg w1 pb v1 l)=>qs (w:=w1) h1 [s1,⟨#[10]⟩] #[.string s1,.string ⟨#[10]⟩] rfl 2 rfl (by decide) 9 (fun t ht=>by
     simp only[List.mem_cons,List.not_mem_nil,or_false]at ht;rcases ht with rfl|rfl
     ·exact Zu
     ·decide))
    have rK:=hid Ig;rw[AM]at Hp;clear hB h hi hf pI hm c hok fh cI mF hks hq gv hE h1 qQ Sm h2 dw ih bN qS hN hN0 hn hl ll hn4 ht hb HA hs jg Zv gQ hsp Ig Zu;go_enter Tryz.func64,Tryz.ntmps64
    go_wp2_with fail
    refine (Ht.o _ (fD.o _)).mono ?_;rintro r w1 ⟨rfl,bG⟩;have BH:=hid (HP.o.trans (PgTo.below HP.o.pg bG));have Hp2:=hid (Hp.o w1 v BH.o.pg);clear bG HP Ht fD Hp
    go_wp2_with fail
    refine Hp2.o.mono ?_;rintro r w2 ⟨rfl,v2,hp⟩;have HP3:=hid (BH.o.trans hp);clear hp BH Hp2;go_wp2
    first|go_end0|refine bodyPost_ret (results_none rfl _ _ _) rfl ?_
    refine ⟨rfl,v2,?_⟩;have:=HP3.o;rw[<-AM]at this;unfold oL at this;simp only[List.foldl_cons,List.foldl_nil,rK.o]at this;exact this
  ·obtain ⟨gu,Ie⟩:=V6 (ns:=nds ms) ht (i:=i) (by omega) (by rw[fh];exact h1);rw[fh]at gu Ie;have t1:(m.nd.kind==1)=false:=by rw[beq_eq_false_iff_ne];exact h1
   have FE:0<q:=by
    rcases Nat.eq_zero_or_pos q with e|e
    ·exfalso
     obtain ⟨_,hg⟩:=(jI _).1 ht;have h3:=hg.node i (by omega);rw[fh]at h3;unfold kE at h3
     split at h3
     ·cases h3
     ·rw[if_neg (fun q=>h1 q.1),if_pos ⟨by omega,.inl (List.eq_nil_of_length_eq_zero (by omega))⟩]at h3;cases h3
    ·exact e
   obtain ⟨b2,o2,rfl,bI,fY⟩:=hks FE;have pG:∀(fn:Fn) (first cap:Array Value) (w:World),(Instr.makeFunc fn first cap).run Tryz.prog w= .ok (.func fn first cap) w:=fun _ _ _ _=>rfl;have dw:=Kn (ns:=nds ms) (f:=f) (i:=i) (ind:=ind) (th:=th) (out:=l) (by rw[fh];exact h1);rw[fh]at dw;rw[dw];have HL:=hid (fun (Q':Exit->Act->World->Prop) (a':Act) w' (im:LyA a' pb (.slice (some ⟨b,o,none⟩) n cap) ind w.heap.size b2 o2 q cap2 0 th) (hp':PgTo w pb v w' v l) (hA':Apart w' pb v w.heap.size (NdO m))=>
    R0 (Q:=Q') (LAY:=kV (nds ms) f) hN hb bN hn.symm im (hB.step hp') hp'.pg hA' gu hq mF fY bI (fun x hx=>by
     obtain ⟨k,e,_,hk⟩:=Ie x hx;exact ⟨k,e,by omega⟩) (by omega) (fun k th1 w1 v1 l1 kZ WL TY=>by
     obtain ⟨k',e,hik,hk⟩:=Ie _ kZ;obtain rfl:k=k':=by omega
     exact ih k (ind+2) th1 w1 pb v1 l1 WL TY (by omega) (by omega) (by omega)))
   rw[hE]at HA HP;rw[hE]at HL;clear hB h hi hf pI hm c hok fh cI mF hks hq gv hE h1 dw ih bN qS hN hN0 hn hl ll hn4 ht hb gu Ie FE bI fY;go_enter Tryz.func64,Tryz.ntmps64;go_wp2;refine HL.o _ _ _ ⟨rfl,rfl,rfl,rfl,rfl,rfl,rfl,rfl,rfl,rfl,rfl⟩ HP.o HA.o (fun a2 w2 v2 d2 p2=> ?_);exact ⟨d2,.tuple #[],results_none rfl _ _ _,rfl,v2,HP.o.trans p2⟩
def uo (d:List Nat):List Value:=d.map fun (x:Nat)=>Value.int .i64 (x:Int)
theorem qJ:(Tryz.prog.info? 3).map (fun i=>(i.zero,i.size,i.bytes))=some (some (.int .i64 0),1,8):=by kernel_rfl
noncomputable def e7:Code:=(nco (ncb (ncr (ncl (ncr (ncr (ncr (ncr (ncx Tryz.f63.body)))))))))
noncomputable def eM:Code:=(ncb (ncl (ncr (ncr e7))))
noncomputable def ko:Code:=(ncr (ncr (ncr (ncr (ncr (ncr eM))))))
noncomputable def WR:Code:=(ncr (ncl (ncr (ncr (ncr (ncr (ncx Tryz.f63.body)))))))
noncomputable def WQ:Code:=(ncl e7)
noncomputable def WO:Code:=(ncl (ncr e7))
noncomputable def etO4:Code:=(ncr (ncr (ncr e7)))
noncomputable def A7:Code:=(ncl eM)
noncomputable def A6:Code:=(ncl (ncr eM))
noncomputable def FZ:Code:=(ncl (ncr (ncr eM)))
noncomputable def KZ:Code:=(ncl (ncr (ncr (ncr eM))))
noncomputable def etN4:Code:=(ncl (ncr (ncr (ncr (ncr eM)))))
noncomputable def etN5:Code:=(ncl (ncr (ncr (ncr (ncr (ncr eM))))))
noncomputable def etN6:Code:=(ncl ko)
noncomputable def etIn:Code:=(ncr ko)
noncomputable def WU:Code:=(ncl (nco (ncb (ncr ko))))
noncomputable def WS:Code:=(ncl (ncr (nco (ncb (ncr ko)))))
noncomputable def Px:Code:=(ncb (ncl (ncr (ncr (nco (ncb (ncr ko)))))))
noncomputable def etK4:Code:=(ncr (ncr (ncr (nco (ncb (ncr ko))))))
noncomputable def Pw:Code:=eM
def uL (v:Nat->Value):Act:=⟨#[v 0,v 1,v 2,v 3,v 4,v 5,v 6,v 7,v 8,v 9,v 10,v 11,v 12,v 13,v 14,v 15,v 16,v 17,v 18,v 19,v 20,v 21,v 22,v 23,v 24,v 25,v 26,v 27,v 28,v 29,v 30,v 31,v 32,v 33,v 34,v 35,v 36,v 37,v 38,v 39,v 40,v 41,v 42,v 43,v 44,v 45,v 46,v 47,v 48,v 49,v 50,v 51,v 52,v 53,v 54,v 55,v 56,v 57,v 58,v 59,v 60,v 61,v 62,v 63,v 64,v 65,v 66,v 67,v 68,v 69,v 70,v 71,v 72,v 73,v 74,v 75,v 76,v 77,v 78,v 79,v 80,v 81,v 82,v 83,v 84,v 85,v 86,v 87,v 88,v 89,v 90,v 91,v 92,v 93,v 94,v 95,v 96,v 97,v 98,v 99,v 100,v 101,v 102,v 103,v 104,v 105,v 106,v 107,v 108,v 109,v 110,v 111,v 112,v 113,v 114,v 115,v 116,v 117,v 118,v 119,v 120,v 121,v 122,v 123,v 124,v 125,v 126,v 127,v 128,v 129,v 130,v 131,v 132,v 133,v 134,v 135,v 136,v 137,v 138,v 139,v 140,v 141,v 142,v 143,v 144],[]⟩
theorem Pv (a:Act) (hs:a.tmps.size=145) (hd:a.defers=[]):∃v:Nat->Value,(∀(i:Nat) (x:Value),a.tmps[i]? =some x->v i=x)/\a=uL v:=by
 obtain ⟨t,d⟩:=a;obtain ⟨l⟩:=t;obtain rfl:d=[]:=hd;have hl:l.length=145:=hs;refine ⟨fun i=>l.getD i undef,fun i x hx=> ?_,?_⟩
 ·have KA:l[i]? =some x:=by simpa using hx
  simp[List.getD,KA]
 ·have e:l=(List.range 145).map (fun i=>l.getD i undef):=by
   apply List.ext_getElem
   ·simp[hl]
   ·intro i h1 h2;simp[List.getD,h1]
  generalize (fun i=>l.getD i undef)=v at e |-;subst e;rfl
structure EtO (a:Act) (b:Nat) (o:Nat) (n:Nat) (cap:Nat) (g:Nat) (i:Nat):Prop where
 size:a.tmps.size=145
 dfr:a.defers=[]
 s0:a.tmps[0]? =some (.slice (some ⟨b,o,none⟩) n cap)
 s3:a.tmps[3]? =some (.slice (some ⟨g,0,none⟩) n n)
 s30:a.tmps[30]? =some (.slice (some ⟨b,o,none⟩) n cap)
 s31:a.tmps[31]? =some (.int .i64 (n:Int))
 s32:a.tmps[32]? =some (.int .i64 (i:Int))
theorem EtO.shape {a:Act} {b:Nat} {o:Nat} {n:Nat} {cap:Nat} {g:Nat} {i:Nat} (h:EtO a b o n cap g i):∃v:Nat->Value,a=uL v/\v 0= .slice (some ⟨b,o,none⟩) n cap/\v 3= .slice (some ⟨g,0,none⟩) n n/\v 30= .slice (some ⟨b,o,none⟩) n cap/\v 31= .int .i64 (n:Int)/\v 32= .int .i64 (i:Int):=by
 obtain ⟨v,hv,hd⟩:=Pv a h.size h.dfr;exact ⟨v,hd,hv 0 _ h.s0,hv 3 _ h.s3,hv 30 _ h.s30,hv 31 _ h.s31,hv 32 _ h.s32⟩
structure EtK (a:Act) (b:Nat) (o:Nat) (n:Nat) (cap:Nat) (g:Nat) (i:Nat) (nb:Nat) (mb:Nat) (b2:Nat) (o2:Nat) (q:Nat) (cap2:Nat) (j:Nat) (last:Int):Prop where
 size:a.tmps.size=145
 dfr:a.defers=[]
 s0:a.tmps[0]? =some (.slice (some ⟨b,o,none⟩) n cap)
 s3:a.tmps[3]? =some (.slice (some ⟨g,0,none⟩) n n)
 s4:a.tmps[4]? =some (.int .i64 (i:Int))
 s5:a.tmps[5]? =some (.pointer (some ⟨nb,0,none⟩))
 s6:a.tmps[6]? =some (.map (some mb))
 s7:a.tmps[7]? =some (.int .i64 last)
 s30:a.tmps[30]? =some (.slice (some ⟨b,o,none⟩) n cap)
 s31:a.tmps[31]? =some (.int .i64 (n:Int))
 s32:a.tmps[32]? =some (.int .i64 (i:Int))
 s81:a.tmps[81]? =some (.slice (some ⟨b2,o2,none⟩) q cap2)
 s82:a.tmps[82]? =some (.int .i64 (q:Int))
 s83:a.tmps[83]? =some (.int .i64 (j:Int))
theorem EtK.shape {a:Act} {b:Nat} {o:Nat} {n:Nat} {cap:Nat} {g:Nat} {i:Nat} {nb:Nat} {mb:Nat} {b2:Nat} {o2:Nat} {q:Nat} {cap2:Nat} {j:Nat} {last:Int} (h:EtK a b o n cap g i nb mb b2 o2 q cap2 j last):∃v:Nat->Value,a=uL v/\v 0= .slice (some ⟨b,o,none⟩) n cap/\v 3= .slice (some ⟨g,0,none⟩) n n/\v 4= .int .i64 (i:Int)/\v 5= .pointer (some ⟨nb,0,none⟩)/\v 6= .map (some mb)/\v 7= .int .i64 last/\v 30= .slice (some ⟨b,o,none⟩) n cap/\v 31= .int .i64 (n:Int)/\v 32= .int .i64 (i:Int)/\v 81= .slice (some ⟨b2,o2,none⟩) q cap2/\v 82= .int .i64 (q:Int)/\v 83= .int .i64 (j:Int):=by
 obtain ⟨v,hv,hd⟩:=Pv a h.size h.dfr;exact ⟨v,hd,hv 0 _ h.s0,hv 3 _ h.s3,hv 4 _ h.s4,hv 5 _ h.s5,hv 6 _ h.s6,hv 7 _ h.s7,hv 30 _ h.s30,hv 31 _ h.s31,hv 32 _ h.s32,hv 81 _ h.s81,hv 82 _ h.s82,hv 83 _ h.s83⟩
theorem EtK.toO {a:Act} {b o n cap g i nb mb b2 o2 q cap2 j:Nat} {last:Int} (h:EtK a b o n cap g i nb mb b2 o2 q cap2 j last):EtO a b o n cap g i:=⟨h.size,h.dfr,h.s0,h.s3,h.s30,h.s31,h.s32⟩
theorem MO {ns:List Nd} {i:Nat} {d:List Nat} (hi:i<ns.length):fA ns (ns.drop i) i d=(match cW ns i (ns[i]!) d with|none=>false|some d'=>fA ns (ns.drop (i+1)) (i+1) d'):=by
 have e:ns.drop i=ns[i]! ::ns.drop (i+1):=by
  rw[List.drop_eq_getElem_cons hi];congr 1;rw[List.getElem!_eq_getElem?_getD,aBn hi];rfl
 rw[e];rfl
theorem Jy {ns:List Nd} {i:Nat} {d:List Nat} (hi:ns.length<=i):fA ns (ns.drop i) i d=true:=by
 rw[List.drop_eq_nil_of_le hi];rfl
theorem Lg {d:List Nat} {k x:Nat} (h:d[k]? =some x):(uo d)[k]? =some (.int .i64 (x:Int)):=by
 unfold uo;rw[List.getElem?_map,h];rfl
theorem zC (d:List Nat) (k x:Nat):(uo d).set k (.int .i64 (x:Int))=uo (d.set k x):=by
 unfold uo;rw[List.map_set]
structure EM (w0 w:World) (g n:Nat) (d:List Nat):Prop where
 below:Below w0.heap.size w0 w
 row:w.ownsRow 0 3 1 (.slice (some ⟨g,0,none⟩) n n) n (uo d)
 new:w0.heap.size<=g
 len:d.length=n
 low:∀x∈d,x<=17
theorem EM.at {w0 w:World} {g n:Nat} {d:List Nat} (h:EM w0 w g n d) {k x:Nat} (hx:d[k]? =some x):w.cell? ⟨g,k,none⟩=some (.int .i64 (x:Int)):=by
 have hk:=(aBo hx).1;exact (h.row.cellAt k (by have:=h.len;omega)).trans (Lg hx)
theorem EM.later {w0 w w2:World} {g n:Nat} {d:List Nat} (h:EM w0 w g n d) (hb:Below w.heap.size w w2):EM w0 w2 g n d:=
 ⟨h.below.trans (hb.mono h.below.size),oq h.row hb,h.new,h.len,h.low⟩
theorem EM.frozen {w0 w:World} {g n:Nat} {d:List Nat} (h:EM w0 w g n d) (k:Nat):w.frozen? ⟨g,k,none⟩=false:=by
 rcases h.row.2 with ⟨hv,_⟩|⟨g',cap,cur,hv,_,hc,_⟩
 ·cases hv
 ·simp only[Value.slice.injEq,Option.some.injEq,Addr.mk.injEq,and_true]at hv;obtain ⟨rfl,_⟩:=hv;exact ah hc k
structure EK (w0 w:World) (g n:Nat) (d:List Nat) (nb mb:Nat) (m:NdM) (had:List ByteArray):Prop where
 em:EM w0 w g n d
 nd:w.heap[nb]? =some (.cells #[.int .i64 m.nd.kind,.string m.nd.key,.string m.nd.text,.bool m.nd.quoted,.int .i64 m.nd.line,m.kv] 55 (0,0))
 nb0:w0.heap.size<=nb
 nbg:nb≠g
 map:Had w mb had
 mb0:w0.heap.size<=mb
 mbg:mb≠g
 mbn:mb≠nb
theorem EK.stored {w0 w:World} {g n:Nat} {d:List Nat} {nb mb:Nat} {m:NdM} {had:List ByteArray} (h:EK w0 w g n d nb mb m had) (k x:Nat) (hx:x<=17):
 EK w0 (w.setCell ⟨g,k,none⟩ (.int .i64 (x:Int))) g n (d.set k x) nb mb m had:=by
 obtain ⟨s1,s2⟩:=h.em.row.stored k (.int .i64 (x:Int));have hm:Mod (fun q=>q=g) w (w.setCell ⟨g,k,none⟩ (.int .i64 (x:Int))):=(Mod.refl _ w).setCell _ _ (fun _=>rfl);refine ⟨⟨h.em.below.trans (hm.below h.em.below.size fun q hq=>by rw[hq];exact h.em.new),by rw[<-zC];exact s1,h.em.new,by rw[List.length_set];exact h.em.len,fun y hy=> ?_⟩,hm.heap h.nd h.nbg,h.nb0,h.nbg,h.map.kept s2 (fun e=>h.mbg (aBm e)),h.mb0,h.mbg,h.mbn⟩
 rcases List.mem_or_eq_of_mem_set hy with q|q
 ·exact h.em.low y q
 ·rw[q];exact hx
theorem EK.put {w0 w w2:World} {g n:Nat} {d:List Nat} {nb mb:Nat} {m:NdM} {had had2:List ByteArray} (h:EK w0 w g n d nb mb m had) (hh:Had w2 mb had2) (hg:w.grownBy w2 (some mb)):EK w0 w2 g n d nb mb m had2:=by
 have hm:Mod (fun q=>q=mb) w w2:=(Mod.refl _ w).grown hg (fun k e _=>(aBm e).symm);exact ⟨⟨h.em.below.trans (hm.below h.em.below.size fun q hq=>by rw[hq];exact h.mb0),dE h.em.row fun g' LD=>hm.block g' (h.em.row.lt g' LD).2 (by
  simp only[Value.ownBlock,Option.some.injEq]at LD;rw[<-LD];exact fun e=>h.mbg e.symm),h.em.new,h.em.len,h.em.low⟩,hm.heap h.nd (fun e=>h.mbn e.symm),h.nb0,h.nbg,hh,h.mb0,h.mbg,h.mbn⟩
