/-
Parts of a proof.
-/
import Derived.Test.YtfenoaeoedobmaaGreatDoorOn09
import Derived.Test.YtfenoaeoedobmaaGreatDoorOn39
set_option linter.unusedVariables false
set_option linter.unusedSimpArgs false
set_option maxHeartbeats 8000000
set_option maxRecDepth 100000
namespace Go.Proofs.YtfenoaeoedobmaaGreatDoor
open Go Go.RowKit
theorem of_c (w:World) (ao:Option Addr) (cap:Nat) (ts:List Tok) (f:Nat) (zl:SlR w (.slice ao ts.length cap) 5 ts Tok.cells) (iQ:ts.length<=cap) (Zm:∀t∈ts,TokOk t) (hf:ts.length<=f):
 Calls Tryz.prog 27 #[.slice ao ts.length cap] w (SOf w (ofL f ts 0)):=by
 obtain ⟨N,hN⟩:=ex (ts.length);have hNl:N<=1048576:=by obtain ⟨_,_,e,hl,_⟩:=zl;omega
 obtain ⟨w1,gP⟩:=ex (w.alloc (.cells #[.int .i64 0,.int .i64 0,.int .i64 0] 27));have bG:Below w.heap.size w w1:=by rw[gP];exact (aBi _ _).alloc (aBh _) _
 have gJ:w1.heap[w.heap.size]? =some (.cells #[.int .i64 0,.int .i64 0,.int .i64 0] 27 (0,0)):=by rw[gP];exact ag _
 obtain ⟨X,hX⟩:=ex (ofL f ts 0);rw[<-hX,<-hN];have H0:=hid (show OfS w1 w1 X N ao N cap (.slice none 0 0) 0 from ⟨⟨ts,by rw[hN];exact zl.later bG,hN,Zm,[],rfl,RowO.first (aBi _ _),f,by omega,by
  rw[hX];cases ofL f ts 0<;>rfl⟩,by omega,by omega⟩)
 have IT:=hid gP;have kQ:=hid bG;have Gp:=hid gJ;have HNl:=hid hNl;obtain ⟨fb,oC⟩:=ex (w.heap.size);rw[<-oC]at Gp;have LN:=hid oC;clear zl iQ Zm hf bG gJ hX hN hNl;go_enter Tryz.func27,Tryz.ntmps27;go_wp2;rw[<-gP,<-oC];clear gP oC
 go_loopw [0,4] (fun vv vo wr=>∃(v2:Value) (ao:Option Addr) (n cap k:Nat),vv= .slice ao n cap/\v2=vo/\Hid (OfS w1 wr X N ao n cap v2 k)) (fun vv _ _=>slN vv)
 case atStart=>exact ⟨_,_,_,_,0,rfl,rfl,H0⟩
 case round=>
  clear H0;obtain ⟨v2,ao,n,cap,k,rfl,rfl,H⟩:=hrel;obtain ⟨⟨rest,hs,hn,hok,ds,pJ,jz,f2,mG,hX⟩,hc,hk⟩:=H.o;have gv:=jz.row.below;have jL:Below w.heap.size w wr:=kQ.o.trans (gv.mono kQ.o.size);have f4:=(gv.block _ (af Gp.o)).trans Gp.o;by_cases hp:0<n
  ·have tp:decide (0<n)=true:=dT hp;have bp:(0:Int)<(n:Int):=by omega
   have Hi:=hid (W9 wr (.slice ao n cap) rest (hs.later gv));have HS:=hid (And.intro hs (And.intro hn (And.intro hc (And.intro hk (And.intro hok (And.intro pJ (And.intro mG hX)))))));have To:=hid jz;have my:=hid jL;have F4:=hid f4;have Hbl:=hid gv;have AP:docN rest<=n:=by rw[hn];exact Be rest
   have Ym:=hid (show n<=1048576 by have:=HNl.o;omega);by_cases mP:docN rest=0
   ·have Iq:pN rest=0:=by unfold pN;rw[if_pos (by omega),mP];rfl
    rw[Iq]at Hi;have Hmin:=hid (show (if (n:Int)<1 then (n:Int) else 1)=1 from by rw[if_neg (by omega)]);have Yn:=hid mP;have Hp:=hid hp;have H1n:=hid (show 1<=n from hp);obtain ⟨i5,ug,qL,uD,uC⟩:=info_parts yx;clear H f4 jL gv jz hs hn hok pJ hX hc hk hp mP Iq AP
    go_wp2_with fail
    refine Hi.o.mono ?_;rintro r w2 ⟨rfl,h2⟩;have ie:=hid h2;clear h2 Hi
    go_wp2_with (first|(with_reducible refine o9 rfl _ _ _ rfl .i64 .i64 1 (n:Int) 1 rfl rfl Hmin.o ?_)|(with_reducible refine iX rfl _ _ 67 121 rfl Tryz.underlying67 i5 ug 5 uD ao n cap rfl .i64 1 rfl H1n.o ?_;intro kp C7;have Qm:=hid C7;clear C7))
    obtain ⟨hs,hn,hc,hk,hok,pJ,mG,hX⟩:=HS.o;exact ⟨⟨v2,kp,n-1,cap-1,k,rfl,rfl,hid (OfS.skip hs hn hc hk hok pJ To.o mG hX Yn.o Hp.o ie.o Qm.o)⟩,by show n-1<n;have:=Hp.o;omega⟩
   ·obtain ⟨m,OG⟩:=ex (docN rest);have Ur:=hid OG;rw[<-OG]at mP AP;have tm:decide (0<m)=true:=dT (by omega);have Hmc:=hid (show m<=cap by omega);have Yn:=hid (show 0<m by omega);have Hp:=hid hp;have rN:=hid (fun w2 (h2:Below wr.heap.size wr w2)=>F2 w2 (.slice ao m cap) (rest.take m) (z9 ((hs.later gv).later h2) AP) (fun t ht=>hok t (List.mem_of_mem_take ht)));obtain ⟨i5,ug,qL,uD,uC⟩:=info_parts yx
    obtain ⟨x,BD⟩:=ex (kj (rest.take m));rw[<-BD]at rN;have Hdx:=hid BD;cases x with
    |error e=>
     obtain ⟨l,c⟩:=e;have tc:(c==0)=false:=beq_eq_false_iff_ne.2 (Dt BD.symm);have HD:=hid (OfS.fall hn mG hX (by rw[<-OG];exact BD.symm) (by omega) hp);by_cases mj:m<n
     ·have Iq:pN rest=(m:Int):=by unfold pN;rw[if_pos (by omega),OG]
      rw[Iq]at Hi;have t0:decide ((m:Int)<0)=false:=dF (by omega);clear H f4 jL gv jz hs hn hok pJ hX hc hk hp mP Iq AP OG BD mj
      go_wp2_with fail
      refine Hi.o.mono ?_;rintro r w2 ⟨rfl,h2⟩;have ie:=hid h2;have Qo:=hid (rN.o w2 h2);clear h2 Hi
      go_wp2_with (with_reducible refine gC rfl _ _ 67 121 rfl Tryz.underlying67 ⟨i5,ug⟩ ao n cap rfl .i64 m _ rfl rfl Hmc.o ?_)
      refine Qo.o.mono ?_;rintro r w4 ⟨rfl,bX⟩;have f4:=((ie.o.trans (bX.mono ie.o.size)).block _ (af F4.o)).trans F4.o;have LO:=hid (my.o.trans ((ie.o.trans (bX.mono ie.o.size)).mono my.o.size));obtain ⟨y0,y1,y2⟩:=cB3 f4;have yf:=fun j=>ah f4 j;simp at y0 y1 y2;have HE:=hid (show Below w.heap.size w (((w4.setCell ⟨fb,0,none⟩ (.int .i64 (k:Int))).setCell ⟨fb,1,none⟩ (.int .i64 l)).setCell ⟨fb,2,none⟩ (.int .i64 c))/\(((w4.setCell ⟨fb,0,none⟩ (.int .i64 (k:Int))).setCell ⟨fb,1,none⟩ (.int .i64 l)).setCell ⟨fb,2,none⟩ (.int .i64 c)).heap[fb]? =some (.cells #[.int .i64 (k:Int),.int .i64 l,.int .i64 c] 27 (0,0)) from by
       have oC:=LN.o;obtain ⟨m1,m2⟩:=ld f4 (.int .i64 (k:Int)) (.int .i64 l) (.int .i64 c);exact ⟨LO.o.trans (m1.below LO.o.size fun k hk=>by omega),m2⟩)
      clear bX f4 Qo rN;obtain ⟨oao,oc,rfl⟩:=eI To.o.row.row;go_wp2;refine bodyPost_ret (px rfl rfl HE.o.2) rfl ?_;rw[HD.o];exact ⟨rfl,HE.o.1⟩
     ·have Iq:pN rest= -1:=by unfold pN;rw[if_neg (by omega)]
      rw[Iq]at Hi;obtain rfl:m=n:=by omega
      clear H f4 jL gv jz hs hn hok pJ hX hc hk hp mP Iq AP OG BD mj
      go_wp2_with fail
      refine Hi.o.mono ?_;rintro r w2 ⟨rfl,h2⟩;have ie:=hid h2;have Qo:=hid (rN.o w2 h2);clear h2 Hi
      go_wp2_with (with_reducible refine gC rfl _ _ 67 121 rfl Tryz.underlying67 ⟨i5,ug⟩ ao m cap rfl .i64 m _ rfl rfl Hmc.o ?_)
      refine Qo.o.mono ?_;rintro r w4 ⟨rfl,bX⟩;have f4:=((ie.o.trans (bX.mono ie.o.size)).block _ (af F4.o)).trans F4.o;have LO:=hid (my.o.trans ((ie.o.trans (bX.mono ie.o.size)).mono my.o.size));obtain ⟨y0,y1,y2⟩:=cB3 f4;have yf:=fun j=>ah f4 j;simp at y0 y1 y2;have HE:=hid (show Below w.heap.size w (((w4.setCell ⟨fb,0,none⟩ (.int .i64 (k:Int))).setCell ⟨fb,1,none⟩ (.int .i64 l)).setCell ⟨fb,2,none⟩ (.int .i64 c))/\(((w4.setCell ⟨fb,0,none⟩ (.int .i64 (k:Int))).setCell ⟨fb,1,none⟩ (.int .i64 l)).setCell ⟨fb,2,none⟩ (.int .i64 c)).heap[fb]? =some (.cells #[.int .i64 (k:Int),.int .i64 l,.int .i64 c] 27 (0,0)) from by
       have oC:=LN.o;obtain ⟨m1,m2⟩:=ld f4 (.int .i64 (k:Int)) (.int .i64 l) (.int .i64 c);exact ⟨LO.o.trans (m1.below LO.o.size fun k hk=>by omega),m2⟩)
      clear bX f4 Qo rN;obtain ⟨oao,oc,rfl⟩:=eI To.o.row.row;go_wp2;refine bodyPost_ret (px rfl rfl HE.o.2) rfl ?_;rw[HD.o];exact ⟨rfl,HE.o.1⟩
    |ok ns=>
     have Hul:=hid Tryz.underlying22;by_cases mj:m<n
     ·have Iq:pN rest=(m:Int):=by unfold pN;rw[if_pos (by omega),OG]
      rw[Iq]at Hi;have t0:decide ((m:Int)<0)=false:=dF (by omega);obtain ⟨m1,kZ⟩:=ex (if m<n then m+1 else n);have HM1:=hid (G0 AP Ym.o kZ);have Xv:=hid (PS kZ);have Xw:=hid (show m1=if docN rest<n then docN rest+1 else n from by rw[<-OG];exact kZ);have Uu:=hid (show k<=2000000 by have:=HNl.o;omega);have Xu:=hid (IE hp kZ);clear H f4 jL gv jz hs hn hok pJ hX hc hk hp mP Iq AP OG BD mj kZ
      go_wp2_with fail
      refine Hi.o.mono ?_;rintro r w2 ⟨rfl,h2⟩;have ie:=hid h2;have Qo:=hid (rN.o w2 h2);clear h2 Hi
      go_wp2_with (with_reducible refine gC rfl _ _ 67 121 rfl Tryz.underlying67 ⟨i5,ug⟩ ao n cap rfl .i64 m _ rfl rfl Hmc.o ?_)
      refine Qo.o.mono ?_;rintro r w4 ⟨⟨v,ms,rfl,hP,fh⟩,bX⟩;have hv:∃a c,v= .slice a ms.length c:=eI hP.row;obtain ⟨va,vc,rfl⟩:=hv;have b9:=hid (fun ob=>(To.o.later (ie.o.trans ((bX.trans (((aBi _ _).alloc (aBh _) ob).mono bX.size)).mono ie.o.size))).row.row);have aX:=hid (fun ob v' w5 (a1:World.ownsRow w5 0 33 1 v' (k+1) (ds.flatMap DocV.cells++[.slice va ms.length vc])) (a2:(w4.alloc ob).grownBy w5 v2.ownBlock) (a3:∀g,v'.ownBlock=some g->v2.ownBlock=some g\/(w4.alloc ob).heap.size<=g)=>show RowO lk w1 w5 33 1 v' (k+1) (ds++[⟨.slice va ms.length vc,ms⟩]) from by
       have C5:Below wr.heap.size wr (w4.alloc ob):=ie.o.trans ((bX.trans (((aBi _ _).alloc (aBh _) ob).mono bX.size)).mono ie.o.size);have ye:DocP (w4.alloc ob) wr.heap.size ⟨.slice va ms.length vc,ms⟩:=lk.mod (F:=fun _=>False) (x:=(⟨.slice va ms.length vc,ms⟩:DocV)) (lk.down (x:=(⟨.slice va ms.length vc,ms⟩:DocV)) hP ie.o.size) (fS ((aBi _ _).alloc (aBh _) ob)) (fun _ _ q=>q)
       exact RowO.app (w1:=w4.alloc ob) (v':=v') (w2:=w5) (q:=k+1) (m:=(⟨.slice va ms.length vc,ms⟩:DocV)) To.o C5 ye a1 a2 a3)
      have Hnd:=hid fh;clear hP fh bX Qo rN
      go_wp2_with (first|(with_reducible refine o9 rfl _ _ _ rfl .i64 .i64 (wrap64 ((m:Int)+1)) (n:Int) (m1:Int) rfl rfl HM1.o ?_)|(with_reducible refine iX rfl _ _ 67 121 rfl Tryz.underlying67 i5 ug 5 uD ao n cap rfl .i64 m1 rfl Xv.o ?_;intro kp C7;have Qm:=hid C7;clear C7)|(at_builtin;refine j1 33 22 (.slice none 0 0) 1 24 Hul.o vO rfl (by decide) (by decide) rfl (.tmp 35) (.tmp 37) rfl v2 k _ rfl (b9.o _) _ _ [.slice va ms.length vc] rfl (ag _) rfl rfl (fun u hu=>by rw[List.mem_singleton]at hu;rw[hu];rfl) Uu.o (k+1) rfl ?_;intro vA c4 w5 aB bC aA;have HE:=hid (aX.o _ _ _ aB bC aA);clear aB bC aA))
      obtain ⟨hs,hn,hc,hk,hok,pJ,mG,hX⟩:=HS.o;exact ⟨⟨_,kp,n-m1,cap-m1,k+1,rfl,rfl,hid (OfS.step (d:=⟨.slice va ms.length vc,ms⟩) hs hn hc hk hok pJ mG hX (by rw[<-Ur.o];show _=Except.ok (nds ms);rw[Hnd.o];exact Hdx.o.symm) (by rw[<-Ur.o];exact Yn.o) Hp.o Xw.o HE.o Qm.o)⟩,by show n-m1<n;have:=Hp.o;have:=Xu.o;omega⟩
     ·have Iq:pN rest= -1:=by unfold pN;rw[if_neg (by omega)]
      rw[Iq]at Hi;obtain rfl:m=n:=by omega
      obtain ⟨m1,kZ⟩:=ex (if m<m then m+1 else m);have HM1:=hid (G0 AP Ym.o kZ);have Xv:=hid (PS kZ);have Xw:=hid (show m1=if docN rest<m then docN rest+1 else m from by rw[<-OG];exact kZ);have Uu:=hid (show k<=2000000 by have:=HNl.o;omega);have Xu:=hid (IE hp kZ);clear H f4 jL gv jz hs hn hok pJ hX hc hk hp mP Iq AP OG BD mj kZ
      go_wp2_with fail
      refine Hi.o.mono ?_;rintro r w2 ⟨rfl,h2⟩;have ie:=hid h2;have Qo:=hid (rN.o w2 h2);clear h2 Hi
      go_wp2_with (with_reducible refine gC rfl _ _ 67 121 rfl Tryz.underlying67 ⟨i5,ug⟩ ao m cap rfl .i64 m _ rfl rfl Hmc.o ?_)
      refine Qo.o.mono ?_;rintro r w4 ⟨⟨v,ms,rfl,hP,fh⟩,bX⟩;have hv:∃a c,v= .slice a ms.length c:=eI hP.row;obtain ⟨va,vc,rfl⟩:=hv;have b9:=hid (fun ob=>(To.o.later (ie.o.trans ((bX.trans (((aBi _ _).alloc (aBh _) ob).mono bX.size)).mono ie.o.size))).row.row);have aX:=hid (fun ob v' w5 (a1:World.ownsRow w5 0 33 1 v' (k+1) (ds.flatMap DocV.cells++[.slice va ms.length vc])) (a2:(w4.alloc ob).grownBy w5 v2.ownBlock) (a3:∀g,v'.ownBlock=some g->v2.ownBlock=some g\/(w4.alloc ob).heap.size<=g)=>show RowO lk w1 w5 33 1 v' (k+1) (ds++[⟨.slice va ms.length vc,ms⟩]) from by
       have C5:Below wr.heap.size wr (w4.alloc ob):=ie.o.trans ((bX.trans (((aBi _ _).alloc (aBh _) ob).mono bX.size)).mono ie.o.size);have ye:DocP (w4.alloc ob) wr.heap.size ⟨.slice va ms.length vc,ms⟩:=lk.mod (F:=fun _=>False) (x:=(⟨.slice va ms.length vc,ms⟩:DocV)) (lk.down (x:=(⟨.slice va ms.length vc,ms⟩:DocV)) hP ie.o.size) (fS ((aBi _ _).alloc (aBh _) ob)) (fun _ _ q=>q)
       exact RowO.app (w1:=w4.alloc ob) (v':=v') (w2:=w5) (q:=k+1) (m:=(⟨.slice va ms.length vc,ms⟩:DocV)) To.o C5 ye a1 a2 a3)
      have Hnd:=hid fh;clear hP fh bX Qo rN
      go_wp2_with (first|(with_reducible refine o9 rfl _ _ _ rfl .i64 .i64 (wrap64 ((m:Int)+1)) (m:Int) (m1:Int) rfl rfl HM1.o ?_)|(with_reducible refine iX rfl _ _ 67 121 rfl Tryz.underlying67 i5 ug 5 uD ao m cap rfl .i64 m1 rfl Xv.o ?_;intro kp C7;have Qm:=hid C7;clear C7)|(at_builtin;refine j1 33 22 (.slice none 0 0) 1 24 Hul.o vO rfl (by decide) (by decide) rfl (.tmp 35) (.tmp 37) rfl v2 k _ rfl (b9.o _) _ _ [.slice va ms.length vc] rfl (ag _) rfl rfl (fun u hu=>by rw[List.mem_singleton]at hu;rw[hu];rfl) Uu.o (k+1) rfl ?_;intro vA c4 w5 aB bC aA;have HE:=hid (aX.o _ _ _ aB bC aA);clear aB bC aA))
      obtain ⟨hs,hn,hc,hk,hok,pJ,mG,hX⟩:=HS.o;exact ⟨⟨_,kp,m-m1,cap-m1,k+1,rfl,rfl,hid (OfS.step (d:=⟨.slice va ms.length vc,ms⟩) hs hn hc hk hok pJ mG hX (by rw[<-Ur.o];show _=Except.ok (nds ms);rw[Hnd.o];exact Hdx.o.symm) (by rw[<-Ur.o];exact Yn.o) Hp.o Xw.o HE.o Qm.o)⟩,by show m-m1<m;have:=Hp.o;have:=Xu.o;omega⟩
  ·have tp:decide (0<n)=false:=dF hp;have bp:¬(0:Int)<(n:Int):=by omega
   obtain rfl:n=0:=by omega
   have hDD:X= .ok (fZ ds):=by
    have:rest=[]:=List.length_eq_zero_iff.1 hn.symm;rw[hX,this,RI];simp[x9]
   have HD:=hid hDD;obtain ⟨y0,y1,y2⟩:=cB3 f4;have yf:=fun j=>ah f4 j;simp at y0 y1 y2;have HE:=hid (show Below w.heap.size w (((wr.setCell ⟨fb,0,none⟩ (.int .i64 0)).setCell ⟨fb,1,none⟩ (.int .i64 0)).setCell ⟨fb,2,none⟩ (.int .i64 0))/\(((wr.setCell ⟨fb,0,none⟩ (.int .i64 0)).setCell ⟨fb,1,none⟩ (.int .i64 0)).setCell ⟨fb,2,none⟩ (.int .i64 0)).heap[fb]? =some (.cells #[.int .i64 0,.int .i64 0,.int .i64 0] 27 (0,0))/\RowO lk w (((wr.setCell ⟨fb,0,none⟩ (.int .i64 0)).setCell ⟨fb,1,none⟩ (.int .i64 0)).setCell ⟨fb,2,none⟩ (.int .i64 0)) 33 1 v2 k ds from by
    have oC:=LN.o;obtain ⟨hm,vh⟩:=ld f4 (.int .i64 0) (.int .i64 0) (.int .i64 0);have h1:w1.heap.size=w.heap.size+1:=by rw[IT.o];simp
    have kf:Below w.heap.size w (((wr.setCell ⟨fb,0,none⟩ (.int .i64 0)).setCell ⟨fb,1,none⟩ (.int .i64 0)).setCell ⟨fb,2,none⟩ (.int .i64 0)):=jL.trans (hm.below jL.size fun k hk=>by omega);refine ⟨kf,vh,⟨⟨kf,dD jz.row.row hm (fun g hg e=>by have:=jz.row.new g hg;omega),fun g hg=>by have:=jz.row.new g hg;omega⟩,fun m CZ=> ?_,jz.apart⟩⟩;exact lk.down (lk.mod (jz.each m CZ) hm (fun g hg e=>by have:=(lk.lt (jz.each m CZ) g hg).1;omega)) (by omega))
   have Xt:=hid (And.intro pJ (show k<=1048576 by have:=HNl.o;omega));clear H f4 jL gv jz hs hn hok pJ hX hc hk hp hDD;go_wp2;refine bodyPost_ret (px rfl rfl HE.o.2.1) rfl ?_;rw[HD.o];exact ⟨⟨_,_,ds,rfl,HE.o.2.2,Xt.o.1,Xt.o.2,rfl⟩,HE.o.1⟩
def Ak (x:Except (Nat×Flt) (List (List Nd))):Except (Int×Int×Int) (List (List Nd)):=
 match x with
 | .error e=> .error ((e.1:Int),e.2.1,e.2.2)
 | .ok L=> .ok L
def sj (x:Except (Nat×Nat×Int) (List Tok)):Except (Int×Int×Int) (List (List Nd)):=
 match x with
 | .error e=> .error ((e.1:Int),(e.2.1:Int),e.2.2)
 | .ok ts=>Ak (ofL ts.length ts 0)
def jb (bs:List UInt8):Except (Int×Int×Int) (List (List Nd)):=sj (jn bs)
def Gj (w0:World) (x:Except (Int×Int×Int) (List (List Nd))) (r:Ending) (w':World):Prop:=
 (match x with
  | .ok L=>∃V n ds,r= .returned (.tuple #[V,.agg #[.int .i64 0,.int .i64 0,.int .i64 0]])/\RowO lk w0 w' 33 1 V n ds/\n=ds.length/\n<=1048576/\fZ ds=L
  | .error e=>r= .returned (.tuple #[.slice none 0 0,.agg #[.int .i64 e.1,.int .i64 e.2.1,.int .i64 e.2.2]]))/\Below w0.heap.size w0 w'
theorem Cb (hq:∀t y m,dZ t=some (y,m)->y.length<=t.length):∀(f:Nat) (l:List UInt8) (k n:Nat),n+l.length<=70000->∀t∈(dt f l k n).1,TokOk t
 |0,_,_,_,_,t,h=>by cases h
 |f+1,l,k,n,hb,t,h=>by
  unfold dt at h
  split at h
  ·cases h
  ·rename_i hl
   have vj:=List.length_pos_iff.2 hl;have h2:=ri l;cases hx:cM (dd l).1 ((n+1:Nat):Int) with
   |error c=>rw[hx]at h;cases h
   |ok ts=>
    rw[hx]at h;simp only at h;rcases List.mem_append.1 h with h|h
    ·obtain ⟨h3,-⟩:=oy hq hx;rcases h3 with rfl|h3
     ·obtain rfl:=List.mem_singleton.1 h;exact ⟨by show I64 1;decide,by show I64 ((n+1:Nat):Int);exact ⟨by omega,by omega⟩,⟨by show (0:Int)<=0;decide,by show (0:Int)<=1048576;decide⟩,Nat.zero_le _⟩
     ·have h4:=h3 t h;have:=h4.kind;have:=h4.col;have:=h4.text;exact ⟨⟨by omega,by omega⟩,by rw[h4.line];exact ⟨by omega,by omega⟩,⟨by omega,by omega⟩,by omega⟩
    ·refine Cb hq f _ _ _ ?_ t h;have:=lM l hl;omega
theorem Js {bs:List UInt8} {ts:List Tok} (h:jn bs= .ok ts):(∀t∈ts,TokOk t)/\ts.length<=200000:=by
 have hq:∀t y m,dZ t=some (y,m)->y.length<=t.length:=fun t y m h=>by have:=np h;omega
 by_cases hl:65536<bs.length
 ·unfold jn at h;rw[if_pos hl]at h;cases h
 ·obtain ⟨h1,h2⟩:=uQ hl;rw[h2]at h;unfold Am at h;cases he:(dt bs.length bs 0 0).2 with
  |some e=>rw[he]at h;cases h
  |none=>
   rw[he]at h;injection h with h
   rw[<-h,List.nil_append];have:=rY hq bs.length bs 0 0;exact ⟨fun t ht=>Cb hq _ _ _ _ (by omega) t ht,by omega⟩
theorem GF {bs:List UInt8} {e:Nat×Nat×Int} (h:jn bs= .error e):e.2.2≠0:=by
 by_cases hl:65536<bs.length
 ·unfold jn at h;rw[if_pos hl]at h;injection h with h
  rw[<-h];exact (show (3:Int)≠0 by decide)
 ·obtain ⟨h1,h2⟩:=uQ hl;rw[h2]at h;unfold Am at h;cases he:(dt bs.length bs 0 0).2 with
  |none=>rw[he]at h;cases h
  |some e2=>
   rw[he]at h;injection h with h
   subst h;exact vS _ _ _ _ _ he
theorem RowO.base {α:Type} {E:Elt α} {w w1 wr:World} {e:TypeId} {sz:Nat} {v:Value} {n:Nat} {xs:List α} (hb:Below w.heap.size w w1) (h:RowO E w1 wr e sz v n xs):RowO E w wr e sz v n xs:=
 ⟨⟨hb.trans (h.row.below.mono hb.size),h.row.row,fun g hg=>aBl hb.size (h.row.new g hg)⟩,fun x hx=>E.down (h.each x hx) hb.size,h.apart⟩
theorem RowO.mod {α:Type} {E:Elt α} {w w1 wr w2:World} {e:TypeId} {sz:Nat} {v:Value} {n:Nat} {xs:List α} {F:Nat->Prop} (hb:Below w.heap.size w w1) (h:RowO E w1 wr e sz v n xs) (hm:Mod F wr w2) (h1:∀k,F k->k<w1.heap.size) (h0:∀k,F k->w.heap.size<=k):RowO E w w2 e sz v n xs:=by
 have hl:∀x∈xs,∀g,E.own x g->¬F g:=fun x hx g hg q=>by
  have:=(E.lt (h.each x hx) g hg).1;have:=h1 g q;omega
 have hs:=(RowO.base hb h).row.below;exact ⟨⟨hs.trans (hm.below hs.size h0),dD h.row.row hm (fun g hg q=>by have:=h.row.new g hg;have:=h1 g q;omega),fun g hg=>aBl hb.size (h.row.new g hg)⟩,
  fun x hx=>E.down (E.mod (h.each x hx) hm (hl x hx)) hb.size,h.apart⟩
theorem ni {w:World} {b:Nat} {V v0 v1 v2:Value} {tmps:Array Value} (h2:tmps[2]? =some V) (h3:tmps[3]? =some (.pointer (some ⟨b,0,none⟩))) (hb:w.heap[b]? =some (.cells #[v0,v1,v2] 27 (0,0))):
 (results Tryz.f16 tmps).run Tryz.prog w= .ok (.tuple #[V,.agg #[v0,v1,v2]]) w:=by
 have h1:=run_loadVar_mid (P:= Tryz.prog) w b 0 27 [v0,v1,v2] _ (jK (l:=[v0,v1,v2]) hb) Tryz.underlying27 rfl (by kernel_rfl);rw[Array.getElem?_eq_some_iff]at h2 h3;obtain ⟨l2,e2⟩:=h2;obtain ⟨l3,e3⟩:=h3;simp[results,Tryz.results16,asAddr,Array.getD,l2,e2,l3,e3,h1]
theorem GN {w:World} {B e sz n:Nat} {a:Option Addr} {k c:Nat} {xs:List Value} (h:w.ownsRow B e sz (.slice a k c) n xs):n<=c/\k=n:=by
 rcases h.2 with ⟨hv,hn⟩|⟨g,cap,cur,hv,-,-,hc,-⟩
 ·cases hv;exact ⟨by omega,by omega⟩
 ·cases hv;exact ⟨hc,rfl⟩
theorem Aj (w:World) (bs:List UInt8) (ao:Option Addr) (cap:Nat) (hT:SlR w (.slice ao bs.length cap) 1 bs dz) (iQ:bs.length<=cap) (hg:Glob w):
 Calls Tryz.prog 16 #[.slice ao bs.length cap] w (Gj w (jb bs)):=by
 obtain ⟨w1,gP⟩:=ex (w.alloc (.cells #[.int .i64 0,.int .i64 0,.int .i64 0] 27));have bG:Below w.heap.size w w1:=by rw[gP];exact (aBi _ _).alloc (aBh _) _
 have gJ:w1.heap[w.heap.size]? =some (.cells #[.int .i64 0,.int .i64 0,.int .i64 0] 27 (0,0)):=by rw[gP];exact ag _
 have HS:=hid (Vj w1 bs ao cap (hT.later bG) iQ (hg.later bG));have kQ:=hid bG;have Gp:=hid gJ;obtain ⟨X,hX⟩:=ex (jn bs);have HX:=hid hX;rw[<-hX]at HS;have IT:=hid gP;obtain ⟨N,hN⟩:=ex (bs.length);rw[<-hN]at HS |-
 show Calls Tryz.prog 16 _ w (Gj w (sj (jn bs)))
 rw[<-hX];clear hT iQ hg bG gJ hX hN;obtain ⟨fb,oC⟩:=ex (w.heap.size);have LN:=hid oC;go_enter Tryz.func16,Tryz.ntmps16
 go_wp2_with fail
 rw[<-gP,<-oC];clear gP oC;refine HS.o.mono ?_;intro r w2 hr;clear HS;cases X with
 |error e=>
  obtain ⟨rfl,bI⟩:=hr;have tc:(e.2.2 != 0)=true:=by rw[bne_iff_ne];exact GF HX.o.symm
  have FR:=kQ.o.trans (bI.mono kQ.o.size);have f2:=(bI.block _ (af Gp.o)).trans Gp.o;rw[<-LN.o]at f2;have lf:=af f2;obtain ⟨w3,vf⟩:∃w3,w3=w2.alloc (.cells #[.int .i64 (e.1:Int),.int .i64 (e.2.1:Int),.int .i64 e.2.2] 27):=⟨_,rfl⟩;have h3:w3.heap[w2.heap.size]? =some (.cells #[.int .i64 (e.1:Int),.int .i64 (e.2.1:Int),.int .i64 e.2.2] 27 (0,0)):=by rw[vf];exact ag _
  have f3:w3.heap[fb]? =some (.cells #[.int .i64 0,.int .i64 0,.int .i64 0] 27 (0,0)):=by rw[vf,ai _ lf];exact f2
  have O4:Below w.heap.size w w3:=by rw[vf];exact FR.alloc FR.size _
  have HE:=hid (ld (w4:=w3) f3 (.int .i64 (e.1:Int)) (.int .i64 (e.2.1:Int)) (.int .i64 e.2.2));obtain ⟨y0,y1,y2⟩:=cB3 f3;have yf:=fun j=>ah f3 j;obtain ⟨d0,d1,d2⟩:=cB3 h3;simp at y0 y1 y2 d0 d1 d2;have D0:=hid O4;clear bI FR f2 h3 f3 O4;go_upto_region 2 with (fail)
  rw[<-vf];clear vf;go_wp2
  go_region
  all_goals go_wp2
  refine bodyPost_ret (ni rfl rfl HE.o.2) rfl ⟨rfl,?_⟩;exact (D0.o.trans (HE.o.1.below D0.o.size (fun k hk=>by have:=LN.o;omega))).drew
 |ok ts=>
  obtain ⟨⟨v,rfl,hR⟩,bI⟩:=hr;obtain ⟨hok,hlen⟩:=Js HX.o.symm;obtain ⟨ta,tn,tc,rfl⟩:∃a n c,v= .slice a n c:=by obtain ⟨a,c,h⟩:=(eI hR.row:∃a c,v= .slice a ts.length c);exact ⟨a,_,c,h⟩
  obtain ⟨q1,rfl⟩:=GN hR.row;have FR:=kQ.o.trans (bI.mono kQ.o.size);have f2:=(bI.block _ (af Gp.o)).trans Gp.o;rw[<-LN.o]at f2;have lf:=af f2;obtain ⟨w3,vf⟩:=ex (w2.alloc (.cells #[.int .i64 0,.int .i64 0,.int .i64 0] 27));have h3:w3.heap[w2.heap.size]? =some (.cells #[.int .i64 0,.int .i64 0,.int .i64 0] 27 (0,0)):=by rw[vf];exact ag _
  have f3:w3.heap[fb]? =some (.cells #[.int .i64 0,.int .i64 0,.int .i64 0] 27 (0,0)):=by rw[vf,ai _ lf];exact f2
  have AU:Below w2.heap.size w2 w3:=by rw[vf];exact (aBi _ _).alloc (aBh _) _
  have O4:Below w.heap.size w w3:=FR.trans (AU.mono FR.size);have HOf:=hid (of_c w3 ta tc ts ts.length ((SlR.ofRow hR.row rfl (fun _=>rfl) (by omega) (by decide)).later AU) q1 hok (aBh _));have d2:=aa h3 2;simp at d2;have D0:=hid O4;have F3:=hid f3;have Lf:=hid (af f3);obtain ⟨Z,hZ⟩:=ex (ofL ts.length ts 0);have HZ:=hid (show sj (.ok ts)=Ak Z by rw[hZ];rfl)
  rw[<-hZ]at HOf;obtain ⟨n,hn⟩:=ex (ts.length);rw[<-hn]at HOf |-;clear bI FR f2 h3 f3 AU O4 hR hok hlen q1 hZ lf hn;go_upto_region 2 with (fail)
  rw[<-vf];clear vf
  go_wp2_with fail
  refine HOf.o.mono ?_;intro r w4 hr;clear HOf d2;cases Z with
  |error e=>
   obtain ⟨rfl,bX⟩:=hr;have f4:=(bX.block _ Lf.o).trans F3.o;have HE:=hid (ld (w4:=w4) f4 (.int .i64 (e.1:Int)) (.int .i64 e.2.1) (.int .i64 e.2.2));have LO:=hid (D0.o.trans (bX.mono D0.o.size));obtain ⟨y0,y1,y2⟩:=cB3 f4;have yf:=fun j=>ah f4 j;simp at y0 y1 y2;clear bX f4;go_wp2;refine bodyPost_ret (ni rfl rfl HE.o.2) rfl ?_;rw[HZ.o];exact ⟨rfl,LO.o.trans (HE.o.1.below LO.o.size (fun k hk=>by have:=LN.o;omega))⟩
  |ok L=>
   obtain ⟨⟨V,m,ds,rfl,jz,hm,vh,hL⟩,bX⟩:=hr;have f4:=(bX.block _ Lf.o).trans F3.o;have HE:=hid (ld (w4:=w4) f4 (.int .i64 0) (.int .i64 0) (.int .i64 0));have LO:=hid (D0.o.trans (bX.mono D0.o.size));have To:=hid jz;have Hm:=hid (And.intro hm (And.intro vh hL));obtain ⟨y0,y1,y2⟩:=cB3 f4;have yf:=fun j=>ah f4 j;simp at y0 y1 y2;obtain ⟨va,vn,vc,rfl⟩:∃a n c,V= .slice a n c:=by obtain ⟨a,c,h⟩:=eI jz.row.row;exact ⟨a,_,c,h⟩
   clear bX f4 jz hm vh hL;go_wp2;refine bodyPost_ret (ni rfl rfl HE.o.2) rfl ?_;rw[HZ.o];have hE:=RowO.mod D0.o To.o HE.o.1 (fun k hk=>by have:=Lf.o;omega) (fun k hk=>by have:=LN.o;omega);exact ⟨⟨_,_,ds,rfl,hE,Hm.o.1,Hm.o.2.1,Hm.o.2.2⟩,hE.row.below⟩
def pU (ns:List Nd):Prop:=∀x∈ns,0<=x.line
def lj (ts:List Tok):Prop:=∀t∈ts,0<=t.line
theorem lj.app {a b:List Tok} (ha:lj a) (hb:lj b):lj (a++b):=fun t h=>(List.mem_append.1 h).elim (ha t) (hb t)
theorem lj.one {k n c:Int} {x:List UInt8} {q:Bool} (h:0<=n):lj [⟨k,n,c,x,q⟩]:=fun t ht=>by rw[List.mem_singleton.1 ht];exact h
theorem Iz {l:List UInt8} {n:Int} {ts us:List Tok} {i:Nat} (hn:0<=n) (ht:lj ts) (h:dN l n ts i= .ok us):lj us:=by
 unfold dN at h
 split at h
 ·cases h
 ·injection h with h;rw[<-h];exact ht
 ·injection h with h;rw[<-h];exact ht.app (lj.one hn)
theorem NR {l:List UInt8} {n:Int} {ts:List Tok} (hn:0<=n) (h:cM l n= .ok ts):lj ts:=by
 unfold cM at h
 split at h
 ·cases h
 ·split at h
  ·injection h with h;rw[<-h];exact lj.one hn
  ·have hi:lj ((cB l (l.length+1) (aP l)).1.map fun (c:Nat)=>(⟨2,n,(c:Int),[],false⟩:Tok)):=fun t ht=>by
    obtain ⟨c,_,rfl⟩:=List.mem_map.1 ht;exact hn
   unfold eR at h
   split at h
   ·injection h with h;rw[<-h];exact hi
   ·split at h
    ·cases h
    ·exact Iz hn hi h
    ·exact Iz hn (hi.app (lj.one hn)) h
theorem B8:∀(f:Nat) (l:List UInt8) (k n:Nat) (acc ts:List Tok),iZ f l k n acc= .ok ts->lj acc->lj ts
 |0,_,_,_,_,_,h,ha=>by unfold iZ at h;injection h with h;rw[<-h];exact ha
 |f+1,l,k,n,acc,ts,h,ha=>by
  unfold iZ at h
  split at h
  ·injection h with h;rw[<-h];exact ha
  ·split at h
   ·cases h
   ·rename_i us hu
    exact B8 f _ _ _ _ _ h (ha.app (NR (by omega) hu))
theorem wE {ts:List Tok} (h:lj ts) (k:Nat):0<=(au ts k).line:=by
 unfold au;cases e:ts[k]? with
 |none=>exact Int.le_refl _
 |some t=>exact h t (List.mem_of_getElem? e)
theorem As {ns ns2:List Nd} {d:Nat} {kind:Int} {key:ByteArray} {t:Tok} (hn:pU ns) (ht:0<=t.line) (h:j4 ns d kind key t= .ok ns2):pU ns2:=by
 unfold j4 at h
 split at h
 ·cases h
 ·injection h with h
  rw[<-h];intro x hx;rcases List.mem_append.1 hx with q|q
  ·exact hn x q
  ·rw[List.mem_singleton.1 q];exact ht
theorem H3 {ns:List Nd} (hn:pU ns) (i kid:Nat):pU (cF ns i kid):=by
 unfold cF
 split
 ·rename_i x hx
  intro y hy;rcases List.mem_or_eq_of_mem_set hy with q|q
  ·exact hn y q
  ·rw[q];exact hn x (List.mem_of_getElem? hx)
 ·exact hn
def BA (blk:Blk):Prop:=∀k ns key k2 ns2 i,blk k ns key= .ok (k2,ns2,i)->pU ns->pU ns2
theorem Gx {blk:Blk} (hb:BA blk) {ts:List Tok} {d:Nat} {is:Bool} {t:Tok} {k:Nat} {ns:List Nd} {key:ByteArray} {k2:Nat} {ns2:List Nd} {i:Nat} (ht:0<=t.line) (h:iL blk ts d is t k ns key= .ok (k2,ns2,i)) (hn:pU ns):pU ns2:=by
 unfold iL at h
 split at h
 ·exact hb _ _ _ _ _ _ h hn
 ·split at h
  ·cases h
  ·rename_i BB h3
   injection h with h
   injection h with h1 h2
   injection h2 with h2 h4
   rw[<-h2];exact As hn ht h3
theorem Dx {blk:Blk} (hb:BA blk) {ts:List Tok} (ht:lj ts) {d:Nat} {col:Int} {i:Nat}:∀(f:Nat) (seen:List (List UInt8)) (k:Nat) (ns:List Nd) (k2:Nat) (ns2:List Nd),c9 blk ts d col i f seen k ns= .ok (k2,ns2)->pU ns->pU ns2
 |0,seen,k,ns,k2,ns2,h,hn=>by unfold c9 at h;injection h with h;injection h with h1 h2;rw[<-h2];exact hn
 |f+1,seen,k,ns,k2,ns2,h,hn=>by
  unfold c9 at h;simp only at h
  split at h
  ·split at h
   ·cases h
   ·split at h
    ·cases h
    ·rename_i k3 BB kid hv
     exact Dx hb ht f _ _ _ _ _ h (H3 (Gx hb (wE ht _) hv hn) _ _)
  ·injection h with h;injection h with h1 h2;rw[<-h2];exact hn
theorem zb {blk:Blk} (hb:BA blk) {ts:List Tok} (ht:lj ts) {d:Nat} {col:Int} {i:Nat}:∀(f:Nat) (k:Nat) (ns:List Nd) (k2:Nat) (ns2:List Nd),dv blk ts d col i f k ns= .ok (k2,ns2)->pU ns->pU ns2
 |0,k,ns,k2,ns2,h,hn=>by unfold dv at h;injection h with h;injection h with h1 h2;rw[<-h2];exact hn
 |f+1,k,ns,k2,ns2,h,hn=>by
  unfold dv at h;simp only at h
  split at h
  ·split at h
   ·cases h
   ·rename_i k3 BB kid hv
    exact zb hb ht f _ _ _ _ h (H3 (Gx hb (wE ht _) hv hn) _ _)
  ·injection h with h;injection h with h1 h2;rw[<-h2];exact hn
theorem zH {ts:List Tok} (ht:lj ts):∀d,BA (bo ts d)
 |0=>fun k ns key k2 ns2 i h _=>by unfold bo at h;cases h
 |d+1=>fun k ns key k2 ns2 i h hn=>by
  have ih:=zH ht d;have hk:=wE ht k;unfold bo at h;simp only at h
  split at h
  ·split at h
   ·cases h
   ·rename_i xQ h1
    split at h
    ·cases h
    ·rename_i k3 BB hd
     injection h with h
     injection h with _ h2
     injection h2 with h2 _
     rw[<-h2];exact Dx ih ht _ _ _ _ _ _ hd (As hn hk h1)
  ·split at h
   ·split at h
    ·cases h
    ·rename_i xQ h1
     split at h
     ·cases h
     ·rename_i k3 BB hd
      injection h with h
      injection h with _ h2
      injection h2 with h2 _
      rw[<-h2];exact zb ih ht _ _ _ _ _ hd (As hn hk h1)
   ·split at h
    ·cases h
    ·injection h with h
     injection h with _ h2
     injection h2 with h2 _
     rw[<-h2];intro x hx;rcases List.mem_append.1 hx with q|q
     ·exact hn x q
     ·rw[List.mem_singleton.1 q];exact hk
theorem PI {ts:List Tok} (ht:lj ts) {ns:List Nd} (h:kj ts= .ok ns):pU ns:=by
 unfold kj at h
 split at h
 ·cases h
 ·rename_i k ns2 hb
  split at h
  ·cases h
  ·injection h with h
   subst h
   split at hb
   ·split at hb
    ·cases hb
    ·rename_i k3 BB i3 hk
     injection hb with hb
     injection hb with _ hb
     rw[<-hb];exact zH ht 16 _ _ _ _ _ _ hk (fun x hx=>nomatch hx)
   ·injection hb with hb
    injection hb with _ hb
    rw[<-hb];exact fun x hx=>nomatch hx
theorem E4:∀(f:Nat) (ts:List Tok) (k:Nat) (L:List (List Nd)),ofL f ts k= .ok L->lj ts->∀d∈L,pU d
 |0,ts,k,L,h,_=>by unfold ofL at h;injection h with h;rw[<-h];exact fun d hd=>nomatch hd
 |f+1,ts,k,L,h,ht=>by
  unfold ofL at h
  split at h
  ·injection h with h;rw[<-h];exact fun d hd=>nomatch hd
  ·split at h
   ·exact E4 f _ _ _ h fun t q=>ht t (List.mem_of_mem_drop q)
   ·split at h
    ·cases h
    ·rename_i ns hd
     split at h
     ·cases h
     ·rename_i l hl
      injection h with h
      rw[<-h];intro d q;rcases List.mem_cons.1 q with rfl|q
      ·exact PI (fun t q=>ht t (List.mem_of_mem_take q)) hd
      ·exact E4 f _ _ _ hl (fun t q=>ht t (List.mem_of_mem_drop q)) d q
theorem JS {bs:List UInt8} {L:List (List Nd)} (h:jb bs= .ok L):∀d∈L,pU d:=by
 unfold jb sj at h
 split at h
 ·cases h
 ·rename_i ts hs
  unfold jn at hs
  split at hs
  ·cases hs
  ·unfold Ak at h
   split at h
   ·cases h
   ·rename_i l hl
    injection h with h
    rw[<-h];exact E4 _ _ _ _ hl (B8 _ _ _ _ _ _ hs (fun t q=>nomatch q))
theorem Dq:∀(L:List (List Nd)) (i:Nat) (e:Nat×fx),dy L i= .error e->i<=e.1/\e.1<i+L.length/\∃d∈L,dO d= .error e.2
 |[],i,e,h=>by unfold dy at h;cases h
 |d::r,i,e,h=>by
  unfold dy at h;cases hd:dO d with
  |error x=>
   rw[hd]at h;injection h with h
   subst h;exact ⟨aBh _,by simp only[aBk];omega,d,List.mem_cons_self ..,hd⟩
  |ok x=>
   rw[hd]at h;simp only at h;cases hr:dy r (i+1) with
   |ok l=>rw[hr]at h;cases h
   |error y=>
    rw[hr]at h;injection h with h
    subst h;obtain ⟨a,b,c,hc,hce⟩:=Dq r (i+1) y hr;exact ⟨by omega,by simp only[aBk];omega,c,List.mem_cons_of_mem _ hc,hce⟩
theorem KY {bs:List UInt8} {L:List (List Nd)} (h:jb bs= .ok L) {e:Nat×fx} (he:dy L 0= .error e):e.1<L.length/\0<=e.2.1:=by
 obtain ⟨_,a,d,hd,hde⟩:=Dq L 0 e he;exact ⟨by omega,PJ (JS h d hd) hde⟩
