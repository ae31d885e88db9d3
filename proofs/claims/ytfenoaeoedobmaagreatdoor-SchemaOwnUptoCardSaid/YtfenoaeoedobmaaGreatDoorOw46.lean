/-
Parts of a proof.
-/
import Derived.Test.YtfenoaeoedobmaaGreatDoorOw40
import Derived.Lib.SlBytesConst
import Derived.Test.YtfenoaeoedobmaaGreatDoorOw42
import Derived.Test.YtfenoaeoedobmaaGreatDoorOw45
set_option linter.unusedVariables false
set_option linter.unusedSimpArgs false
set_option maxHeartbeats 8000000
set_option maxRecDepth 100000
namespace Go.Proofs.YtfenoaeoedobmaaGreatDoor
open Go Go.RowKit
theorem of_c (w:World) (ao:Option Addr) (cap:Nat) (ts:List Tok) (f:Nat) (htoks:SlR w (.slice ao ts.length cap) 5 ts Tok.cells) (hcap:ts.length<=cap) (hwf:∀t∈ts,TokOk t) (hf:ts.length<=f):
 Calls Tryz.prog 27 #[.slice ao ts.length cap] w (SOf w (ofL f ts 0)):=by
 obtain ⟨N,hN⟩:=ex (ts.length);have hNl:N<=1048576:=by obtain ⟨_,_,e,hl,_⟩:=htoks;omega
 obtain ⟨w1,hw1⟩:=ex (w.alloc (.cells #[.int .i64 0,.int .i64 0,.int .i64 0] 27));have hb1:Below w.heap.size w w1:=by rw[hw1];exact (aAb _ _).alloc (aAa _) _
 have hf1:w1.heap[w.heap.size]? =some (.cells #[.int .i64 0,.int .i64 0,.int .i64 0] 27 (0,0)):=by rw[hw1];exact ah _
 obtain ⟨X,hX⟩:=ex (ofL f ts 0);rw[<-hX,<-hN];have H0:=hid (show OfS w1 w1 X N ao N cap (.slice none 0 0) 0 from ⟨⟨ts,by rw[hN];exact htoks.later hb1,hN,hwf,[],rfl,RowO.first (aAb _ _),f,by omega,by
  rw[hX];cases ofL f ts 0<;>rfl⟩,by omega,by omega⟩)
 have Hw1:=hid hw1;have Hb1:=hid hb1;have Hf1:=hid hf1;have HNl:=hid hNl;obtain ⟨fb,hfb⟩:=ex (w.heap.size);rw[<-hfb]at Hf1;have Hfb:=hid hfb;clear htoks hcap hwf hf hb1 hf1 hX hN hNl;go_enter Tryz.func27,Tryz.ntmps27;go_wp2;rw[<-hw1,<-hfb];clear hw1 hfb
 go_loopw [0,4] (fun vv vo wr=>∃(v2:Value) (ao:Option Addr) (n cap k:Nat),vv= .slice ao n cap/\v2=vo/\Hid (OfS w1 wr X N ao n cap v2 k)) (fun vv _ _=>slN vv)
 case atStart=>exact ⟨_,_,_,_,0,rfl,rfl,H0⟩
 case round=>
  clear H0;obtain ⟨v2,ao,n,cap,k,rfl,rfl,H⟩:=hrel;obtain ⟨⟨rest,hs,hn,hok,ds,hds,hro,f2,hf2,hX⟩,hc,hk⟩:=H.o;have hbl:=hro.row.below;have hbw:Below w.heap.size w wr:=Hb1.o.trans (hbl.mono Hb1.o.size);have f4:=(hbl.block _ (ag Hf1.o)).trans Hf1.o;by_cases hp:0<n
  ·have tp:decide (0<n)=true:=dT hp;have bp:(0:Int)<(n:Int):=by omega
   have Hi:=hid (Ju wr (.slice ao n cap) rest (hs.later hbl));have HS:=hid (And.intro hs (And.intro hn (And.intro hc (And.intro hk (And.intro hok (And.intro hds (And.intro hf2 hX)))))));have Hro:=hid hro;have Hbw:=hid hbw;have F4:=hid f4;have Hbl:=hid hbl;have hmle:docN rest<=n:=by rw[hn];exact sh rest
   have Hn2:=hid (show n<=1048576 by have:=HNl.o;omega);by_cases hm0:docN rest=0
   ·have hdI:kK rest=0:=by unfold kK;rw[if_pos (by omega),hm0];rfl
    rw[hdI]at Hi;have Hmin:=hid (show (if (n:Int)<1 then (n:Int) else 1)=1 from by rw[if_neg (by omega)]);have Hm0:=hid hm0;have Hp:=hid hp;have H1n:=hid (show 1<=n from hp);obtain ⟨i5,hi5,hz0,hz1,hz2⟩:=info_parts qo;clear H f4 hbw hbl hro hs hn hok hds hX hc hk hp hm0 hdI hmle
    go_wp2_with fail
    refine Hi.o.mono ?_;rintro r w2 ⟨rfl,h2⟩;have Hb2:=hid h2;clear h2 Hi
    go_wp2_with (first|(with_reducible refine kp rfl _ _ _ rfl .i64 .i64 1 (n:Int) 1 rfl rfl Hmin.o ?_)|(with_reducible refine fT rfl _ _ 67 121 rfl Tryz.underlying67 i5 hi5 5 hz1 ao n cap rfl .i64 1 rfl H1n.o ?_;intro ao2 hao2;have Hao2:=hid hao2;clear hao2))
    obtain ⟨hs,hn,hc,hk,hok,hds,hf2,hX⟩:=HS.o;exact ⟨⟨v2,ao2,n-1,cap-1,k,rfl,rfl,hid (OfS.skip hs hn hc hk hok hds Hro.o hf2 hX Hm0.o Hp.o Hb2.o Hao2.o)⟩,by show n-1<n;have:=Hp.o;omega⟩
   ·obtain ⟨m,hme⟩:=ex (docN rest);have Hme:=hid hme;rw[<-hme]at hm0 hmle;have tm:decide (0<m)=true:=dT (by omega);have Hmc:=hid (show m<=cap by omega);have Hm0:=hid (show 0<m by omega);have Hp:=hid hp;have Hdoc:=hid (fun w2 (h2:Below wr.heap.size wr w2)=>xb w2 (.slice ao m cap) (rest.take m) (rp ((hs.later hbl).later h2) hmle) (fun t ht=>hok t (List.mem_of_mem_take ht)));obtain ⟨i5,hi5,hz0,hz1,hz2⟩:=info_parts qo
    obtain ⟨x,hdx⟩:=ex (jF (rest.take m));rw[<-hdx]at Hdoc;have Hdx:=hid hdx;cases x with
    |error e=>
     obtain ⟨l,c⟩:=e;have tc:(c==0)=false:=beq_eq_false_iff_ne.2 (Dx hdx.symm);have HD:=hid (OfS.fall hn hf2 hX (by rw[<-hme];exact hdx.symm) (by omega) hp);by_cases hml:m<n
     ·have hdI:kK rest=(m:Int):=by unfold kK;rw[if_pos (by omega),hme]
      rw[hdI]at Hi;have t0:decide ((m:Int)<0)=false:=dF (by omega);clear H f4 hbw hbl hro hs hn hok hds hX hc hk hp hm0 hdI hmle hme hdx hml
      go_wp2_with fail
      refine Hi.o.mono ?_;rintro r w2 ⟨rfl,h2⟩;have Hb2:=hid h2;have HDo:=hid (Hdoc.o w2 h2);clear h2 Hi
      go_wp2_with (with_reducible refine eM rfl _ _ 67 121 rfl Tryz.underlying67 ⟨i5,hi5⟩ ao n cap rfl .i64 m _ rfl rfl Hmc.o ?_)
      refine HDo.o.mono ?_;rintro r w4 ⟨rfl,hb4⟩;have f4:=((Hb2.o.trans (hb4.mono Hb2.o.size)).block _ (ag F4.o)).trans F4.o;have Hb4:=hid (Hbw.o.trans ((Hb2.o.trans (hb4.mono Hb2.o.size)).mono Hbw.o.size));obtain ⟨y0,y1,y2⟩:=cB3 f4;have yf:=fun j=>ai f4 j;simp at y0 y1 y2;have HE:=hid (show Below w.heap.size w (((w4.setCell ⟨fb,0,none⟩ (.int .i64 (k:Int))).setCell ⟨fb,1,none⟩ (.int .i64 l)).setCell ⟨fb,2,none⟩ (.int .i64 c))/\(((w4.setCell ⟨fb,0,none⟩ (.int .i64 (k:Int))).setCell ⟨fb,1,none⟩ (.int .i64 l)).setCell ⟨fb,2,none⟩ (.int .i64 c)).heap[fb]? =some (.cells #[.int .i64 (k:Int),.int .i64 l,.int .i64 c] 27 (0,0)) from by
       have hfb:=Hfb.o;obtain ⟨m1,m2⟩:=ir f4 (.int .i64 (k:Int)) (.int .i64 l) (.int .i64 c);exact ⟨Hb4.o.trans (m1.below Hb4.o.size fun k hk=>by omega),m2⟩)
      clear hb4 f4 HDo Hdoc;obtain ⟨oao,oc,rfl⟩:=cR Hro.o.row.row;go_wp2;refine bodyPost_ret (kC rfl rfl HE.o.2) rfl ?_;rw[HD.o];exact ⟨rfl,HE.o.1⟩
     ·have hdI:kK rest= -1:=by unfold kK;rw[if_neg (by omega)]
      rw[hdI]at Hi;obtain rfl:m=n:=by omega
      clear H f4 hbw hbl hro hs hn hok hds hX hc hk hp hm0 hdI hmle hme hdx hml
      go_wp2_with fail
      refine Hi.o.mono ?_;rintro r w2 ⟨rfl,h2⟩;have Hb2:=hid h2;have HDo:=hid (Hdoc.o w2 h2);clear h2 Hi
      go_wp2_with (with_reducible refine eM rfl _ _ 67 121 rfl Tryz.underlying67 ⟨i5,hi5⟩ ao m cap rfl .i64 m _ rfl rfl Hmc.o ?_)
      refine HDo.o.mono ?_;rintro r w4 ⟨rfl,hb4⟩;have f4:=((Hb2.o.trans (hb4.mono Hb2.o.size)).block _ (ag F4.o)).trans F4.o;have Hb4:=hid (Hbw.o.trans ((Hb2.o.trans (hb4.mono Hb2.o.size)).mono Hbw.o.size));obtain ⟨y0,y1,y2⟩:=cB3 f4;have yf:=fun j=>ai f4 j;simp at y0 y1 y2;have HE:=hid (show Below w.heap.size w (((w4.setCell ⟨fb,0,none⟩ (.int .i64 (k:Int))).setCell ⟨fb,1,none⟩ (.int .i64 l)).setCell ⟨fb,2,none⟩ (.int .i64 c))/\(((w4.setCell ⟨fb,0,none⟩ (.int .i64 (k:Int))).setCell ⟨fb,1,none⟩ (.int .i64 l)).setCell ⟨fb,2,none⟩ (.int .i64 c)).heap[fb]? =some (.cells #[.int .i64 (k:Int),.int .i64 l,.int .i64 c] 27 (0,0)) from by
       have hfb:=Hfb.o;obtain ⟨m1,m2⟩:=ir f4 (.int .i64 (k:Int)) (.int .i64 l) (.int .i64 c);exact ⟨Hb4.o.trans (m1.below Hb4.o.size fun k hk=>by omega),m2⟩)
      clear hb4 f4 HDo Hdoc;obtain ⟨oao,oc,rfl⟩:=cR Hro.o.row.row;go_wp2;refine bodyPost_ret (kC rfl rfl HE.o.2) rfl ?_;rw[HD.o];exact ⟨rfl,HE.o.1⟩
    |ok ns=>
     have Hul:=hid Tryz.underlying22;by_cases hml:m<n
     ·have hdI:kK rest=(m:Int):=by unfold kK;rw[if_pos (by omega),hme]
      rw[hdI]at Hi;have t0:decide ((m:Int)<0)=false:=dF (by omega);obtain ⟨m1,hm1⟩:=ex (if m<n then m+1 else n);have HM1:=hid (xS hmle Hn2.o hm1);have Hm1n:=hid (DE hm1);have Hm1d:=hid (show m1=if docN rest<n then docN rest+1 else n from by rw[<-hme];exact hm1);have Hk2:=hid (show k<=2000000 by have:=HNl.o;omega);have Hm1p:=hid (yr hp hm1);clear H f4 hbw hbl hro hs hn hok hds hX hc hk hp hm0 hdI hmle hme hdx hml hm1
      go_wp2_with fail
      refine Hi.o.mono ?_;rintro r w2 ⟨rfl,h2⟩;have Hb2:=hid h2;have HDo:=hid (Hdoc.o w2 h2);clear h2 Hi
      go_wp2_with (with_reducible refine eM rfl _ _ 67 121 rfl Tryz.underlying67 ⟨i5,hi5⟩ ao n cap rfl .i64 m _ rfl rfl Hmc.o ?_)
      refine HDo.o.mono ?_;rintro r w4 ⟨⟨v,ms,rfl,hP,hnd⟩,hb4⟩;have hv:∃a c,v= .slice a ms.length c:=cR hP.row;obtain ⟨va,vc,rfl⟩:=hv;have Hown:=hid (fun ob=>(Hro.o.later (Hb2.o.trans ((hb4.trans (((aAb _ _).alloc (aAa _) ob).mono hb4.size)).mono Hb2.o.size))).row.row);have Hend:=hid (fun ob v' w5 (a1:World.ownsRow w5 0 33 1 v' (k+1) (ds.flatMap DocV.cells++[.slice va ms.length vc])) (a2:(w4.alloc ob).grownBy w5 v2.ownBlock) (a3:∀g,v'.ownBlock=some g->v2.ownBlock=some g\/(w4.alloc ob).heap.size<=g)=>show RowO fx w1 w5 33 1 v' (k+1) (ds++[⟨.slice va ms.length vc,ms⟩]) from by
       have hba:Below wr.heap.size wr (w4.alloc ob):=Hb2.o.trans ((hb4.trans (((aAb _ _).alloc (aAa _) ob).mono hb4.size)).mono Hb2.o.size);have hdp:DocP (w4.alloc ob) wr.heap.size ⟨.slice va ms.length vc,ms⟩:=fx.mod (F:=fun _=>False) (x:=(⟨.slice va ms.length vc,ms⟩:DocV)) (fx.down (x:=(⟨.slice va ms.length vc,ms⟩:DocV)) hP Hb2.o.size) (bh ((aAb _ _).alloc (aAa _) ob)) (fun _ _ q=>q)
       exact RowO.app (w1:=w4.alloc ob) (v':=v') (w2:=w5) (q:=k+1) (m:=(⟨.slice va ms.length vc,ms⟩:DocV)) Hro.o hba hdp a1 a2 a3)
      have Hnd:=hid hnd;clear hP hnd hb4 HDo Hdoc
      go_wp2_with (first|(with_reducible refine kp rfl _ _ _ rfl .i64 .i64 (wrap64 ((m:Int)+1)) (n:Int) (m1:Int) rfl rfl HM1.o ?_)|(with_reducible refine fT rfl _ _ 67 121 rfl Tryz.underlying67 i5 hi5 5 hz1 ao n cap rfl .i64 m1 rfl Hm1n.o ?_;intro ao2 hao2;have Hao2:=hid hao2;clear hao2)|(at_builtin;refine eQ 33 22 (.slice none 0 0) 1 24 Hul.o kx rfl (by decide) (by decide) rfl (.tmp 35) (.tmp 37) rfl v2 k _ rfl (Hown.o _) _ _ [.slice va ms.length vc] rfl (ah _) rfl rfl (fun u hu=>by rw[List.mem_singleton]at hu;rw[hu];rfl) Hk2.o (k+1) rfl ?_;intro ao4 c4 w5 own2 gr2 new2;have HE:=hid (Hend.o _ _ _ own2 gr2 new2);clear own2 gr2 new2))
      obtain ⟨hs,hn,hc,hk,hok,hds,hf2,hX⟩:=HS.o;exact ⟨⟨_,ao2,n-m1,cap-m1,k+1,rfl,rfl,hid (OfS.step (d:=⟨.slice va ms.length vc,ms⟩) hs hn hc hk hok hds hf2 hX (by rw[<-Hme.o];show _=Except.ok (nds ms);rw[Hnd.o];exact Hdx.o.symm) (by rw[<-Hme.o];exact Hm0.o) Hp.o Hm1d.o HE.o Hao2.o)⟩,by show n-m1<n;have:=Hp.o;have:=Hm1p.o;omega⟩
     ·have hdI:kK rest= -1:=by unfold kK;rw[if_neg (by omega)]
      rw[hdI]at Hi;obtain rfl:m=n:=by omega
      obtain ⟨m1,hm1⟩:=ex (if m<m then m+1 else m);have HM1:=hid (xS hmle Hn2.o hm1);have Hm1n:=hid (DE hm1);have Hm1d:=hid (show m1=if docN rest<m then docN rest+1 else m from by rw[<-hme];exact hm1);have Hk2:=hid (show k<=2000000 by have:=HNl.o;omega);have Hm1p:=hid (yr hp hm1);clear H f4 hbw hbl hro hs hn hok hds hX hc hk hp hm0 hdI hmle hme hdx hml hm1
      go_wp2_with fail
      refine Hi.o.mono ?_;rintro r w2 ⟨rfl,h2⟩;have Hb2:=hid h2;have HDo:=hid (Hdoc.o w2 h2);clear h2 Hi
      go_wp2_with (with_reducible refine eM rfl _ _ 67 121 rfl Tryz.underlying67 ⟨i5,hi5⟩ ao m cap rfl .i64 m _ rfl rfl Hmc.o ?_)
      refine HDo.o.mono ?_;rintro r w4 ⟨⟨v,ms,rfl,hP,hnd⟩,hb4⟩;have hv:∃a c,v= .slice a ms.length c:=cR hP.row;obtain ⟨va,vc,rfl⟩:=hv;have Hown:=hid (fun ob=>(Hro.o.later (Hb2.o.trans ((hb4.trans (((aAb _ _).alloc (aAa _) ob).mono hb4.size)).mono Hb2.o.size))).row.row);have Hend:=hid (fun ob v' w5 (a1:World.ownsRow w5 0 33 1 v' (k+1) (ds.flatMap DocV.cells++[.slice va ms.length vc])) (a2:(w4.alloc ob).grownBy w5 v2.ownBlock) (a3:∀g,v'.ownBlock=some g->v2.ownBlock=some g\/(w4.alloc ob).heap.size<=g)=>show RowO fx w1 w5 33 1 v' (k+1) (ds++[⟨.slice va ms.length vc,ms⟩]) from by
       have hba:Below wr.heap.size wr (w4.alloc ob):=Hb2.o.trans ((hb4.trans (((aAb _ _).alloc (aAa _) ob).mono hb4.size)).mono Hb2.o.size);have hdp:DocP (w4.alloc ob) wr.heap.size ⟨.slice va ms.length vc,ms⟩:=fx.mod (F:=fun _=>False) (x:=(⟨.slice va ms.length vc,ms⟩:DocV)) (fx.down (x:=(⟨.slice va ms.length vc,ms⟩:DocV)) hP Hb2.o.size) (bh ((aAb _ _).alloc (aAa _) ob)) (fun _ _ q=>q)
       exact RowO.app (w1:=w4.alloc ob) (v':=v') (w2:=w5) (q:=k+1) (m:=(⟨.slice va ms.length vc,ms⟩:DocV)) Hro.o hba hdp a1 a2 a3)
      have Hnd:=hid hnd;clear hP hnd hb4 HDo Hdoc
      go_wp2_with (first|(with_reducible refine kp rfl _ _ _ rfl .i64 .i64 (wrap64 ((m:Int)+1)) (m:Int) (m1:Int) rfl rfl HM1.o ?_)|(with_reducible refine fT rfl _ _ 67 121 rfl Tryz.underlying67 i5 hi5 5 hz1 ao m cap rfl .i64 m1 rfl Hm1n.o ?_;intro ao2 hao2;have Hao2:=hid hao2;clear hao2)|(at_builtin;refine eQ 33 22 (.slice none 0 0) 1 24 Hul.o kx rfl (by decide) (by decide) rfl (.tmp 35) (.tmp 37) rfl v2 k _ rfl (Hown.o _) _ _ [.slice va ms.length vc] rfl (ah _) rfl rfl (fun u hu=>by rw[List.mem_singleton]at hu;rw[hu];rfl) Hk2.o (k+1) rfl ?_;intro ao4 c4 w5 own2 gr2 new2;have HE:=hid (Hend.o _ _ _ own2 gr2 new2);clear own2 gr2 new2))
      obtain ⟨hs,hn,hc,hk,hok,hds,hf2,hX⟩:=HS.o;exact ⟨⟨_,ao2,m-m1,cap-m1,k+1,rfl,rfl,hid (OfS.step (d:=⟨.slice va ms.length vc,ms⟩) hs hn hc hk hok hds hf2 hX (by rw[<-Hme.o];show _=Except.ok (nds ms);rw[Hnd.o];exact Hdx.o.symm) (by rw[<-Hme.o];exact Hm0.o) Hp.o Hm1d.o HE.o Hao2.o)⟩,by show m-m1<m;have:=Hp.o;have:=Hm1p.o;omega⟩
  ·have tp:decide (0<n)=false:=dF hp;have bp:¬(0:Int)<(n:Int):=by omega
   obtain rfl:n=0:=by omega
   have hDD:X= .ok (bQ ds):=by
    have:rest=[]:=List.length_eq_zero_iff.1 hn.symm;rw[hX,this,E2];simp[pZ]
   have HD:=hid hDD;obtain ⟨y0,y1,y2⟩:=cB3 f4;have yf:=fun j=>ai f4 j;simp at y0 y1 y2;have HE:=hid (show Below w.heap.size w (((wr.setCell ⟨fb,0,none⟩ (.int .i64 0)).setCell ⟨fb,1,none⟩ (.int .i64 0)).setCell ⟨fb,2,none⟩ (.int .i64 0))/\(((wr.setCell ⟨fb,0,none⟩ (.int .i64 0)).setCell ⟨fb,1,none⟩ (.int .i64 0)).setCell ⟨fb,2,none⟩ (.int .i64 0)).heap[fb]? =some (.cells #[.int .i64 0,.int .i64 0,.int .i64 0] 27 (0,0))/\RowO fx w (((wr.setCell ⟨fb,0,none⟩ (.int .i64 0)).setCell ⟨fb,1,none⟩ (.int .i64 0)).setCell ⟨fb,2,none⟩ (.int .i64 0)) 33 1 v2 k ds from by
    have hfb:=Hfb.o;obtain ⟨hm,hm2⟩:=ir f4 (.int .i64 0) (.int .i64 0) (.int .i64 0);have h1:w1.heap.size=w.heap.size+1:=by rw[Hw1.o];simp
    have hbb:Below w.heap.size w (((wr.setCell ⟨fb,0,none⟩ (.int .i64 0)).setCell ⟨fb,1,none⟩ (.int .i64 0)).setCell ⟨fb,2,none⟩ (.int .i64 0)):=hbw.trans (hm.below hbw.size fun k hk=>by omega);refine ⟨hbb,hm2,⟨⟨hbb,aG hro.row.row hm (fun g hg e=>by have:=hro.row.new g hg;omega),fun g hg=>by have:=hro.row.new g hg;omega⟩,fun m hm'=> ?_,hro.apart⟩⟩;exact fx.down (fx.mod (hro.each m hm') hm (fun g hg e=>by have:=(fx.lt (hro.each m hm') g hg).1;omega)) (by omega))
   have Hml:=hid (And.intro hds (show k<=1048576 by have:=HNl.o;omega));clear H f4 hbw hbl hro hs hn hok hds hX hc hk hp hDD;go_wp2;refine bodyPost_ret (kC rfl rfl HE.o.2.1) rfl ?_;rw[HD.o];exact ⟨⟨_,_,ds,rfl,HE.o.2.2,Hml.o.1,Hml.o.2,rfl⟩,HE.o.1⟩
def B9 (x:Except (Nat×Flt) (List (List Nd))):Except (Int×Int×Int) (List (List Nd)):=
 match x with
 | .error e=> .error ((e.1:Int),e.2.1,e.2.2)
 | .ok L=> .ok L
def wh (x:Except (Nat×Nat×Int) (List Tok)):Except (Int×Int×Int) (List (List Nd)):=
 match x with
 | .error e=> .error ((e.1:Int),(e.2.1:Int),e.2.2)
 | .ok ts=>B9 (ofL ts.length ts 0)
def Ca (bs:List UInt8):Except (Int×Int×Int) (List (List Nd)):=wh (iB bs)
def JK (w0:World) (x:Except (Int×Int×Int) (List (List Nd))) (r:Ending) (w':World):Prop:=
 (match x with
  | .ok L=>∃V n ds,r= .returned (.tuple #[V,.agg #[.int .i64 0,.int .i64 0,.int .i64 0]])/\RowO fx w0 w' 33 1 V n ds/\n=ds.length/\n<=1048576/\bQ ds=L
  | .error e=>r= .returned (.tuple #[.slice none 0 0,.agg #[.int .i64 e.1,.int .i64 e.2.1,.int .i64 e.2.2]]))/\Below w0.heap.size w0 w'
theorem tf (hq:∀t y m,de t=some (y,m)->y.length<=t.length):∀(f:Nat) (l:List UInt8) (k n:Nat),n+l.length<=70000->∀t∈(cH f l k n).1,TokOk t
 |0,_,_,_,_,t,h=>by cases h
 |f+1,l,k,n,hb,t,h=>by
  unfold cH at h
  split at h
  ·cases h
  ·rename_i hl
   have hl1:=List.length_pos_iff.2 hl;have h2:=lG l;cases hx:du (cJ l).1 ((n+1:Nat):Int) with
   |error c=>rw[hx]at h;cases h
   |ok ts=>
    rw[hx]at h;simp only at h;rcases List.mem_append.1 h with h|h
    ·obtain ⟨h3,-⟩:=jY hq hx;rcases h3 with rfl|h3
     ·obtain rfl:=List.mem_singleton.1 h;exact ⟨by show I64 1;decide,by show I64 ((n+1:Nat):Int);exact ⟨by omega,by omega⟩,⟨by show (0:Int)<=0;decide,by show (0:Int)<=1048576;decide⟩,Nat.zero_le _⟩
     ·have h4:=h3 t h;have:=h4.kind;have:=h4.col;have:=h4.text;exact ⟨⟨by omega,by omega⟩,by rw[h4.line];exact ⟨by omega,by omega⟩,⟨by omega,by omega⟩,by omega⟩
    ·refine tf hq f _ _ _ ?_ t h;have:=iN l hl;omega
theorem zd {bs:List UInt8} {ts:List Tok} (h:iB bs= .ok ts):(∀t∈ts,TokOk t)/\ts.length<=200000:=by
 have hq:∀t y m,de t=some (y,m)->y.length<=t.length:=fun t y m h=>by have:=jv h;omega
 by_cases hl:65536<bs.length
 ·unfold iB at h;rw[if_pos hl]at h;cases h
 ·obtain ⟨h1,h2⟩:=nM hl;rw[h2]at h;unfold rF at h;cases he:(cH bs.length bs 0 0).2 with
  |some e=>rw[he]at h;cases h
  |none=>
   rw[he]at h;injection h with h
   rw[<-h,List.nil_append];have:=lW hq bs.length bs 0 0;exact ⟨fun t ht=>tf hq _ _ _ _ (by omega) t ht,by omega⟩
theorem ED {bs:List UInt8} {e:Nat×Nat×Int} (h:iB bs= .error e):e.2.2≠0:=by
 by_cases hl:65536<bs.length
 ·unfold iB at h;rw[if_pos hl]at h;injection h with h
  rw[<-h];exact (show (3:Int)≠0 by decide)
 ·obtain ⟨h1,h2⟩:=nM hl;rw[h2]at h;unfold rF at h;cases he:(cH bs.length bs 0 0).2 with
  |none=>rw[he]at h;cases h
  |some e2=>
   rw[he]at h;injection h with h
   subst h;exact ot _ _ _ _ _ he
theorem RowO.base {α:Type} {E:Elt α} {w w1 wr:World} {e:TypeId} {sz:Nat} {v:Value} {n:Nat} {xs:List α} (hb:Below w.heap.size w w1) (h:RowO E w1 wr e sz v n xs):RowO E w wr e sz v n xs:=
 ⟨⟨hb.trans (h.row.below.mono hb.size),h.row.row,fun g hg=>aAe hb.size (h.row.new g hg)⟩,fun x hx=>E.down (h.each x hx) hb.size,h.apart⟩
theorem RowO.mod {α:Type} {E:Elt α} {w w1 wr w2:World} {e:TypeId} {sz:Nat} {v:Value} {n:Nat} {xs:List α} {F:Nat->Prop} (hb:Below w.heap.size w w1) (h:RowO E w1 wr e sz v n xs) (hm:Mod F wr w2) (h1:∀k,F k->k<w1.heap.size) (h0:∀k,F k->w.heap.size<=k):RowO E w w2 e sz v n xs:=by
 have hl:∀x∈xs,∀g,E.own x g->¬F g:=fun x hx g hg q=>by
  have:=(E.lt (h.each x hx) g hg).1;have:=h1 g q;omega
 have hs:=(RowO.base hb h).row.below;exact ⟨⟨hs.trans (hm.below hs.size h0),aG h.row.row hm (fun g hg q=>by have:=h.row.new g hg;have:=h1 g q;omega),fun g hg=>aAe hb.size (h.row.new g hg)⟩,
  fun x hx=>E.down (E.mod (h.each x hx) hm (hl x hx)) hb.size,h.apart⟩
theorem js {w:World} {b:Nat} {V v0 v1 v2:Value} {tmps:Array Value} (h2:tmps[2]? =some V) (h3:tmps[3]? =some (.pointer (some ⟨b,0,none⟩))) (hb:w.heap[b]? =some (.cells #[v0,v1,v2] 27 (0,0))):
 (results Tryz.f16 tmps).run Tryz.prog w= .ok (.tuple #[V,.agg #[v0,v1,v2]]) w:=by
 have h1:=run_loadVar_mid (P:= Tryz.prog) w b 0 27 [v0,v1,v2] _ (gA (l:=[v0,v1,v2]) hb) Tryz.underlying27 rfl (by kernel_rfl);rw[Array.getElem?_eq_some_iff]at h2 h3;obtain ⟨l2,e2⟩:=h2;obtain ⟨l3,e3⟩:=h3;simp[results,Tryz.results16,asAddr,Array.getD,l2,e2,l3,e3,h1]
theorem EL {w:World} {B e sz n:Nat} {a:Option Addr} {k c:Nat} {xs:List Value} (h:w.ownsRow B e sz (.slice a k c) n xs):n<=c/\k=n:=by
 rcases h.2 with ⟨hv,hn⟩|⟨g,cap,cur,hv,-,-,hc,-⟩
 ·cases hv;exact ⟨by omega,by omega⟩
 ·cases hv;exact ⟨hc,rfl⟩
theorem EW (w:World) (bs:List UInt8) (ao:Option Addr) (cap:Nat) (hT:SlR w (.slice ao bs.length cap) 1 bs gm) (hcap:bs.length<=cap) (hg:Glob w):
 Calls Tryz.prog 16 #[.slice ao bs.length cap] w (JK w (Ca bs)):=by
 obtain ⟨w1,hw1⟩:=ex (w.alloc (.cells #[.int .i64 0,.int .i64 0,.int .i64 0] 27));have hb1:Below w.heap.size w w1:=by rw[hw1];exact (aAb _ _).alloc (aAa _) _
 have hf1:w1.heap[w.heap.size]? =some (.cells #[.int .i64 0,.int .i64 0,.int .i64 0] 27 (0,0)):=by rw[hw1];exact ah _
 have HS:=hid (Ij w1 bs ao cap (hT.later hb1) hcap (hg.later hb1));have Hb1:=hid hb1;have Hf1:=hid hf1;obtain ⟨X,hX⟩:=ex (iB bs);have HX:=hid hX;rw[<-hX]at HS;have Hw1:=hid hw1;obtain ⟨N,hN⟩:=ex (bs.length);rw[<-hN]at HS |-
 show Calls Tryz.prog 16 _ w (JK w (wh (iB bs)))
 rw[<-hX];clear hT hcap hg hb1 hf1 hX hN;obtain ⟨fb,hfb⟩:=ex (w.heap.size);have Hfb:=hid hfb;go_enter Tryz.func16,Tryz.ntmps16
 go_wp2_with fail
 rw[<-hw1,<-hfb];clear hw1 hfb;refine HS.o.mono ?_;intro r w2 hr;clear HS;cases X with
 |error e=>
  obtain ⟨rfl,hb2⟩:=hr;have tc:(e.2.2 != 0)=true:=by rw[bne_iff_ne];exact ED HX.o.symm
  have hb12:=Hb1.o.trans (hb2.mono Hb1.o.size);have f2:=(hb2.block _ (ag Hf1.o)).trans Hf1.o;rw[<-Hfb.o]at f2;have lf:=ag f2;obtain ⟨w3,hw3⟩:∃w3,w3=w2.alloc (.cells #[.int .i64 (e.1:Int),.int .i64 (e.2.1:Int),.int .i64 e.2.2] 27):=⟨_,rfl⟩;have h3:w3.heap[w2.heap.size]? =some (.cells #[.int .i64 (e.1:Int),.int .i64 (e.2.1:Int),.int .i64 e.2.2] 27 (0,0)):=by rw[hw3];exact ah _
  have f3:w3.heap[fb]? =some (.cells #[.int .i64 0,.int .i64 0,.int .i64 0] 27 (0,0)):=by rw[hw3,aj _ lf];exact f2
  have hb13:Below w.heap.size w w3:=by rw[hw3];exact hb12.alloc hb12.size _
  have HE:=hid (ir (w4:=w3) f3 (.int .i64 (e.1:Int)) (.int .i64 (e.2.1:Int)) (.int .i64 e.2.2));obtain ⟨y0,y1,y2⟩:=cB3 f3;have yf:=fun j=>ai f3 j;obtain ⟨d0,d1,d2⟩:=cB3 h3;simp at y0 y1 y2 d0 d1 d2;have Hb13:=hid hb13;clear hb2 hb12 f2 h3 f3 hb13;go_upto_region 2 with (fail)
  rw[<-hw3];clear hw3;go_wp2
  go_region
  all_goals go_wp2
  refine bodyPost_ret (js rfl rfl HE.o.2) rfl ⟨rfl,?_⟩;exact (Hb13.o.trans (HE.o.1.below Hb13.o.size (fun k hk=>by have:=Hfb.o;omega))).drew
 |ok ts=>
  obtain ⟨⟨v,rfl,hR⟩,hb2⟩:=hr;obtain ⟨hok,hlen⟩:=zd HX.o.symm;obtain ⟨ta,tn,tc,rfl⟩:∃a n c,v= .slice a n c:=by obtain ⟨a,c,h⟩:=(cR hR.row:∃a c,v= .slice a ts.length c);exact ⟨a,_,c,h⟩
  obtain ⟨q1,rfl⟩:=EL hR.row;have hb12:=Hb1.o.trans (hb2.mono Hb1.o.size);have f2:=(hb2.block _ (ag Hf1.o)).trans Hf1.o;rw[<-Hfb.o]at f2;have lf:=ag f2;obtain ⟨w3,hw3⟩:=ex (w2.alloc (.cells #[.int .i64 0,.int .i64 0,.int .i64 0] 27));have h3:w3.heap[w2.heap.size]? =some (.cells #[.int .i64 0,.int .i64 0,.int .i64 0] 27 (0,0)):=by rw[hw3];exact ah _
  have f3:w3.heap[fb]? =some (.cells #[.int .i64 0,.int .i64 0,.int .i64 0] 27 (0,0)):=by rw[hw3,aj _ lf];exact f2
  have hb23:Below w2.heap.size w2 w3:=by rw[hw3];exact (aAb _ _).alloc (aAa _) _
  have hb13:Below w.heap.size w w3:=hb12.trans (hb23.mono hb12.size);have HOf:=hid (of_c w3 ta tc ts ts.length ((SlR.ofRow hR.row rfl (fun _=>rfl) (by omega) (by decide)).later hb23) q1 hok (aAa _));have d2:=af h3 2;simp at d2;have Hb13:=hid hb13;have F3:=hid f3;have Lf:=hid (ag f3);obtain ⟨Z,hZ⟩:=ex (ofL ts.length ts 0);have HZ:=hid (show wh (.ok ts)=B9 Z by rw[hZ];rfl)
  rw[<-hZ]at HOf;obtain ⟨n,hn⟩:=ex (ts.length);rw[<-hn]at HOf |-;clear hb2 hb12 f2 h3 f3 hb23 hb13 hR hok hlen q1 hZ lf hn;go_upto_region 2 with (fail)
  rw[<-hw3];clear hw3
  go_wp2_with fail
  refine HOf.o.mono ?_;intro r w4 hr;clear HOf d2;cases Z with
  |error e=>
   obtain ⟨rfl,hb4⟩:=hr;have f4:=(hb4.block _ Lf.o).trans F3.o;have HE:=hid (ir (w4:=w4) f4 (.int .i64 (e.1:Int)) (.int .i64 e.2.1) (.int .i64 e.2.2));have Hb4:=hid (Hb13.o.trans (hb4.mono Hb13.o.size));obtain ⟨y0,y1,y2⟩:=cB3 f4;have yf:=fun j=>ai f4 j;simp at y0 y1 y2;clear hb4 f4;go_wp2;refine bodyPost_ret (js rfl rfl HE.o.2) rfl ?_;rw[HZ.o];exact ⟨rfl,Hb4.o.trans (HE.o.1.below Hb4.o.size (fun k hk=>by have:=Hfb.o;omega))⟩
  |ok L=>
   obtain ⟨⟨V,m,ds,rfl,hro,hm,hm2,hL⟩,hb4⟩:=hr;have f4:=(hb4.block _ Lf.o).trans F3.o;have HE:=hid (ir (w4:=w4) f4 (.int .i64 0) (.int .i64 0) (.int .i64 0));have Hb4:=hid (Hb13.o.trans (hb4.mono Hb13.o.size));have Hro:=hid hro;have Hm:=hid (And.intro hm (And.intro hm2 hL));obtain ⟨y0,y1,y2⟩:=cB3 f4;have yf:=fun j=>ai f4 j;simp at y0 y1 y2;obtain ⟨va,vn,vc,rfl⟩:∃a n c,V= .slice a n c:=by obtain ⟨a,c,h⟩:=cR hro.row.row;exact ⟨a,_,c,h⟩
   clear hb4 f4 hro hm hm2 hL;go_wp2;refine bodyPost_ret (js rfl rfl HE.o.2) rfl ?_;rw[HZ.o];have hE:=RowO.mod Hb13.o Hro.o HE.o.1 (fun k hk=>by have:=Lf.o;omega) (fun k hk=>by have:=Hfb.o;omega);exact ⟨⟨_,_,ds,rfl,hE,Hm.o.1,Hm.o.2.1,Hm.o.2.2⟩,hE.row.below⟩
def sy:List UInt8:=[107,105,110,100,58,32,83,101,114,118,105,99,101,10,110,97,109,101,58,32,119,101,98,10,101,110,100,112,111,105,110,116,115,58,10,32,32,45,32,101,49,10]
def nE1:ByteArray:=⟨#[101,49]⟩
def I1:ByteArray:=⟨#[119,101,98]⟩
def aNs:List Nd:=[⟨2,⟨#[]⟩,⟨#[]⟩,false,1,[1,2,3]⟩,⟨1,kKind,fK,false,1,[]⟩,⟨1,bB,I1,false,2,[]⟩,⟨3,bn,⟨#[]⟩,false,4,[4]⟩,⟨1,⟨#[]⟩,nE1,false,4,[]⟩]
def nJ:Res:=⟨1,I1,[nE1],[],⟨#[]⟩,[],⟨#[]⟩,false⟩
def vd:List Nd:=[⟨2,⟨#[]⟩,⟨#[]⟩,false,0,[1,2,3]⟩,⟨1,kKind,fK,false,0,[]⟩,⟨1,bB,I1,false,0,[]⟩,⟨3,bn,⟨#[]⟩,false,0,[4]⟩,⟨1,⟨#[]⟩,nE1,false,0,[]⟩]
theorem Ge:Ca sy= .ok [aNs]:=by with_unfolding_all rfl
theorem JI:eh [aNs] 0= .ok [nJ]:=by with_unfolding_all rfl
theorem JD:jn wtF nJ=vd:=by with_unfolding_all rfl
theorem Li:fR vd= .ok nJ:=by with_unfolding_all rfl
theorem JF:mU nJ nJ=true:=by with_unfolding_all rfl
theorem JH:eK vd=(⟨sy.toArray⟩,0):=by with_unfolding_all rfl
theorem Gd:eV nJ=vd:=by
 unfold eV;rw[JD,Li];simp only;rw[JF,if_pos rfl]
theorem JG:ni [⟨sy.toArray⟩]=⟨sy.toArray⟩:=by with_unfolding_all rfl
theorem JE:xy [nJ]=(⟨sy.toArray⟩,0):=by
 unfold xy iT;rw[Gd,JH,if_neg (by unfold vd;simp),if_neg (by simp)];unfold iT;rw[List.nil_append,JG,if_neg (by decide)]
theorem DK {w:World} {b:Nat} {c:Array Value} {T:TypeId} {f:Nat×Nat} (h:w.heap[b]? =some (.cells c T f)) (i:Nat):w.cell? ⟨b,i,none⟩=c[i]? :=by
 simp[World.cell?,h]
theorem AI (w:World) (bs:List UInt8) (arr:Array Value) (T:TypeId) (f:Nat×Nat) (h:arr.toList=bs.map (fun c=>Value.int .u8 (c.toNat:Int))) (hl:bs.length<=1048576):SlR (w.alloc (.cells arr T f)) (.slice (some ⟨w.heap.size,0,none⟩) bs.length bs.length) 1 bs gm:=by
 refine ⟨_,_,rfl,hl,fun _=>⟨w.heap.size,0,rfl,by simp,fun i x hx j u hu=> ?_⟩⟩;have hb:(w.alloc (.cells arr T f)).heap[w.heap.size]? =some (.cells arr T f):=by
  show (w.heap.push (.cells arr T f))[w.heap.size]? =_
  simp
 have hj:j=0:=by
  have:=(aAh hu).1;unfold gm at this
  simpa using this
 subst hj;have hu2:Value.int .u8 (x.toNat:Int)=u:=by unfold gm at hu;simpa using hu
 rw[Nat.mul_one,Nat.zero_add,Nat.add_zero,DK hb i,<-Array.getElem?_toList,h,List.getElem?_map,hx,<-hu2];rfl
theorem a_ok:ResZ nJ:=by
 refine ⟨by decide,by decide,by decide,by decide,?_,nofun,nofun,by decide⟩;intro x hx;rw[List.mem_singleton.1 hx]
 decide
theorem F8 (w:World) (hg:GlobT w):Calls Tryz.prog 14 #[] w fun x w'=>x= .returned (.bool true)/\Below w.heap.size w w':=by
 have kc:=fun (w:World) (C:Array Value) (n c:Nat)=>Lib.run_convert_bytes_const (P:= Tryz.prog) w 42 5 C n c Tryz.underlying42 Tryz.underlying5;obtain ⟨arr,harr⟩:∃arr:Array Value,arr=#[.int .u8 107,.int .u8 105,.int .u8 110,.int .u8 100,.int .u8 58,.int .u8 32,.int .u8 83,.int .u8 101,.int .u8 114,.int .u8 118,.int .u8 105,.int .u8 99,.int .u8 101,.int .u8 10,.int .u8 110,.int .u8 97,.int .u8 109,.int .u8 101,.int .u8 58,.int .u8 32,.int .u8 119,.int .u8 101,.int .u8 98,.int .u8 10,.int .u8 101,.int .u8 110,.int .u8 100,.int .u8 112,.int .u8 111,.int .u8 105,.int .u8 110,.int .u8 116,.int .u8 115,.int .u8 58,.int .u8 10,.int .u8 32,.int .u8 32,.int .u8 45,.int .u8 32,.int .u8 101,.int .u8 49,.int .u8 10]:=⟨_,rfl⟩
 obtain ⟨wa,hwa⟩:=ex (w.alloc (.cells arr 5 (42,43)));have hba:Below w.heap.size w wa:=by rw[hwa];exact (aAb _ _).alloc (aAa _) _
 have hrow:=AI w sy arr 5 (42,43) (by rw[harr];rfl) (by decide);rw[<-hwa]at hrow;have HP:=hid (EW wa sy (some ⟨w.heap.size,0,none⟩) 42 hrow (by decide) (hg.later hba).gl);rw[Ge,show sy.length=42 from rfl]at HP;have Hg:=hid (fun w2 (hb:Below w.heap.size w w2)=>hg.later hb);have HB:=hid hba;rw[harr]at hwa;clear hg hrow harr hba;go_enter Tryz.func14,Tryz.ntmps14
 go_wp2_with fail
 change Calls _ _ _ (w.alloc (.cells _ _ (42,43))) _;rw[<-hwa];refine HP.o.mono ?_;unfold JK;rintro x w2 ⟨⟨V,n,ds,rfl,hro,hn,hn2,hds⟩,hb⟩;clear hwa HP;have hbw:Below w.heap.size w w2:=HB.o.trans (hb.mono HB.o.size);have HD:=hid (fun w3 (hb3:Below w2.heap.size w2 w3)=>uL w3 V ds ((hro.later hb3).docs hn hn2) (Hg.o w3 (hbw.trans (hb3.mono hbw.size))).gl);rw[hds,JI]at HD;obtain ⟨va,vn,vc,hV⟩:∃a n c,V= .slice a n c:=by
  rcases hro.row.row.2 with ⟨hv,_⟩|⟨g,cap,cur,hv,_⟩
  ·exact ⟨_,_,_,hv⟩
  ·exact ⟨_,_,_,hv⟩
 subst hV;have Hbw:=hid hbw;clear hro hn hn2 hds hb hbw;obtain ⟨w3,hw3⟩:=ex (w2.alloc (.cells #[.int .i64 0,.int .i64 0,.int .i64 0] 27));have hb3:Below w2.heap.size w2 w3:=by rw[hw3];exact (aAb _ _).alloc (aAa _) _
 have hf3:w3.heap[w2.heap.size]? =some (.cells #[.int .i64 0,.int .i64 0,.int .i64 0] 27 (0,0)):=by rw[hw3];exact ah _
 have HD3:=hid (HD.o w3 hb3);have z2:=af hf3 2;simp at z2;have Hb3:=hid (Hbw.o.trans (hb3.mono Hbw.o.size));clear HD hb3 hf3;subst hw3
 go_wp2_with fail
 refine HD3.o.mono ?_;unfold AL;rintro x w4 ⟨⟨V2,n2,ms,rfl,hro,hn,hn2,hms⟩,hb4⟩;obtain ⟨m,hm,hmr⟩:∃m,ms=[m]/\m.r=nJ:=by
  cases ms with
  |nil=>cases hms
  |cons m l=>
   rw[List.map_cons]at hms;injection hms with h1 h2
   cases l with
   |nil=>exact ⟨m,rfl,h1⟩
   |cons y l=>cases h2
 subst hm;have hL0:=hro.toL hn hn2;obtain ⟨w5,hw5⟩:=ex (w4.alloc (.cells #[.int .i64 0,.int .i64 0,.int .i64 0] 27));have hb5:Below w4.heap.size w4 w5:=by rw[hw5];exact (aAb _ _).alloc (aAa _) _
 have hf5:w5.heap[w4.heap.size]? =some (.cells #[.int .i64 0,.int .i64 0,.int .i64 0] 27 (0,0)):=by rw[hw5];exact ah _
 have hbw5:Below w.heap.size w w5:=(Hb3.o.trans (hb4.mono Hb3.o.size)).trans (hb5.mono (aAe Hb3.o.size hb4.size));have HT:=hid (JJ w5 V2 [m] (hL0.later hb5) (fun y hy=>by rw[List.mem_singleton.1 hy,hmr];exact a_ok) (Hg.o w5 hbw5));rw[show [m].map (·.r)=[nJ] by rw[List.map_cons,hmr];rfl,JE]at HT;obtain ⟨va2,vc2,hV2⟩:∃a c,V2= .slice a 1 c:=by
  obtain ⟨a,c,e,_⟩:=hL0.sl;exact ⟨a,c,e⟩
 obtain ⟨av,cv,hv,hl,hat⟩:=ox hL0;obtain ⟨b,o,hav,hbb,hc,hr⟩:=hat 0 m rfl;have hcell:=fun (w6:World) (hb6:Below w5.heap.size w5 w6) i u (hu:m.cells[i]? =some u)=>((hb5.trans (hb6.mono hb5.size)).cell (p:=⟨b,o+0*8+i,none⟩) hbb).trans (hc i u hu);have Hcell:=hid hcell;obtain ⟨r,ev,tv,rv⟩:=m;simp only at hmr;subst hmr;obtain ⟨ea,ec,hev,hel⟩:=hr.e;obtain ⟨hel,_⟩:=hel;rw[show (nJ.endps).length=1 from rfl]at hev
 subst hev;rw[hV2]at hv;obtain rfl:va2=av:=by injection hv
 subst hav;subst hV2;have Hf:=hid (fun (w6:World) (hb6:Below w5.heap.size w5 w6)=>show w6.cell? ⟨w4.heap.size,2,none⟩=some (.int .i64 0) from by
  have h1:=af hf5 2;have hlt:=ag hf5;exact (hb6.cell (p:=⟨w4.heap.size,2,none⟩) hlt).trans h1)
 have Hbw5:=hid hbw5;clear hro hn hn2 hms hb4 hL0 hb5 hf5 hbw5 hat hl hc hr hel hcell HD3 z2 hbb hv Hbw Hb3 Hg HB;subst hw5
 go_wp2_with fail
 refine HT.o.mono ?_;unfold q6;rintro x w6 ⟨rfl,hb6⟩;have f2:=Hf.o w6 hb6;have e1:=Hcell.o w6 hb6 1 _ rfl;have e2:=Hcell.o w6 hb6 2 _ rfl;simp only[Nat.zero_mul,Nat.add_zero,Nat.zero_add]at e1 e2;have Hb6:=hid (Hbw5.o.trans (hb6.mono Hbw5.o.size));rw[show nJ.name=⟨#[119,101,98]⟩ from rfl]at e1;unfold sy;clear hb6 Hcell Hf HT Hbw5;go_wp2;refine bodyPost_ret (results_tmp (t:=0) rfl _ _ _) rfl ⟨rfl,Hb6.o⟩
def D3 (x:Except (Nat×Stop) (List Res)):List Res×Int×Int×Int:=match x with| .ok L=>(L,0,0,0)| .error e=>([],(e.1:Int),e.2.1,e.2.2)
