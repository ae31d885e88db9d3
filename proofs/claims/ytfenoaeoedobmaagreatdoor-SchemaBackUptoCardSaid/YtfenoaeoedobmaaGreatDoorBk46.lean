/-
Parts of a proof.
-/
import Derived.Lib.SlBytesConst
import Derived.Test.YtfenoaeoedobmaaGreatDoorBk45
set_option linter.unusedVariables false
set_option linter.unusedSimpArgs false
set_option maxHeartbeats 8000000
set_option maxRecDepth 100000
namespace Go.Proofs.YtfenoaeoedobmaaGreatDoor
open Go Go.RowKit
theorem of_c (w:World) (ao:Option Addr) (cap:Nat) (ts:List Tok) (f:Nat) (htoks:SlR w (.slice ao ts.length cap) 5 ts Tok.cells) (hcap:ts.length<=cap) (hwf:∀t∈ts,TokOk t) (hf:ts.length<=f):
 Calls Tryz.prog 27 #[.slice ao ts.length cap] w (SOf w (ofL f ts 0)):=by
 obtain ⟨N,hN⟩:∃N,N=ts.length:=⟨_,rfl⟩;have hNl:N<=1048576:=by obtain ⟨_,_,e,hl,_⟩:=htoks;omega
 obtain ⟨w1,hw1⟩:∃w1,w1=w.alloc (.cells #[.int .i64 0,.int .i64 0,.int .i64 0] 27):=⟨_,rfl⟩;have hb1:Below w.heap.size w w1:=by rw[hw1];exact (a7d _ _).alloc (a7c _) _
 have hf1:w1.heap[w.heap.size]? =some (.cells #[.int .i64 0,.int .i64 0,.int .i64 0] 27 (0,0)):=by rw[hw1];exact aAc _
 obtain ⟨X,hX⟩:∃X,X=ofL f ts 0:=⟨_,rfl⟩;rw[<-hX,<-hN];have H0:=hid (show OfS w1 w1 X N ao N cap (.slice none 0 0) 0 from ⟨⟨ts,by rw[hN];exact htoks.later hb1,hN,hwf,[],rfl,RowO.first (a7d _ _),f,by omega,by
  rw[hX];cases ofL f ts 0<;>rfl⟩,by omega,by omega⟩)
 have Hw1:=hid hw1;have Hb1:=hid hb1;have Hf1:=hid hf1;have HNl:=hid hNl;obtain ⟨fb,hfb⟩:∃fb,fb=w.heap.size:=⟨_,rfl⟩;rw[<-hfb]at Hf1;have Hfb:=hid hfb;clear htoks hcap hwf hf hb1 hf1 hX hN hNl;go_enter Tryz.func27,Tryz.ntmps27;go_wp2;rw[<-hw1,<-hfb];clear hw1 hfb
 go_loopw [0,4] (fun vv vo wr=>∃(v2:Value) (ao:Option Addr) (n cap k:Nat),vv= .slice ao n cap/\v2=vo/\Hid (OfS w1 wr X N ao n cap v2 k)) (fun vv _ _=>slN vv)
 case atStart=>exact ⟨_,_,_,_,0,rfl,rfl,H0⟩
 case round=>
  clear H0;obtain ⟨v2,ao,n,cap,k,rfl,rfl,H⟩:=hrel;obtain ⟨⟨rest,hs,hn,hok,ds,hds,hro,f2,hf2,hX⟩,hc,hk⟩:=H.out;have hbl:=hro.row.below;have hbw:Below w.heap.size w wr:=Hb1.out.trans (hbl.mono Hb1.out.size);have f4:=(hbl.block _ (aAb Hf1.out)).trans Hf1.out;by_cases hp:0<n
  ·have tp:decide (0<n)=true:=dT hp;have bp:(0:Int)<(n:Int):=by omega
   have Hi:=hid (docI_c wr (.slice ao n cap) rest (hs.later hbl));have HS:=hid (And.intro hs (And.intro hn (And.intro hc (And.intro hk (And.intro hok (And.intro hds (And.intro hf2 hX)))))));have Hro:=hid hro;have Hbw:=hid hbw;have F4:=hid f4;have Hbl:=hid hbl;have hmle:docN rest<=n:=by rw[hn];exact aP8 rest
   have Hn2:=hid (show n<=1048576 by have:=HNl.out;omega);by_cases hm0:docN rest=0
   ·have hdI:docI rest=0:=by unfold docI;rw[if_pos (by omega),hm0];rfl
    rw[hdI]at Hi;have Hmin:=hid (show (if (n:Int)<1 then (n:Int) else 1)=1 from by rw[if_neg (by omega)]);have Hm0:=hid hm0;have Hp:=hid hp;have H1n:=hid (show 1<=n from hp);obtain ⟨i5,hi5,hz0,hz1,hz2⟩:=info_parts aO7;clear H f4 hbw hbl hro hs hn hok hds hX hc hk hp hm0 hdI hmle
    go_wp2_with fail
    refine Hi.out.mono ?_;rintro r w2 ⟨rfl,h2⟩;have Hb2:=hid h2;clear h2 Hi
    go_wp2_with (first|(with_reducible refine aHl rfl _ _ _ rfl .i64 .i64 1 (n:Int) 1 rfl rfl Hmin.out ?_)|(with_reducible refine aDt rfl _ _ 67 121 rfl Tryz.underlying67 i5 hi5 5 hz1 ao n cap rfl .i64 1 rfl H1n.out ?_;intro ao2 hao2;have Hao2:=hid hao2;clear hao2))
    obtain ⟨hs,hn,hc,hk,hok,hds,hf2,hX⟩:=HS.out;exact ⟨⟨v2,ao2,n-1,cap-1,k,rfl,rfl,hid (OfS.skip hs hn hc hk hok hds Hro.out hf2 hX Hm0.out Hp.out Hb2.out Hao2.out)⟩,by show n-1<n;have:=Hp.out;omega⟩
   ·obtain ⟨m,hme⟩:∃m,m=docN rest:=⟨_,rfl⟩;have Hme:=hid hme;rw[<-hme]at hm0 hmle;have tm:decide (0<m)=true:=dT (by omega);have Hmc:=hid (show m<=cap by omega);have Hm0:=hid (show 0<m by omega);have Hp:=hid hp;have Hdoc:=hid (fun w2 (h2:Below wr.heap.size wr w2)=>aUb w2 (.slice ao m cap) (rest.take m) (aQo ((hs.later hbl).later h2) hmle) (fun t ht=>hok t (List.mem_of_mem_take ht)));obtain ⟨i5,hi5,hz0,hz1,hz2⟩:=info_parts aO7
    obtain ⟨x,hdx⟩:∃x,x=docTP (rest.take m):=⟨_,rfl⟩;rw[<-hdx]at Hdoc;have Hdx:=hid hdx;cases x with
    |error e=>
     obtain ⟨l,c⟩:=e;have tc:(c==0)=false:=beq_eq_false_iff_ne.2 (a2r hdx.symm);have HD:=hid (OfS.fall hn hf2 hX (by rw[<-hme];exact hdx.symm) (by omega) hp);by_cases hml:m<n
     ·have hdI:docI rest=(m:Int):=by unfold docI;rw[if_pos (by omega),hme]
      rw[hdI]at Hi;have t0:decide ((m:Int)<0)=false:=dF (by omega);clear H f4 hbw hbl hro hs hn hok hds hX hc hk hp hm0 hdI hmle hme hdx hml
      go_wp2_with fail
      refine Hi.out.mono ?_;rintro r w2 ⟨rfl,h2⟩;have Hb2:=hid h2;have HDo:=hid (Hdoc.out w2 h2);clear h2 Hi
      go_wp2_with (with_reducible refine aC0 rfl _ _ 67 121 rfl Tryz.underlying67 ⟨i5,hi5⟩ ao n cap rfl .i64 m _ rfl rfl Hmc.out ?_)
      refine HDo.out.mono ?_;rintro r w4 ⟨rfl,hb4⟩;have f4:=((Hb2.out.trans (hb4.mono Hb2.out.size)).block _ (aAb F4.out)).trans F4.out;have Hb4:=hid (Hbw.out.trans ((Hb2.out.trans (hb4.mono Hb2.out.size)).mono Hbw.out.size));obtain ⟨y0,y1,y2⟩:=cB3 f4;have yf:=fun j=>aAd f4 j;simp at y0 y1 y2;have HE:=hid (show Below w.heap.size w (((w4.setCell ⟨fb,0,none⟩ (.int .i64 (k:Int))).setCell ⟨fb,1,none⟩ (.int .i64 l)).setCell ⟨fb,2,none⟩ (.int .i64 c))/\(((w4.setCell ⟨fb,0,none⟩ (.int .i64 (k:Int))).setCell ⟨fb,1,none⟩ (.int .i64 l)).setCell ⟨fb,2,none⟩ (.int .i64 c)).heap[fb]? =some (.cells #[.int .i64 (k:Int),.int .i64 l,.int .i64 c] 27 (0,0)) from by
       have hfb:=Hfb.out;obtain ⟨m1,m2⟩:=aGd f4 (.int .i64 (k:Int)) (.int .i64 l) (.int .i64 c);exact ⟨Hb4.out.trans (m1.below Hb4.out.size fun k hk=>by omega),m2⟩)
      clear hb4 f4 HDo Hdoc;obtain ⟨oao,oc,rfl⟩:=aCk Hro.out.row.row;go_wp2;refine bodyPost_ret (aH9 rfl rfl HE.out.2) rfl ?_;rw[HD.out];exact ⟨rfl,HE.out.1⟩
     ·have hdI:docI rest= -1:=by unfold docI;rw[if_neg (by omega)]
      rw[hdI]at Hi;obtain rfl:m=n:=by omega
      clear H f4 hbw hbl hro hs hn hok hds hX hc hk hp hm0 hdI hmle hme hdx hml
      go_wp2_with fail
      refine Hi.out.mono ?_;rintro r w2 ⟨rfl,h2⟩;have Hb2:=hid h2;have HDo:=hid (Hdoc.out w2 h2);clear h2 Hi
      go_wp2_with (with_reducible refine aC0 rfl _ _ 67 121 rfl Tryz.underlying67 ⟨i5,hi5⟩ ao m cap rfl .i64 m _ rfl rfl Hmc.out ?_)
      refine HDo.out.mono ?_;rintro r w4 ⟨rfl,hb4⟩;have f4:=((Hb2.out.trans (hb4.mono Hb2.out.size)).block _ (aAb F4.out)).trans F4.out;have Hb4:=hid (Hbw.out.trans ((Hb2.out.trans (hb4.mono Hb2.out.size)).mono Hbw.out.size));obtain ⟨y0,y1,y2⟩:=cB3 f4;have yf:=fun j=>aAd f4 j;simp at y0 y1 y2;have HE:=hid (show Below w.heap.size w (((w4.setCell ⟨fb,0,none⟩ (.int .i64 (k:Int))).setCell ⟨fb,1,none⟩ (.int .i64 l)).setCell ⟨fb,2,none⟩ (.int .i64 c))/\(((w4.setCell ⟨fb,0,none⟩ (.int .i64 (k:Int))).setCell ⟨fb,1,none⟩ (.int .i64 l)).setCell ⟨fb,2,none⟩ (.int .i64 c)).heap[fb]? =some (.cells #[.int .i64 (k:Int),.int .i64 l,.int .i64 c] 27 (0,0)) from by
       have hfb:=Hfb.out;obtain ⟨m1,m2⟩:=aGd f4 (.int .i64 (k:Int)) (.int .i64 l) (.int .i64 c);exact ⟨Hb4.out.trans (m1.below Hb4.out.size fun k hk=>by omega),m2⟩)
      clear hb4 f4 HDo Hdoc;obtain ⟨oao,oc,rfl⟩:=aCk Hro.out.row.row;go_wp2;refine bodyPost_ret (aH9 rfl rfl HE.out.2) rfl ?_;rw[HD.out];exact ⟨rfl,HE.out.1⟩
    |ok ns=>
     have Hul:=hid Tryz.underlying22;by_cases hml:m<n
     ·have hdI:docI rest=(m:Int):=by unfold docI;rw[if_pos (by omega),hme]
      rw[hdI]at Hi;have t0:decide ((m:Int)<0)=false:=dF (by omega);obtain ⟨m1,hm1⟩:∃m1,m1=if m<n then m+1 else n:=⟨_,rfl⟩
      have HM1:=hid (aYi hmle Hn2.out hm1);have Hm1n:=hid (a38 hm1);have Hm1d:=hid (show m1=if docN rest<n then docN rest+1 else n from by rw[<-hme];exact hm1);have Hk2:=hid (show k<=2000000 by have:=HNl.out;omega);have Hm1p:=hid (aYj hp hm1);clear H f4 hbw hbl hro hs hn hok hds hX hc hk hp hm0 hdI hmle hme hdx hml hm1
      go_wp2_with fail
      refine Hi.out.mono ?_;rintro r w2 ⟨rfl,h2⟩;have Hb2:=hid h2;have HDo:=hid (Hdoc.out w2 h2);clear h2 Hi
      go_wp2_with (with_reducible refine aC0 rfl _ _ 67 121 rfl Tryz.underlying67 ⟨i5,hi5⟩ ao n cap rfl .i64 m _ rfl rfl Hmc.out ?_)
      refine HDo.out.mono ?_;rintro r w4 ⟨⟨v,ms,rfl,hP,hnd⟩,hb4⟩;have hv:∃a c,v= .slice a ms.length c:=aCk hP.row;obtain ⟨va,vc,rfl⟩:=hv;have Hown:=hid (fun ob=>(Hro.out.later (Hb2.out.trans ((hb4.trans (((a7d _ _).alloc (a7c _) ob).mono hb4.size)).mono Hb2.out.size))).row.row);have Hend:=hid (fun ob v' w5 (a1:World.ownsRow w5 0 33 1 v' (k+1) (ds.flatMap DocV.cells++[.slice va ms.length vc])) (a2:(w4.alloc ob).grownBy w5 v2.ownBlock) (a3:∀g,v'.ownBlock=some g->v2.ownBlock=some g\/(w4.alloc ob).heap.size<=g)=>show RowO DocE w1 w5 33 1 v' (k+1) (ds++[⟨.slice va ms.length vc,ms⟩]) from by
       have hba:Below wr.heap.size wr (w4.alloc ob):=Hb2.out.trans ((hb4.trans (((a7d _ _).alloc (a7c _) ob).mono hb4.size)).mono Hb2.out.size);have hdp:DocP (w4.alloc ob) wr.heap.size ⟨.slice va ms.length vc,ms⟩:=DocE.mod (F:=fun _=>False) (x:=(⟨.slice va ms.length vc,ms⟩:DocV)) (DocE.down (x:=(⟨.slice va ms.length vc,ms⟩:DocV)) hP Hb2.out.size) (aC4 ((a7d _ _).alloc (a7c _) ob)) (fun _ _ q=>q)
       exact RowO.app (w1:=w4.alloc ob) (v':=v') (w2:=w5) (q:=k+1) (m:=(⟨.slice va ms.length vc,ms⟩:DocV)) Hro.out hba hdp a1 a2 a3)
      have Hnd:=hid hnd;clear hP hnd hb4 HDo Hdoc
      go_wp2_with (first|(with_reducible refine aHl rfl _ _ _ rfl .i64 .i64 (wrap64 ((m:Int)+1)) (n:Int) (m1:Int) rfl rfl HM1.out ?_)|(with_reducible refine aDt rfl _ _ 67 121 rfl Tryz.underlying67 i5 hi5 5 hz1 ao n cap rfl .i64 m1 rfl Hm1n.out ?_;intro ao2 hao2;have Hao2:=hid hao2;clear hao2)|(at_builtin;refine aEl 33 22 (.slice none 0 0) 1 24 Hul.out aLi rfl (by decide) (by decide) rfl (.tmp 35) (.tmp 37) rfl v2 k _ rfl (Hown.out _) _ _ [.slice va ms.length vc] rfl (aAc _) rfl rfl (fun u hu=>by rw[List.mem_singleton]at hu;rw[hu];rfl) Hk2.out (k+1) rfl ?_;intro ao4 c4 w5 own2 gr2 new2;have HE:=hid (Hend.out _ _ _ own2 gr2 new2);clear own2 gr2 new2))
      obtain ⟨hs,hn,hc,hk,hok,hds,hf2,hX⟩:=HS.out;exact ⟨⟨_,ao2,n-m1,cap-m1,k+1,rfl,rfl,hid (OfS.step (d:=⟨.slice va ms.length vc,ms⟩) hs hn hc hk hok hds hf2 hX (by rw[<-Hme.out];show _=Except.ok (nds ms);rw[Hnd.out];exact Hdx.out.symm) (by rw[<-Hme.out];exact Hm0.out) Hp.out Hm1d.out HE.out Hao2.out)⟩,by show n-m1<n;have:=Hp.out;have:=Hm1p.out;omega⟩
     ·have hdI:docI rest= -1:=by unfold docI;rw[if_neg (by omega)]
      rw[hdI]at Hi;obtain rfl:m=n:=by omega
      obtain ⟨m1,hm1⟩:∃m1,m1=if m<m then m+1 else m:=⟨_,rfl⟩
      have HM1:=hid (aYi hmle Hn2.out hm1);have Hm1n:=hid (a38 hm1);have Hm1d:=hid (show m1=if docN rest<m then docN rest+1 else m from by rw[<-hme];exact hm1);have Hk2:=hid (show k<=2000000 by have:=HNl.out;omega);have Hm1p:=hid (aYj hp hm1);clear H f4 hbw hbl hro hs hn hok hds hX hc hk hp hm0 hdI hmle hme hdx hml hm1
      go_wp2_with fail
      refine Hi.out.mono ?_;rintro r w2 ⟨rfl,h2⟩;have Hb2:=hid h2;have HDo:=hid (Hdoc.out w2 h2);clear h2 Hi
      go_wp2_with (with_reducible refine aC0 rfl _ _ 67 121 rfl Tryz.underlying67 ⟨i5,hi5⟩ ao m cap rfl .i64 m _ rfl rfl Hmc.out ?_)
      refine HDo.out.mono ?_;rintro r w4 ⟨⟨v,ms,rfl,hP,hnd⟩,hb4⟩;have hv:∃a c,v= .slice a ms.length c:=aCk hP.row;obtain ⟨va,vc,rfl⟩:=hv;have Hown:=hid (fun ob=>(Hro.out.later (Hb2.out.trans ((hb4.trans (((a7d _ _).alloc (a7c _) ob).mono hb4.size)).mono Hb2.out.size))).row.row);have Hend:=hid (fun ob v' w5 (a1:World.ownsRow w5 0 33 1 v' (k+1) (ds.flatMap DocV.cells++[.slice va ms.length vc])) (a2:(w4.alloc ob).grownBy w5 v2.ownBlock) (a3:∀g,v'.ownBlock=some g->v2.ownBlock=some g\/(w4.alloc ob).heap.size<=g)=>show RowO DocE w1 w5 33 1 v' (k+1) (ds++[⟨.slice va ms.length vc,ms⟩]) from by
       have hba:Below wr.heap.size wr (w4.alloc ob):=Hb2.out.trans ((hb4.trans (((a7d _ _).alloc (a7c _) ob).mono hb4.size)).mono Hb2.out.size);have hdp:DocP (w4.alloc ob) wr.heap.size ⟨.slice va ms.length vc,ms⟩:=DocE.mod (F:=fun _=>False) (x:=(⟨.slice va ms.length vc,ms⟩:DocV)) (DocE.down (x:=(⟨.slice va ms.length vc,ms⟩:DocV)) hP Hb2.out.size) (aC4 ((a7d _ _).alloc (a7c _) ob)) (fun _ _ q=>q)
       exact RowO.app (w1:=w4.alloc ob) (v':=v') (w2:=w5) (q:=k+1) (m:=(⟨.slice va ms.length vc,ms⟩:DocV)) Hro.out hba hdp a1 a2 a3)
      have Hnd:=hid hnd;clear hP hnd hb4 HDo Hdoc
      go_wp2_with (first|(with_reducible refine aHl rfl _ _ _ rfl .i64 .i64 (wrap64 ((m:Int)+1)) (m:Int) (m1:Int) rfl rfl HM1.out ?_)|(with_reducible refine aDt rfl _ _ 67 121 rfl Tryz.underlying67 i5 hi5 5 hz1 ao m cap rfl .i64 m1 rfl Hm1n.out ?_;intro ao2 hao2;have Hao2:=hid hao2;clear hao2)|(at_builtin;refine aEl 33 22 (.slice none 0 0) 1 24 Hul.out aLi rfl (by decide) (by decide) rfl (.tmp 35) (.tmp 37) rfl v2 k _ rfl (Hown.out _) _ _ [.slice va ms.length vc] rfl (aAc _) rfl rfl (fun u hu=>by rw[List.mem_singleton]at hu;rw[hu];rfl) Hk2.out (k+1) rfl ?_;intro ao4 c4 w5 own2 gr2 new2;have HE:=hid (Hend.out _ _ _ own2 gr2 new2);clear own2 gr2 new2))
      obtain ⟨hs,hn,hc,hk,hok,hds,hf2,hX⟩:=HS.out;exact ⟨⟨_,ao2,m-m1,cap-m1,k+1,rfl,rfl,hid (OfS.step (d:=⟨.slice va ms.length vc,ms⟩) hs hn hc hk hok hds hf2 hX (by rw[<-Hme.out];show _=Except.ok (nds ms);rw[Hnd.out];exact Hdx.out.symm) (by rw[<-Hme.out];exact Hm0.out) Hp.out Hm1d.out HE.out Hao2.out)⟩,by show m-m1<m;have:=Hp.out;have:=Hm1p.out;omega⟩
  ·have tp:decide (0<n)=false:=dF hp;have bp:¬(0:Int)<(n:Int):=by omega
   obtain rfl:n=0:=by omega
   have hDD:X= .ok (docsN ds):=by
    have:rest=[]:=List.length_eq_zero_iff.1 hn.symm;rw[hX,this,a6s];simp[preO]
   have HD:=hid hDD;obtain ⟨y0,y1,y2⟩:=cB3 f4;have yf:=fun j=>aAd f4 j;simp at y0 y1 y2;have HE:=hid (show Below w.heap.size w (((wr.setCell ⟨fb,0,none⟩ (.int .i64 0)).setCell ⟨fb,1,none⟩ (.int .i64 0)).setCell ⟨fb,2,none⟩ (.int .i64 0))/\(((wr.setCell ⟨fb,0,none⟩ (.int .i64 0)).setCell ⟨fb,1,none⟩ (.int .i64 0)).setCell ⟨fb,2,none⟩ (.int .i64 0)).heap[fb]? =some (.cells #[.int .i64 0,.int .i64 0,.int .i64 0] 27 (0,0))/\RowO DocE w (((wr.setCell ⟨fb,0,none⟩ (.int .i64 0)).setCell ⟨fb,1,none⟩ (.int .i64 0)).setCell ⟨fb,2,none⟩ (.int .i64 0)) 33 1 v2 k ds from by
    have hfb:=Hfb.out;obtain ⟨hm,hm2⟩:=aGd f4 (.int .i64 0) (.int .i64 0) (.int .i64 0);have h1:w1.heap.size=w.heap.size+1:=by rw[Hw1.out];simp
    have hbb:Below w.heap.size w (((wr.setCell ⟨fb,0,none⟩ (.int .i64 0)).setCell ⟨fb,1,none⟩ (.int .i64 0)).setCell ⟨fb,2,none⟩ (.int .i64 0)):=hbw.trans (hm.below hbw.size fun k hk=>by omega);refine ⟨hbb,hm2,⟨⟨hbb,aBt hro.row.row hm (fun g hg e=>by have:=hro.row.new g hg;omega),fun g hg=>by have:=hro.row.new g hg;omega⟩,fun m hm'=> ?_,hro.apart⟩⟩;exact DocE.down (DocE.mod (hro.each m hm') hm (fun g hg e=>by have:=(DocE.lt (hro.each m hm') g hg).1;omega)) (by omega))
   have Hml:=hid (And.intro hds (show k<=1048576 by have:=HNl.out;omega));clear H f4 hbw hbl hro hs hn hok hds hX hc hk hp hDD;go_wp2;refine bodyPost_ret (aH9 rfl rfl HE.out.2.1) rfl ?_;rw[HD.out];exact ⟨⟨_,_,ds,rfl,HE.out.2.2,Hml.out.1,Hml.out.2,rfl⟩,HE.out.1⟩
def a4a (x:Except (Nat×Flt) (List (List Nd))):Except (Int×Int×Int) (List (List Nd)):=
 match x with
 | .error e=> .error ((e.1:Int),e.2.1,e.2.2)
 | .ok L=> .ok L
def aSu (x:Except (Nat×Nat×Int) (List Tok)):Except (Int×Int×Int) (List (List Nd)):=
 match x with
 | .error e=> .error ((e.1:Int),(e.2.1:Int),e.2.2)
 | .ok ts=>a4a (ofL ts.length ts 0)
def aSv (bs:List UInt8):Except (Int×Int×Int) (List (List Nd)):=aSu (scanL bs)
def SPar (w0:World) (x:Except (Int×Int×Int) (List (List Nd))) (r:Ending) (w':World):Prop:=
 (match x with
  | .ok L=>∃V n ds,r= .returned (.tuple #[V,.agg #[.int .i64 0,.int .i64 0,.int .i64 0]])/\RowO DocE w0 w' 33 1 V n ds/\n=ds.length/\n<=1048576/\docsN ds=L
  | .error e=>r= .returned (.tuple #[.slice none 0 0,.agg #[.int .i64 e.1,.int .i64 e.2.1,.int .i64 e.2.2]]))/\Below w0.heap.size w0 w'
theorem aSw (hq:∀t y m,quotL t=some (y,m)->y.length<=t.length):∀(f:Nat) (l:List UInt8) (k n:Nat),n+l.length<=70000->∀t∈(scanE f l k n).1,TokOk t
 |0,_,_,_,_,t,h=>by cases h
 |f+1,l,k,n,hb,t,h=>by
  unfold scanE at h
  split at h
  ·cases h
  ·rename_i hl
   have hl1:=List.length_pos_iff.2 hl;have h2:=aIr l;cases hx:lineL (cutB l).1 ((n+1:Nat):Int) with
   |error c=>rw[hx]at h;cases h
   |ok ts=>
    rw[hx]at h;simp only at h;rcases List.mem_append.1 h with h|h
    ·obtain ⟨h3,-⟩:=aHe hq hx;rcases h3 with rfl|h3
     ·obtain rfl:=List.mem_singleton.1 h;exact ⟨by show I64 1;decide,by show I64 ((n+1:Nat):Int);exact ⟨by omega,by omega⟩,⟨by show (0:Int)<=0;decide,by show (0:Int)<=1048576;decide⟩,Nat.zero_le _⟩
     ·have h4:=h3 t h;have:=h4.kind;have:=h4.col;have:=h4.text;exact ⟨⟨by omega,by omega⟩,by rw[h4.line];exact ⟨by omega,by omega⟩,⟨by omega,by omega⟩,by omega⟩
    ·refine aSw hq f _ _ _ ?_ t h;have:=aF1 l hl;omega
theorem aYo {bs:List UInt8} {ts:List Tok} (h:scanL bs= .ok ts):(∀t∈ts,TokOk t)/\ts.length<=200000:=by
 have hq:∀t y m,quotL t=some (y,m)->y.length<=t.length:=fun t y m h=>by have:=aGr h;omega
 by_cases hl:65536<bs.length
 ·unfold scanL at h;rw[if_pos hl]at h;cases h
 ·obtain ⟨h1,h2⟩:=aM2 hl;rw[h2]at h;unfold outE at h;cases he:(scanE bs.length bs 0 0).2 with
  |some e=>rw[he]at h;cases h
  |none=>
   rw[he]at h;injection h with h
   rw[<-h,List.nil_append];have:=aKc hq bs.length bs 0 0;exact ⟨fun t ht=>aSw hq _ _ _ _ (by omega) t ht,by omega⟩
theorem a6x {bs:List UInt8} {e:Nat×Nat×Int} (h:scanL bs= .error e):e.2.2≠0:=by
 by_cases hl:65536<bs.length
 ·unfold scanL at h;rw[if_pos hl]at h;injection h with h
  rw[<-h];exact (show (3:Int)≠0 by decide)
 ·obtain ⟨h1,h2⟩:=aM2 hl;rw[h2]at h;unfold outE at h;cases he:(scanE bs.length bs 0 0).2 with
  |none=>rw[he]at h;cases h
  |some e2=>
   rw[he]at h;injection h with h
   subst h;exact aM1 _ _ _ _ _ he
theorem RowO.base {α:Type} {E:Elt α} {w w1 wr:World} {e:TypeId} {sz:Nat} {v:Value} {n:Nat} {xs:List α} (hb:Below w.heap.size w w1) (h:RowO E w1 wr e sz v n xs):RowO E w wr e sz v n xs:=
 ⟨⟨hb.trans (h.row.below.mono hb.size),h.row.row,fun g hg=>a7g hb.size (h.row.new g hg)⟩,fun x hx=>E.down (h.each x hx) hb.size,h.apart⟩
theorem RowO.mod {α:Type} {E:Elt α} {w w1 wr w2:World} {e:TypeId} {sz:Nat} {v:Value} {n:Nat} {xs:List α} {F:Nat->Prop} (hb:Below w.heap.size w w1) (h:RowO E w1 wr e sz v n xs) (hm:Mod F wr w2) (h1:∀k,F k->k<w1.heap.size) (h0:∀k,F k->w.heap.size<=k):RowO E w w2 e sz v n xs:=by
 have hl:∀x∈xs,∀g,E.own x g->¬F g:=fun x hx g hg q=>by
  have:=(E.lt (h.each x hx) g hg).1;have:=h1 g q;omega
 have hs:=(RowO.base hb h).row.below;exact ⟨⟨hs.trans (hm.below hs.size h0),aBt h.row.row hm (fun g hg q=>by have:=h.row.new g hg;have:=h1 g q;omega),fun g hg=>a7g hb.size (h.row.new g hg)⟩,
  fun x hx=>E.down (E.mod (h.each x hx) hm (hl x hx)) hb.size,h.apart⟩
theorem aGo {w:World} {b:Nat} {V v0 v1 v2:Value} {tmps:Array Value} (h2:tmps[2]? =some V) (h3:tmps[3]? =some (.pointer (some ⟨b,0,none⟩))) (hb:w.heap[b]? =some (.cells #[v0,v1,v2] 27 (0,0))):
 (results Tryz.f16 tmps).run Tryz.prog w= .ok (.tuple #[V,.agg #[v0,v1,v2]]) w:=by
 have h1:=run_loadVar_mid (P:= Tryz.prog) w b 0 27 [v0,v1,v2] _ (aEh (l:=[v0,v1,v2]) hb) Tryz.underlying27 rfl (by kernel_rfl);rw[Array.getElem?_eq_some_iff]at h2 h3;obtain ⟨l2,e2⟩:=h2;obtain ⟨l3,e3⟩:=h3;simp[results,Tryz.results16,asAddr,Array.getD,l2,e2,l3,e3,h1]
theorem a6y {w:World} {B e sz n:Nat} {a:Option Addr} {k c:Nat} {xs:List Value} (h:w.ownsRow B e sz (.slice a k c) n xs):n<=c/\k=n:=by
 rcases h.2 with ⟨hv,hn⟩|⟨g,cap,cur,hv,-,-,hc,-⟩
 ·cases hv;exact ⟨by omega,by omega⟩
 ·cases hv;exact ⟨hc,rfl⟩
theorem aYp (w:World) (bs:List UInt8) (ao:Option Addr) (cap:Nat) (hT:SlR w (.slice ao bs.length cap) 1 bs byteC) (hcap:bs.length<=cap) (hg:Glob w):
 Calls Tryz.prog 16 #[.slice ao bs.length cap] w (SPar w (aSv bs)):=by
 obtain ⟨w1,hw1⟩:∃w1,w1=w.alloc (.cells #[.int .i64 0,.int .i64 0,.int .i64 0] 27):=⟨_,rfl⟩;have hb1:Below w.heap.size w w1:=by rw[hw1];exact (a7d _ _).alloc (a7c _) _
 have hf1:w1.heap[w.heap.size]? =some (.cells #[.int .i64 0,.int .i64 0,.int .i64 0] 27 (0,0)):=by rw[hw1];exact aAc _
 have HS:=hid (scan_c w1 bs ao cap (hT.later hb1) hcap (hg.later hb1));have Hb1:=hid hb1;have Hf1:=hid hf1;obtain ⟨X,hX⟩:∃X,X=scanL bs:=⟨_,rfl⟩;have HX:=hid hX;rw[<-hX]at HS;have Hw1:=hid hw1;obtain ⟨N,hN⟩:∃N,N=bs.length:=⟨_,rfl⟩;rw[<-hN]at HS |-
 show Calls Tryz.prog 16 _ w (SPar w (aSu (scanL bs)))
 rw[<-hX];clear hT hcap hg hb1 hf1 hX hN;obtain ⟨fb,hfb⟩:∃fb,fb=w.heap.size:=⟨_,rfl⟩;have Hfb:=hid hfb;go_enter Tryz.func16,Tryz.ntmps16
 go_wp2_with fail
 rw[<-hw1,<-hfb];clear hw1 hfb;refine HS.out.mono ?_;intro r w2 hr;clear HS;cases X with
 |error e=>
  obtain ⟨rfl,hb2⟩:=hr;have tc:(e.2.2 != 0)=true:=by rw[bne_iff_ne];exact a6x HX.out.symm
  have hb12:=Hb1.out.trans (hb2.mono Hb1.out.size);have f2:=(hb2.block _ (aAb Hf1.out)).trans Hf1.out;rw[<-Hfb.out]at f2;have lf:=aAb f2;obtain ⟨w3,hw3⟩:∃w3,w3=w2.alloc (.cells #[.int .i64 (e.1:Int),.int .i64 (e.2.1:Int),.int .i64 e.2.2] 27):=⟨_,rfl⟩;have h3:w3.heap[w2.heap.size]? =some (.cells #[.int .i64 (e.1:Int),.int .i64 (e.2.1:Int),.int .i64 e.2.2] 27 (0,0)):=by rw[hw3];exact aAc _
  have f3:w3.heap[fb]? =some (.cells #[.int .i64 0,.int .i64 0,.int .i64 0] 27 (0,0)):=by rw[hw3,aAe _ lf];exact f2
  have hb13:Below w.heap.size w w3:=by rw[hw3];exact hb12.alloc hb12.size _
  have HE:=hid (aGd (w4:=w3) f3 (.int .i64 (e.1:Int)) (.int .i64 (e.2.1:Int)) (.int .i64 e.2.2));obtain ⟨y0,y1,y2⟩:=cB3 f3;have yf:=fun j=>aAd f3 j;obtain ⟨d0,d1,d2⟩:=cB3 h3;simp at y0 y1 y2 d0 d1 d2;have Hb13:=hid hb13;clear hb2 hb12 f2 h3 f3 hb13;go_upto_region 2 with (fail)
  rw[<-hw3];clear hw3;go_wp2
  go_region
  all_goals go_wp2
  refine bodyPost_ret (aGo rfl rfl HE.out.2) rfl ⟨rfl,?_⟩;exact (Hb13.out.trans (HE.out.1.below Hb13.out.size (fun k hk=>by have:=Hfb.out;omega))).drew
 |ok ts=>
  obtain ⟨⟨v,rfl,hR⟩,hb2⟩:=hr;obtain ⟨hok,hlen⟩:=aYo HX.out.symm;obtain ⟨ta,tn,tc,rfl⟩:∃a n c,v= .slice a n c:=by obtain ⟨a,c,h⟩:=(aCk hR.row:∃a c,v= .slice a ts.length c);exact ⟨a,_,c,h⟩
  obtain ⟨q1,rfl⟩:=a6y hR.row;have hb12:=Hb1.out.trans (hb2.mono Hb1.out.size);have f2:=(hb2.block _ (aAb Hf1.out)).trans Hf1.out;rw[<-Hfb.out]at f2;have lf:=aAb f2;obtain ⟨w3,hw3⟩:∃w3,w3=w2.alloc (.cells #[.int .i64 0,.int .i64 0,.int .i64 0] 27):=⟨_,rfl⟩;have h3:w3.heap[w2.heap.size]? =some (.cells #[.int .i64 0,.int .i64 0,.int .i64 0] 27 (0,0)):=by rw[hw3];exact aAc _
  have f3:w3.heap[fb]? =some (.cells #[.int .i64 0,.int .i64 0,.int .i64 0] 27 (0,0)):=by rw[hw3,aAe _ lf];exact f2
  have hb23:Below w2.heap.size w2 w3:=by rw[hw3];exact (a7d _ _).alloc (a7c _) _
  have hb13:Below w.heap.size w w3:=hb12.trans (hb23.mono hb12.size);have HOf:=hid (of_c w3 ta tc ts ts.length ((SlR.ofRow hR.row rfl (fun _=>rfl) (by omega) (by decide)).later hb23) q1 hok (a7c _));have d2:=aAa h3 2;simp at d2;have Hb13:=hid hb13;have F3:=hid f3;have Lf:=hid (aAb f3);obtain ⟨Z,hZ⟩:∃Z,Z=ofL ts.length ts 0:=⟨_,rfl⟩;have HZ:=hid (show aSu (.ok ts)=a4a Z by rw[hZ];rfl)
  rw[<-hZ]at HOf;obtain ⟨n,hn⟩:∃n,n=ts.length:=⟨_,rfl⟩;rw[<-hn]at HOf |-;clear hb2 hb12 f2 h3 f3 hb23 hb13 hR hok hlen q1 hZ lf hn;go_upto_region 2 with (fail)
  rw[<-hw3];clear hw3
  go_wp2_with fail
  refine HOf.out.mono ?_;intro r w4 hr;clear HOf d2;cases Z with
  |error e=>
   obtain ⟨rfl,hb4⟩:=hr;have f4:=(hb4.block _ Lf.out).trans F3.out;have HE:=hid (aGd (w4:=w4) f4 (.int .i64 (e.1:Int)) (.int .i64 e.2.1) (.int .i64 e.2.2));have Hb4:=hid (Hb13.out.trans (hb4.mono Hb13.out.size));obtain ⟨y0,y1,y2⟩:=cB3 f4;have yf:=fun j=>aAd f4 j;simp at y0 y1 y2;clear hb4 f4;go_wp2;refine bodyPost_ret (aGo rfl rfl HE.out.2) rfl ?_;rw[HZ.out];exact ⟨rfl,Hb4.out.trans (HE.out.1.below Hb4.out.size (fun k hk=>by have:=Hfb.out;omega))⟩
  |ok L=>
   obtain ⟨⟨V,m,ds,rfl,hro,hm,hm2,hL⟩,hb4⟩:=hr;have f4:=(hb4.block _ Lf.out).trans F3.out;have HE:=hid (aGd (w4:=w4) f4 (.int .i64 0) (.int .i64 0) (.int .i64 0));have Hb4:=hid (Hb13.out.trans (hb4.mono Hb13.out.size));have Hro:=hid hro;have Hm:=hid (And.intro hm (And.intro hm2 hL));obtain ⟨y0,y1,y2⟩:=cB3 f4;have yf:=fun j=>aAd f4 j;simp at y0 y1 y2;obtain ⟨va,vn,vc,rfl⟩:∃a n c,V= .slice a n c:=by obtain ⟨a,c,h⟩:=aCk hro.row.row;exact ⟨a,_,c,h⟩
   clear hb4 f4 hro hm hm2 hL;go_wp2;refine bodyPost_ret (aGo rfl rfl HE.out.2) rfl ?_;rw[HZ.out];have hE:=RowO.mod Hb13.out Hro.out HE.out.1 (fun k hk=>by have:=Lf.out;omega) (fun k hk=>by have:=Hfb.out;omega);exact ⟨⟨_,_,ds,rfl,hE,Hm.out.1,Hm.out.2.1,Hm.out.2.2⟩,hE.row.below⟩
def aDoc:List UInt8:=[107,105,110,100,58,32,83,101,114,118,105,99,101,10,110,97,109,101,58,32,119,101,98,10,101,110,100,112,111,105,110,116,115,58,10,32,32,45,32,101,49,10]
def nE1:ByteArray:=⟨#[101,49]⟩
def nWeb:ByteArray:=⟨#[119,101,98]⟩
def aNs:List Nd:=[⟨2,⟨#[]⟩,⟨#[]⟩,false,1,[1,2,3]⟩,⟨1,kKind,aD1,false,1,[]⟩,⟨1,kName,nWeb,false,2,[]⟩,⟨3,aAt,⟨#[]⟩,false,4,[4]⟩,⟨1,⟨#[]⟩,nE1,false,4,[]⟩]
def aRes:Res:=⟨1,nWeb,[nE1],[],⟨#[]⟩,[],⟨#[]⟩,false⟩
def aTree:List Nd:=[⟨2,⟨#[]⟩,⟨#[]⟩,false,0,[1,2,3]⟩,⟨1,kKind,aD1,false,0,[]⟩,⟨1,kName,nWeb,false,0,[]⟩,⟨3,aAt,⟨#[]⟩,false,0,[4]⟩,⟨1,⟨#[]⟩,nE1,false,0,[]⟩]
theorem a6z:aSv aDoc= .ok [aNs]:=by with_unfolding_all rfl
theorem a_docs:docsP [aNs] 0= .ok [aRes]:=by with_unfolding_all rfl
theorem a_tree:treeW wtF aRes=aTree:=by with_unfolding_all rfl
theorem a_doc:docP aTree= .ok aRes:=by with_unfolding_all rfl
theorem a_same:sameV aRes aRes=true:=by with_unfolding_all rfl
theorem a_emit:emitV aTree=(⟨aDoc.toArray⟩,0):=by with_unfolding_all rfl
theorem a60:treeV aRes=aTree:=by
 unfold treeV;rw[a_tree,a_doc];simp only;rw[a_same,if_pos rfl]
theorem a_join:joinV [⟨aDoc.toArray⟩]=⟨aDoc.toArray⟩:=by with_unfolding_all rfl
theorem a_text:textV [aRes]=(⟨aDoc.toArray⟩,0):=by
 unfold textV aDi;rw[a60,a_emit,if_neg (by unfold aTree;simp),if_neg (by simp)];unfold aDi;rw[List.nil_append,a_join,if_neg (by decide)]
theorem a2s {w:World} {b:Nat} {c:Array Value} {T:TypeId} {f:Nat×Nat} (h:w.heap[b]? =some (.cells c T f)) (i:Nat):w.cell? ⟨b,i,none⟩=c[i]? :=by
 simp[World.cell?,h]
theorem aYq (w:World) (bs:List UInt8) (arr:Array Value) (T:TypeId) (f:Nat×Nat) (h:arr.toList=bs.map (fun c=>Value.int .u8 (c.toNat:Int))) (hl:bs.length<=1048576):SlR (w.alloc (.cells arr T f)) (.slice (some ⟨w.heap.size,0,none⟩) bs.length bs.length) 1 bs byteC:=by
 refine ⟨_,_,rfl,hl,fun _=>⟨w.heap.size,0,rfl,by simp,fun i x hx j u hu=> ?_⟩⟩;have hb:(w.alloc (.cells arr T f)).heap[w.heap.size]? =some (.cells arr T f):=by
  show (w.heap.push (.cells arr T f))[w.heap.size]? =_
  simp
 have hj:j=0:=by
  have:=(a7j hu).1;unfold byteC at this
  simpa using this
 subst hj;have hu2:Value.int .u8 (x.toNat:Int)=u:=by unfold byteC at hu;simpa using hu
 rw[Nat.mul_one,Nat.zero_add,Nat.add_zero,a2s hb i,<-Array.getElem?_toList,h,List.getElem?_map,hx,<-hu2];rfl
theorem a_ok:ResZ aRes:=by
 refine ⟨by decide,by decide,by decide,by decide,?_,nofun,nofun,by decide⟩;intro x hx;rw[List.mem_singleton.1 hx]
 decide
theorem a61 (w:World) (hg:GlobT w):Calls Tryz.prog 14 #[] w fun x w'=>x= .returned (.bool true)/\Below w.heap.size w w':=by
 have kc:=fun (w:World) (C:Array Value) (n c:Nat)=>Lib.run_convert_bytes_const (P:= Tryz.prog) w 42 5 C n c Tryz.underlying42 Tryz.underlying5;obtain ⟨arr,harr⟩:∃arr:Array Value,arr=#[.int .u8 107,.int .u8 105,.int .u8 110,.int .u8 100,.int .u8 58,.int .u8 32,.int .u8 83,.int .u8 101,.int .u8 114,.int .u8 118,.int .u8 105,.int .u8 99,.int .u8 101,.int .u8 10,.int .u8 110,.int .u8 97,.int .u8 109,.int .u8 101,.int .u8 58,.int .u8 32,.int .u8 119,.int .u8 101,.int .u8 98,.int .u8 10,.int .u8 101,.int .u8 110,.int .u8 100,.int .u8 112,.int .u8 111,.int .u8 105,.int .u8 110,.int .u8 116,.int .u8 115,.int .u8 58,.int .u8 10,.int .u8 32,.int .u8 32,.int .u8 45,.int .u8 32,.int .u8 101,.int .u8 49,.int .u8 10]:=⟨_,rfl⟩
 obtain ⟨wa,hwa⟩:∃wa,wa=w.alloc (.cells arr 5 (42,43)):=⟨_,rfl⟩;have hba:Below w.heap.size w wa:=by rw[hwa];exact (a7d _ _).alloc (a7c _) _
 have hrow:=aYq w aDoc arr 5 (42,43) (by rw[harr];rfl) (by decide);rw[<-hwa]at hrow;have HP:=hid (aYp wa aDoc (some ⟨w.heap.size,0,none⟩) 42 hrow (by decide) (hg.later hba).gl);rw[a6z,show aDoc.length=42 from rfl]at HP;have Hg:=hid (fun w2 (hb:Below w.heap.size w w2)=>hg.later hb);have HB:=hid hba;rw[harr]at hwa;clear hg hrow harr hba;go_enter Tryz.func14,Tryz.ntmps14
 go_wp2_with fail
 change Calls _ _ _ (w.alloc (.cells _ _ (42,43))) _;rw[<-hwa];refine HP.out.mono ?_;unfold SPar;rintro x w2 ⟨⟨V,n,ds,rfl,hro,hn,hn2,hds⟩,hb⟩;clear hwa HP;have hbw:Below w.heap.size w w2:=HB.out.trans (hb.mono HB.out.size);have HD:=hid (fun w3 (hb3:Below w2.heap.size w2 w3)=>aRy w3 V ds ((hro.later hb3).docs hn hn2) (Hg.out w3 (hbw.trans (hb3.mono hbw.size))).gl);rw[hds,a_docs]at HD;obtain ⟨va,vn,vc,hV⟩:∃a n c,V= .slice a n c:=by
  rcases hro.row.row.2 with ⟨hv,_⟩|⟨g,cap,cur,hv,_⟩
  ·exact ⟨_,_,_,hv⟩
  ·exact ⟨_,_,_,hv⟩
 subst hV;have Hbw:=hid hbw;clear hro hn hn2 hds hb hbw;obtain ⟨w3,hw3⟩:∃w3,w3=w2.alloc (.cells #[.int .i64 0,.int .i64 0,.int .i64 0] 27):=⟨_,rfl⟩;have hb3:Below w2.heap.size w2 w3:=by rw[hw3];exact (a7d _ _).alloc (a7c _) _
 have hf3:w3.heap[w2.heap.size]? =some (.cells #[.int .i64 0,.int .i64 0,.int .i64 0] 27 (0,0)):=by rw[hw3];exact aAc _
 have HD3:=hid (HD.out w3 hb3);have z2:=aAa hf3 2;simp at z2;have Hb3:=hid (Hbw.out.trans (hb3.mono Hbw.out.size));clear HD hb3 hf3;subst hw3
 go_wp2_with fail
 refine HD3.out.mono ?_;unfold SDec;rintro x w4 ⟨⟨V2,n2,ms,rfl,hro,hn,hn2,hms⟩,hb4⟩;obtain ⟨m,hm,hmr⟩:∃m,ms=[m]/\m.r=aRes:=by
  cases ms with
  |nil=>cases hms
  |cons m l=>
   rw[List.map_cons]at hms;injection hms with h1 h2
   cases l with
   |nil=>exact ⟨m,rfl,h1⟩
   |cons y l=>cases h2
 subst hm;have hL0:=hro.toL hn hn2;obtain ⟨w5,hw5⟩:∃w5,w5=w4.alloc (.cells #[.int .i64 0,.int .i64 0,.int .i64 0] 27):=⟨_,rfl⟩;have hb5:Below w4.heap.size w4 w5:=by rw[hw5];exact (a7d _ _).alloc (a7c _) _
 have hf5:w5.heap[w4.heap.size]? =some (.cells #[.int .i64 0,.int .i64 0,.int .i64 0] 27 (0,0)):=by rw[hw5];exact aAc _
 have hbw5:Below w.heap.size w w5:=(Hb3.out.trans (hb4.mono Hb3.out.size)).trans (hb5.mono (a7g Hb3.out.size hb4.size));have HT:=hid (a35 w5 V2 [m] (hL0.later hb5) (fun y hy=>by rw[List.mem_singleton.1 hy,hmr];exact a_ok) (Hg.out w5 hbw5));rw[show [m].map (·.r)=[aRes] by rw[List.map_cons,hmr];rfl,a_text]at HT;obtain ⟨va2,vc2,hV2⟩:∃a c,V2= .slice a 1 c:=by
  obtain ⟨a,c,e,_⟩:=hL0.sl;exact ⟨a,c,e⟩
 obtain ⟨av,cv,hv,hl,hat⟩:=aO5 hL0;obtain ⟨b,o,hav,hbb,hc,hr⟩:=hat 0 m rfl;have hcell:=fun (w6:World) (hb6:Below w5.heap.size w5 w6) i u (hu:m.cells[i]? =some u)=>((hb5.trans (hb6.mono hb5.size)).cell (p:=⟨b,o+0*8+i,none⟩) hbb).trans (hc i u hu);have Hcell:=hid hcell;obtain ⟨r,ev,tv,rv⟩:=m;simp only at hmr;subst hmr;obtain ⟨ea,ec,hev,hel⟩:=hr.e;obtain ⟨hel,_⟩:=hel;rw[show (aRes.endps).length=1 from rfl]at hev
 subst hev;rw[hV2]at hv;obtain rfl:va2=av:=by injection hv
 subst hav;subst hV2;have Hf:=hid (fun (w6:World) (hb6:Below w5.heap.size w5 w6)=>show w6.cell? ⟨w4.heap.size,2,none⟩=some (.int .i64 0) from by
  have h1:=aAa hf5 2;have hlt:=aAb hf5;exact (hb6.cell (p:=⟨w4.heap.size,2,none⟩) hlt).trans h1)
 have Hbw5:=hid hbw5;clear hro hn hn2 hms hb4 hL0 hb5 hf5 hbw5 hat hl hc hr hel hcell HD3 z2 hbb hv Hbw Hb3 Hg HB;subst hw5
 go_wp2_with fail
 refine HT.out.mono ?_;unfold SText;rintro x w6 ⟨rfl,hb6⟩;have f2:=Hf.out w6 hb6;have e1:=Hcell.out w6 hb6 1 _ rfl;have e2:=Hcell.out w6 hb6 2 _ rfl;simp only[Nat.zero_mul,Nat.add_zero,Nat.zero_add]at e1 e2;have Hb6:=hid (Hbw5.out.trans (hb6.mono Hbw5.out.size));rw[show aRes.name=⟨#[119,101,98]⟩ from rfl]at e1;unfold aDoc;clear hb6 Hcell Hf HT Hbw5;go_wp2;refine bodyPost_ret (results_tmp (t:=0) rfl _ _ _) rfl ⟨rfl,Hb6.out⟩
theorem aO8:∀(N:List (List Nd)) (s:Nat),(∀(k:Nat) (d:List Nd),N[k]? =some d->∃x,docP d= .ok x)->∃L,docsP N s= .ok L
 |[],s,_=>⟨[],rfl⟩
 |y::r,s,h=>by
  obtain ⟨x,hx⟩:=h 0 y rfl;obtain ⟨L,hL⟩:=aO8 r (s+1) (fun k d hk=>h (k+1) d (by simpa using hk));exact ⟨x::L,by rw[aMn hx,hL];rfl⟩
theorem aYr:∀(N:List (List Nd)) (s:Nat) (L:List Res),docsP N s= .ok L->L.length=N.length/\∀(i:Nat) (d:List Nd) (x:Res),N[i]? =some d->docP d= .ok x->L[i]? =some x
 |[],s,L,h=>by
  unfold docsP at h;injection h with h
  subst h;exact ⟨rfl,fun i d x hd=>by simp at hd⟩
 |y::r,s,L,h=>by
  cases hy:docP y with
  |error e=>rw[aOg hy]at h;cases h
  |ok x=>
   rw[aMn hy]at h;cases hr:docsP r (s+1) with
   |error e=>rw[hr]at h;cases h
   |ok l=>
    rw[hr]at h;unfold preP at h;injection h with h
    obtain ⟨h1,h2⟩:=aYr r (s+1) l hr;subst h;refine ⟨by simp[h1],fun i d z hd hz=> ?_⟩;cases i with
    |zero=>
     simp at hd;subst hd;rw[hy]at hz;injection hz with hz
     subst hz;rfl
    |succ i=>exact h2 i d z (by simpa using hd) hz
