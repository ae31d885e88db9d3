/-
Parts of a proof.
-/
import Derived.Lib.AppendStr
import Derived.Test.YtfenoaeoedobmaaGreatDoorOn18
set_option linter.unusedVariables false
set_option linter.unusedSimpArgs false
set_option maxHeartbeats 4000000
set_option maxRecDepth 20000
namespace Go.Proofs.YtfenoaeoedobmaaGreatDoor
open Go Go.RowKit
theorem vT (w:World) (ty:TypeId) (v:Value) (l:List UInt8) (dh:w.ownsRow 0 5 1 v l.length (Lib.byteCells l)) (s:ByteArray) (hlen:l.length+s.size<=1000000000):
 ∃v' w',(Builtin.append_ #[42,9] ty #[v,.string s]).run Tryz.prog w= .ok v' w'/\w'.ownsRow 0 5 1 v' (l++s.data.toList).length (Lib.byteCells (l++s.data.toList))/\w.grownBy w' v.ownBlock/\
  (∀g,v'.ownBlock=some g->v.ownBlock=some g\/w.heap.size<=g):=by
 obtain ⟨i0,ug,qL,uD,uC⟩:=info_parts zI;have e:Lib.byteCells (l++s.data.toList)=Lib.byteCells l++Lib.strCells s:=by simp[Lib.byteCells,Lib.strCells]
 have e2:(l++s.data.toList).length=l.length+s.size:=by rw[aBj,aq]
 have KU:l.length+s.size<=maxLen:=by unfold maxLen;omega
 rw[e,e2];rcases dh.2 with ⟨hv,j8⟩|⟨g,cap,cur,hv,hbg,hg,hnc,hcm,Ub,Zp⟩
 ·obtain ⟨v',w',hr,ho,xU,_⟩:=Lib.run_append_own_string (P:= Tryz.prog) w w.heap.size 42 9 ty 5 i0 Tryz.underlying42 Tryz.underlying9 ug qL uD uC v l.length (Lib.byteCells l) ⟨dh.1,.inl ⟨hv,j8⟩⟩ s KU (by omega) (aBh _);exact ⟨v',w',hr,jv ho 0 (Nat.zero_le _),xU,fun g hg=> .inr (ho.lt g hg).1⟩
 ·obtain ⟨v',w',hr,ho,xU,_⟩:=Lib.run_append_own_string (P:= Tryz.prog) w 0 42 9 ty 5 i0 Tryz.underlying42 Tryz.underlying9 ug qL uD uC v l.length (Lib.byteCells l) dh s KU (by omega) (Nat.zero_le _);refine ⟨v',w',hr,ho,xU,fun g' LD=> ?_⟩;subst hv;by_cases CR:l.length+s.size<=cap
  ·have xT:=Lib.run_append_room_string (P:= Tryz.prog) w 42 9 ty 5 i0 Tryz.underlying42 Tryz.underlying9 ug uD g l.length cap cur hg s CR (by omega);rw[hr]at xT;simp only[Result.ok.injEq]at xT;rw[xT.1]at LD;exact .inl LD
  ·have xT:=Lib.run_append_grow_string (P:= Tryz.prog) w 42 9 ty 5 i0 (.int .u8 0) Tryz.underlying42 Tryz.underlying9 ug qL ⟨g,0,none⟩ l.length cap (Lib.byteCells l) (by rw[uD];simp[Lib.byteCells]) (dh.cells (g:=g) rfl) s (by omega) (by omega) (by rw[uC];exact growslice_fits (by omega) (by omega));rw[hr]at xT;simp only[Result.ok.injEq]at xT;rw[xT.1]at LD
   simp only[Value.ownBlock,Option.some.injEq]at LD;exact .inr (by omega)
theorem Em {w:World} {ops:Array Oper} {rest:List Oper} {o:Oper} {a:Act} {Q:Exit->Act->World->Prop} (ln:o.guard=none) (s x:Operand)
 (ho:o.op= .call {callee:= .builtin .append,args:=#[s,x],argTypes:=#[42,9]})
 (v:Value) (l:List UInt8) (hs:a.eval s=v) (dh:w.ownsRow 0 5 1 v l.length (Lib.byteCells l)) (t:ByteArray) (hx:a.eval x= .string t) (hlen:l.length+t.size<=1000000000) (q:Nat) (hq:q=(l++t.data.toList).length)
 (h:∀fj c' w',w'.ownsRow 0 5 1 (.slice fj q c') (l++t.data.toList).length (Lib.byteCells (l++t.data.toList))->w.grownBy w' v.ownBlock->(∀g,(Value.slice fj q c').ownBlock=some g->v.ownBlock=some g\/w.heap.size<=g)->
  wpList Tryz.prog ops Q rest (a.put o.dst (.slice fj q c')) w'):wpList Tryz.prog ops Q (o::rest) a w:=by
 refine wpList_plain ln fun K hK=> ?_;obtain ⟨v',w',hr,h2,h3,h4⟩:=vT w o.type v l dh t hlen;obtain ⟨fj,c',rfl⟩:∃fj c',v'= .slice fj q c':=by
  rcases h2.2 with ⟨hv,hn⟩|⟨g,cap,cur,hv,_⟩
  ·exact ⟨none,0,by rw[hv,hq,hn]⟩
  ·exact ⟨_,_,by rw[hq];exact hv⟩
 unfold Oper.wp execOp;simp only[ho,resolve,invoke,builtin,Sem.run_bind,Sem.run_pure,Result.andThen_ok,List.map_toArray,List.map_cons,List.map_nil,hs,hx,hr];exact hK _ _ (h fj c' w' h2 h3 h4)
structure Pg (w:World) (pb:Nat) (v:Value) (l:List UInt8):Prop where
 blk:w.heap[pb]? =some (.cells #[v] 114 (0,0))
 row:w.ownsRow 0 5 1 v l.length (Lib.byteCells l)
 ne:∀g,v.ownBlock=some g->g≠pb
 len:l.length<=6000000
structure PgTo (w:World) (pb:Nat) (v:Value) (w':World) (v':Value) (l':List UInt8):Prop where
 pg:Pg w' pb v' l'
 mod:Mod (fun k=>k=pb\/v.ownBlock=some k) w w'
 new:∀g,v'.ownBlock=some g->v.ownBlock=some g\/w.heap.size<=g
theorem Pg.lt {w:World} {pb:Nat} {v:Value} {l:List UInt8} (h:Pg w pb v l):pb<w.heap.size:=af h.blk
theorem Pg.later {w w':World} {pb:Nat} {v:Value} {l:List UInt8} (h:Pg w pb v l) (hb:Below w.heap.size w w'):Pg w' pb v l:=
 ⟨(hb.block _ h.lt).trans h.blk,oq h.row hb,h.ne,h.len⟩
theorem PgTo.refl {w:World} {pb:Nat} {v:Value} {l:List UInt8} (h:Pg w pb v l):PgTo w pb v w v l:=⟨h,Mod.refl _ _,fun g hg=> .inl hg⟩
theorem PgTo.trans {w w1 w2:World} {pb:Nat} {v v1 v2:Value} {l1 l2:List UInt8} (h1:PgTo w pb v w1 v1 l1) (h2:PgTo w1 pb v1 w2 v2 l2):PgTo w pb v w2 v2 l2:=
 ⟨h2.pg,h1.mod.trans' h2.mod (fun i hi hq=>by
  rcases hq with e|e
  ·exact .inl e
  ·rcases h1.new i e with q|q
   ·exact .inr q
   ·omega),fun g hg=>by
  rcases h2.new g hg with e|e
  ·exact h1.new g e
  ·exact .inr (aBl h1.mod.size e)⟩
theorem PgTo.below {w w1:World} {pb:Nat} {v:Value} {l:List UInt8} (h:Pg w pb v l) (hb:Below w.heap.size w w1):PgTo w pb v w1 v l:=
 ⟨h.later hb,Mod.ofBelow hb (fun k hk mQ=>by omega),fun g hg=> .inl hg⟩
theorem PgTo.alloc {w w1:World} {pb:Nat} {v v1:Value} {l:List UInt8} (h:PgTo w pb v w1 v1 l) (o:Obj):PgTo w pb v (w1.alloc o) v1 l:=
 h.trans (PgTo.below h.pg ((aBi _ _).alloc (aBh _) o))
theorem PgTo.put {w w1 w2:World} {pb:Nat} {v v1 v2:Value} {l:List UInt8} {t:ByteArray} (h:PgTo w pb v w1 v1 l) (hl:l.length<=65536) (ht:t.size<=5000000)
 (aB:w2.ownsRow 0 5 1 v2 (l++t.data.toList).length (Lib.byteCells (l++t.data.toList))) (bC:w1.grownBy w2 v1.ownBlock) (aA:∀g,v2.ownBlock=some g->v1.ownBlock=some g\/w1.heap.size<=g):
 PgTo w pb v (w2.setCell ⟨pb,0,none⟩ v2) v2 (l++t.data.toList):=by
 have aN:=h.pg.lt;have hm:Mod (fun k=>v1.ownBlock=some k) w1 w2:=(Mod.refl _ _).grown bC (fun k e _=>e);have hb:=hm.heap h.pg.blk (fun e=>h.pg.ne pb e rfl);have hne:∀g,v2.ownBlock=some g->g≠pb:=fun g hg=>by
  rcases aA g hg with e|e
  ·exact h.pg.ne g e
  ·omega
 have vh:Mod (fun k=>k=pb\/v1.ownBlock=some k) w1 (w2.setCell ⟨pb,0,none⟩ v2):=(hm.mono (fun i _ e=> .inr e)).setCell _ _ (fun _=> .inl rfl);refine h.trans ⟨⟨by rw[aI hb];rfl,dE aB fun g hg=>aW _ _ (hne g hg),hne,by rw[aBj,aq];omega⟩,vh,aA⟩
def oL (out:List UInt8) (ss:List ByteArray):List UInt8:=ss.foldl (fun o s=>gW o s.data.toList) out
theorem JK (out:List UInt8) (s:ByteArray) (r:List ByteArray):oL out (s::r)=oL (gW out s.data.toList) r:=rfl
def bc (s:ByteArray):List Value:=[.string s]
theorem yA {w:World} {v:Value} {l:List ByteArray} (h:SlR w v 1 l bc):∃ao c,v= .slice ao l.length c/\l.length<=1048576/\
 (0<l.length->∃b o,ao=some ⟨b,o,none⟩/\b<w.heap.size/\∀i x,l[i]? =some x->w.cell? ⟨b,o+i,none⟩=some (.string x)):=by
 obtain ⟨ao,c,hv,hl,bN⟩:=h;refine ⟨ao,c,hv,hl,fun h0=> ?_⟩;obtain ⟨b,o,ha,aN,hc⟩:=bN h0;refine ⟨b,o,ha,aN,fun i x hx=> ?_⟩;have:=hc i x hx 0 _ rfl;rw[Nat.mul_one,Nat.add_zero]at this;exact this
theorem Y5 (w:World) (pb:Nat) (v:Value) (l:List UInt8) (h:Pg w pb v l) (pv:Value) (ss:List ByteArray) (hs:SlR w pv 1 ss bc) (gQ:∀s∈ss,s.size<=5000000)
 (hne:∀b o n c,pv= .slice (some ⟨b,o,none⟩) n c->b≠pb/\v.ownBlock≠some b):
 Calls Tryz.prog 96 #[.pointer (some ⟨pb,0,none⟩),pv] w fun r w'=>r= .returned (.tuple #[])/\∃v',PgTo w pb v w' v' (oL l ss):=by
 obtain ⟨ao,cap,rfl,hl,bN⟩:=yA hs;obtain ⟨n,hn⟩:=ex (ss.length);rw[<-hn]at bN hne hl |-;have Hn:=hid hn;have Hl:=hid hl;have oQ:=hid bN;have Yk:=hid hne;have Qg:=hid gQ;have H0:=hid (PgTo.refl h);clear hs hn hl bN hne gQ h;go_enter Tryz.func96,Tryz.ntmps96;go_wp2
 go_loopw [8] (fun vi wr=>∃(k:Nat) (v1:Value) (l1:List UInt8),vi= .int .i64 (k:Int)/\Hid (k<=n/\PgTo w pb v wr v1 l1/\oL l ss=oL l1 (ss.drop k))) (fun vi _=>n-(intOf vi).toNat)
 case atStart=>exact ⟨0,v,l,rfl,hid ⟨Nat.zero_le _,H0.o,rfl⟩⟩
 case round=>
  clear H0;obtain ⟨k,v1,l1,rfl,H⟩:=hrel;by_cases hk:k<n
  ·have tk:decide (k<n)=true:=dT hk;have bk:(k:Int)<(n:Int):=by omega
   obtain ⟨s,hs⟩:∃s,ss[k]? =some s:=aF (by have:=Hn.o;omega);obtain ⟨b,o,rfl,hb,hc⟩:=oQ.o (by omega);obtain ⟨nb1,nb2⟩:=Yk.o b o n cap rfl;have c1:=H.o.2.1.mod.cell (hc k s hs) (by
    rintro (e|e)
    ·exact nb1 e
    ·exact nb2 e)
   obtain ⟨aN,he⟩:=aBo hs;have Ih:=Qg.o s (List.mem_of_getElem? hs);have rT:ss.drop k=s::ss.drop (k+1):=by rw[List.drop_eq_getElem_cons aN,he]
   have cw:=H.o.2.2;rw[rT,JK]at cw;obtain ⟨cY,df⟩:=bL (k:=k) (n:=n) hk (by have:=Hl.o;omega);have Sn:=H.o.2.1.pg;have p0:=aa Sn.blk 0;have pf:=ah Sn.blk 0;simp at p0;obtain ⟨Xf,Yj,Ic⟩:∃ao c,v1= .slice ao l1.length c:=by
    rcases Sn.row.2 with ⟨hv,hn⟩|⟨g,cap,cur,hv,_⟩
    ·exact ⟨none,0,by rw[hv,hn]⟩
    ·exact ⟨_,_,hv⟩
   have iU:=hid Sn.row;have pW:=hid Sn.len;have Hk:=hid hk;have HP:=hid H.o.2.1;subst Ic;by_cases hr:l1.length<=65536
   ·have t1:decide ((l1.length:Int)<=65536)=true:=dT (by omega);have aX:=hid (fun v2 w2 a1 a2 a3=>show k+1<=n/\PgTo w pb v (w2.setCell ⟨pb,0,none⟩ v2) v2 (l1++s.data.toList)/\oL l ss=oL (l1++s.data.toList) (ss.drop (k+1)) from ⟨Hk.o,HP.o.put (w2:=w2) (v2:=v2) (t:=s) hr Ih a1 a2 a3,by rw[cw];unfold gW;rw[if_pos hr]⟩);have Qi:=hid (show l1.length+s.size<=1000000000 by omega);have Hq:=hid (show l1.length+s.size=(l1++s.data.toList).length by rw[aBj,aq])
    have jF:=hid (fun w2 (a1:World.grownBy wr w2 (Value.slice Xf l1.length Yj).ownBlock)=>show w2.heap[pb]? =some (.cells #[.slice Xf l1.length Yj] 114 (0,0)) from ((Mod.refl (fun k=>(Value.slice Xf l1.length Yj).ownBlock=some k) wr).grown a1 (fun k e _=>e)).heap Sn.blk (fun e=>Sn.ne pb e rfl));clear Sn cw rT he aN hs hc hb hk H Ih hr
    go_wp2_with (at_builtin;refine Em rfl _ _ rfl (.slice Xf l1.length Yj) l1 rfl iU.o s rfl Qi.o (l1.length+s.size) Hq.o ?_;intro kp c2 w2 aB bC aA;have HE:=hid (aX.o _ w2 aB bC aA);have q1:=aa (jF.o w2 bC) 0;have q2:=ah (jF.o w2 bC) 0;simp at q1;clear aB bC aA)
    go_roundw
    case rel=>exact ⟨k+1,_,_,df.o,HE⟩
    case measure=>exact cY.o
   ·have t1:decide ((l1.length:Int)<=65536)=false:=dF (by omega);have aX:=hid (show k+1<=n/\PgTo w pb v wr (.slice Xf l1.length Yj) l1/\oL l ss=oL l1 (ss.drop (k+1)) from ⟨Hk.o,HP.o,by rw[cw];unfold gW;rw[if_neg hr]⟩);clear Sn cw rT he aN hs hc hb hk H Ih hr;go_wp2;go_roundw
    case rel=>exact ⟨k+1,_,_,df.o,aX⟩
    case measure=>exact cY.o
  ·have tk:decide (k<n)=false:=dF hk;have HP:=hid (show ∃v',PgTo w pb v wr v' (oL l ss) from ⟨v1,by
    have cw:=H.o.2.2;rw[List.drop_eq_nil_of_le (by have:=Hn.o;omega)]at cw;rw[cw];exact H.o.2.1⟩)
   clear H hk oQ Yk;go_wp2
   first|go_end0|refine bodyPost_ret (results_none rfl _ _ _) rfl ?_
   exact ⟨rfl,HP.o⟩
noncomputable def VZ:Code:=(ncr (ncr (ncr (ncr (ncx Tryz.f64.body)))))
noncomputable def VY:Code:=(ncl (nco (ncb (ncr (ncr (ncr (ncr (ncx Tryz.f64.body))))))))
noncomputable def VX:Code:=(ncl (ncr (nco (ncb (ncr (ncr (ncr (ncr (ncx Tryz.f64.body)))))))))
noncomputable def Zd:Code:=(ncr (ncr (ncr (nco (ncb (ncr (ncr (ncr (ncr (ncx Tryz.f64.body))))))))))
noncomputable def G1:Code:=(ncb (ncl (ncr (ncr (nco (ncb (ncr (ncr (ncr (ncr (ncx Tryz.f64.body)))))))))))
noncomputable def R6:Code:=(ncl (ncb (ncl (ncr (ncr (nco (ncb (ncr (ncr (ncr (ncr (ncx Tryz.f64.body))))))))))))
noncomputable def R5:Code:=(ncl (ncr (ncb (ncl (ncr (ncr (nco (ncb (ncr (ncr (ncr (ncr (ncx Tryz.f64.body)))))))))))))
noncomputable def R4:Code:=(ncl (ncr (ncr (ncb (ncl (ncr (ncr (nco (ncb (ncr (ncr (ncr (ncr (ncx Tryz.f64.body))))))))))))))
noncomputable def R3:Code:=(ncl (ncr (ncr (ncr (ncb (ncl (ncr (ncr (nco (ncb (ncr (ncr (ncr (ncr (ncx Tryz.f64.body)))))))))))))))
noncomputable def R2:Code:=(ncl (ncr (ncr (ncr (ncr (ncb (ncl (ncr (ncr (nco (ncb (ncr (ncr (ncr (ncr (ncx Tryz.f64.body))))))))))))))))
noncomputable def R1:Code:=(ncl (ncr (ncr (ncr (ncr (ncr (ncb (ncl (ncr (ncr (nco (ncb (ncr (ncr (ncr (ncr (ncx Tryz.f64.body)))))))))))))))))
noncomputable def NN:Code:=(ncr (ncr (ncr (ncr (ncr (ncr (ncb (ncl (ncr (ncr (nco (ncb (ncr (ncr (ncr (ncr (ncx Tryz.f64.body)))))))))))))))))
def uB (v:Nat->Value):Act:=⟨#[v 0,v 1,v 2,v 3,v 4,v 5,v 6,v 7,v 8,v 9,v 10,v 11,v 12,v 13,v 14,v 15,v 16,v 17,v 18,v 19,v 20,v 21,v 22,v 23,v 24,v 25,v 26,v 27,v 28,v 29,v 30,v 31,v 32,v 33,v 34,v 35,v 36,v 37,v 38,v 39,v 40,v 41,v 42,v 43,v 44,v 45,v 46,v 47,v 48,v 49,v 50,v 51,v 52,v 53,v 54,v 55,v 56,v 57,v 58,v 59,v 60,v 61,v 62,v 63,v 64,v 65,v 66,v 67,v 68,v 69,v 70,v 71,v 72,v 73,v 74,v 75,v 76,v 77,v 78,v 79,v 80,v 81,v 82,v 83,v 84,v 85,v 86,v 87,v 88,v 89,v 90,v 91,v 92,v 93,v 94],[]⟩
theorem Fk (a:Act) (hs:a.tmps.size=95) (hd:a.defers=[]):∃v:Nat->Value,(∀(i:Nat) (x:Value),a.tmps[i]? =some x->v i=x)/\a=uB v:=by
 obtain ⟨t,d⟩:=a;obtain ⟨l⟩:=t;obtain rfl:d=[]:=hd;have hl:l.length=95:=hs;refine ⟨fun i=>l.getD i undef,fun i x hx=> ?_,?_⟩
 ·have KA:l[i]? =some x:=by simpa using hx
  simp[List.getD,KA]
 ·have e:l=(List.range 95).map (fun i=>l.getD i undef):=by
   apply List.ext_getElem
   ·simp[hl]
   ·intro i h1 h2;simp[List.getD,h1]
  generalize (fun i=>l.getD i undef)=v at e |-;subst e;rfl
structure LyA (a:Act) (pb:Nat) (V:Value) (ind:Nat) (nb:Nat) (b2:Nat) (o2:Nat) (q:Nat) (cap2:Nat) (j:Nat) (th:Bool):Prop where
 size:a.tmps.size=95
 dfr:a.defers=[]
 s0:a.tmps[0]? =some (.pointer (some ⟨pb,0,none⟩))
 s1:a.tmps[1]? =some (V)
 s3:a.tmps[3]? =some (.int .i64 (ind:Int))
 s4:a.tmps[4]? =some (.bool th)
 s10:a.tmps[10]? =some (.func (.func 96) #[.pointer (some ⟨pb,0,none⟩)] #[])
 s11:a.tmps[11]? =some (.pointer (some ⟨nb,0,none⟩))
 s36:a.tmps[36]? =some (.slice (some ⟨b2,o2,none⟩) q cap2)
 s37:a.tmps[37]? =some (.int .i64 (q:Int))
 s38:a.tmps[38]? =some (.int .i64 (j:Int))
theorem LyA.shape {a:Act} {pb:Nat} {V:Value} {ind:Nat} {nb:Nat} {b2:Nat} {o2:Nat} {q:Nat} {cap2:Nat} {j:Nat} {th:Bool} (h:LyA a pb V ind nb b2 o2 q cap2 j th):∃v:Nat->Value,a=uB v/\v 0= .pointer (some ⟨pb,0,none⟩)/\v 1=V/\v 3= .int .i64 (ind:Int)/\v 4= .bool th/\v 10= .func (.func 96) #[.pointer (some ⟨pb,0,none⟩)] #[]/\v 11= .pointer (some ⟨nb,0,none⟩)/\v 36= .slice (some ⟨b2,o2,none⟩) q cap2/\v 37= .int .i64 (q:Int)/\v 38= .int .i64 (j:Int):=by
 obtain ⟨v,hv,hd⟩:=Fk a h.size h.dfr;exact ⟨v,hd,hv 0 _ h.s0,hv 1 _ h.s1,hv 3 _ h.s3,hv 4 _ h.s4,hv 10 _ h.s10,hv 11 _ h.s11,hv 36 _ h.s36,hv 37 _ h.s37,hv 38 _ h.s38⟩
structure LyB (a:Act) (pb:Nat) (V:Value) (ind:Nat) (nb:Nat) (b2:Nat) (o2:Nat) (q:Nat) (cap2:Nat) (j:Nat) (k:Nat):Prop where
 size:a.tmps.size=95
 dfr:a.defers=[]
 s0:a.tmps[0]? =some (.pointer (some ⟨pb,0,none⟩))
 s1:a.tmps[1]? =some (V)
 s3:a.tmps[3]? =some (.int .i64 (ind:Int))
 s10:a.tmps[10]? =some (.func (.func 96) #[.pointer (some ⟨pb,0,none⟩)] #[])
 s11:a.tmps[11]? =some (.pointer (some ⟨nb,0,none⟩))
 s14:a.tmps[14]? =some (.int .i64 (k:Int))
 s36:a.tmps[36]? =some (.slice (some ⟨b2,o2,none⟩) q cap2)
 s37:a.tmps[37]? =some (.int .i64 (q:Int))
 s38:a.tmps[38]? =some (.int .i64 (j:Int))
theorem LyB.shape {a:Act} {pb:Nat} {V:Value} {ind:Nat} {nb:Nat} {b2:Nat} {o2:Nat} {q:Nat} {cap2:Nat} {j:Nat} {k:Nat} (h:LyB a pb V ind nb b2 o2 q cap2 j k):∃v:Nat->Value,a=uB v/\v 0= .pointer (some ⟨pb,0,none⟩)/\v 1=V/\v 3= .int .i64 (ind:Int)/\v 10= .func (.func 96) #[.pointer (some ⟨pb,0,none⟩)] #[]/\v 11= .pointer (some ⟨nb,0,none⟩)/\v 14= .int .i64 (k:Int)/\v 36= .slice (some ⟨b2,o2,none⟩) q cap2/\v 37= .int .i64 (q:Int)/\v 38= .int .i64 (j:Int):=by
 obtain ⟨v,hv,hd⟩:=Fk a h.size h.dfr;exact ⟨v,hd,hv 0 _ h.s0,hv 1 _ h.s1,hv 3 _ h.s3,hv 10 _ h.s10,hv 11 _ h.s11,hv 14 _ h.s14,hv 36 _ h.s36,hv 37 _ h.s37,hv 38 _ h.s38⟩
structure LyC (a:Act) (pb:Nat) (V:Value) (ind:Nat) (nb:Nat) (b2:Nat) (o2:Nat) (q:Nat) (cap2:Nat) (j:Nat) (k:Nat) (kb:Nat) (mk:ByteArray):Prop where
 size:a.tmps.size=95
 dfr:a.defers=[]
 s0:a.tmps[0]? =some (.pointer (some ⟨pb,0,none⟩))
 s1:a.tmps[1]? =some (V)
 s3:a.tmps[3]? =some (.int .i64 (ind:Int))
 s4:a.tmps[4]? =some (.bool false)
 s10:a.tmps[10]? =some (.func (.func 96) #[.pointer (some ⟨pb,0,none⟩)] #[])
 s11:a.tmps[11]? =some (.pointer (some ⟨nb,0,none⟩))
 s14:a.tmps[14]? =some (.int .i64 (k:Int))
 s15:a.tmps[15]? =some (.pointer (some ⟨kb,0,none⟩))
 s16:a.tmps[16]? =some (.string mk)
 s36:a.tmps[36]? =some (.slice (some ⟨b2,o2,none⟩) q cap2)
 s37:a.tmps[37]? =some (.int .i64 (q:Int))
 s38:a.tmps[38]? =some (.int .i64 (j:Int))
theorem LyC.shape {a:Act} {pb:Nat} {V:Value} {ind:Nat} {nb:Nat} {b2:Nat} {o2:Nat} {q:Nat} {cap2:Nat} {j:Nat} {k:Nat} {kb:Nat} {mk:ByteArray} (h:LyC a pb V ind nb b2 o2 q cap2 j k kb mk):∃v:Nat->Value,a=uB v/\v 0= .pointer (some ⟨pb,0,none⟩)/\v 1=V/\v 3= .int .i64 (ind:Int)/\v 4= .bool false/\v 10= .func (.func 96) #[.pointer (some ⟨pb,0,none⟩)] #[]/\v 11= .pointer (some ⟨nb,0,none⟩)/\v 14= .int .i64 (k:Int)/\v 15= .pointer (some ⟨kb,0,none⟩)/\v 16= .string mk/\v 36= .slice (some ⟨b2,o2,none⟩) q cap2/\v 37= .int .i64 (q:Int)/\v 38= .int .i64 (j:Int):=by
 obtain ⟨v,hv,hd⟩:=Fk a h.size h.dfr;exact ⟨v,hd,hv 0 _ h.s0,hv 1 _ h.s1,hv 3 _ h.s3,hv 4 _ h.s4,hv 10 _ h.s10,hv 11 _ h.s11,hv 14 _ h.s14,hv 15 _ h.s15,hv 16 _ h.s16,hv 36 _ h.s36,hv 37 _ h.s37,hv 38 _ h.s38⟩
structure Apart (w:World) (pb:Nat) (v:Value) (b:Nat) (o:Obj):Prop where
 blk:w.heap[b]? =some o
 ne:b≠pb
 nv:∀g,v.ownBlock=some g->g≠b
theorem Apart.step {w w2:World} {pb b:Nat} {v v2:Value} {o:Obj} {l2:List UInt8} (h:Apart w pb v b o) (p:PgTo w pb v w2 v2 l2):Apart w2 pb v2 b o:=by
 have aN:=af h.blk;refine ⟨p.mod.heap h.blk (by
  rintro (e|e)
  ·exact h.ne e
  ·exact h.nv b e rfl),h.ne,fun g hg e=> ?_⟩
 rcases p.new g hg with q|q
 ·exact h.nv g q e
 ·omega
theorem Apart.new {w:World} {pb:Nat} {v:Value} {l:List UInt8} (h:Pg w pb v l) (o:Obj):Apart (w.alloc o) pb v w.heap.size o:=
 ⟨ag o,by have:=h.lt;omega,fun g hg=>by have:=(h.row.lt g hg).2;omega⟩
theorem E2 (w:World) (ss:List ByteArray) (arr:Array Value) (eC:arr.toList=ss.map Value.string) (n:Nat) (hn:n=ss.length) (hl:n<=1048576) (T:TypeId):
 SlR (w.alloc (.cells arr T)) (.slice (some ⟨w.heap.size,0,none⟩) n n) 1 ss bc:=by
 subst hn;refine ⟨some ⟨w.heap.size,0,none⟩,ss.length,rfl,hl,fun h0=>⟨w.heap.size,0,rfl,by simp,fun i x hi j u hu=> ?_⟩⟩;cases j with
 |succ j=>simp[bc]at hu
 |zero=>
  simp only[bc,List.getElem?_cons_zero,Option.some.injEq]at hu;subst hu;rw[Nat.mul_one,Nat.zero_add,Nat.add_zero,aa (ag _),<-Array.getElem?_toList,eC,List.getElem?_map,hi];rfl
theorem qs {w:World} {pb:Nat} {v:Value} {l:List UInt8} (h:Pg w pb v l) (ss:List ByteArray) (arr:Array Value) (eC:arr.toList=ss.map Value.string) (n:Nat) (hn:n=ss.length) (hl:n<=1048576) (T:TypeId) (gQ:∀s∈ss,s.size<=5000000):
 Calls Tryz.prog 96 #[.pointer (some ⟨pb,0,none⟩),.slice (some ⟨w.heap.size,0,none⟩) n n] (w.alloc (.cells arr T)) fun r w'=>r= .returned (.tuple #[])/\∃v',PgTo w pb v w' v' (oL l ss):=by
 have hp:=(PgTo.refl h).alloc (.cells arr T);refine (Y5 _ pb v l hp.pg _ ss (E2 w ss arr eC n hn hl T) gQ ?_).mono ?_
 ·intro b o n c e;simp only[Value.slice.injEq,Option.some.injEq,Addr.mk.injEq]at e;have:=h.lt;refine ⟨by omega,fun e2=> ?_⟩;have:=(h.row.lt b e2).2;omega
 ·rintro r w' ⟨hr,v',h'⟩;exact ⟨hr,v',hp.trans h'⟩
def AG (ind:Nat) (th:Bool) (out:List UInt8):List UInt8:=if th=true then out else gW out (List.replicate ind 32)
def jd (kind:Int) (key:ByteArray):List UInt8:=if kind=2 then nD key.data.toList++[58] else [45]
def zd (ns:List Nd) (lay:Nat->Nat->Bool->List UInt8->List UInt8) (kind:Int) (ind:Nat) (k:Nat) (out:List UInt8):List UInt8:=
 if (ns[k]!).kind=1 then gW (gW (gW out (jd kind (ns[k]!).key)) (fa (ns[k]!))) [10]
 else if kind=2 then lay k (ind+2) false (gW (gW out (jd kind (ns[k]!).key)) [10])
 else lay k (ind+2) true (gW (gW out (jd kind (ns[k]!).key)) [32])
theorem Kp (ns:List Nd) (lay:Nat->Nat->Bool->List UInt8->List UInt8) (kind:Int) (ind k:Nat) (r:List Int) (th:Bool) (out:List UInt8):
 kt ns lay kind ind ((k:Int)::r) th out=kt ns lay kind ind r false (zd ns lay kind ind k (AG ind th out)):=by
 rw[kt];congr 1;rw[Int.toNat_natCast];unfold zd AG;by_cases h1:(ns[k]!).kind=1
 ·rw[if_pos h1,if_pos h1];rfl
 ·rw[if_neg h1,if_neg h1];by_cases h2:kind=2
  ·rw[if_pos h2,if_pos h2];unfold jd;rw[if_pos h2]
  ·rw[if_neg h2,if_neg h2];unfold jd;rw[if_neg h2]
structure Base (w0 w:World) (pb:Nat) (v:Value):Prop where
 below:Below w0.heap.size w0 w
 pb:w0.heap.size<=pb
 own:∀g,v.ownBlock=some g->w0.heap.size<=g
theorem Base.step {w0 w w2:World} {pb:Nat} {v v2:Value} {l2:List UInt8} (h:Base w0 w pb v) (p:PgTo w pb v w2 v2 l2):Base w0 w2 pb v2:=
 ⟨h.below.trans (p.mod.below h.below.size fun k hk=>by
  rcases hk with e|e
  ·rw[e];exact h.pb
  ·exact h.own k e),h.pb,fun g hg=>by
  rcases p.new g hg with e|e
  ·exact h.own g e
  ·exact aBl h.below.size e⟩
abbrev NdO (m:NdM):Obj:= .cells #[.int .i64 m.nd.kind,.string m.nd.key,.string m.nd.text,.bool m.nd.quoted,.int .i64 m.nd.line,m.kv] 55
theorem JD (c:Nat):Lib.repeatL (⟨#[32]⟩:ByteArray).data.toList c=List.replicate c 32:=by
 induction c with
 |zero=>rfl
 |succ c ih=>
  show [32]++Lib.repeatL _ c=_
  rw[ih];rfl
section
variable {w0 w:World} {Q:Exit->Act->World->Prop} {a:Act} {ms:List NdM} {pb:Nat} {V:Value} {ind nb b2 o2 q cap2 j k:Nat} {th:Bool} {v:Value} {l:List UInt8} {m mk:NdM}
theorem ly_a (X:Code) (hf:LyA a pb V ind nb b2 o2 q cap2 j th) (h:Pg w pb v l) (hx:w.cell? ⟨b2,o2+j,none⟩=some (.int .i64 (k:Int))) (hj:j<q) (pI:ind<=10000)
 (ok:∀a' w' v',LyB a' pb V ind nb b2 o2 q cap2 j k->PgTo w pb v w' v' (AG ind th l)->X.wp Tryz.prog Q a' w'):(Code.seq R6 (Code.seq R5 X)).wp Tryz.prog Q a w:=by
 have bj:(j:Int)<(q:Int):=by omega
 have bh:=hid ok;have H0:=hid (PgTo.refl h);obtain ⟨vv,rfl,eE⟩:=hf.shape;simp only[uB,eE];clear eE;clear hf ok;cases th with
 |true=>
  clear h hj pI;dsimp only[R6,R5,ncs,ncl,ncr,ncb,nco,nct,nce,ncx,Tryz.f64];go_wp2;exact bh.o _ _ v ⟨rfl,rfl,rfl,rfl,rfl,rfl,rfl,rfl,rfl,rfl,rfl⟩ H0.o
 |false=>
  have Hr:=hid (Tryz.strings_Repeat ⟨#[32]⟩ ind w (by omega) (by show 1*ind<=_;omega));rw[JD]at Hr;have Hp:=hid (fun w1 (hb:Below w.heap.size w w1)=>qs (w:=w1) (h.later hb) [⟨(List.replicate ind 32).toArray⟩] #[.string ⟨(List.replicate ind 32).toArray⟩] rfl 1 rfl (by decide) 9 (fun s hs=>by
   simp only[List.mem_singleton]at hs;subst hs;simp[ByteArray.size];omega))
  have HP0:=hid (fun w1 (hb:Below w.heap.size w w1)=>PgTo.below h hb);clear h hj pI H0;dsimp only[R6,R5,ncs,ncl,ncr,ncb,nco,nct,nce,ncx,Tryz.f64]
  go_wp2_with fail
  refine Hr.o.mono ?_;rintro r w1 ⟨rfl,hb⟩;have Hp1:=hid (Hp.o w1 hb);have XN:=hid (HP0.o w1 hb);clear hb Hr Hp HP0
  go_wp2_with fail
  refine Hp1.o.mono ?_;rintro r w2 ⟨rfl,v2,hp⟩;have BH:=hid (XN.o.trans hp);clear hp Hp1 XN;go_wp2;refine bh.o _ _ v2 ⟨rfl,rfl,rfl,rfl,rfl,rfl,rfl,rfl,rfl,rfl,rfl⟩ ?_;have:=BH.o;unfold AG
  simpa[oL] using this
theorem ly_b (X:Code) {b o n cap:Nat} {kind:Int} (hf:LyB a pb (.slice (some ⟨b,o,none⟩) n cap) ind nb b2 o2 q cap2 j k) (h:Pg w pb v l) (bN:NdAt w b (o+k*6) mk) (cN:mk.Ok w) (hk:k<n)
 (j8:w.cell? ⟨nb,0,none⟩=some (.int .i64 kind)) (Sr:nb<w.heap.size) (cd:kind=2\/kind=3)
 (ok:∀a' w',LyC a' pb (.slice (some ⟨b,o,none⟩) n cap) ind nb b2 o2 q cap2 j k w.heap.size ⟨(jd kind mk.nd.key).toArray⟩->PgTo w pb v w' v l->Apart w' pb v w.heap.size (NdO mk)->X.wp Tryz.prog Q a' w'):
 (Code.seq R4 (Code.seq R3 (Code.seq R2 (Code.seq R1 X)))).wp Tryz.prog Q a w:=by
 have bk:(k:Int)<(n:Int):=by omega
 obtain ⟨IM,c3,cI,_,_⟩:=aL cN.kids;obtain ⟨q3,CT⟩:=ex (mk.nd.kids.length);rw[<-CT]at cI;have x0:=bN.c0;have x1:=bN.c1;have x2:=bN.c2;have x3:=bN.c3;have x4:=bN.c4;have x5:=bN.c5;rw[cI]at x5;have hks:=cN.key;have bh:=hid ok;have HA:=hid (Apart.new h (NdO mk));have HP:=hid ((PgTo.refl h).alloc (NdO mk));have hE:NdO mk= .cells #[.int .i64 mk.nd.kind,.string mk.nd.key,.string mk.nd.text,.bool mk.nd.quoted,.int .i64 mk.nd.line,.slice IM q3 c3] 55 :=by unfold NdO;rw[cI]
 rw[hE]at HA HP;rw[hE]at bh;have oB:∀ob,(w.alloc ob).cell? ⟨nb,0,none⟩=some (.int .i64 kind):=fun ob=>(World.cell?_of_block (ai ob Sr)).trans j8;obtain ⟨vv,rfl,eE⟩:=hf.shape;simp only[uB,eE];clear eE;clear hf ok h bN cN cI CT hE hk;rcases cd with rfl|rfl
 ·have Hk:=hid (fun w1=>W4 w1 mk.nd.key hks);have C8:=Bl (nD mk.nd.key.data.toList) [58] (by
   have h1:(nD mk.nd.key.data.toList).length<=4*mk.nd.key.data.toList.length+2:=by
    unfold nD
    split
    ·omega
    ·exact lC _
   rw[aq]at h1;simp;omega)
  have hm:jd 2 mk.nd.key=nD mk.nd.key.data.toList++[58]:=by unfold jd;rw[if_pos rfl]
  rw[hm]at bh;clear hks hm;dsimp only[R4,R3,R2,R1,ncs,ncl,ncr,ncb,nco,nct,nce,ncx,Tryz.f64]
  go_wp2_with fail
  refine (Hk.o _).mono ?_;rintro r w1 ⟨rfl,hb⟩;have HA1:=hid (HA.o.step (PgTo.below HP.o.pg hb));have XN:=hid (HP.o.trans (PgTo.below HP.o.pg hb));clear hb Hk HA HP;go_wp2;exact bh.o _ _ ⟨rfl,rfl,rfl,rfl,rfl,rfl,rfl,rfl,rfl,rfl,rfl,rfl,rfl,rfl⟩ XN.o HA1.o
 ·have hm:jd 3 mk.nd.key=[45]:=rfl;rw[hm]at bh;clear hks hm;dsimp only[R4,R3,R2,R1,ncs,ncl,ncr,ncb,nco,nct,nce,ncx,Tryz.f64];go_wp2;exact bh.o _ _ ⟨rfl,rfl,rfl,rfl,rfl,rfl,rfl,rfl,rfl,rfl,rfl,rfl,rfl,rfl⟩ HP.o HA.o
theorem ly_c {kb:Nat} {RX:List UInt8} {ns:List Nd} {LAY:Nat->Nat->Bool->List UInt8->List UInt8} (hf:LyC a pb V ind nb b2 o2 q cap2 j k kb ⟨RX.toArray⟩) (h:Pg w pb v l) (hA:Apart w pb v kb (NdO mk)) (cN:mk.Ok w)
 (hn:Apart w pb v nb (NdO m)) (gu:(ns[k]!)=mk.nd) (cl:jd m.nd.kind mk.nd.key=RX) (mj:RX.length<=5000000) (pI:ind<=10000)
 (ih:∀th w1 v1 l1,PgTo w pb v w1 v1 l1->Calls Tryz.prog 64 #[.pointer (some ⟨pb,0,none⟩),V,.int .i64 (k:Int),.int .i64 ((ind:Int)+2),.bool th] w1 fun r w'=>r= .returned (.tuple #[])/\∃v',PgTo w1 pb v1 w' v' (LAY k (ind+2) th l1))
 (ok:∀a' w' v',LyA a' pb V ind nb b2 o2 q cap2 j false->PgTo w pb v w' v' (zd ns LAY m.nd.kind ind k l)->Q .normal a' w'):NN.wp Tryz.prog Q a w:=by
 have bh:=hid ok;have Hih:=hid ih;have Hkd:=hid gu;have yq:=hid cl;obtain ⟨IM,c3,cI,_,_⟩:=aL cN.kids;obtain ⟨q3,CT⟩:=ex (mk.nd.kids.length);rw[<-CT]at cI;obtain ⟨x0,x1,x2,x3,x4,x5⟩:=cB6 hA.blk;have y0:=aa hn.blk 0;simp[cI]at x0 x1 x2 x3 x4 x5 y0;have wi:=bK (z:=(ind:Int)+2) (by omega) (by omega);by_cases h1:mk.nd.kind=1
 ·have t1:(mk.nd.kind==1)=true:=by rw[beq_iff_eq];exact h1
  have qQ:mk.v= .agg #[.int .i64 mk.nd.kind,.string mk.nd.key,.string mk.nd.text,.bool mk.nd.quoted,.int .i64 mk.nd.line,.slice IM q3 c3]:=by unfold NdM.v;rw[cI]
  have Ht:=hid (Iw w mk cN);rw[qQ]at Ht;have Sm:(fa mk.nd).length<=5000000:=by
   have h3:=cN.text;have h2:=lC mk.nd.text.data.toList;rw[aq]at h2;unfold fa
   split
   ·rw[aBk];omega
   ·split
    ·rw[aBk,aq];omega
    ·simp
  have Hp:=hid (fun w1 (hb:Below w.heap.size w w1)=>qs (w:=w1) (h.later hb) [⟨RX.toArray⟩,⟨(fa mk.nd).toArray⟩,⟨#[10]⟩] #[.string ⟨RX.toArray⟩,.string ⟨(fa mk.nd).toArray⟩,.string ⟨#[10]⟩] rfl 3 rfl (by decide) 9 (fun s hs=>by
   simp only[List.mem_cons,List.not_mem_nil,or_false]at hs;rcases hs with rfl|rfl|rfl
   ·simp[ByteArray.size];omega
   ·simp[ByteArray.size];omega
   ·decide))
  have HP0:=hid (fun w1 (hb:Below w.heap.size w w1)=>PgTo.below h hb);have H1:=hid h1;obtain ⟨vv,rfl,eE⟩:=hf.shape;simp only[uB,eE];clear eE;clear hf ok ih gu cl h hA cN hn mj pI CT qQ Sm h1 cI Hih;dsimp only[NN,ncs,ncl,ncr,ncb,nco,nct,nce,ncx,Tryz.f64]
  go_wp2_with fail
  refine Ht.o.mono ?_;rintro r w1 ⟨rfl,hb⟩;have Hp1:=hid (Hp.o w1 hb);have XN:=hid (HP0.o w1 hb);clear hb Ht Hp HP0
  go_wp2_with fail
  refine Hp1.o.mono ?_;rintro r w2 ⟨rfl,v2,hp⟩;have BH:=hid (XN.o.trans hp);clear hp Hp1 XN;go_wp2;refine bh.o _ _ v2 ⟨rfl,rfl,rfl,rfl,rfl,rfl,rfl,rfl,rfl,rfl,rfl⟩ ?_;have:=BH.o;unfold zd;rw[Hkd.o,if_pos H1.o,yq.o]
  simpa[oL] using this
 ·have t1:(mk.nd.kind==1)=false:=by rw[beq_eq_false_iff_ne];exact h1
  have H1:=hid h1;by_cases h2:m.nd.kind=2
  ·have t2:(m.nd.kind==2)=true:=by rw[beq_iff_eq];exact h2
   have H2:=hid h2;have Hp:=hid (qs (w:=w) h [⟨RX.toArray⟩,⟨#[10]⟩] #[.string ⟨RX.toArray⟩,.string ⟨#[10]⟩] rfl 2 rfl (by decide) 9 (fun s hs=>by
    simp only[List.mem_cons,List.not_mem_nil,or_false]at hs;rcases hs with rfl|rfl
    ·simp[ByteArray.size];omega
    ·decide))
   obtain ⟨vv,rfl,eE⟩:=hf.shape;simp only[uB,eE];clear eE;clear hf ok ih gu cl h hA cN hn mj pI CT h1 h2 cI;dsimp only[NN,ncs,ncl,ncr,ncb,nco,nct,nce,ncx,Tryz.f64]
   go_wp2_with fail
   refine Hp.o.mono ?_;rintro r w2 ⟨rfl,v2,hp⟩;have BH:=hid hp;have Hi:=hid (Hih.o false w2 v2 _ hp);clear hp Hp Hih
   go_wp2_with fail
   refine Hi.o.mono ?_;rintro r w3 ⟨rfl,v3,Qw⟩;have HP3:=hid (BH.o.trans Qw);clear Qw Hi BH;go_wp2;refine bh.o _ _ v3 ⟨rfl,rfl,rfl,rfl,rfl,rfl,rfl,rfl,rfl,rfl,rfl⟩ ?_;have:=HP3.o;unfold zd;rw[Hkd.o,if_neg H1.o,if_pos H2.o,yq.o]
   simpa[oL] using this
  ·have t2:(m.nd.kind==2)=false:=by rw[beq_eq_false_iff_ne];exact h2
   have H2:=hid h2;have Hp:=hid (qs (w:=w) h [⟨RX.toArray⟩,⟨#[32]⟩] #[.string ⟨RX.toArray⟩,.string ⟨#[32]⟩] rfl 2 rfl (by decide) 9 (fun s hs=>by
    simp only[List.mem_cons,List.not_mem_nil,or_false]at hs;rcases hs with rfl|rfl
    ·simp[ByteArray.size];omega
    ·decide))
   obtain ⟨vv,rfl,eE⟩:=hf.shape;simp only[uB,eE];clear eE;clear hf ok ih gu cl h hA cN hn mj pI CT h1 h2 cI;dsimp only[NN,ncs,ncl,ncr,ncb,nco,nct,nce,ncx,Tryz.f64]
   go_wp2_with fail
   refine Hp.o.mono ?_;rintro r w2 ⟨rfl,v2,hp⟩;have BH:=hid hp;have Hi:=hid (Hih.o true w2 v2 _ hp);clear hp Hp Hih
   go_wp2_with fail
   refine Hi.o.mono ?_;rintro r w3 ⟨rfl,v3,Qw⟩;have HP3:=hid (BH.o.trans Qw);clear Qw Hi BH;go_wp2;refine bh.o _ _ v3 ⟨rfl,rfl,rfl,rfl,rfl,rfl,rfl,rfl,rfl,rfl,rfl⟩ ?_;have:=HP3.o;unfold zd;rw[Hkd.o,if_neg H1.o,if_neg H2.o,yq.o]
   simpa[oL] using this
end
