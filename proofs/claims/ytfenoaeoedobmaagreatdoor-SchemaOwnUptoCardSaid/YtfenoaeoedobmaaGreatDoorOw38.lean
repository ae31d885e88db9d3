/-
Parts of a proof.
-/
import Derived.Test.YtfenoaeoedobmaaGreatDoorOw37
set_option linter.unusedVariables false
set_option linter.unusedSimpArgs false
set_option maxHeartbeats 8000000
set_option maxRecDepth 20000
namespace Go.Proofs.YtfenoaeoedobmaaGreatDoor
open Go Go.RowKit
def offK (q:Nat):Nat:=if q=0 then 2 else if q=1 then 3 else 5
def tyK (q:Nat):TypeId:=if q=0 then 9 else if q=1 then 58 else 60
def szK (q:Nat):Nat:=if q=0 then 1 else if q=1 then 3 else 4
structure AF (s0 s1:Nat) (av:Value) (n:Nat) (E:Nat->Nat->Value) (m:Nat->Nat->Nat):Prop where
 fr:∀g,av.ownBlock=some g->InS s0 s1 g
 own:∀q k g,q<3->k<n->(E q k).ownBlock=some g->InS s0 s1 g/\av.ownBlock≠some g
 far:∀q k q' k' g,q<3->q'<3->k<n->k'<n->(E q k).ownBlock=some g->(E q' k').ownBlock=some g->q=q'/\k=k'
 len:n<=1048576/\∀q k,q<3->k<n->m q k<=1000
structure AD (w:World) (av:Value) (n:Nat) (c:Nat->Nat) (E:Nat->Nat->Value) (m:Nat->Nat->Nat):Prop where
 row:∃L,w.ownsRow 0 49 8 av n L/\∀q k,q<3->c q<=k->k<n->L[k*8+offK q]? =some (E q k)
 lst:∀q k,q<3->c q<=k->k<n->∃xs,w.ownsRow 0 (tyK q) (szK q) (E q k) (m q k) xs
theorem loose_set {w:World} {B:Nat} {e:TypeId} {sz:Nat} {v:Value} {n:Nat} (h:∃xs,w.ownsRow B e sz v n xs) (g j:Nat) (u:Value):∃xs,(w.setCell ⟨g,j,none⟩ u).ownsRow B e sz v n xs:=by
 obtain ⟨xs,h⟩:=h;by_cases e2:v.ownBlock=some g
 ·by_cases hj:j<n*sz
  ·exact ⟨_,row_set h e2 u hj⟩
  ·obtain ⟨hl,h⟩:=h;rcases h with ⟨rfl,_⟩|⟨g',cap,cur,rfl,hb,hh,hc,hm,hs,ht⟩
   ·cases e2
   ·obtain rfl:g'=g:=by simpa[Value.ownBlock] using e2
    refine ⟨xs,hl,.inr ⟨g',cap,cur.setIfInBounds j u,rfl,hb,aE hh j u,hc,hm,by simpa using hs,?_⟩⟩;rw[Array.toList_setIfInBounds,List.take_set,ht,List.set_eq_of_length_le (by omega)]
 ·have hM:Mod (fun b=>b=g) w (w.setCell ⟨g,j,none⟩ u):=(Mod.refl _ _).setCell _ _ (fun _=>rfl);exact ⟨xs,aG h hM (fun k hk q=>e2 (by rw[hk,q]))⟩
variable {s0 s1 n:Nat} {w w1 w2:World} {av:Value} {c:Nat->Nat} {E:Nat->Nat->Value} {m:Nat->Nat->Nat}
theorem AD.form (h:AD w av n c E m):∃a cap,av= .slice a n cap:=by
 obtain ⟨L,hr,_⟩:=h.row;obtain ⟨a,cap,e,_⟩:=iH hr;exact ⟨a,cap,e⟩
theorem AD.set (h:AD w av n c E m) {g:Nat} (hg:av.ownBlock≠some g) (j:Nat) (u:Value):AD (w.setCell ⟨g,j,none⟩ u) av n c E m:=by
 obtain ⟨L,hr,hL⟩:=h.row;have hM:Mod (fun b=>b=g) w (w.setCell ⟨g,j,none⟩ u):=(Mod.refl _ _).setCell _ _ (fun _=>rfl);exact ⟨⟨L,aG hr hM (fun k hk q=>hg (by rw[hk,q])),hL⟩,fun q k h1 h2 h3=>loose_set (h.lst q k h1 h2 h3) g j u⟩
theorem AD.rows (h:AD w av n c E m) {g:Nat} (hg:av.ownBlock=some g) {j:Nat} (hj:j<n*8) (hd:∀q k,q<3->c q<=k->k<n->j≠k*8+offK q) (u:Value):AD (w.setCell ⟨g,j,none⟩ u) av n c E m:=by
 obtain ⟨L,hr,hL⟩:=h.row;refine ⟨⟨_,row_set hr hg u hj,fun q k h1 h2 h3=> ?_⟩,fun q k h1 h2 h3=>loose_set (h.lst q k h1 h2 h3) g j u⟩;rw[List.getElem?_set_ne (hd q k h1 h2 h3)];exact hL q k h1 h2 h3
def bump (c:Nat->Nat) (q k x:Nat):Nat:=if x=q then k else c x
theorem AD.grow (hF:AF s0 s1 av n E m) (h:AD w av n c E m) {q k:Nat} (hq:q<3) (hc:c q<=k) (hk:k<n) (hb:Below w.heap.size w w1) (hg:w1.grownBy w2 (E q k).ownBlock):AD w2 av n (bump c q (k+1)) E m/\Mod (InS s0 s1) w w2/\Mod (fun g=>(E q k).ownBlock=some g) w w2:=by
 have hM:Mod (fun g=>(E q k).ownBlock=some g) w w2:=((bh hb).mono (fun _ _ q=>q.elim)).grown hg (fun k e _=>e);obtain ⟨L,hr,hL⟩:=h.row;have hcx:∀x y,bump c q (k+1) x<=y->c x<=y/\(x=q->k<y):=fun x y hxy=>by
  unfold bump at hxy
  split at hxy
  ·rename_i e;subst e;exact ⟨by omega,fun _=>by omega⟩
  ·rename_i e;exact ⟨hxy,fun e2=>absurd e2 e⟩
 refine ⟨⟨⟨L,aG hr hM (fun g hx e=>(hF.own q k g hq hk e).2 hx),fun x y h1 h2 h3=>hL x y h1 (hcx x y h2).1 h3⟩,fun x y h1 h2 h3=> ?_⟩,hM.mono (fun g _ e=>(hF.own q k g hq hk e).1),hM⟩;obtain ⟨xs,hx⟩:=h.lst x y h1 (hcx x y h2).1 h3;refine ⟨xs,aG hx hM (fun g hg2 e=> ?_)⟩;obtain ⟨e1,e2⟩:=hF.far x y q k g h1 hq h3 hk hg2 e;have:=(hcx x y h2).2 e1;omega
theorem AD.at (h:AD w av n c E m) {q k:Nat} (hq:q<3) (hc:c q<=k) (hk:k<n):∃(ga cap:Nat) (cx:Array Value) (a:Option Addr) (cp:Nat),av= .slice (some ⟨ga,0,none⟩) n cap/\av.ownBlock=some ga/\w.heap[ga]? =some (.cells cx 49 (0,0))/\n*8<=cx.size/\cx[k*8+offK q]? =some (E q k)/\E q k= .slice a (m q k) cp/\m q k<=cp/\
 (0<m q k->∃(g:Nat) (c2:Array Value),a=some ⟨g,0,none⟩/\(E q k).ownBlock=some g/\w.heap[g]? =some (.cells c2 (tyK q) (0,0))/\m q k*szK q<=c2.size):=by
 obtain ⟨L,hr,hL⟩:=h.row;obtain ⟨xs,hx⟩:=h.lst q k hq hc hk;have e1:=hL q k hq hc hk;rcases hr.2 with ⟨_,h0⟩|⟨ga,cap,cur,rfl,hb,hh,hcap,hm,hs,ht⟩
 ·omega
 ·have hsz:n*8<=cur.size:=by
   have h1:=hr.1;rw[<-ht,List.length_take]at h1;have h2:cur.toList.length=cur.size:=by simp
   omega
  rw[<-ht,List.getElem?_take]at e1
  split at e1
  ·rcases hx.2 with ⟨e2,h2⟩|⟨g,cp,c2,e2,hb2,hh2,hcp,hm2,hs2,ht2⟩
   ·exact ⟨ga,cap,cur,none,0,rfl,rfl,hh,hsz,by simpa using e1,by rw[e2,h2],by omega,fun h=>by omega⟩
   ·refine ⟨ga,cap,cur,_,cp,rfl,rfl,hh,hsz,by simpa using e1,e2,hcp,fun _=>⟨g,c2,rfl,by rw[e2];rfl,hh2,?_⟩⟩;have h1:=hx.1;rw[<-ht2,List.length_take]at h1;have h2:c2.toList.length=c2.size:=by simp
    omega
  ·cases e1
theorem AD.rowAt (h:AD w av n c E m) (h0:0<n):∃(ga cap:Nat) (cx:Array Value),av= .slice (some ⟨ga,0,none⟩) n cap/\w.heap[ga]? =some (.cells cx 49 (0,0))/\n*8<=cx.size:=by
 obtain ⟨L,hr,hL⟩:=h.row;rcases hr.2 with ⟨_,h2⟩|⟨ga,cap,cur,rfl,hb,hh,hcap,hm,hs,ht⟩
 ·omega
 ·refine ⟨ga,cap,cur,rfl,hh,?_⟩;have h1:=hr.1;rw[<-ht,List.length_take]at h1;have h2:cur.toList.length=cur.size:=by simp
  omega
theorem cell_some {w:World} {g:Nat} {c:Array Value} {e:TypeId} (h:w.heap[g]? =some (.cells c e (0,0))) {j:Nat} (hj:j<c.size):∃u,w.cell? ⟨g,j,none⟩=some u:=⟨c[j],by rw[af h,Array.getElem?_eq_getElem hj]⟩
def cc (i q x:Nat):Nat:=if x<q then i+1 else i
theorem cc_bump (i q:Nat):bump (cc i q) q (i+1)=cc i (q+1):=by
 funext x;unfold bump cc;by_cases h:x=q
 ·subst h;rw[if_pos rfl,if_pos (by omega)]
 ·rw[if_neg h];by_cases h2:x<q
  ·rw[if_pos h2,if_pos (by omega)]
  ·rw[if_neg h2,if_neg (by omega)]
theorem cc_le (i q:Nat):cc i q q<=i:=by unfold cc;rw[if_neg (Nat.lt_irrefl _)];exact aAa _
theorem AD.up {c':Nat->Nat} (h:AD w av n c E m) (hc:∀q,q<3->c q<=c' q):AD w av n c' E m:=by
 obtain ⟨L,hr,hL⟩:=h.row;exact ⟨⟨L,hr,fun q k h1 h2 h3=>hL q k h1 (aAe (hc q h1) h2) h3⟩,fun q k h1 h2 h3=>h.lst q k h1 (aAe (hc q h1) h2) h3⟩
theorem AD.step (hF:AF s0 s1 av n E m) {i q:Nat} (h:AD w av n (cc i q) E m) (hq:q<3) (hi:i<n) (hb:Below w.heap.size w w1) (hg:w1.grownBy w2 (E q i).ownBlock) {ga:Nat} {cx:Array Value} {x:Value} (ha:av.ownBlock=some ga)
 (hx:w.heap[ga]? =some (.cells cx 49 (0,0))) (x5:cx[i*8+offK q]? =some x) (u:Value):
 w2.cell? ⟨ga,i*8+offK q,none⟩=some x/\w2.frozen? ⟨ga,i*8+offK q,none⟩=false/\AD (w2.setCell ⟨ga,i*8+offK q,none⟩ u) av n (cc i (q+1)) E m/\Mod (InS s0 s1) w (w2.setCell ⟨ga,i*8+offK q,none⟩ u):=by
 obtain ⟨h1,h2,h3⟩:=AD.grow hF h hq (cc_le i q) hi hb hg;rw[cc_bump]at h1;have hh:=h3.heap hx (fun e=>(hF.own q i ga hq hi e).2 ha);have ho:∀z,z<3->offK z<8/\(offK z=offK q->z=q):=fun z hz=>by
  rcases (show z=0\/z=1\/z=2 by omega) with rfl|rfl|rfl<;>rcases (show q=0\/q=1\/q=2 by omega) with rfl|rfl|rfl<;>decide
 refine ⟨(af hh _).trans x5,ai hh _,h1.rows ha (by have:=(ho q hq).1;omega) (fun z k hz hk hkn e=> ?_) u,h2.setCell _ _ (fun _=>hF.fr ga ha)⟩;have a1:=(ho z hz).1;have a2:=(ho q hq).1;have e2:k=i:=by omega
 subst e2;have e3:=(ho z hz).2 (by omega);subst e3;unfold cc at hk;rw[if_pos (by omega)]at hk;omega
theorem AF.first {w0 wr:World} {ms:List RsM} (h:RsO w0 wr av n ms) (hn:n=ms.length) (hb:n<=1048576) (hs1:wr.heap.size<=s1):
 AF w0.heap.size s1 av n (fun q k=>(ms[k]?.map fun m=>if q=0 then m.ev else if q=1 then m.tv else m.rv).getD undef) (fun q k=>(ms[k]?.map fun m=>if q=0 then m.r.endps.length else if q=1 then m.r.targets.length else m.r.rules.length).getD 0)/\
 AD wr av n (cc 0 0) (fun q k=>(ms[k]?.map fun m=>if q=0 then m.ev else if q=1 then m.tv else m.rv).getD undef) (fun q k=>(ms[k]?.map fun m=>if q=0 then m.r.endps.length else if q=1 then m.r.targets.length else m.r.rules.length).getD 0):=by
 have hat:∀k,k<n->∃m,ms[k]? =some m/\ResN wr w0.heap.size m.r m.ev m.tv m.rv/\m∈ms:=fun k hk=>⟨ms[k]'(by omega),aAg _,h.each _ (List.getElem_mem _),List.getElem_mem _⟩;have how:∀q (m:RsM) g,q<3->(if q=0 then m.ev else if q=1 then m.tv else m.rv).ownBlock=some g->m.own g:=fun q m g hq e=>by
  rcases (show q=0\/q=1\/q=2 by omega) with rfl|rfl|rfl
  ·exact .inl e
  ·exact .inr (.inl e)
  ·exact .inr (.inr e)
 have hty:∀q (m:RsM) g,q<3->ResN wr w0.heap.size m.r m.ev m.tv m.rv->(if q=0 then m.ev else if q=1 then m.tv else m.rv).ownBlock=some g->∃c,wr.heap[g]? =some (.cells c (tyK q) (0,0)):=fun q m g hq hm e=>by
  have key:∀{e:TypeId} {sz:Nat} {v:Value} {n:Nat} {xs:List Value},wr.ownsRow 0 e sz v n xs->v.ownBlock=some g->∃c,wr.heap[g]? =some (.cells c e (0,0)):=fun {e sz v n xs} hr hv=>by
   rcases hr.2 with ⟨rfl,_⟩|⟨g',cap,cur,rfl,hb,hh,hc,hm,hs,ht⟩
   ·cases hv
   ·obtain rfl:g'=g:=by simpa[Value.ownBlock] using hv
    exact ⟨cur,hh⟩
  rcases (show q=0\/q=1\/q=2 by omega) with rfl|rfl|rfl
  ·exact key hm.e e
  ·exact key hm.t e
  ·exact key hm.u e
 refine ⟨⟨fun g hg=>⟨h.row.new g hg,Nat.lt_of_lt_of_le (h.row.row.lt g hg).2 hs1⟩,fun q k g hq hk hg=> ?_,fun q k q' k' g hq hq' hk hk' h1 h2=> ?_,hb,fun q k hq hk=> ?_⟩,⟨_,h.row.row,fun q k hq _ hk=> ?_⟩,fun q k hq _ hk=> ?_⟩
 ·obtain ⟨m,hm,hp,hin⟩:=hat k hk;simp only[hm,Option.map_some,Option.getD_some]at hg;have ho:=how q m g hq hg;have:=hp.own_lt ho;exact ⟨⟨this.1,by omega⟩,h.apart m hin g ho⟩
 ·obtain ⟨m,hm,hp,hin⟩:=hat k hk;obtain ⟨m',hm',hp',hin'⟩:=hat k' hk';simp only[hm,hm',Option.map_some,Option.getD_some]at h1 h2;have hkk:k=k':=by
   have ho:=how q m g hq h1;have ho':=how q' m' g hq' h2;have hl:=(aAh hm);have hl':=(aAh hm');obtain ⟨a1,a2⟩:=hl;obtain ⟨b1,b2⟩:=hl';rcases Nat.lt_trichotomy k k' with q|q|q
   ·exact absurd ho' (by rw[<-a2]at ho;rw[<-b2];exact List.pairwise_iff_getElem.1 h.far k k' a1 b1 q g ho)
   ·exact q
   ·exact absurd ho (by rw[<-b2]at ho';rw[<-a2];exact List.pairwise_iff_getElem.1 h.far k' k b1 a1 q g ho')
  subst hkk;refine ⟨?_,rfl⟩;rw[hm]at hm';obtain rfl:=aAf hm';obtain ⟨c1,e1⟩:=hty q m g hq hp h1;obtain ⟨c2,e2⟩:=hty q' m g hq' hp h2;rw[e1]at e2;have e3:tyK q=tyK q':=by injection e2 with e2;injection e2
  rcases (show q=0\/q=1\/q=2 by omega) with rfl|rfl|rfl<;>rcases (show q'=0\/q'=1\/q'=2 by omega) with rfl|rfl|rfl<;>first|rfl|(exact absurd e3 (by decide))
 ·obtain ⟨m,hm,hp,hin⟩:=hat k hk;simp only[hm,Option.map_some,Option.getD_some];have:=hp.le
  split
  ·omega
  ·split<;>omega
 ·obtain ⟨m,hm,hp,hin⟩:=hat k hk;simp only[hm,Option.map_some,Option.getD_some];have key:=gV (sz:=8) (cells:=RsM.cells) (fun _=>rfl) ms k m hm;rcases (show q=0\/q=1\/q=2 by omega) with rfl|rfl|rfl
  ·exact key 2 m.ev rfl
  ·exact key 3 m.tv rfl
  ·exact key 5 m.rv rfl
 ·obtain ⟨m,hm,hp,hin⟩:=hat k hk;simp only[hm,Option.map_some,Option.getD_some];rcases (show q=0\/q=1\/q=2 by omega) with rfl|rfl|rfl
  ·exact ⟨_,hp.e⟩
  ·exact ⟨_,hp.t⟩
  ·exact ⟨_,hp.u⟩
end Go.Proofs.YtfenoaeoedobmaaGreatDoor
namespace Go.Proofs.YtfenoaeoedobmaaGreatDoor
open Go Go.RowKit
section
variable {w:World} {Q:Exit->Act->World->Prop} {a:Act} {dv av bv:Value} {fb i s0 s1 n:Nat} {E:Nat->Nat->Value} {m:Nat->Nat->Nat}
theorem nY {ops:Array Oper} {rest:List Oper} {o:Oper} (T e:TypeId) (z:Value) (size nb:Nat) (hT: Tryz.prog.underlying T=some (.slice e)) (hinf:(Tryz.prog.info? e).map (fun i=>(i.zero,i.size,i.bytes))=some (some z,size,nb)) (hzs:z.cells.size=size) (hsz:0<size) (hnb:nb<=1000)
 (hgd:o.guard=none) (s x:Operand) (ho:o.op= .call {callee:= .builtin .append,args:=#[s,x],argTypes:=#[T,T]})
 (v:Value) (k:Nat) (hs:a.eval s=v) (hown:∃xs,w.ownsRow 0 e size v k xs) (b:Nat) (arr:Array Value) (news:List Value) (hx:a.eval x= .slice (some ⟨b,0,none⟩) 2 2) (hh:w.heap[b]? =some (.cells arr e (0,0))) (harr:arr.toList=news) (hl:news.length=2*size) (hone:∀u∈news,u.oneCell'=true) (hk:k<=2000000)
 (h:∀ao' c' w',w.grownBy w' v.ownBlock->wpList Tryz.prog ops Q rest (a.put o.dst (.slice ao' (k+2) c')) w'):wpList Tryz.prog ops Q (o::rest) a w:=by
 obtain ⟨xs,hown⟩:=hown;refine dH hgd s x T ho e z size nb hT hinf hzs hsz v k xs hs hown _ 2 2 news hx hl nofun (fun ad had j u hj=> ?_) hone (by unfold maxLen;omega) ?_ (k+2) rfl (fun ao' c' w' _ gr _=>h ao' c' w' gr)
 ·obtain rfl:=aAf had;have e:Addr.add ⟨b,0,none⟩ j=⟨b,j,none⟩:=by
   simp[Addr.add];exact fun h=>h.symm
  rw[e,af hh];rw[<-harr]at hj
  simpa using hj
 ·exact aAe (Nat.mul_le_mul (show k+2<=2000002 by omega) hnb) (by decide)
theorem KE (X:Code) (hF:AF s0 s1 av n E m) (hD:AD w av n (cc i 0) E m) (hi:i<n) (hf:OwJ a dv av fb bv i)
 (ok:∀a' w',OwJ a' dv av fb bv i->AD w' av n (cc i 0) E m->Mod (InS s0 s1) w w'->X.wp Tryz.prog Q a' w'):(Code.seq IT X).wp Tryz.prog Q a w:=by
 obtain ⟨ax,cap0,rfl⟩:=hD.form;have Hok:=hid ok;have HF:=hid hF;have HD:=hid hD;have Hi:=hid hi;have bi:(i:Int)<(n:Int):=by omega
 obtain ⟨M,hM⟩:=ex (m 0 i);have HM:=hid hM;have Hl:=hid (show M<=1000 from by rw[hM];exact hF.len.2 0 i (by decide) hi);have hsf:∀(W:World) (a:Addr) (r:Nat),(store a (.float .f64 r)).run Tryz.prog W=stored Tryz.prog W a (.float .f64 r) .plain:=fun W a r=>run_store _ W a _ _ rfl;obtain ⟨vv,rfl,eE⟩:=hf.shape;simp only[ik,eE];clear eE;clear hf ok hF hD hi hM;dsimp only[IT,c8,ncb,ncl,nco,ncr,ncx,Tryz.f7]
 go_wp2
 go_loopw [15] (fun vk wr=>∃k:Nat,vk= .int .i64 (k:Int)/\Hid (k<=M/\AD wr (.slice ax n cap0) n (cc i 0) E m/\Mod (InS s0 s1) w wr)) (fun vk _=>M-(intOf vk).toNat)
 case atStart=>exact ⟨0,rfl,hid ⟨Nat.zero_le _,HD.o,Mod.refl _ _⟩⟩
 case round=>
  clear HD;obtain ⟨k,rfl,H⟩:=hrel;obtain ⟨ga,cap,cx,a2,cp,e1,e2,hx,hsz,x5,e3,_,hat⟩:=H.o.2.1.at (q:=0) (k:=i) (by decide) (aAa _) Hi.o;rw[<-HM.o]at e3 hat;injection e1 with e1 _ e4
  subst e1;subst e4;have c5:wr.cell? ⟨ga,i*8+2,none⟩=_:=af hx (i*8+2);rw[show cx[i*8+2]? =some (E 0 i) from x5,e3]at c5;by_cases hk:k<M
  ·have tk:decide (k<M)=true:=dT hk;have bk:(k:Int)<(M:Int):=by omega
   obtain ⟨Hms,Hgo⟩:=aM (k:=k) (n:=M) hk (by have:=Hl.o;omega);have HE:Hid (∃g2,a2=some ⟨g2,0,none⟩/\(∃(c2:Array Value),wr.heap[g2]? =some (.cells c2 9 (0,0))/\M*1<=c2.size)/\k+1<=M/\AD (wr.setCell ⟨g2,k,none⟩ (.string ⟨#[115,112,111,105,108,116]⟩)) (.slice (some ⟨ga,0,none⟩) n cap0) n (cc i 0) E m/\Mod (InS s0 s1) w (wr.setCell ⟨g2,k,none⟩ (.string ⟨#[115,112,111,105,108,116]⟩))):=hid (by
    obtain ⟨g2,c2,h1,hg2,h2,hs2⟩:=hat (by omega);obtain ⟨hin,hav⟩:=HF.o.own 0 i g2 (by decide) Hi.o hg2;have a1:AD (wr.setCell ⟨g2,k,none⟩ (.string ⟨#[115,112,111,105,108,116]⟩)) _ n (cc i 0) E m:=H.o.2.1.set hav (k) (.string ⟨#[115,112,111,105,108,116]⟩);have b1:Mod (InS s0 s1) w (wr.setCell ⟨g2,k,none⟩ (.string ⟨#[115,112,111,105,108,116]⟩)):=H.o.2.2.setCell _ _ (fun _=>hin);exact ⟨g2,h1,⟨c2,h2,hs2⟩,hk,a1,b1⟩)
   obtain ⟨g2,h1,⟨c2,h2,hs2⟩,hE⟩:=HE.o;subst h1;obtain ⟨u0,d0⟩:=cell_some h2 (j:=k) (by omega);have f0:=ai h2 (k);have HE2:=hid hE;clear H hk e2 hx hsz x5 e3 hat HE h2 hs2 hE;go_wp2;exact ⟨⟨k+1,Hgo.o,HE2⟩,Hms.o⟩
  ·have tk:decide (k<M)=false:=dF hk;have HE:=hid H.o.2;clear H hk e2 hx hsz x5 e3 hat;go_wp2;exact Hok.o _ _ ⟨rfl,rfl,rfl,rfl,rfl,rfl,rfl⟩ HE.o.1 HE.o.2
theorem KD (X:Code) (hF:AF s0 s1 av n E m) (hD:AD w av n (cc i 0) E m) (hi:i<n) (hf:OwJ a dv av fb bv i)
 (ok:∀a' w',OwJ a' dv av fb bv i->AD w' av n (cc i 0) E m->Mod (InS s0 s1) w w'->X.wp Tryz.prog Q a' w'):(Code.seq IS X).wp Tryz.prog Q a w:=by
 obtain ⟨ax,cap0,rfl⟩:=hD.form;have Hok:=hid ok;have HF:=hid hF;have HD:=hid hD;have Hi:=hid hi;have bi:(i:Int)<(n:Int):=by omega
 obtain ⟨M,hM⟩:=ex (m 1 i);have HM:=hid hM;have Hl:=hid (show M<=1000 from by rw[hM];exact hF.len.2 1 i (by decide) hi);have hsf:∀(W:World) (a:Addr) (r:Nat),(store a (.float .f64 r)).run Tryz.prog W=stored Tryz.prog W a (.float .f64 r) .plain:=fun W a r=>run_store _ W a _ _ rfl;obtain ⟨vv,rfl,eE⟩:=hf.shape;simp only[ik,eE];clear eE;clear hf ok hF hD hi hM;dsimp only[IS,c8,ncb,ncl,nco,ncr,ncx,Tryz.f7]
 go_wp2
 go_loopw [16] (fun vk wr=>∃k:Nat,vk= .int .i64 (k:Int)/\Hid (k<=M/\AD wr (.slice ax n cap0) n (cc i 0) E m/\Mod (InS s0 s1) w wr)) (fun vk _=>M-(intOf vk).toNat)
 case atStart=>exact ⟨0,rfl,hid ⟨Nat.zero_le _,HD.o,Mod.refl _ _⟩⟩
 case round=>
  clear HD;obtain ⟨k,rfl,H⟩:=hrel;obtain ⟨ga,cap,cx,a2,cp,e1,e2,hx,hsz,x5,e3,_,hat⟩:=H.o.2.1.at (q:=1) (k:=i) (by decide) (aAa _) Hi.o;rw[<-HM.o]at e3 hat;injection e1 with e1 _ e4
  subst e1;subst e4;have c5:wr.cell? ⟨ga,i*8+3,none⟩=_:=af hx (i*8+3);rw[show cx[i*8+3]? =some (E 1 i) from x5,e3]at c5;by_cases hk:k<M
  ·have tk:decide (k<M)=true:=dT hk;have bk:(k:Int)<(M:Int):=by omega
   obtain ⟨Hms,Hgo⟩:=aM (k:=k) (n:=M) hk (by have:=Hl.o;omega);have HE:Hid (∃g2,a2=some ⟨g2,0,none⟩/\(∃(c2:Array Value),wr.heap[g2]? =some (.cells c2 58 (0,0))/\M*3<=c2.size)/\k+1<=M/\AD (((wr.setCell ⟨g2,k*3,none⟩ (.string ⟨#[115,112,111,105,108,116]⟩)).setCell ⟨g2,k*3+1,none⟩ (.string ⟨#[]⟩)).setCell ⟨g2,k*3+2,none⟩ (.float .f64 0)) (.slice (some ⟨ga,0,none⟩) n cap0) n (cc i 0) E m/\Mod (InS s0 s1) w (((wr.setCell ⟨g2,k*3,none⟩ (.string ⟨#[115,112,111,105,108,116]⟩)).setCell ⟨g2,k*3+1,none⟩ (.string ⟨#[]⟩)).setCell ⟨g2,k*3+2,none⟩ (.float .f64 0))):=hid (by
    obtain ⟨g2,c2,h1,hg2,h2,hs2⟩:=hat (by omega);obtain ⟨hin,hav⟩:=HF.o.own 1 i g2 (by decide) Hi.o hg2;have a1:AD (wr.setCell ⟨g2,k*3,none⟩ (.string ⟨#[115,112,111,105,108,116]⟩)) _ n (cc i 0) E m:=H.o.2.1.set hav (k*3) (.string ⟨#[115,112,111,105,108,116]⟩);have b1:Mod (InS s0 s1) w (wr.setCell ⟨g2,k*3,none⟩ (.string ⟨#[115,112,111,105,108,116]⟩)):=H.o.2.2.setCell _ _ (fun _=>hin);have a2:AD ((wr.setCell ⟨g2,k*3,none⟩ (.string ⟨#[115,112,111,105,108,116]⟩)).setCell ⟨g2,k*3+1,none⟩ (.string ⟨#[]⟩)) _ n (cc i 0) E m:=a1.set hav (k*3+1) (.string ⟨#[]⟩)
    have b2:Mod (InS s0 s1) w ((wr.setCell ⟨g2,k*3,none⟩ (.string ⟨#[115,112,111,105,108,116]⟩)).setCell ⟨g2,k*3+1,none⟩ (.string ⟨#[]⟩)):=b1.setCell _ _ (fun _=>hin);have a3:AD (((wr.setCell ⟨g2,k*3,none⟩ (.string ⟨#[115,112,111,105,108,116]⟩)).setCell ⟨g2,k*3+1,none⟩ (.string ⟨#[]⟩)).setCell ⟨g2,k*3+2,none⟩ (.float .f64 0)) _ n (cc i 0) E m:=a2.set hav (k*3+2) (.float .f64 0);have b3:Mod (InS s0 s1) w (((wr.setCell ⟨g2,k*3,none⟩ (.string ⟨#[115,112,111,105,108,116]⟩)).setCell ⟨g2,k*3+1,none⟩ (.string ⟨#[]⟩)).setCell ⟨g2,k*3+2,none⟩ (.float .f64 0)):=b2.setCell _ _ (fun _=>hin)
    exact ⟨g2,h1,⟨c2,h2,hs2⟩,hk,a3,b3⟩)
   obtain ⟨g2,h1,⟨c2,h2,hs2⟩,hE⟩:=HE.o;subst h1;obtain ⟨u0,d0⟩:=cell_some h2 (j:=k*3) (by omega);have f0:=ai h2 (k*3);obtain ⟨u1,d1⟩:=cell_some h2 (j:=k*3+1) (by omega);have f1:=ai h2 (k*3+1);obtain ⟨u2,d2⟩:=cell_some h2 (j:=k*3+2) (by omega);have f2:=ai h2 (k*3+2);have HE2:=hid hE;clear H hk e2 hx hsz x5 e3 hat HE h2 hs2 hE;go_wp2;exact ⟨⟨k+1,Hgo.o,HE2⟩,Hms.o⟩
  ·have tk:decide (k<M)=false:=dF hk;have HE:=hid H.o.2;clear H hk e2 hx hsz x5 e3 hat;go_wp2;exact Hok.o _ _ ⟨rfl,rfl,rfl,rfl,rfl,rfl,rfl⟩ HE.o.1 HE.o.2
theorem KC (X:Code) (hF:AF s0 s1 av n E m) (hD:AD w av n (cc i 0) E m) (hi:i<n) (hf:OwJ a dv av fb bv i)
 (ok:∀a' w',OwJ a' dv av fb bv i->AD w' av n (cc i 0) E m->Mod (InS s0 s1) w w'->X.wp Tryz.prog Q a' w'):(Code.seq IQ X).wp Tryz.prog Q a w:=by
 obtain ⟨ax,cap0,rfl⟩:=hD.form;have Hok:=hid ok;have HF:=hid hF;have HD:=hid hD;have Hi:=hid hi;have bi:(i:Int)<(n:Int):=by omega
 obtain ⟨M,hM⟩:=ex (m 2 i);have HM:=hid hM;have Hl:=hid (show M<=1000 from by rw[hM];exact hF.len.2 2 i (by decide) hi);have hsf:∀(W:World) (a:Addr) (r:Nat),(store a (.float .f64 r)).run Tryz.prog W=stored Tryz.prog W a (.float .f64 r) .plain:=fun W a r=>run_store _ W a _ _ rfl;obtain ⟨vv,rfl,eE⟩:=hf.shape;simp only[ik,eE];clear eE;clear hf ok hF hD hi hM;dsimp only[IQ,fE,c8,ncb,ncl,nco,ncr,ncx,Tryz.f7]
 go_wp2
 go_loopw [17] (fun vk wr=>∃k:Nat,vk= .int .i64 (k:Int)/\Hid (k<=M/\AD wr (.slice ax n cap0) n (cc i 0) E m/\Mod (InS s0 s1) w wr)) (fun vk _=>M-(intOf vk).toNat)
 case atStart=>exact ⟨0,rfl,hid ⟨Nat.zero_le _,HD.o,Mod.refl _ _⟩⟩
 case round=>
  clear HD;obtain ⟨k,rfl,H⟩:=hrel;obtain ⟨ga,cap,cx,a2,cp,e1,e2,hx,hsz,x5,e3,_,hat⟩:=H.o.2.1.at (q:=2) (k:=i) (by decide) (aAa _) Hi.o;rw[<-HM.o]at e3 hat;injection e1 with e1 _ e4
  subst e1;subst e4;have c5:wr.cell? ⟨ga,i*8+5,none⟩=_:=af hx (i*8+5);rw[show cx[i*8+5]? =some (E 2 i) from x5,e3]at c5;by_cases hk:k<M
  ·have tk:decide (k<M)=true:=dT hk;have bk:(k:Int)<(M:Int):=by omega
   obtain ⟨Hms,Hgo⟩:=aM (k:=k) (n:=M) hk (by have:=Hl.o;omega);have HE:Hid (∃g2,a2=some ⟨g2,0,none⟩/\(∃(c2:Array Value),wr.heap[g2]? =some (.cells c2 60 (0,0))/\M*4<=c2.size)/\k+1<=M/\AD ((((wr.setCell ⟨g2,k*4,none⟩ (.string ⟨#[115,112,111,105,108,116]⟩)).setCell ⟨g2,k*4+1,none⟩ (.string ⟨#[]⟩)).setCell ⟨g2,k*4+2,none⟩ (.string ⟨#[]⟩)).setCell ⟨g2,k*4+3,none⟩ (.bool false)) (.slice (some ⟨ga,0,none⟩) n cap0) n (cc i 0) E m/\Mod (InS s0 s1) w ((((wr.setCell ⟨g2,k*4,none⟩ (.string ⟨#[115,112,111,105,108,116]⟩)).setCell ⟨g2,k*4+1,none⟩ (.string ⟨#[]⟩)).setCell ⟨g2,k*4+2,none⟩ (.string ⟨#[]⟩)).setCell ⟨g2,k*4+3,none⟩ (.bool false))):=hid (by
    obtain ⟨g2,c2,h1,hg2,h2,hs2⟩:=hat (by omega);obtain ⟨hin,hav⟩:=HF.o.own 2 i g2 (by decide) Hi.o hg2;have a1:AD (wr.setCell ⟨g2,k*4,none⟩ (.string ⟨#[115,112,111,105,108,116]⟩)) _ n (cc i 0) E m:=H.o.2.1.set hav (k*4) (.string ⟨#[115,112,111,105,108,116]⟩);have b1:Mod (InS s0 s1) w (wr.setCell ⟨g2,k*4,none⟩ (.string ⟨#[115,112,111,105,108,116]⟩)):=H.o.2.2.setCell _ _ (fun _=>hin);have a2:AD ((wr.setCell ⟨g2,k*4,none⟩ (.string ⟨#[115,112,111,105,108,116]⟩)).setCell ⟨g2,k*4+1,none⟩ (.string ⟨#[]⟩)) _ n (cc i 0) E m:=a1.set hav (k*4+1) (.string ⟨#[]⟩)
    have b2:Mod (InS s0 s1) w ((wr.setCell ⟨g2,k*4,none⟩ (.string ⟨#[115,112,111,105,108,116]⟩)).setCell ⟨g2,k*4+1,none⟩ (.string ⟨#[]⟩)):=b1.setCell _ _ (fun _=>hin);have a3:AD (((wr.setCell ⟨g2,k*4,none⟩ (.string ⟨#[115,112,111,105,108,116]⟩)).setCell ⟨g2,k*4+1,none⟩ (.string ⟨#[]⟩)).setCell ⟨g2,k*4+2,none⟩ (.string ⟨#[]⟩)) _ n (cc i 0) E m:=a2.set hav (k*4+2) (.string ⟨#[]⟩);have b3:Mod (InS s0 s1) w (((wr.setCell ⟨g2,k*4,none⟩ (.string ⟨#[115,112,111,105,108,116]⟩)).setCell ⟨g2,k*4+1,none⟩ (.string ⟨#[]⟩)).setCell ⟨g2,k*4+2,none⟩ (.string ⟨#[]⟩)):=b2.setCell _ _ (fun _=>hin)
    have a4:AD ((((wr.setCell ⟨g2,k*4,none⟩ (.string ⟨#[115,112,111,105,108,116]⟩)).setCell ⟨g2,k*4+1,none⟩ (.string ⟨#[]⟩)).setCell ⟨g2,k*4+2,none⟩ (.string ⟨#[]⟩)).setCell ⟨g2,k*4+3,none⟩ (.bool false)) _ n (cc i 0) E m:=a3.set hav (k*4+3) (.bool false);have b4:Mod (InS s0 s1) w ((((wr.setCell ⟨g2,k*4,none⟩ (.string ⟨#[115,112,111,105,108,116]⟩)).setCell ⟨g2,k*4+1,none⟩ (.string ⟨#[]⟩)).setCell ⟨g2,k*4+2,none⟩ (.string ⟨#[]⟩)).setCell ⟨g2,k*4+3,none⟩ (.bool false)):=b3.setCell _ _ (fun _=>hin)
    exact ⟨g2,h1,⟨c2,h2,hs2⟩,hk,a4,b4⟩)
   obtain ⟨g2,h1,⟨c2,h2,hs2⟩,hE⟩:=HE.o;subst h1;obtain ⟨u0,d0⟩:=cell_some h2 (j:=k*4) (by omega);have f0:=ai h2 (k*4);obtain ⟨u1,d1⟩:=cell_some h2 (j:=k*4+1) (by omega);have f1:=ai h2 (k*4+1);obtain ⟨u2,d2⟩:=cell_some h2 (j:=k*4+2) (by omega);have f2:=ai h2 (k*4+2);obtain ⟨u3,d3⟩:=cell_some h2 (j:=k*4+3) (by omega);have f3:=ai h2 (k*4+3);have HE2:=hid hE;clear H hk e2 hx hsz x5 e3 hat HE h2 hs2 hE
   go_wp2;exact ⟨⟨k+1,Hgo.o,HE2⟩,Hms.o⟩
  ·have tk:decide (k<M)=false:=dF hk;have HE:=hid H.o.2;clear H hk e2 hx hsz x5 e3 hat;go_wp2;exact Hok.o _ _ ⟨rfl,rfl,rfl,rfl,rfl,rfl,rfl⟩ HE.o.1 HE.o.2
theorem KB (X:Code) (hF:AF s0 s1 av n E m) (hD:AD w av n (cc i 0) E m) (hi:i<n) (hf:OwJ a dv av fb bv i)
 (ok:∀a' w',OwJ a' dv av fb bv i->AD w' av n (cc i 1) E m->Mod (InS s0 s1) w w'->X.wp Tryz.prog Q a' w'):(Code.seq IP X).wp Tryz.prog Q a w:=by
 obtain ⟨ga,cap,cx,a2,cp,rfl,e2,hx,hsz,x5,e3,_,_⟩:=hD.at (q:=0) (k:=i) (by decide) (cc_le _ _) hi;obtain ⟨M,hM⟩:=ex (m 0 i);rw[<-hM]at e3;have Hok:=hid ok;have bi:(i:Int)<(n:Int):=by omega
 have c5:w.cell? ⟨ga,i*8+2,none⟩=_:=af hx (i*8+2);rw[show cx[i*8+2]? =some (E 0 i) from x5,e3]at c5;have hb1:Below w.heap.size w (w.alloc (.cells #[.string ⟨#[109,111,114,101]⟩,.string ⟨#[109,111,114,101]⟩] 9)):=(aAb _ _).alloc (aAa _) _;have Hown:Hid (∃xs,(w.alloc (.cells #[.string ⟨#[109,111,114,101]⟩,.string ⟨#[109,111,114,101]⟩] 9)).ownsRow 0 9 1 (.slice a2 M cp) M xs):=hid (by
  obtain ⟨xs,hxs⟩:=hD.lst 0 i (by decide) (cc_le _ _) hi;rw[e3,<-hM]at hxs;exact ⟨xs,aG hxs (bh hb1) (fun _ _ q=>q)⟩)
 have Hnew:=hid (ah (w:=w) (.cells #[.string ⟨#[109,111,114,101]⟩,.string ⟨#[109,111,114,101]⟩] 9));have Hl:=hid (show M<=2000000 from by rw[hM];exact aAe (hF.len.2 0 i (by decide) hi) (by decide));have Hnx:=hid (fun w2 (gr:(w.alloc (.cells #[.string ⟨#[109,111,114,101]⟩,.string ⟨#[109,111,114,101]⟩] 9)).grownBy w2 (Value.slice a2 M cp).ownBlock) u=>AD.step hF hD (by decide) hi hb1 (by rw[e3];exact gr) e2 hx x5 u)
 have Hone:=hid (show ∀u∈([.string ⟨#[109,111,114,101]⟩,.string ⟨#[109,111,114,101]⟩]:List Value),u.oneCell'=true from by decide);obtain ⟨vv,rfl,eE⟩:=hf.shape;simp only[ik,eE];clear eE;clear hf ok hF hD hi hM e2 hx hsz x5 e3 hb1;dsimp only[IP,fE,c8,ncb,ncl,nco,ncr,ncx,Tryz.f7]
 go_wp2_with (at_builtin;refine nY 45 9 (.string ⟨#[]⟩) 1 16 Tryz.underlying45 kV rfl (by decide) (by decide) rfl (.tmp 205) (.tmp 206) rfl _ M rfl Hown.o _ _ _ rfl Hnew.o rfl rfl Hone.o Hl.o ?_;intro ao4 c4 w2 gr2;obtain ⟨z1,z2,z3,z4⟩:=Hnx.o w2 gr2 (.slice ao4 (M+2) c4);have z1:w2.cell? ⟨ga,i*8+2,none⟩=_:=z1;have z2:w2.frozen? ⟨ga,i*8+2,none⟩=_:=z2;have HE:=hid (And.intro z3 z4);clear gr2 z3 z4)
 exact Hok.o _ _ ⟨rfl,rfl,rfl,rfl,rfl,rfl,rfl⟩ HE.o.1 HE.o.2
theorem KA (X:Code) (hF:AF s0 s1 av n E m) (hD:AD w av n (cc i 1) E m) (hi:i<n) (hf:OwJ a dv av fb bv i)
 (ok:∀a' w',OwJ a' dv av fb bv i->AD w' av n (cc i 2) E m->Mod (InS s0 s1) w w'->X.wp Tryz.prog Q a' w'):(Code.seq IN X).wp Tryz.prog Q a w:=by
 obtain ⟨ga,cap,cx,a2,cp,rfl,e2,hx,hsz,x5,e3,_,_⟩:=hD.at (q:=1) (k:=i) (by decide) (cc_le _ _) hi;obtain ⟨M,hM⟩:=ex (m 1 i);rw[<-hM]at e3;have Hok:=hid ok;have bi:(i:Int)<(n:Int):=by omega
 have c5:w.cell? ⟨ga,i*8+3,none⟩=_:=af hx (i*8+3);rw[show cx[i*8+3]? =some (E 1 i) from x5,e3]at c5;have hb1:Below w.heap.size w (w.alloc (.cells #[.string ⟨#[]⟩,.string ⟨#[]⟩,.float .f64 0,.string ⟨#[]⟩,.string ⟨#[]⟩,.float .f64 0] 58)):=(aAb _ _).alloc (aAa _) _;have Hown:Hid (∃xs,(w.alloc (.cells #[.string ⟨#[]⟩,.string ⟨#[]⟩,.float .f64 0,.string ⟨#[]⟩,.string ⟨#[]⟩,.float .f64 0] 58)).ownsRow 0 58 3 (.slice a2 M cp) M xs):=hid (by
  obtain ⟨xs,hxs⟩:=hD.lst 1 i (by decide) (cc_le _ _) hi;rw[e3,<-hM]at hxs;exact ⟨xs,aG hxs (bh hb1) (fun _ _ q=>q)⟩)
 have Hnew:=hid (ah (w:=w) (.cells #[.string ⟨#[]⟩,.string ⟨#[]⟩,.float .f64 0,.string ⟨#[]⟩,.string ⟨#[]⟩,.float .f64 0] 58));have Hl:=hid (show M<=2000000 from by rw[hM];exact aAe (hF.len.2 1 i (by decide) hi) (by decide));have Hnx:=hid (fun w2 (gr:(w.alloc (.cells #[.string ⟨#[]⟩,.string ⟨#[]⟩,.float .f64 0,.string ⟨#[]⟩,.string ⟨#[]⟩,.float .f64 0] 58)).grownBy w2 (Value.slice a2 M cp).ownBlock) u=>AD.step hF hD (by decide) hi hb1 (by rw[e3];exact gr) e2 hx x5 u)
 have Hone:=hid (show ∀u∈([.string ⟨#[]⟩,.string ⟨#[]⟩,.float .f64 0,.string ⟨#[]⟩,.string ⟨#[]⟩,.float .f64 0]:List Value),u.oneCell'=true from by decide);obtain ⟨vv,rfl,eE⟩:=hf.shape;simp only[ik,eE];clear eE;clear hf ok hF hD hi hM e2 hx hsz x5 e3 hb1;dsimp only[IN,fE,c8,ncb,ncl,nco,ncr,ncx,Tryz.f7]
 go_wp2_with (at_builtin;refine nY 46 58 (.agg #[.string ⟨#[]⟩,.string ⟨#[]⟩,.float .f64 0]) 3 40 Tryz.underlying46 sR rfl (by decide) (by decide) rfl (.tmp 216) (.tmp 219) rfl _ M rfl Hown.o _ _ _ rfl Hnew.o rfl rfl Hone.o Hl.o ?_;intro ao4 c4 w2 gr2;obtain ⟨z1,z2,z3,z4⟩:=Hnx.o w2 gr2 (.slice ao4 (M+2) c4);have z1:w2.cell? ⟨ga,i*8+3,none⟩=_:=z1;have z2:w2.frozen? ⟨ga,i*8+3,none⟩=_:=z2;have HE:=hid (And.intro z3 z4);clear gr2 z3 z4)
 exact Hok.o _ _ ⟨rfl,rfl,rfl,rfl,rfl,rfl,rfl⟩ HE.o.1 HE.o.2
theorem Kz (X:Code) (hF:AF s0 s1 av n E m) (hD:AD w av n (cc i 2) E m) (hi:i<n) (hf:OwJ a dv av fb bv i)
 (ok:∀a' w',OwJ a' dv av fb bv i->AD w' av n (cc i 3) E m->Mod (InS s0 s1) w w'->X.wp Tryz.prog Q a' w'):(Code.seq IM X).wp Tryz.prog Q a w:=by
 obtain ⟨ga,cap,cx,a2,cp,rfl,e2,hx,hsz,x5,e3,_,_⟩:=hD.at (q:=2) (k:=i) (by decide) (cc_le _ _) hi;obtain ⟨M,hM⟩:=ex (m 2 i);rw[<-hM]at e3;have Hok:=hid ok;have bi:(i:Int)<(n:Int):=by omega
 have c5:w.cell? ⟨ga,i*8+5,none⟩=_:=af hx (i*8+5);rw[show cx[i*8+5]? =some (E 2 i) from x5,e3]at c5;have hb1:Below w.heap.size w (w.alloc (.cells #[.string ⟨#[]⟩,.string ⟨#[]⟩,.string ⟨#[]⟩,.bool false,.string ⟨#[]⟩,.string ⟨#[]⟩,.string ⟨#[]⟩,.bool false] 60)):=(aAb _ _).alloc (aAa _) _;have Hown:Hid (∃xs,(w.alloc (.cells #[.string ⟨#[]⟩,.string ⟨#[]⟩,.string ⟨#[]⟩,.bool false,.string ⟨#[]⟩,.string ⟨#[]⟩,.string ⟨#[]⟩,.bool false] 60)).ownsRow 0 60 4 (.slice a2 M cp) M xs):=hid (by
  obtain ⟨xs,hxs⟩:=hD.lst 2 i (by decide) (cc_le _ _) hi;rw[e3,<-hM]at hxs;exact ⟨xs,aG hxs (bh hb1) (fun _ _ q=>q)⟩)
 have Hnew:=hid (ah (w:=w) (.cells #[.string ⟨#[]⟩,.string ⟨#[]⟩,.string ⟨#[]⟩,.bool false,.string ⟨#[]⟩,.string ⟨#[]⟩,.string ⟨#[]⟩,.bool false] 60));have Hl:=hid (show M<=2000000 from by rw[hM];exact aAe (hF.len.2 2 i (by decide) hi) (by decide));have Hnx:=hid (fun w2 (gr:(w.alloc (.cells #[.string ⟨#[]⟩,.string ⟨#[]⟩,.string ⟨#[]⟩,.bool false,.string ⟨#[]⟩,.string ⟨#[]⟩,.string ⟨#[]⟩,.bool false] 60)).grownBy w2 (Value.slice a2 M cp).ownBlock) u=>AD.step hF hD (by decide) hi hb1 (by rw[e3];exact gr) e2 hx x5 u)
 have Hone:=hid (show ∀u∈([.string ⟨#[]⟩,.string ⟨#[]⟩,.string ⟨#[]⟩,.bool false,.string ⟨#[]⟩,.string ⟨#[]⟩,.string ⟨#[]⟩,.bool false]:List Value),u.oneCell'=true from by decide);obtain ⟨vv,rfl,eE⟩:=hf.shape;simp only[ik,eE];clear eE;clear hf ok hF hD hi hM e2 hx hsz x5 e3 hb1;dsimp only[IM,fE,c8,ncb,ncl,nco,ncr,ncx,Tryz.f7]
 go_wp2_with (at_builtin;refine nY 47 60 (.agg #[.string ⟨#[]⟩,.string ⟨#[]⟩,.string ⟨#[]⟩,.bool false]) 4 56 Tryz.underlying47 tu rfl (by decide) (by decide) rfl (.tmp 229) (.tmp 232) rfl _ M rfl Hown.o _ _ _ rfl Hnew.o rfl rfl Hone.o Hl.o ?_;intro ao4 c4 w2 gr2;obtain ⟨z1,z2,z3,z4⟩:=Hnx.o w2 gr2 (.slice ao4 (M+2) c4);have z1:w2.cell? ⟨ga,i*8+5,none⟩=_:=z1;have z2:w2.frozen? ⟨ga,i*8+5,none⟩=_:=z2;have HE:=hid (And.intro z3 z4);clear gr2 z3 z4)
 exact Hok.o _ _ ⟨rfl,rfl,rfl,rfl,rfl,rfl,rfl⟩ HE.o.1 HE.o.2
theorem Ky (hF:AF s0 s1 av n E m) (hD:AD w av n (cc i 3) E m) {ga cap:Nat} {cx:Array Value} (e1:av= .slice (some ⟨ga,0,none⟩) n cap) (hx:w.heap[ga]? =some (.cells cx 49 (0,0))) (hsz:n*8<=cx.size) (hi:i<n) (hf:OwJ a dv av fb bv i)
 (ok:∀a' w',OwJ a' dv av fb bv i->AD w' av n (cc (i+1) 0) E m->Mod (InS s0 s1) w w'->Q .normal a' w'):IL.wp Tryz.prog Q a w:=by
 subst e1;have Hok:=hid ok;have bi:(i:Int)<(n:Int):=by omega
 have e2:(Value.slice (some ⟨ga,0,none⟩) n cap).ownBlock=some ga:=rfl;have hin:=hF.fr ga e2;have hne:∀j,j<8->∀q k,q<3->cc i 3 q<=k->k<n->i*8+j≠k*8+offK q:=fun j hj q k hq hk hkn e=>by
  unfold cc at hk;rw[if_pos hq]at hk;have:2<=offK q:=by unfold offK;split;omega;split<;>omega
  omega
 have a1:AD (w.setCell ⟨ga,i*8,none⟩ (.int .i64 0)) _ n (cc i 3) E m:=hD.rows e2 (j:=i*8) (by omega) (hne 0 (by decide)) (.int .i64 0);have b1:Mod (InS s0 s1) w (w.setCell ⟨ga,i*8,none⟩ (.int .i64 0)):=(Mod.refl (InS s0 s1) w).setCell _ _ (fun _=>hin);have a2:AD ((w.setCell ⟨ga,i*8,none⟩ (.int .i64 0)).setCell ⟨ga,i*8+1,none⟩ (.string ⟨#[]⟩)) _ n (cc i 3) E m:=a1.rows e2 (j:=i*8+1) (by omega) (hne 1 (by decide)) (.string ⟨#[]⟩)
 have b2:Mod (InS s0 s1) w ((w.setCell ⟨ga,i*8,none⟩ (.int .i64 0)).setCell ⟨ga,i*8+1,none⟩ (.string ⟨#[]⟩)):=b1.setCell _ _ (fun _=>hin);have a3:AD (((w.setCell ⟨ga,i*8,none⟩ (.int .i64 0)).setCell ⟨ga,i*8+1,none⟩ (.string ⟨#[]⟩)).setCell ⟨ga,i*8+2,none⟩ (.slice none 0 0)) _ n (cc i 3) E m:=a2.rows e2 (j:=i*8+2) (by omega) (hne 2 (by decide)) (.slice none 0 0);have b3:Mod (InS s0 s1) w (((w.setCell ⟨ga,i*8,none⟩ (.int .i64 0)).setCell ⟨ga,i*8+1,none⟩ (.string ⟨#[]⟩)).setCell ⟨ga,i*8+2,none⟩ (.slice none 0 0)):=b2.setCell _ _ (fun _=>hin)
 have a4:AD ((((w.setCell ⟨ga,i*8,none⟩ (.int .i64 0)).setCell ⟨ga,i*8+1,none⟩ (.string ⟨#[]⟩)).setCell ⟨ga,i*8+2,none⟩ (.slice none 0 0)).setCell ⟨ga,i*8+3,none⟩ (.slice none 0 0)) _ n (cc i 3) E m:=a3.rows e2 (j:=i*8+3) (by omega) (hne 3 (by decide)) (.slice none 0 0);have b4:Mod (InS s0 s1) w ((((w.setCell ⟨ga,i*8,none⟩ (.int .i64 0)).setCell ⟨ga,i*8+1,none⟩ (.string ⟨#[]⟩)).setCell ⟨ga,i*8+2,none⟩ (.slice none 0 0)).setCell ⟨ga,i*8+3,none⟩ (.slice none 0 0)):=b3.setCell _ _ (fun _=>hin)
 have a5:AD (((((w.setCell ⟨ga,i*8,none⟩ (.int .i64 0)).setCell ⟨ga,i*8+1,none⟩ (.string ⟨#[]⟩)).setCell ⟨ga,i*8+2,none⟩ (.slice none 0 0)).setCell ⟨ga,i*8+3,none⟩ (.slice none 0 0)).setCell ⟨ga,i*8+4,none⟩ (.string ⟨#[]⟩)) _ n (cc i 3) E m:=a4.rows e2 (j:=i*8+4) (by omega) (hne 4 (by decide)) (.string ⟨#[]⟩);have b5:Mod (InS s0 s1) w (((((w.setCell ⟨ga,i*8,none⟩ (.int .i64 0)).setCell ⟨ga,i*8+1,none⟩ (.string ⟨#[]⟩)).setCell ⟨ga,i*8+2,none⟩ (.slice none 0 0)).setCell ⟨ga,i*8+3,none⟩ (.slice none 0 0)).setCell ⟨ga,i*8+4,none⟩ (.string ⟨#[]⟩)):=b4.setCell _ _ (fun _=>hin)
 have a6:AD ((((((w.setCell ⟨ga,i*8,none⟩ (.int .i64 0)).setCell ⟨ga,i*8+1,none⟩ (.string ⟨#[]⟩)).setCell ⟨ga,i*8+2,none⟩ (.slice none 0 0)).setCell ⟨ga,i*8+3,none⟩ (.slice none 0 0)).setCell ⟨ga,i*8+4,none⟩ (.string ⟨#[]⟩)).setCell ⟨ga,i*8+5,none⟩ (.slice none 0 0)) _ n (cc i 3) E m:=a5.rows e2 (j:=i*8+5) (by omega) (hne 5 (by decide)) (.slice none 0 0);have b6:Mod (InS s0 s1) w ((((((w.setCell ⟨ga,i*8,none⟩ (.int .i64 0)).setCell ⟨ga,i*8+1,none⟩ (.string ⟨#[]⟩)).setCell ⟨ga,i*8+2,none⟩ (.slice none 0 0)).setCell ⟨ga,i*8+3,none⟩ (.slice none 0 0)).setCell ⟨ga,i*8+4,none⟩ (.string ⟨#[]⟩)).setCell ⟨ga,i*8+5,none⟩ (.slice none 0 0)):=b5.setCell _ _ (fun _=>hin)
 have a7:AD (((((((w.setCell ⟨ga,i*8,none⟩ (.int .i64 0)).setCell ⟨ga,i*8+1,none⟩ (.string ⟨#[]⟩)).setCell ⟨ga,i*8+2,none⟩ (.slice none 0 0)).setCell ⟨ga,i*8+3,none⟩ (.slice none 0 0)).setCell ⟨ga,i*8+4,none⟩ (.string ⟨#[]⟩)).setCell ⟨ga,i*8+5,none⟩ (.slice none 0 0)).setCell ⟨ga,i*8+6,none⟩ (.string ⟨#[]⟩)) _ n (cc i 3) E m:=a6.rows e2 (j:=i*8+6) (by omega) (hne 6 (by decide)) (.string ⟨#[]⟩);have b7:Mod (InS s0 s1) w (((((((w.setCell ⟨ga,i*8,none⟩ (.int .i64 0)).setCell ⟨ga,i*8+1,none⟩ (.string ⟨#[]⟩)).setCell ⟨ga,i*8+2,none⟩ (.slice none 0 0)).setCell ⟨ga,i*8+3,none⟩ (.slice none 0 0)).setCell ⟨ga,i*8+4,none⟩ (.string ⟨#[]⟩)).setCell ⟨ga,i*8+5,none⟩ (.slice none 0 0)).setCell ⟨ga,i*8+6,none⟩ (.string ⟨#[]⟩)):=b6.setCell _ _ (fun _=>hin)
 have a8:AD ((((((((w.setCell ⟨ga,i*8,none⟩ (.int .i64 0)).setCell ⟨ga,i*8+1,none⟩ (.string ⟨#[]⟩)).setCell ⟨ga,i*8+2,none⟩ (.slice none 0 0)).setCell ⟨ga,i*8+3,none⟩ (.slice none 0 0)).setCell ⟨ga,i*8+4,none⟩ (.string ⟨#[]⟩)).setCell ⟨ga,i*8+5,none⟩ (.slice none 0 0)).setCell ⟨ga,i*8+6,none⟩ (.string ⟨#[]⟩)).setCell ⟨ga,i*8+7,none⟩ (.bool false)) _ n (cc i 3) E m:=a7.rows e2 (j:=i*8+7) (by omega) (hne 7 (by decide)) (.bool false)
 have b8:Mod (InS s0 s1) w ((((((((w.setCell ⟨ga,i*8,none⟩ (.int .i64 0)).setCell ⟨ga,i*8+1,none⟩ (.string ⟨#[]⟩)).setCell ⟨ga,i*8+2,none⟩ (.slice none 0 0)).setCell ⟨ga,i*8+3,none⟩ (.slice none 0 0)).setCell ⟨ga,i*8+4,none⟩ (.string ⟨#[]⟩)).setCell ⟨ga,i*8+5,none⟩ (.slice none 0 0)).setCell ⟨ga,i*8+6,none⟩ (.string ⟨#[]⟩)).setCell ⟨ga,i*8+7,none⟩ (.bool false)):=b7.setCell _ _ (fun _=>hin);have a9:AD ((((((((w.setCell ⟨ga,i*8,none⟩ (.int .i64 0)).setCell ⟨ga,i*8+1,none⟩ (.string ⟨#[]⟩)).setCell ⟨ga,i*8+2,none⟩ (.slice none 0 0)).setCell ⟨ga,i*8+3,none⟩ (.slice none 0 0)).setCell ⟨ga,i*8+4,none⟩ (.string ⟨#[]⟩)).setCell ⟨ga,i*8+5,none⟩ (.slice none 0 0)).setCell ⟨ga,i*8+6,none⟩ (.string ⟨#[]⟩)).setCell ⟨ga,i*8+7,none⟩ (.bool false)) (.slice (some ⟨ga,0,none⟩) n cap) n (cc (i+1) 0) E m:=a8.up (fun q hq=>by unfold cc;rw[if_pos hq,if_neg (Nat.not_lt_zero _)];exact aAa _)
 obtain ⟨u0,d0⟩:=cell_some hx (j:=i*8) (by omega);have f0:=ai hx (i*8);obtain ⟨u1,d1⟩:=cell_some hx (j:=i*8+1) (by omega);have f1:=ai hx (i*8+1);obtain ⟨u2,d2⟩:=cell_some hx (j:=i*8+2) (by omega);have f2:=ai hx (i*8+2);obtain ⟨u3,d3⟩:=cell_some hx (j:=i*8+3) (by omega);have f3:=ai hx (i*8+3);obtain ⟨u4,d4⟩:=cell_some hx (j:=i*8+4) (by omega);have f4:=ai hx (i*8+4)
 obtain ⟨u5,d5⟩:=cell_some hx (j:=i*8+5) (by omega);have f5:=ai hx (i*8+5);obtain ⟨u6,d6⟩:=cell_some hx (j:=i*8+6) (by omega);have f6:=ai hx (i*8+6);obtain ⟨u7,d7⟩:=cell_some hx (j:=i*8+7) (by omega);have f7:=ai hx (i*8+7);have HE:=hid (And.intro a9 b8);obtain ⟨vv,rfl,eE⟩:=hf.shape;simp only[ik,eE];clear eE;clear hf ok hF hD hi hx hsz e2 hin hne a1 a2 a3 a4 a5 a6 a7 a8 a9 b1 b2 b3 b4 b5 b6 b7 b8
 dsimp only[IL,fE,c8,ncb,ncl,nco,ncr,ncx,Tryz.f7];go_wp2;exact Hok.o _ _ ⟨rfl,rfl,rfl,rfl,rfl,rfl,rfl⟩ HE.o.1 HE.o.2
end
