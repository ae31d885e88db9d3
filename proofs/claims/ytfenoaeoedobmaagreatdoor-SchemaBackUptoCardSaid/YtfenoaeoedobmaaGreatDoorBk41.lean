/-
Parts of a proof.
-/
import Derived.Lib.Bytealg
import Derived.Test.YtfenoaeoedobmaaGreatDoorBk40
set_option linter.unusedVariables false
set_option linter.unusedSimpArgs false
set_option maxHeartbeats 8000000
set_option maxRecDepth 20000
namespace Go.Proofs.YtfenoaeoedobmaaGreatDoor
open Go Go.RowKit
noncomputable def aDi:List Res->List ByteArray->ByteArray×Int
 |[],out=>if 65536<(joinV out).size then (⟨#[]⟩,3) else (joinV out,0)
 |r::rest,out=>if treeV r=[] then (⟨#[]⟩,123) else if (emitV (treeV r)).2≠0 then (⟨#[]⟩,(emitV (treeV r)).2) else aDi rest (out++[(emitV (treeV r)).1])
noncomputable def textV (rs:List Res):ByteArray×Int:=aDi rs []
def SText (w:World) (t:ByteArray×Int) (x:Ending) (w':World):Prop:=x= .returned (.tuple #[.string t.1,.int .i64 t.2])/\Below w.heap.size w w'
theorem aT8 {ns:List Nd} (h:(emitV ns).2=0):(emitV ns).1.size<=65536:=by
 unfold emitV at h |-
 split
 ·decide
 ·split
  ·decide
  ·rename_i _ h2
   rw[<-aAf]
   show (emitL ns).toArray.toList.length<=_
   simpa using h2
theorem a35 (w:World) (V:Value) (ms:List RsM) (h:RsL w V ms) (hz:∀m∈ms,ResZ m.r) (hg:GlobT w):
 Calls Tryz.prog 15 #[V] w (SText w (textV (ms.map (·.r)))):=by
 obtain ⟨ao,cap,rfl,hl,hat⟩:=aO5 h;obtain ⟨n,hn⟩:∃n,n=ms.length:=⟨_,rfl⟩;rw[<-hn]at hl |-;have Hn:=hid hn;have Hl:=hid hl;have Hat:=hid hat;have Hz:=hid hz;have Hg:=hid (fun w2 (hb:Below w.heap.size w w2)=>hg.later hb);have H0:=hid (RO.first w 9 1);obtain ⟨tx,htx⟩:∃tx,tx=textV (ms.map (·.r)):=⟨_,rfl⟩;rw[<-htx];have Htx:=hid htx;have Hs0:=hid (show aDi ((ms.map (·.r)).drop 0) []=tx from htx.symm)
 clear h hn hl hat hz hg htx;go_enter Tryz.func15,Tryz.ntmps15;go_wp2
 go_loopw [4,13] (fun vv vi wr=>∃(v2:Value) (j:Nat) (out:List ByteArray),v2=vv/\vi= .int .i64 (j:Int)/\Hid (j<=n/\out.length=j/\(∀x∈out,x.size<=65536)/\aDi ((ms.map (·.r)).drop j) out=tx/\RO w wr 9 1 v2 j (out.flatMap aAp))) (fun _ vi _=>n-(intOf vi).toNat)
 case atStart=>exact ⟨_,0,[],rfl,rfl,hid ⟨Nat.zero_le _,rfl,nofun,Hs0.out,H0.out⟩⟩
 case round=>
  clear H0 Hs0 Htx;obtain ⟨v2,j,out,rfl,rfl,H⟩:=hrel;by_cases hj:j<n
  ·have tj:decide (j<n)=true:=dT hj;have bj:(j:Int)<(n:Int):=by omega
   obtain ⟨m,hm⟩:∃m,ms[j]? =some m:=aAh (by rw[<-Hn.out];exact hj);obtain ⟨b,o,rfl,hb,hc,hr⟩:=Hat.out j m hm;have hbl:=H.out.2.2.2.2.below;have hzm:=Hz.out m (List.mem_of_getElem? hm);have hdrop:(ms.map (·.r)).drop j=m.r::(ms.map (·.r)).drop (j+1):=aEc (by rw[List.getElem?_map,hm];rfl);have hs:=H.out.2.2.2.1;rw[hdrop]at hs;have hc2:=fun i u (hu:m.cells[i]? =some u)=>(hbl.cell (p:=⟨b,o+j*8+i,none⟩) hb).trans (hc i u hu)
   obtain ⟨r,ev,tv,rv⟩:=m;obtain ⟨ea,en,ec,rfl⟩:=aBk hr.e;obtain ⟨ta,tn,tc,rfl⟩:=aBk hr.t;obtain ⟨ra,rn,rc,rfl⟩:=aBk hr.r;have c0:=hc2 0 _ rfl;have c1:=hc2 1 _ rfl;have c2:=hc2 2 _ rfl;have c3:=hc2 3 _ rfl;have c4:=hc2 4 _ rfl;have c5:=hc2 5 _ rfl;have c6:=hc2 6 _ rfl;have c7:=hc2 7 _ rfl;simp only[Nat.add_zero]at c0;obtain ⟨wa,hwa⟩:∃wa,wa=wr.alloc (.cells #[.int .i64 r.kind,.string r.name,.slice ea en ec,.slice ta tn tc,.string r.host,.slice ra rn rc,.string r.route,.bool r.del] 49):=⟨_,rfl⟩
   have hba:Below wr.heap.size wr wa:=by rw[hwa];exact (a7d _ _).alloc (a7c _) _
   have hbwa:Below w.heap.size w wa:=hbl.trans (hba.mono hbl.size);have HTr:=hid (Tree_c wa r _ _ _ hzm (hr.later hbwa) (Hg.out wa hbwa));have HR:=hid (H.out.2.2.2.2.later hba);have Hlen:=hid (And.intro H.out.2.1 H.out.2.2.1);obtain ⟨Hms,Hgo⟩:=aA3 (k:=j) (n:=n) hj (by have:=Hl.out;omega);have Hj:=hid hj;have Hhs:=hid hs;unfold resA at HTr;clear hm hb hc hc2 hr hzm hdrop hs hj hba hbwa hbl H Hat Hz
   go_wp2_with fail
   rw[<-hwa];refine HTr.out.mono ?_;rintro x w3 ⟨nv,ns,rfl,hD,hnn,hb3⟩;clear c0 c1 c2 c3 c4 c5 c6 c7 hwa HTr;obtain ⟨na,nn,nc,hnv⟩:∃a n c,nv= .slice a n c:=aBk hD.nds.1;subst hnv;have hnl:nn=ns.length:=aSj hD.row;have Hb3:=hid hb3;have hbw3:Below w.heap.size w w3:=by
    have h1:=HR.out.below;exact h1.trans (hb3.mono h1.size)
   have HR3:=hid (HR.out.later hb3);have HEm:=hid (a3n w3 _ ns hD.nds (Hg.out w3 hbw3).gl);rw[hnn]at HEm;have hnl2:nn=(treeV r).length:=by rw[hnl,<-hnn,aBa]
   have Hbw:=hid hbw3;clear hD hb3 hnn hnl hbw3 HR Hb3;unfold aDi at Hhs;by_cases h0:treeV r=[]
   ·have e0:nn=0:=by rw[hnl2,h0];rfl
    subst e0;have HE:Hid (SText w tx (.returned (.tuple #[.string ⟨#[]⟩,.int .i64 123])) w3):=hid ⟨by rw[<-Hhs.out,if_pos h0],Hbw.out⟩;clear hnl2 h0 HEm Hhs;go_wp2;refine bodyPost_ret (results_tmp2 (t:=2) (u:=3) rfl _ _ _) rfl HE.out
   ·have t1:((nn:Int)==0)=false:=by
     rw[beq_eq_false_iff_ne];intro e;exact h0 (List.eq_nil_of_length_eq_zero (by omega))
    rw[if_neg h0]at Hhs;obtain ⟨et,ee,hee⟩:∃et ee,emitV (treeV r)=(et,ee):=⟨_,_,rfl⟩;have hsm:ee=0->et.size<=65536:=fun h=>by
     have:=aT8 (ns:=treeV r) (by rw[hee];exact h);rw[hee]at this;exact this
    have Hsm:=hid hsm;rw[hee]at HEm Hhs;simp only at HEm Hhs;clear hnl2 h0 hee hsm
    go_wp2_with fail
    refine HEm.out.mono ?_;rintro x w4 ⟨rfl,hb4⟩;have HR4:=hid (HR3.out.later hb4);have Hbw4:=hid (Hbw.out.trans (hb4.mono Hbw.out.size));clear HEm hb4 HR3 Hbw;by_cases he:ee=0
    ·subst he;have hs2:=Hhs.out;rw[if_neg (by simp)]at hs2;have Hs2:=hid hs2;have Hown:=hid (fun o=>HR4.out.row.alloc o);have Hone:=hid (show ∀u∈[Value.string et],u.oneCell'=true from fun u hu=>by rw[List.mem_singleton.1 hu];rfl);have Hkl:=hid (show j<=2000000 by have:=Hj.out;have:=Hl.out;omega);have Hd1:=hid (show 0<1 by decide);have Hd2:=hid (show 16<=1000 by decide);have Hend:=hid (fun o v' w5 a1 a2 a3=>show j+1<=n/\(out++[et]).length=j+1/\(∀x∈out++[et],x.size<=65536)/\aDi ((ms.map (·.r)).drop (j+1)) (out++[et])=tx/\RO w w5 9 1 v' (j+1) ((out++[et]).flatMap aAp) from
      ⟨Hj.out,by rw[a7e,Hlen.out.1];rfl,fun x hx=>by
       rcases List.mem_append.1 hx with q|q
       ·exact Hlen.out.2 x q
       ·rw[List.mem_singleton.1 q];exact Hsm.out rfl,Hs2.out,by
       rw[List.flatMap_append,List.flatMap_singleton];exact RO.app (w1:=w4.alloc o) (v':=v') (w2:=w5) (m:=j+1) (ys:=out.flatMap aAp++[.string et]) HR4.out ((a7d _ w4).alloc (a7c _) o) a1 a2 a3⟩)
     clear hs2 Hhs Hlen HR4 Hbw4 Hs2 Hsm
     go_wp2_with (at_builtin;refine aEl 9 45 (.string ⟨#[]⟩) 1 16 Tryz.underlying45 aMh rfl Hd1.out Hd2.out rfl _ _ rfl v2 j (out.flatMap aAp) rfl (Hown.out _) w4.heap.size #[.string et] [.string et] rfl (aAc _) rfl rfl Hone.out Hkl.out (j+1) rfl ?_;intro ao4 c4 w5 own2 gr2 new2;have HE:=hid (Hend.out _ _ _ own2 gr2 new2);clear own2 gr2 new2)
     go_roundw
     case rel=>exact ⟨_,j+1,_,rfl,Hgo.out,HE⟩
     case measure=>exact Hms.out
    ·have t2:(ee != 0)=true:=bne_iff_ne.2 he;have HE:Hid (SText w tx (.returned (.tuple #[.string ⟨#[]⟩,.int .i64 ee])) w4):=hid ⟨by rw[<-Hhs.out,if_pos he],Hbw4.out⟩;clear he Hhs HR4 Hbw4;go_wp2;refine bodyPost_ret (results_tmp2 (t:=2) (u:=3) rfl _ _ _) rfl HE.out
  ·have tj:decide (j<n)=false:=dF hj;obtain ⟨h1,h2,h3,h4,h5⟩:=H.out;have ej:j=n:=by omega
   rw[List.drop_eq_nil_of_le (by rw[List.length_map,<-Hn.out];omega)]at h4;unfold aDi at h4;have HJ:=hid (join_c wr v2 out (SlR.ofRow h5.row h2.symm (fun _=>rfl) (by have:=Hl.out;omega) (by decide)) h3);have HB:=hid h5.below;have H4:=hid h4;generalize joinV out=t at*;clear H Hat hj h1 h2 h3 h4 h5 ej Hz Hg
   go_wp2_with fail
   refine HJ.out.mono ?_;rintro x w2 ⟨rfl,hb⟩;have Hb:=hid (HB.out.trans (hb.mono HB.out.size));clear hb HJ HB;by_cases hbig:65536<t.size
   ·have t1:decide ((65536:Int)<(t.size:Int))=true:=dT (by omega);have HE:Hid (SText w tx (.returned (.tuple #[.string ⟨#[]⟩,.int .i64 3])) w2):=hid ⟨by rw[<-H4.out,if_pos hbig],Hb.out⟩;clear H4 Hb hbig;go_wp2;refine bodyPost_ret (results_tmp2 (t:=2) (u:=3) rfl _ _ _) rfl HE.out
   ·have t1:decide ((65536:Int)<(t.size:Int))=false:=dF (by omega);have HE:Hid (SText w tx (.returned (.tuple #[.string t,.int .i64 0])) w2):=hid ⟨by rw[<-H4.out,if_neg hbig],Hb.out⟩;clear H4 Hb hbig;go_wp2;refine bodyPost_ret (results_tmp2 (t:=2) (u:=3) rfl _ _ _) rfl HE.out
def scanE:Nat->List UInt8->Nat->Nat->List Tok×Option (Nat×Nat×Int)
 |0,_,_,_=>([],none)
 |f+1,l,k,n=>
  if l=[] then ([],none)
  else match lineL (cutB l).1 ((n+1:Nat):Int) with
   | .error c=>([],some (k,n+1,c))
   | .ok ts=>(ts++(scanE f (cutB l).2 (k+aBy ts) (n+1)).1,(scanE f (cutB l).2 (k+aBy ts) (n+1)).2)
def outE (acc:List Tok) (p:List Tok×Option (Nat×Nat×Int)):Except (Nat×Nat×Int) (List Tok):=
 match p.2 with
 |none=> .ok (acc++p.1)
 |some e=> .error e
theorem aSm:∀(f:Nat) (l:List UInt8) (k n:Nat) (acc:List Tok),aG6 f l k n acc=outE acc (scanE f l k n)
 |0,l,k,n,acc=>by unfold aG6 scanE outE;simp
 |f+1,l,k,n,acc=>by
  unfold aG6 scanE
  split
  ·unfold outE;simp
  ·cases h:lineL (cutB l).1 ((n+1:Nat):Int) with
   |error c=>rfl
   |ok ts=>
    simp only;rw[aSm f];unfold outE;simp only;cases (scanE f (cutB l).2 (k+aBy ts) (n+1)).2<;>simp
theorem aH8:∀(f g:Nat) (l:List UInt8) (k n:Nat),l.length<=f->l.length<=g->scanE f l k n=scanE g l k n
 |0,0,_,_,_,_,_=>rfl
 |0,g+1,l,k,n,h,_=>by
  have:l=[]:=List.eq_nil_of_length_eq_zero (by omega);unfold scanE;rw[if_pos this]
 |f+1,0,l,k,n,_,h=>by
  have:l=[]:=List.eq_nil_of_length_eq_zero (by omega);unfold scanE;rw[if_pos this]
 |f+1,g+1,l,k,n,hf,hg=>by
  unfold scanE
  split
  ·rfl
  ·rename_i hl
   have:=aF1 l hl
   split
   ·rfl
   ·rename_i ts h
    rw[aH8 f g (cutB l).2 (k+aBy ts) (n+1) (by omega) (by omega)]
abbrev Yl:=Tok×(Int×Int×Int)
def yTok (t:Tok):Yl:=(t,(0,0,0))
def yErr (e:Nat×Nat×Int):Yl:=(⟨0,0,0,[],false⟩,((e.1:Int),(e.2.1:Int),e.2.2))
def yE (p:List Tok×Option (Nat×Nat×Int)):List Yl:=p.1.map yTok++(match p.2 with|none=>[]|some e=>[yErr e])
def yAll (l:List UInt8):List Yl:=if 65536<l.length then [yErr (0,0,3)] else yE (scanE l.length l 0 0)
theorem aQm {l:List UInt8} {i:Nat} (h:overL (l.drop i)=false):i<l.length:=by
 rcases Nat.lt_or_ge i l.length with q|q
 ·exact q
 ·rw[List.drop_eq_nil_of_le q]at h;cases h
theorem aKa {l:List UInt8}:∀(f i:Nat),(∀c∈(aBv l f i).1,c<l.length)/\(aBv l f i).1.length<=l.length-i
 |0,i=>⟨fun c h=>(by cases h),Nat.zero_le _⟩
 |f+1,i=>by
  unfold aBv
  split
  ·rename_i h
   have hi:=aQm h.1;obtain ⟨q1,q2⟩:=aKa (l:=l) f (i+1+skipN (l.drop (i+1)));refine ⟨fun c hc=> ?_,by simp only[a7f];omega⟩;rcases List.mem_cons.1 hc with rfl|hc
   ·exact hi
   ·exact q1 c hc
  ·exact ⟨fun c h=>(by cases h),Nat.zero_le _⟩
theorem aT9 {t x:List UInt8} {q:Bool} (hq:∀y m,quotL t=some (y,m)->y.length<=t.length) (h:scalL t= .ok (some (x,q))):x.length<=t.length/\overL t=false:=by
 unfold scalL at h
 split at h
 ·cases h
 ·rename_i ho
  refine ⟨?_,by simpa using ho⟩
  split at h
  ·split at h
   ·cases h
   ·rename_i y m hy
    split at h
    ·cases h
    ·injection h with h
     injection h with h
     injection h with h _
     subst h;exact hq _ _ hy
  ·split at h
   ·cases h
   ·rename_i y hy
    injection h with h
    injection h with h
    injection h with h _
    subst h;exact aR6 hy
theorem aYa {t x:List UInt8} {q:Bool} {m:Nat} (hq:∀y m,quotL t=some (y,m)->y.length<=t.length) (h:keyL t= .ok (some (x,q,m))):x.length<=t.length:=by
 unfold keyL at h
 split at h
 ·split at h
  ·cases h
  ·rename_i y k hy
   injection h with h
   split at h
   ·injection h with h
    injection h with h _
    subst h;exact hq _ _ hy
   ·cases h
 ·injection h with h
  split at h
  ·injection h with h
   injection h with h _
   subst h;rw[List.length_take];omega
  ·cases h
structure TokB (n:Int) (L:Nat) (t:Tok):Prop where
 kind:2<=t.kind/\t.kind<=4
 line:t.line=n
 col:0<=t.col/\t.col<=(L:Int)
 text:t.text.length<=L
theorem aO6 {l:List UInt8} {n:Int} {ts us:List Tok} {i:Nat} (hq:∀t y m,quotL t=some (y,m)->y.length<=t.length) (hts:∀t∈ts,TokB n l.length t) (h:endL l n ts i= .ok us):(∀t∈us,TokB n l.length t)/\us.length<=ts.length+1:=by
 unfold endL at h
 split at h
 ·cases h
 ·injection h with h;subst h;exact ⟨hts,by omega⟩
 ·rename_i x q hs
  injection h with h
  subst h;obtain ⟨h1,h2⟩:=aT9 (hq _) hs;have hi:=aQm h2;rw[List.length_drop]at h1;refine ⟨fun t ht=> ?_,by simp⟩;rcases List.mem_append.1 ht with ht|ht
  ·exact hts t ht
  ·obtain rfl:=List.mem_singleton.1 ht;exact ⟨⟨by show (2:Int)<=4;decide,by show (4:Int)<=4;decide⟩,rfl,⟨by show (0:Int)<=(i:Int);omega,by show (i:Int)<=_;omega⟩,by show x.length<=_;omega⟩
theorem aUa {l:List UInt8} {n:Int} {ts us:List Tok} {i:Nat} (hq:∀t y m,quotL t=some (y,m)->y.length<=t.length) (hts:∀t∈ts,TokB n l.length t) (h:restL l n ts i= .ok us):(∀t∈us,TokB n l.length t)/\us.length<=ts.length+2:=by
 unfold restL at h
 split at h
 ·injection h with h;subst h;exact ⟨hts,by omega⟩
 ·rename_i ho
  have hi:=aQm (l:=l) (i:=i) (by simpa using ho)
  split at h
  ·cases h
  ·have:=aO6 hq hts h;exact ⟨this.1,by omega⟩
  ·rename_i x q m hk
   have h1:=aYa (hq _) hk;rw[List.length_drop]at h1;have:=aO6 hq (fun t ht=>by
    rcases List.mem_append.1 ht with ht|ht
    ·exact hts t ht
    ·obtain rfl:=List.mem_singleton.1 ht;exact ⟨⟨by show (2:Int)<=3;decide,by show (3:Int)<=4;decide⟩,rfl,⟨by show (0:Int)<=(i:Int);omega,by show (i:Int)<=_;omega⟩,by show x.length<=_;omega⟩) h
   rw[a7e]at this;exact ⟨this.1,by have:=this.2;simp at this;omega⟩
theorem aHe {l:List UInt8} {n:Int} {us:List Tok} (hq:∀t y m,quotL t=some (y,m)->y.length<=t.length) (h:lineL l n= .ok us):(us=[⟨1,n,0,[],false⟩]\/∀t∈us,TokB n l.length t)/\us.length<=l.length+2:=by
 unfold lineL at h
 split at h
 ·cases h
 ·split at h
  ·injection h with h;subst h;exact ⟨.inl rfl,by simp⟩
  ·obtain ⟨q1,q2⟩:=aKa (l:=l) (l.length+1) (skipN l);have:=aUa hq (fun t ht=>by
    obtain ⟨c,hc,rfl⟩:=List.mem_map.1 ht;have:=q1 c hc;exact ⟨⟨by show (2:Int)<=2;decide,by show (2:Int)<=4;decide⟩,rfl,⟨by show (0:Int)<=(c:Int);omega,by show (c:Int)<=_;omega⟩,Nat.zero_le _⟩) h
   rw[List.length_map]at this;exact ⟨.inr this.1,by omega⟩
theorem aYb {l:List UInt8} {n:Int} {us:List Tok} (hq:∀t y m,quotL t=some (y,m)->y.length<=t.length) (h:lineL l n= .ok us):aBy us<=1:=by
 rcases (aHe hq h).1 with rfl|h
 ·simp[aBy]
 ·have:us.filter (fun t=>t.kind==1)=[]:=by
   rw[List.filter_eq_nil_iff];intro t ht;have:=(h t ht).kind;simp only[beq_iff_eq];omega
  unfold aBy;rw[this];exact Nat.zero_le _
theorem a2b {t:List UInt8} {c:Int} (h:scalL t= .error c):c=82\/c=83:=by
 unfold scalL at h
 split at h
 ·cases h
 ·split at h
  ·split at h
   ·injection h with h;exact .inl h.symm
   ·split at h
    ·injection h with h;exact .inl h.symm
    ·cases h
  ·split at h
   ·injection h with h;exact .inr h.symm
   ·cases h
theorem aKb {l:List UInt8} {n c:Int} (h:lineL l n= .error c):c≠0:=by
 have he:∀ts i,endL l n ts i= .error c->c≠0:=by
  intro ts i h;unfold endL at h
  split at h
  ·rename_i e hs
   injection h with h
   have:=a2b hs;omega
  ·cases h
  ·cases h
 unfold lineL at h
 split at h
 ·rename_i hs
  injection h with h
  rw[<-h];exact hs
 ·split at h
  ·cases h
  ·unfold restL at h
   split at h
   ·cases h
   ·split at h
    ·rename_i e hk
     injection h with h
     subst h;unfold keyL at hk
     split at hk
     ·split at hk
      ·injection hk with hk;omega
      ·cases hk
     ·cases hk
    ·exact he _ _ h
    ·exact he _ _ h
theorem aM1:∀(f:Nat) (l:List UInt8) (k n:Nat) (e:Nat×Nat×Int),(scanE f l k n).2=some e->e.2.2≠0
 |0,_,_,_,e,h=>by cases h
 |f+1,l,k,n,e,h=>by
  unfold scanE at h
  split at h
  ·cases h
  ·cases hl:lineL (cutB l).1 ((n+1:Nat):Int) with
   |error c=>
    rw[hl]at h;have h2:=a7h h;rw[<-h2];exact aKb hl
   |ok ts=>
    rw[hl]at h;exact aM1 f _ _ _ e h
theorem aM2 {bs:List UInt8} (hl:¬65536<bs.length):yAll bs=yE (scanE bs.length bs 0 0)/\scanL bs=outE [] (scanE bs.length bs 0 0):=by
 refine ⟨by unfold yAll;rw[if_neg hl],?_⟩;unfold scanL;rw[if_neg hl,aSm,aH8 (bs.length+1) bs.length bs 0 0 (by omega) (a7c _)]
theorem a2c {bs:List UInt8} (h:∀x∈yAll bs,x.2.2.2=0):scanL bs= .ok ((yAll bs).map (·.1)):=by
 by_cases hl:65536<bs.length
 ·have:=h (yErr (0,0,3)) (by unfold yAll;rw[if_pos hl];exact List.mem_singleton.2 rfl);simp[yErr]at this
 ·obtain ⟨h1,h2⟩:=aM2 hl;rw[h1]at h |-;rw[h2];unfold yE outE at*;cases he:(scanE bs.length bs 0 0).2 with
  |none=>
   simp only[List.append_nil,List.nil_append,List.map_map];congr 1
   conv=>lhs;rw[<-List.map_id (scanE bs.length bs 0 0).1]
   rfl
  |some e=>
   rw[he]at h;have h4:e.2.2=0:=h (yErr e) (List.mem_append_right _ (List.mem_singleton.2 rfl));exact absurd h4 (aM1 _ _ _ _ e he)
theorem a2d {bs:List UInt8} {x:Yl} (hx:x∈yAll bs) (h:x.2.2.2≠0):∃e,scanL bs= .error e/\x.2=((e.1:Int),(e.2.1:Int),e.2.2):=by
 by_cases hl:65536<bs.length
 ·unfold yAll at hx;rw[if_pos hl]at hx;obtain rfl:=List.mem_singleton.1 hx;exact ⟨(0,0,3),by unfold scanL;rw[if_pos hl],rfl⟩
 ·obtain ⟨h1,h2⟩:=aM2 hl;rw[h1]at hx;rw[h2];unfold yE outE at*;rcases List.mem_append.1 hx with hx|hx
  ·obtain ⟨t,-,rfl⟩:=List.mem_map.1 hx;exact absurd rfl h
  ·cases he:(scanE bs.length bs 0 0).2 with
   |none=>rw[he]at hx;cases hx
   |some e=>
    rw[he]at hx;obtain rfl:=List.mem_singleton.1 hx;exact ⟨e,rfl,rfl⟩
theorem aSn:∀l:List UInt8,l≠[]->(cutB l).1.length+1+(cutB l).2.length<=l.length\/((cutB l).2=[]/\(cutB l).1.length=l.length)
 |[],h=>absurd rfl h
 |c::r,_=>by
  unfold cutB
  split
  ·left;simp;omega
  ·by_cases hr:r=[]
   ·right;subst hr;exact ⟨rfl,rfl⟩
   ·rcases aSn r hr with h|⟨h1,h2⟩
    ·left;simp only[a7f];omega
    ·right;exact ⟨h1,by simp only[a7f];omega⟩
theorem aKc (hq:∀t y m,quotL t=some (y,m)->y.length<=t.length):∀(f:Nat) (l:List UInt8) (k n:Nat),(scanE f l k n).1.length<=3*l.length
 |0,_,_,_=>Nat.zero_le _
 |f+1,l,k,n=>by
  unfold scanE
  split
  ·exact Nat.zero_le _
  ·rename_i hl
   cases h:lineL (cutB l).1 ((n+1:Nat):Int) with
   |error c=>exact Nat.zero_le _
   |ok ts=>
    simp only[a7e];have h1:=(aHe hq h).2;have h2:=aKc hq f (cutB l).2 (k+aBy ts) (n+1);have h3:=List.length_pos_iff.2 hl;rcases aSn l hl with h4|⟨h4,h5⟩
    ·omega
    ·rw[h4]at h2 |-;simp only[List.length_nil,Nat.mul_zero]at h2;omega
theorem a2e (hq:∀t y m,quotL t=some (y,m)->y.length<=t.length) (bs:List UInt8):(yAll bs).length<=200000:=by
 unfold yAll
 split
 ·simp
 ·have:=aKc hq bs.length bs 0 0;unfold yE;rw[a7e,List.length_map]
  split<;>simp<;>omega
theorem aM3:∀l:List UInt8,(∃j:Nat,Lib.indexByte l 10=(j:Int)/\j<l.length/\cutB l=(l.take j,l.drop (j+1)))\/(Lib.indexByte l 10= -1/\cutB l=(l,[]))
 |[]=> .inr ⟨rfl,rfl⟩
 |c::r=>by
  unfold Lib.indexByte cutB;by_cases hc:c=10
  ·left
   exact ⟨0,by rw[if_pos (by simpa using hc)];rfl,by simp,by rw[if_pos hc];rfl⟩
  ·have hb:¬(c==10)=true:=by simpa using hc
   rw[if_neg hb,if_neg hc];rcases aM3 r with ⟨j,h1,h2,h3⟩|⟨h1,h2⟩
   ·left
    refine ⟨j+1,by rw[h1,if_neg (by simp)];omega,by simp;omega,by rw[h3];rfl⟩
   ·right
    refine ⟨by rw[h1];rfl,by rw[h2]⟩
def baL (l:List UInt8):ByteArray:=⟨l.toArray⟩
theorem a6k {seen:List (List UInt8)} {t:List UInt8}:(⟨t.toArray⟩:ByteArray)∈seen.map baL↔t∈seen:=by
 constructor
 ·intro h;obtain ⟨x,hx,e⟩:=List.mem_map.1 h;unfold baL at e;have e2:x=t:=by
   have:=congrArg (fun b:ByteArray=>b.data.toList) e
   simpa using this
  rwa [<-e2]
 ·intro h;exact List.mem_map.2 ⟨t,h,rfl⟩
section
variable {w0 w wr w2:World} {rb fb tb mb i k:Nat} {lv nv nv':Value} {ts:List Tok} {ms ms':List NdM} {t u:Tok}
theorem LpS.other (h:LpS w0 w wr rb fb tb i lv ts nv ms t u k nv' ms') (hm:Mod (fun b=>b=mb) wr w2) (h1:¬RdF rb nv' ms' mb) (hf:mb≠fb) (ht:mb≠tb) (hw:w.heap.size<=mb) (hw0:w0.heap.size<=w.heap.size):LpS w0 w w2 rb fb tb i lv ts nv ms t u k nv' ms':=by
 refine ⟨⟨h.rd.toks,h.rd.wf,h.rd.below.trans (hm.below h.rd.below.size (fun b hb=>by omega)),h.rd.rge,hm.heap h.rd.blk (fun e=>h1 (.inl e.symm)),h.rd.nr.mod hm (fun g hg e=>h1 (.inr (by rw[<-e];exact hg))),h.rd.kle⟩,?_,h.own,hm.heap h.first (fun e=>hf e.symm),hm.heap h.tok (fun e=>ht e.symm),h.nf,h.nt,h.ffw,h.tfw,h.kid⟩;exact h.mod.trans' hm (fun b hb e=>by omega)
structure DpS (w0 w wr:World) (rb fb tb mb i:Nat) (lv:Value) (ts:List Tok) (nv:Value) (ms:List NdM) (t u:Tok) (k:Nat) (nv':Value) (ms':List NdM) (seen:List (List UInt8)):Prop where
 lp:LpS w0 w wr rb fb tb i lv ts nv ms t u k nv' ms'
 had:Had wr mb (seen.map baL)
 nm:¬RdF rb nv' ms' mb
 mf:mb≠fb
 mt:mb≠tb
 mw:w.heap.size<=mb
 ww:w0.heap.size<=w.heap.size
 cnt:seen.length<=k
variable {seen:List (List UInt8)}
theorem DpS.later (h:DpS w0 w wr rb fb tb mb i lv ts nv ms t u k nv' ms' seen) (hb:Below wr.heap.size wr w2):DpS w0 w w2 rb fb tb mb i lv ts nv ms t u k nv' ms' seen:=
 ⟨h.lp.later hb,h.had.frame (hb.block _ h.had.lt),h.nm,h.mf,h.mt,h.mw,h.ww,h.cnt⟩
theorem DpS.call {k2:Nat} {nv2:Value} {ms2:List NdM} (h:DpS w0 w wr rb fb tb mb i lv ts nv ms t u k nv' ms' seen) (hL:LpS w0 w w2 rb fb tb i lv ts nv ms t u k2 nv2 ms2) (hm:Mod (RdF rb nv' ms') wr w2) (ho:∀g,nOwn nv2 ms2 g->nOwn nv' ms' g\/wr.heap.size<=g) (hk:seen.length<=k2):
 DpS w0 w w2 rb fb tb mb i lv ts nv ms t u k2 nv2 ms2 seen:=by
 refine ⟨hL,h.had.frame (hm.block _ h.had.lt h.nm),fun q=> ?_,h.mf,h.mt,h.mw,h.ww,hk⟩;rcases q with q|q
 ·exact h.nm (.inl q)
 ·rcases ho mb q with q|q
  ·exact h.nm (.inr q)
  ·have:=h.had.lt;omega
theorem DpS.move (h:DpS w0 w wr rb fb tb mb i lv ts nv ms t u k nv' ms' seen) (hk:k+1<=ts.length) (hs:seen.length<=k+1):DpS w0 w (wr.setCell ⟨rb,1,none⟩ (.int .i64 ((k+1:Nat):Int))) rb fb tb mb i lv ts nv ms t u (k+1) nv' ms' seen:=by
 have hM:Mod (fun b=>b=rb) wr (wr.setCell ⟨rb,1,none⟩ (.int .i64 ((k+1:Nat):Int))):=(Mod.refl _ _).setCell _ _ (fun _=>rfl);exact ⟨h.lp.move hk,h.had.frame (hM.block _ h.had.lt (fun e=>h.nm (.inl e))),h.nm,h.mf,h.mt,h.mw,h.ww,hs⟩
theorem DpS.newTok (h:DpS w0 w wr rb fb tb mb i lv ts nv ms t u k nv' ms' seen) {tb2:Nat} {u2:Tok} (hb:Below wr.heap.size wr w2) (ht:w2.heap[tb2]? =some (.cells u2.a 121 (0,0))) (hge:wr.heap.size<=tb2):DpS w0 w w2 rb fb tb2 mb i lv ts nv ms t u2 k nv' ms' seen:=
 ⟨h.lp.newTok hb ht hge,h.had.frame (hb.block _ h.had.lt),h.nm,h.mf,by have:=h.had.lt;omega,h.mw,h.ww,h.cnt⟩
theorem DpS.put {s:List UInt8} (h:DpS w0 w wr rb fb tb mb i lv ts nv ms t u k nv' ms' seen) (hh:Had w2 mb (⟨s.toArray⟩::seen.map baL)) (hg:wr.grownBy w2 (some mb)):LpS w0 w w2 rb fb tb i lv ts nv ms t u k nv' ms'/\Had w2 mb ((s::seen).map baL):=by
 have hM:Mod (fun b=>b=mb) wr w2:=(Mod.refl _ _).grown hg (fun b e _=>by injection e with e;exact e.symm);exact ⟨h.lp.other hM h.nm h.mf h.mt h.mw h.ww,hh⟩
end
theorem DpS.put_move {w0 w wr w2:World} {rb fb tb mb i k:Nat} {lv nv nv':Value} {ts:List Tok} {ms ms':List NdM} {t u:Tok} {seen:List (List UInt8)} {s:List UInt8} (h:DpS w0 w wr rb fb tb mb i lv ts nv ms t u k nv' ms' seen) (hL:LpS w0 w w2 rb fb tb i lv ts nv ms t u k nv' ms') (hh:Had w2 mb ((s::seen).map baL)) (hk:k+1<=ts.length):
 DpS w0 w (w2.setCell ⟨rb,1,none⟩ (.int .i64 ((k+1:Nat):Int))) rb fb tb mb i lv ts nv ms t u (k+1) nv' ms' (s::seen):=by
 have hM:Mod (fun b=>b=rb) w2 (w2.setCell ⟨rb,1,none⟩ (.int .i64 ((k+1:Nat):Int))):=(Mod.refl _ _).setCell _ _ (fun _=>rfl);exact ⟨hL.move hk,hh.frame (hM.block _ hh.lt (fun e=>h.nm (.inl e))),h.nm,h.mf,h.mt,h.mw,h.ww,by have:=h.cnt;simp;omega⟩
theorem RdS.c1 {w0 w:World} {rb:Nat} {lv:Value} {ts:List Tok} {k:Nat} {nv:Value} {ms:List NdM} (h:RdS w0 w rb lv ts k nv ms):w.cell? ⟨rb,1,none⟩=some (.int .i64 (k:Int))/\∀j,w.frozen? ⟨rb,j,none⟩=false:=by
 have h1:=h.blk;unfold rdA at h1;exact ⟨aAa h1 1,fun j=>aAd h1 j⟩
theorem aYc {w:World} {mb:Nat} {seen:List (List UInt8)} {t:List UInt8} (h:Had w mb (seen.map baL)) (hs:t.length<=1048576):
 (Instr.lookup 155 (.map (some mb)) (.string ⟨t.toArray⟩) false).run Tryz.prog w= .ok (.bool (decide (t∈seen))) w:=by
 have:=h.look ⟨t.toArray⟩ (by unfold maxLen;show t.toArray.size<=_;simp;omega)
 rwa [show decide ((⟨t.toArray⟩:ByteArray)∈seen.map baL)=decide (t∈seen) from decide_eq_decide.2 a6k]at this
