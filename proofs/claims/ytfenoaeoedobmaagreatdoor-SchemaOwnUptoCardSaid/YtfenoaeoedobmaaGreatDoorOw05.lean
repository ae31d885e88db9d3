/-
Parts of a proof.
-/
import Derived.Lib.AtoiErrMem
import Derived.Test.YtfenoaeoedobmaaGreatDoorOw04
set_option linter.unusedVariables false
set_option linter.unusedSimpArgs false
set_option maxHeartbeats 1000000
namespace Go.Proofs.YtfenoaeoedobmaaGreatDoor
open Go Go.RowKit
theorem mZ:∀(l:List UInt8) (acc:Nat),acc<=l.foldl (fun n c=>10*n+(c.toNat-48)) acc:=by
 intro l
 induction l with
 |nil=>intro acc;exact aAa _
 |cons c r ih=>intro acc;exact aAe (by omega) (ih (10*acc+(c.toNat-48)))
theorem lj (M:Nat) (hM:M<=18446744073709551619):∀(l:List UInt8) (acc:Nat),acc<=M->l.all isD=true->
 Lib.parseUintM M acc l=if l.foldl (fun n c=>10*n+(c.toNat-48)) acc<=M then .ok (l.foldl (fun n c=>10*n+(c.toNat-48)) acc) else .range:=by
 intro l
 induction l with
 |nil=>intro acc h _;simp[Lib.parseUintM,h]
 |cons c r ih=>
  intro acc h hd;rw[List.all_cons]at hd;simp only[Bool.and_eq_true]at hd;have h2:=(j1 c).1 hd.1;have hge:=mZ r (10*acc+(c.toNat-48));rw[List.foldl_cons,Lib.parseUintM,if_pos h2,Nat.mul_comm acc 10];by_cases h3:1844674407370955162<=acc
  ·rw[if_pos h3,if_neg];intro q;have:=aAe hge q;omega
  ·rw[if_neg h3];by_cases h4:M<10*acc+(c.toNat-48)
   ·rw[if_pos h4,if_neg];intro q;have:=aAe hge q;omega
   ·rw[if_neg h4];exact ih _ (by omega) hd.2
theorem zB {l:List UInt8} (hd:jk l=true):Lib.parseIntB 64 l=if numN l<=9223372036854775807 then .ok (numN l:Int) else .range:=by
 have hall:=jK hd;cases l with
 |nil=>cases hd
 |cons c r=>
  have hp:=lj (2 ^ 64-1) (by decide) (c::r) 0 (by decide) hall;have hc:isD c=true:=by
   rw[List.all_cons]at hall;simp only[Bool.and_eq_true]at hall;exact hall.1
  have hc2:=(j1 c).1 hc;have e1:¬(c.toNat=43\/c.toNat=45):=by omega
  have e2:¬c.toNat=45:=by omega
  unfold Lib.parseIntB;simp only[if_neg e1];unfold Lib.parseUintB;rw[if_neg (by simp),hp];rw[show (c::r).foldl (fun n c=>10*n+(c.toNat-48)) 0=numN (c::r) from rfl];generalize numN (c::r)=n;by_cases h1:n<=2 ^ 64-1
  ·rw[if_pos h1];simp only[e2];by_cases h2:n<=9223372036854775807
   ·rw[if_pos h2,if_neg (by simp;omega)];simp
   ·rw[if_neg h2,if_pos (by simp;omega)]
  ·rw[if_neg h1,if_neg (by omega)]
theorem zC {l:List UInt8} (hd:jk l=true):Lib.parseIntB 64 (45::l)=if numN l<=9223372036854775808 then .ok (-(numN l:Int)) else .range:=by
 have hall:=jK hd;cases l with
 |nil=>cases hd
 |cons c r=>
  have hp:=lj (2 ^ 64-1) (by decide) (c::r) 0 (by decide) hall;have e1:((45:UInt8).toNat=43\/(45:UInt8).toNat=45):= .inr rfl;have e2:(45:UInt8).toNat=45:=rfl;unfold Lib.parseIntB;simp only[if_pos e1];unfold Lib.parseUintB;rw[if_neg (by simp),hp];rw[show (c::r).foldl (fun n c=>10*n+(c.toNat-48)) 0=numN (c::r) from rfl];generalize numN (c::r)=n;by_cases h1:n<=2 ^ 64-1
  ·rw[if_pos h1];simp only[e2];by_cases h2:n<=9223372036854775808
   ·rw[if_pos h2,if_neg (by simp),if_neg (by simp;omega)];simp
   ·rw[if_neg h2,if_neg (by simp),if_pos (by simp;omega)]
  ·rw[if_neg h1,if_neg (by omega)]
def rV (l:List UInt8) (below:Bool):Option Int:=
 if below=true then
  if l=[48] then none
  else if numN l<=9223372036854775808 then some (-(numN l:Int)) else none
 else if numN l<=9223372036854775807 then some (numN l:Int) else none
def bI (kind:Int) (b:Bool) (i:Int) (x:Nat) (s:ByteArray):Value:= .agg #[.int .i64 kind,.bool b,.int .i64 i,.float .f64 x,.string s]
def iS (l:List UInt8) (below:Bool) (w:World) (e:Ending) (w':World):Prop:=
 ∃(i:Int) (ok:Bool),e= .returned (.tuple #[bI 3 false i 0 ⟨#[]⟩,.bool ok])/\Below w.heap.size w w'/\(ok=true/\rV l below=some i\/ok=false/\rV l below=none)
theorem dp {w0 w w':World} {e:TypeId} (h0:Below w0.heap.size w0 w) (h:w'=w\/∃t,w'=Lib.bytesWorld w e t):Below w0.heap.size w0 w':=by
 rcases h with rfl|⟨t,rfl⟩
 ·exact h0
 ·exact h0.trans ((Lib.bytesWorld_below w e t).mono h0.size)
theorem gZ {a:Addr} {b:Nat} {m:Mode}:∀w,(store a (.float .f64 b) m).run Tryz.prog w=stored Tryz.prog w a (.float .f64 b) m:=fun w=>run_store Tryz.prog w a _ m rfl
theorem dB {w:World} {a:Addr} {v:Value} (h:w.cell? a=some v):a.block<w.heap.size:=by
 rcases Nat.lt_or_ge a.block w.heap.size with h2|h2
 ·exact h2
 ·rw[World.cell?,Array.getElem?_eq_none h2]at h;cases h
def cQ (w:World):Prop:=∃ev,w.cell? ⟨4,0,none⟩=some ev/\(ev= .nilIface\/∃te pe,ev= .iface te pe)
theorem rU (w:World) (s:ByteArray) (hmax:s.size<=2097152) (below:Bool) (hd:jk s.data.toList=true) (hv:cQ w):
 Calls Tryz.prog 117 #[.string s,.bool below] w fun e w'=>iS s.data.toList below w e w':=by
 obtain ⟨ev,hv1,hv2⟩:=hv;have Hd:=hid hd;have hblt:(⟨4,0,none⟩:Addr).block<w.heap.size:=dB hv1;have hst:= @gZ;clear hd;cases below with
 |false=>
  have hp:=zB Hd.o;have hne:(s.toList==[45,48])=false:=by
   rw[Lib.toList_data];refine beq_eq_false_iff_ne.2 ?_;intro q;have:=Hd.o;rw[q]at this;exact absurd this (by decide)
  by_cases hle:numN s.data.toList<=9223372036854775807
  ·rw[if_pos hle]at hp;have hres:∀(i:Int) w',Below w.heap.size w w'->iS s.data.toList false w (.returned (.tuple #[bI 3 false (numN s.data.toList:Int) 0 ⟨#[]⟩,.bool true])) w':=fun _ w' h=>⟨_,true,rfl,h,.inl ⟨rfl,by unfold rV;rw[if_neg (by decide),if_pos hle]⟩⟩;clear hle;have Hp:=hid (fun w=> Tryz.strconv_ParseInt_10_at64_ok s (by omega) _ hp w);clear hp;go_enter Tryz.func117,Tryz.ntmps117
   go_wp2_with fail
   refine (Hp.o _).mono ?_;rintro e w1 ⟨rfl,hw⟩;have hb:=dp ((aAb _ w).alloc (aAa _) _) hw;have hb2:=dp (aAb _ _) hw;have hlt:w.heap.size<(w.alloc (Obj.cells #[.int .i64 0,.bool false,.int .i64 0,.float .f64 0,.string ⟨#[]⟩] 91)).heap.size:=by simp
   have f0:=hb2.frozen (p:=⟨w.heap.size,0,none⟩) hlt;have f1:=hb2.frozen (p:=⟨w.heap.size,1,none⟩) hlt;have f2:=hb2.frozen (p:=⟨w.heap.size,2,none⟩) hlt;have f3:=hb2.frozen (p:=⟨w.heap.size,3,none⟩) hlt;have f4:=hb2.frozen (p:=⟨w.heap.size,4,none⟩) hlt;have c0:=hb2.cell (p:=⟨w.heap.size,0,none⟩) hlt;have c1:=hb2.cell (p:=⟨w.heap.size,1,none⟩) hlt;have c2:=hb2.cell (p:=⟨w.heap.size,2,none⟩) hlt;have c3:=hb2.cell (p:=⟨w.heap.size,3,none⟩) hlt
   have c4:=hb2.cell (p:=⟨w.heap.size,4,none⟩) hlt;simp at f0 f1 f2 f3 f4 c0 c1 c2 c3 c4;clear hw hlt hb2;go_wp2;refine bodyPost_ret (v:= .tuple #[bI 3 false (numN s.data.toList:Int) 0 ⟨#[]⟩,.bool true]) (by simp[results,Tryz.results117,go_sem,bI,f0,f1,f2,f3,f4,c0,c1,c2,c3,c4]) rfl ?_;exact hres 0 _ (((((hb.setCell (aAa _) _).setCell (aAa _) _).setCell (aAa _) _).setCell (aAa _) _).setCell (aAa _) _)
  ·rw[if_neg hle]at hp;have hres:∀(i:Int) w',Below w.heap.size w w'->iS s.data.toList false w (.returned (.tuple #[bI 3 false i 0 ⟨#[]⟩,.bool false])) w':=fun i w' h=>⟨_,false,rfl,h,.inr ⟨rfl,by unfold rV;rw[if_neg (by decide),if_neg hle]⟩⟩;clear hle;have Hp:=hid (fun w (hv1:w.cell? ⟨4,0,none⟩=some ev)=> Tryz.strconv_ParseInt_10_at64_range s (by omega) hp ev w hv1 hv2);clear hp
   go_enter Tryz.func117,Tryz.ntmps117
   go_wp2_with fail
   refine (Hp.o _ ?_).mono ?_
   ·rw[((aAb w.heap.size w).alloc (aAa _) _).cell hblt];exact hv1
   rintro e w1 ⟨N,rfl,hN,hob,hb2⟩;have hb:=((aAb _ w).alloc (aAa _) _).trans (hb2.mono (by simp));have hlt:w.heap.size<(w.alloc (Obj.cells #[.int .i64 0,.bool false,.int .i64 0,.float .f64 0,.string ⟨#[]⟩] 91)).heap.size:=by simp
   have f0:=hb2.frozen (p:=⟨w.heap.size,0,none⟩) hlt;have f1:=hb2.frozen (p:=⟨w.heap.size,1,none⟩) hlt;have f2:=hb2.frozen (p:=⟨w.heap.size,2,none⟩) hlt;have f3:=hb2.frozen (p:=⟨w.heap.size,3,none⟩) hlt;have f4:=hb2.frozen (p:=⟨w.heap.size,4,none⟩) hlt;have c0:=hb2.cell (p:=⟨w.heap.size,0,none⟩) hlt;have c1:=hb2.cell (p:=⟨w.heap.size,1,none⟩) hlt;have c2:=hb2.cell (p:=⟨w.heap.size,2,none⟩) hlt;have c3:=hb2.cell (p:=⟨w.heap.size,3,none⟩) hlt
   have c4:=hb2.cell (p:=⟨w.heap.size,4,none⟩) hlt;simp at f0 f1 f2 f3 f4 c0 c1 c2 c3 c4;clear hN hob hlt hb2;go_wp2;refine bodyPost_ret (v:= .tuple #[bI 3 false (Lib.intSat 64 s.data.toList) 0 ⟨#[]⟩,.bool false]) (by simp[results,Tryz.results117,go_sem,bI,f0,f1,f2,f3,f4,c0,c1,c2,c3,c4]) rfl ?_;exact hres _ _ (((((hb.setCell (aAa _) _).setCell (aAa _) _).setCell (aAa _) _).setCell (aAa _) _).setCell (aAa _) _)
 |true=>
  have hl:((⟨#[45]⟩:ByteArray)++s).data.toList=45::s.data.toList:=ByteArray.toList_data_append;have hsz:((⟨#[45]⟩:ByteArray)++s).size=s.size+1:=by rw[<-al,hl,aAd,al]
  have hp:=zC Hd.o;rw[<-hl]at hp;have hcat:(⟨#[45]⟩:ByteArray).size+s.size<=9223372036854775807:=by
   have:(⟨#[45]⟩:ByteArray).size=1:=rfl;omega
  by_cases hz:s.data.toList=[48]
  ·have hne:(((⟨#[45]⟩:ByteArray)++s).toList==[45,48])=true:=by
    rw[Lib.toList_data,hl,hz];rfl
   have hle:numN s.data.toList<=9223372036854775808:=by rw[hz];decide
   rw[if_pos hle]at hp;have hres:∀(i:Int) w',Below w.heap.size w w'->iS s.data.toList true w (.returned (.tuple #[bI 3 false i 0 ⟨#[]⟩,.bool false])) w':=fun i w' h=>⟨_,false,rfl,h,.inr ⟨rfl,by unfold rV;rw[if_pos rfl,if_pos hz]⟩⟩;clear hle hz hl;have Hp:=hid (fun w=> Tryz.strconv_ParseInt_10_at64_ok (⟨#[45]⟩++s) (by rw[hsz];omega) _ hp w);clear hp;go_enter Tryz.func117,Tryz.ntmps117
   go_wp2_with fail
   refine (Hp.o _).mono ?_;rintro e w1 ⟨rfl,hw⟩;have hb:=dp ((aAb _ w).alloc (aAa _) _) hw;have hb2:=dp (aAb _ _) hw;have hlt:w.heap.size<(w.alloc (Obj.cells #[.int .i64 0,.bool false,.int .i64 0,.float .f64 0,.string ⟨#[]⟩] 91)).heap.size:=by simp
   have f0:=hb2.frozen (p:=⟨w.heap.size,0,none⟩) hlt;have f1:=hb2.frozen (p:=⟨w.heap.size,1,none⟩) hlt;have f2:=hb2.frozen (p:=⟨w.heap.size,2,none⟩) hlt;have f3:=hb2.frozen (p:=⟨w.heap.size,3,none⟩) hlt;have f4:=hb2.frozen (p:=⟨w.heap.size,4,none⟩) hlt;have c0:=hb2.cell (p:=⟨w.heap.size,0,none⟩) hlt;have c1:=hb2.cell (p:=⟨w.heap.size,1,none⟩) hlt;have c2:=hb2.cell (p:=⟨w.heap.size,2,none⟩) hlt;have c3:=hb2.cell (p:=⟨w.heap.size,3,none⟩) hlt
   have c4:=hb2.cell (p:=⟨w.heap.size,4,none⟩) hlt;simp at f0 f1 f2 f3 f4 c0 c1 c2 c3 c4;clear hw hlt hb2;go_wp2;refine bodyPost_ret (v:= .tuple #[bI 3 false (-(numN s.data.toList:Int)) 0 ⟨#[]⟩,.bool false]) (by simp[results,Tryz.results117,go_sem,bI,f0,f1,f2,f3,f4,c0,c1,c2,c3,c4]) rfl ?_;exact hres _ _ (((((hb.setCell (aAa _) _).setCell (aAa _) _).setCell (aAa _) _).setCell (aAa _) _).setCell (aAa _) _)
  ·have hne:(((⟨#[45]⟩:ByteArray)++s).toList==[45,48])=false:=by
    rw[Lib.toList_data,hl];refine beq_eq_false_iff_ne.2 ?_;intro q;exact hz (List.cons.inj q).2
   by_cases hle:numN s.data.toList<=9223372036854775808
   ·rw[if_pos hle]at hp;have hres:∀(i:Int) w',Below w.heap.size w w'->iS s.data.toList true w (.returned (.tuple #[bI 3 false (-(numN s.data.toList:Int)) 0 ⟨#[]⟩,.bool true])) w':=fun i w' h=>⟨_,true,rfl,h,.inl ⟨rfl,by unfold rV;rw[if_pos rfl,if_neg hz,if_pos hle]⟩⟩;clear hle hl;have Hp:=hid (fun w=> Tryz.strconv_ParseInt_10_at64_ok (⟨#[45]⟩++s) (by rw[hsz];omega) _ hp w);clear hp;go_enter Tryz.func117,Tryz.ntmps117
    go_wp2_with fail
    refine (Hp.o _).mono ?_;rintro e w1 ⟨rfl,hw⟩;have hb:=dp ((aAb _ w).alloc (aAa _) _) hw;have hb2:=dp (aAb _ _) hw;have hlt:w.heap.size<(w.alloc (Obj.cells #[.int .i64 0,.bool false,.int .i64 0,.float .f64 0,.string ⟨#[]⟩] 91)).heap.size:=by simp
    have f0:=hb2.frozen (p:=⟨w.heap.size,0,none⟩) hlt;have f1:=hb2.frozen (p:=⟨w.heap.size,1,none⟩) hlt;have f2:=hb2.frozen (p:=⟨w.heap.size,2,none⟩) hlt;have f3:=hb2.frozen (p:=⟨w.heap.size,3,none⟩) hlt;have f4:=hb2.frozen (p:=⟨w.heap.size,4,none⟩) hlt;have c0:=hb2.cell (p:=⟨w.heap.size,0,none⟩) hlt;have c1:=hb2.cell (p:=⟨w.heap.size,1,none⟩) hlt;have c2:=hb2.cell (p:=⟨w.heap.size,2,none⟩) hlt;have c3:=hb2.cell (p:=⟨w.heap.size,3,none⟩) hlt
    have c4:=hb2.cell (p:=⟨w.heap.size,4,none⟩) hlt;simp at f0 f1 f2 f3 f4 c0 c1 c2 c3 c4;clear hw hlt hb2;go_wp2;refine bodyPost_ret (v:= .tuple #[bI 3 false (-(numN s.data.toList:Int)) 0 ⟨#[]⟩,.bool true]) (by simp[results,Tryz.results117,go_sem,bI,f0,f1,f2,f3,f4,c0,c1,c2,c3,c4]) rfl ?_;exact hres 0 _ (((((hb.setCell (aAa _) _).setCell (aAa _) _).setCell (aAa _) _).setCell (aAa _) _).setCell (aAa _) _)
   ·rw[if_neg hle]at hp;have hres:∀(i:Int) w',Below w.heap.size w w'->iS s.data.toList true w (.returned (.tuple #[bI 3 false i 0 ⟨#[]⟩,.bool false])) w':=fun i w' h=>⟨_,false,rfl,h,.inr ⟨rfl,by unfold rV;rw[if_pos rfl,if_neg hz,if_neg hle]⟩⟩;clear hle hl;have Hp:=hid (fun w (hv1:w.cell? ⟨4,0,none⟩=some ev)=> Tryz.strconv_ParseInt_10_at64_range (⟨#[45]⟩++s) (by rw[hsz];omega) hp ev w hv1 hv2)
    clear hp;go_enter Tryz.func117,Tryz.ntmps117
    go_wp2_with fail
    refine (Hp.o _ ?_).mono ?_
    ·rw[((aAb w.heap.size w).alloc (aAa _) _).cell hblt];exact hv1
    rintro e w1 ⟨N,rfl,hN,hob,hb2⟩;have hb:=((aAb _ w).alloc (aAa _) _).trans (hb2.mono (by simp));have hlt:w.heap.size<(w.alloc (Obj.cells #[.int .i64 0,.bool false,.int .i64 0,.float .f64 0,.string ⟨#[]⟩] 91)).heap.size:=by simp
    have f0:=hb2.frozen (p:=⟨w.heap.size,0,none⟩) hlt;have f1:=hb2.frozen (p:=⟨w.heap.size,1,none⟩) hlt;have f2:=hb2.frozen (p:=⟨w.heap.size,2,none⟩) hlt;have f3:=hb2.frozen (p:=⟨w.heap.size,3,none⟩) hlt;have f4:=hb2.frozen (p:=⟨w.heap.size,4,none⟩) hlt;have c0:=hb2.cell (p:=⟨w.heap.size,0,none⟩) hlt;have c1:=hb2.cell (p:=⟨w.heap.size,1,none⟩) hlt;have c2:=hb2.cell (p:=⟨w.heap.size,2,none⟩) hlt;have c3:=hb2.cell (p:=⟨w.heap.size,3,none⟩) hlt
    have c4:=hb2.cell (p:=⟨w.heap.size,4,none⟩) hlt;simp at f0 f1 f2 f3 f4 c0 c1 c2 c3 c4;clear hN hob hlt hb2;go_wp2;refine bodyPost_ret (v:= .tuple #[bI 3 false (Lib.intSat 64 (⟨#[45]⟩++s).data.toList) 0 ⟨#[]⟩,.bool false]) (by simp[results,Tryz.results117,go_sem,bI,f0,f1,f2,f3,f4,c0,c1,c2,c3,c4]) rfl ?_;exact hres _ _ (((((hb.setCell (aAa _) _).setCell (aAa _) _).setCell (aAa _) _).setCell (aAa _) _).setCell (aAa _) _)
theorem mF {l x y:List UInt8} {c:UInt8} (h:dV l c=(x,y,true)):l=x++c::y/\(∀z∈x,(z != c)=true):=by
 unfold dV at h
 split at h
 ·cases h
 ·rename_i hn
  simp only[Prod.mk.injEq,and_true]at h;obtain ⟨rfl,rfl⟩:=h;have e:=List.takeWhile_append_dropWhile (p:=fun x=>x != c) (l:=l);refine ⟨?_,fun z hz=>List.all_eq_true.1 (List.all_takeWhile (p:=fun x=>x != c)) z hz⟩;cases hd:l.dropWhile (fun x=>x != c) with
  |nil=>
   exfalso
   rw[hd,List.append_nil]at e;apply hn;rw[List.all_eq_true];intro z hz;rw[<-e]at hz;exact List.all_eq_true.1 (List.all_takeWhile (p:=fun x=>x != c)) z hz
  |cons q r=>
   have hq:¬(q != c)=true:=by
    have:=List.head?_dropWhile_not (p:=fun x=>x != c) (l:=l);rw[hd]at this
    simpa using this
   have hqc:q=c:=by simpa using hq
   rw[hd]at e
   conv=>lhs;rw[<-e]
   rw[hqc];simp[hd,hqc]
theorem uO {l x y:List UInt8} {c:UInt8} {ok:Bool} (h:dV l c=(x,y,ok)):∃z,l=x++z:=by
 cases ok with
 |true=>exact ⟨_,(mF h).1⟩
 |false=>
  unfold dV at h
  split at h
  ·simp only[Prod.mk.injEq]at h;exact ⟨[],by rw[h.1,List.append_nil]⟩
  ·cases h
theorem sj {x y:List UInt8} {c:UInt8} (h:∀z∈x,(z != c)=true):dV (x++c::y) c=(x,y,true):=by
 have hn:¬(c != c)=true:=by simp
 unfold dV;rw[if_neg,List.takeWhile_append_of_pos h,List.takeWhile_cons_of_neg (p:=fun x=>x != c) hn,List.dropWhile_append_of_pos h,List.dropWhile_cons_of_neg (p:=fun x=>x != c) hn]
 ·simp
 ·intro q;rw[List.all_eq_true]at q;exact hn (q c (by simp))
theorem qY {l:List UInt8} {c:UInt8} (h:∀z∈l,(z != c)=true):dV l c=(l,[],false):=by
 unfold dV;rw[if_pos (List.all_eq_true.2 h)]
theorem Jw {c e:UInt8} (h:isD c=true) (he:isD e=false):(c != e)=true:=by
 rw[bne_iff_ne];intro q;rw[q,he]at h;cases h
theorem j3 {l:List UInt8} {e:UInt8} (h:l.all isD=true) (he:isD e=false):∀z∈l,(z != e)=true:=
 fun z hz=>Jw (List.all_eq_true.1 h z hz) he
theorem Ga {l:List UInt8} (h:jk l=true):l≠[]:=by
 rintro rfl;cases h
theorem mM {l:List UInt8} (h:cF l=true):jk l=true:=by
 unfold cF at h;simp only[Bool.and_eq_true]at h;exact h.1
theorem xi {l:List UInt8} (h:jh l≠none):∃a t,(bc l).1=a++46::t/\cF a=true:=by
 unfold jh at h;simp only at h
 split at h
 ·rename_i hc
  obtain ⟨h1,h2,h3⟩:=hc;have e1:dV (dV (bc l).1 101).1 46=((dV (dV (bc l).1 101).1 46).1,(dV (dV (bc l).1 101).1 46).2.1,true):=by
   rw[<-h1]
  obtain ⟨e2,_⟩:=mF e1;obtain ⟨z,hz⟩:=uO (l:=(bc l).1) (c:=101) (x:=(dV (bc l).1 101).1) (y:=(dV (bc l).1 101).2.1) (ok:=(dV (bc l).1 101).2.2) rfl;refine ⟨(dV (dV (bc l).1 101).1 46).1,(dV (dV (bc l).1 101).1 46).2.1++z,?_,h2⟩
  conv=>lhs;rw[hz,e2]
  simp
 ·exact absurd rfl h
theorem AY {a t:List UInt8} (h:a.all isD=true):(a++46::t).takeWhile isD=a:=by
 rw[List.takeWhile_append_of_pos (List.all_eq_true.1 h),List.takeWhile_cons_of_neg (by decide),List.append_nil]
theorem mE {l r:List UInt8} {b:Bool} (hm:bc l=(r,b)) (h:¬∃t,r=r.takeWhile isD++46::t/\cF (r.takeWhile isD)=true):jh l=none:=by
 apply Decidable.byContradiction;intro hn;obtain ⟨a,t,e,ha⟩:=xi hn;rw[hm]at e;simp only at e;apply h;refine ⟨t,?_⟩;rw[e,AY (iw ha)];exact ⟨rfl,ha⟩
theorem qS {l r:List UInt8} {b:Bool} (hm:bc l=(r,b)) (h:cF r=false):pd l=none:=by
 unfold pd;rw[hm,if_pos h]
theorem rJ:∀(l:List UInt8) (acc:Nat),0<acc->0<l.foldl (fun n c=>10*n+(c.toNat-48)) acc:=fun l acc h=>Nat.lt_of_lt_of_le h (mZ l acc)
theorem Ck {l:List UInt8} (h:cF l=true) (h2:l≠[48]):0<numN l:=by
 have hd:=jK (mM h);cases l with
 |nil=>cases h
 |cons c r=>
  rw[List.all_cons]at hd;simp only[Bool.and_eq_true]at hd;have hc:=(j1 c).1 hd.1;have hne:c.toNat≠48:=by
   intro q;have hc48:c=48:=UInt8.toNat_inj.1 (by simpa using q);subst hc48;unfold cF at h;simp only[Bool.and_eq_true,Bool.or_eq_true]at h;rcases h.2 with h3|h3
   ·simp at h3
   ·simp at h3;subst h3;exact h2 rfl
  show 0<(c::r).foldl (fun n c=>10*n+(c.toNat-48)) 0
  rw[List.foldl_cons];exact rJ r _ (by omega)
theorem wR {l r:List UInt8} {b:Bool} (hm:bc l=(r,b)) (h:cF r=true):pd l=rV r b:=by
 unfold pd rV;rw[hm];simp only;rw[if_neg (by simp[h])];cases b with
 |false=>simp
 |true=>
  simp only[if_true];by_cases h48:r=[48]
  ·rw[if_pos h48,if_pos h48]
  ·rw[if_neg h48,if_neg h48];have:=Ck h h48;by_cases hle:numN r<=9223372036854775808
   ·rw[if_pos ⟨hle,this⟩,if_pos hle]
   ·rw[if_neg (fun q=>hle q.1),if_neg hle]
theorem uM {l r:List UInt8} {b:Bool} (hm:bc l=(r,b)) (h:r.all isD=true):jh l=none:=by
 refine mE hm ?_;rintro ⟨t,e,_⟩;rw[jO h]at e;have:=congrArg List.length e;simp at this
theorem j4 {l d t x y:List UInt8} {b ok:Bool} (hm:bc l=(d++46::t,b)) (hd:d.all isD=true) (hc:dV t 101=(x,y,ok)):
 jh l=if cF d=true/\jk x=true then
  match vW ok y with
  |some k=>if numN (d++x)<=999999999999999/\x.length<=200/\¬Bad (numN (d++x)) (k-(x.length:Int)) then some (numN (d++x),k-(x.length:Int),b) else none
  |none=>none
 else none:=by
 have h1:dV (d++46::t) 101=(d++46::x,y,ok):=by
  cases ok with
  |true=>
   obtain ⟨e,hx⟩:=mF hc;have:d++46::t=(d++46::x)++101::y:=by rw[e];simp
   rw[this];refine sj ?_;intro z hz;rcases List.mem_append.1 hz with hz|hz
   ·exact j3 hd (by decide) z hz
   ·rcases List.mem_cons.1 hz with rfl|hz
    ·decide
    ·exact hx z hz
  |false=>
   unfold dV at hc
   split at hc
   ·rename_i hall
    simp only[Prod.mk.injEq,and_true]at hc;obtain ⟨rfl,rfl⟩:=hc;refine qY ?_;intro z hz;rcases List.mem_append.1 hz with hz|hz
    ·exact j3 hd (by decide) z hz
    ·rcases List.mem_cons.1 hz with rfl|hz
     ·decide
     ·exact List.all_eq_true.1 hall z hz
   ·cases hc
 have h2:dV (d++46::x) 46=(d,x,true):=sj (j3 hd (by decide));unfold jh;simp only[hm,h1,h2,true_and]<;>rfl
theorem FZ {b:List UInt8} (hb:b.all isD=true):dV b 101=(b,[],false):=qY (j3 hb (by decide))
theorem GC {b v:List UInt8} (hb:b.all isD=true):dV (b++101::v) 101=(b,v,true):=sj (j3 hb (by decide))
theorem yt {b v:List UInt8} {c:UInt8} (hb:b.all isD=true) (hc:isD c=false) (h:c≠101):jk (dV (b++c::v) 101).1=false:=by
 cases hq:jk (dV (b++c::v) 101).1 with
 |false=>rfl
 |true=>
  exfalso
  have hx:=jK hq;have key:∃w,(dV (b++c::v) 101).1=b++c::w:=by
   unfold dV
   split
   ·exact ⟨v,rfl⟩
   ·simp only;rw[List.takeWhile_append_of_pos (j3 hb (by decide)),List.takeWhile_cons_of_pos (by simpa using h)];exact ⟨_,rfl⟩
  obtain ⟨w,hw⟩:=key;rw[hw,List.all_append,List.all_cons,hc]at hx;simp at hx
theorem sL:∀(l:List UInt8) (a b:Nat),a=min b 1000000000000000000->l.foldl (fun m c=>min (m*10+(c.toNat-48)) 1000000000000000000) a=min (l.foldl (fun n c=>10*n+(c.toNat-48)) b) 1000000000000000000:=by
 intro l
 induction l with
 |nil=>intro a b h;exact h
 |cons c r ih=>
  intro a b h;rw[List.foldl_cons,List.foldl_cons];exact ih _ _ (by omega)
theorem ri (l:List UInt8):jl l=min (numN l) 1000000000000000000:=sL l 0 0 (by decide)
theorem DP (l:List UInt8) (k:Int) (n:Nat) (p:Int) (hp:p<=99) (hk:k=p-(n:Int)):Bad (jl l) k↔¬(numN l<=999999999999999/\n<=200/\¬Bad (numN l) k):=by
 rw[ri];unfold Bad;generalize numN l=x;omega
theorem FA (l:List UInt8) (k:Int) (h:¬Bad (jl l) k):jl l=numN l:=by
 rw[ri]at h |-;unfold Bad at h;omega
theorem sH {r:List UInt8} (h:cF r=true):r.takeWhile isD=r:=jO (iw h)
theorem pG {l r:List UInt8} {b:Bool} (hm:bc l=(r,b)) (h:cF (r.takeWhile isD)=false):pd l=none/\jh l=none:=by
 refine ⟨qS hm ?_,mE hm ?_⟩
 ·cases hq:cF r with
  |false=>rfl
  |true=>rw[sH hq,hq]at h;cases h
 ·rintro ⟨t,_,q⟩;rw[q]at h;cases h
theorem cW (r:List UInt8):(r.takeWhile isD).all isD=true:=List.all_takeWhile
theorem sI {r:List UInt8} (h0:(r.takeWhile isD).length≠0) (h:¬(1<(r.takeWhile isD).length/\(r.takeWhile isD).head? =some 48)):cF (r.takeWhile isD)=true:=by
 have hd:=cW r;generalize r.takeWhile isD=d at*;unfold cF jk;rw[hd];cases d with
 |nil=>exact absurd rfl h0
 |cons c q=>
  simp only[List.isEmpty_cons,Bool.not_false,Bool.and_true,Bool.true_and,Bool.or_eq_true,decide_eq_true_eq];rcases Nat.lt_or_ge 1 (c::q).length with h1|h1
  ·exact .inl fun e=>h ⟨h1,e⟩
  ·exact .inr (by simp at h1 |-;exact h1)
theorem zJ {r:List UInt8} (h:1<(r.takeWhile isD).length) (h2:(r.takeWhile isD).head? =some 48):cF (r.takeWhile isD)=false:=by
 cases hq:cF (r.takeWhile isD) with
 |false=>rfl
 |true=>
  unfold cF at hq;simp only[Bool.and_eq_true,Bool.or_eq_true,decide_eq_true_eq]at hq;rcases hq.2 with h3|h3
  ·exact absurd h2 h3
  ·omega
theorem D6 {r:List UInt8} (h:0<(r.takeWhile isD).length):(r.takeWhile isD).head? =r.head? :=by
 cases r with
 |nil=>rfl
 |cons c q=>
  rw[List.takeWhile_cons]at h |-
  split
  ·rfl
  ·rename_i hn
   rw[if_neg hn]at h;simp at h
theorem lR (r:List UInt8):(r.takeWhile isD).length<=r.length:=List.IsPrefix.length_le (List.takeWhile_prefix isD)
theorem nO {r:List UInt8} (h:(r.takeWhile isD).length=r.length):r.takeWhile isD=r:=
 List.IsPrefix.eq_of_length (List.takeWhile_prefix isD) h
theorem E7 {l r:List UInt8} {b:Bool} (hm:bc l=(r,b)) (h:(r.takeWhile isD).length≠r.length):pd l=none:=by
 refine qS hm ?_;cases hq:cF r with
 |false=>rfl
 |true=>exact absurd (by rw[sH hq]) h
theorem oo (t:List UInt8):∃u,t=t.takeWhile isD++u/\(u=[]\/∃c v,u=c::v/\isD c=false):=by
 refine ⟨t.dropWhile isD,List.takeWhile_append_dropWhile.symm,?_⟩;cases hd:t.dropWhile isD with
 |nil=>exact .inl rfl
 |cons c v=>
  have:=List.head?_dropWhile_not (p:=isD) (l:=t);rw[hd]at this;exact .inr ⟨c,v,rfl,by simpa using this⟩
theorem get_at {s:ByteArray} {pre post:List UInt8} {c:UInt8} (h:s.data.toList=pre++c::post) {k:Nat} (hk:k=pre.length) (hlt:k<s.size):s[k]=c:=by
 subst hk;rw[gS s _ hlt];simp[h]
theorem sT {s:ByteArray} {k:Nat} (hlt:k<s.size):s.data.toList=s.data.toList.take k++s[k]::s.data.toList.drop (k+1):=by
 rw[gS s k hlt,<-List.drop_eq_getElem_cons (by rw[al];exact hlt),List.take_append_drop]
theorem nN (r:List UInt8):r.takeWhile isD=r.take (r.takeWhile isD).length:=List.prefix_iff_eq_take.1 (List.takeWhile_prefix isD)
theorem Cl {l:List UInt8} {r:ByteArray} {b:Bool} {n:Nat} (hm:bc l=(r.data.toList,b)) (hn:n=(r.data.toList.takeWhile isD).length) (hlt:n<r.size) (h:r[n]≠46):jh l=none:=by
 refine mE hm ?_;rintro ⟨t,e,_⟩;exact h (get_at e hn hlt)
theorem vX {r:ByteArray} {n:Nat} (hn:n=(r.data.toList.takeWhile isD).length) (hlt:n<r.size) (h:r[n]=46):
 r.data.toList=r.data.toList.takeWhile isD++46::(r.extract (n+1) r.size).data.toList:=by
 have e:=sT hlt;rw[h]at e;rw[dm];have:=nN r.data.toList;rw[<-hn]at this;rw[this];exact e
theorem mg {l d t:List UInt8} {b:Bool} (hm:bc l=(d++46::t,b)) (hd:d.all isD=true) (h:(t.takeWhile isD).length=0):jh l=none:=by
 obtain ⟨x,y,ok,hc⟩:∃x y ok,dV t 101=(x,y,ok):=⟨_,_,_,rfl⟩;rw[j4 hm hd hc,if_neg];rintro ⟨_,q⟩;obtain ⟨u,e,hu⟩:=oo t;rw[List.eq_nil_of_length_eq_zero h,List.nil_append]at e;have hx:x=(dV t 101).1:=by rw[hc]
 have hall:([]:List UInt8).all isD=true:=rfl;rcases hu with hu|⟨c,v,hu,hcd⟩
 ·rw[e,hu]at hx;rw[hx]at q;cases q
 ·by_cases h101:c=101
  ·have:=GC (b:=[]) (v:=v) hall;rw[List.nil_append]at this;rw[e,hu,h101,this]at hx;rw[hx]at q;cases q
  ·have:=yt (b:=[]) (v:=v) hall hcd h101;rw[List.nil_append]at this;rw[e,hu]at hx;rw[hx,this]at q;cases q
def AE (d b:List UInt8) (neg:Bool) (k:Option Int):Option (Nat×Int×Bool):=
 match k with
 |some k=>if numN (d++b)<=999999999999999/\b.length<=200/\¬Bad (numN (d++b)) (k-(b.length:Int)) then some (numN (d++b),k-(b.length:Int),neg) else none
 |none=>none
theorem sr {b:List UInt8} (h:b.all isD=true) (h0:b.length≠0):jk b=true:=by
 unfold jk;rw[h];cases b with
 |nil=>exact absurd rfl h0
 |cons c r=>rfl
theorem FU {l d t:List UInt8} {neg:Bool} (hm:bc l=(d++46::t,neg)) (hw:cF d=true) (h0:(t.takeWhile isD).length≠0) (h:(t.takeWhile isD).length=t.length):
 jh l=AE d (t.takeWhile isD) neg (some 0):=by
 have ht:=nO h;rw[ht]at h0 |-;have hall:t.all isD=true:=by rw[<-ht];exact cW t
 rw[j4 hm (iw hw) (FZ hall),if_pos ⟨hw,sr hall h0⟩];rfl
theorem FR {l d t v:List UInt8} {neg:Bool} (hm:bc l=(d++46::t,neg)) (hw:cF d=true) (h0:(t.takeWhile isD).length≠0) (h:t=t.takeWhile isD++101::v):
 jh l=AE d (t.takeWhile isD) neg (vW true v):=by
 have hall:=cW t;generalize t.takeWhile isD=b at*;subst h;rw[j4 hm (iw hw) (GC hall),if_pos ⟨hw,sr hall h0⟩];rfl
theorem FT {l d t v:List UInt8} {c:UInt8} {neg:Bool} (hm:bc l=(d++46::t,neg)) (hd:d.all isD=true) (h:t=t.takeWhile isD++c::v) (hc:isD c=false) (hne:c≠101):
 jh l=none:=by
 obtain ⟨x,y,ok,hcu⟩:∃x y ok,dV t 101=(x,y,ok):=⟨_,_,_,rfl⟩;rw[j4 hm hd hcu,if_neg];rintro ⟨_,q⟩;have:=yt (v:=v) (cW t) hc hne;rw[<-h,hcu]at this;simp only at this;rw[this]at q;cases q
theorem uX {t:ByteArray} {k:Nat} (hk:k=(t.data.toList.takeWhile isD).length) (hlt:k<t.size):t.data.toList=t.data.toList.takeWhile isD++t[k]::(t.extract (k+1) t.size).data.toList/\isD t[k]=false:=by
 have e:=sT hlt;have h2:=nN t.data.toList;rw[<-hk]at h2;rw[dm];refine ⟨by rw[h2];exact e,?_⟩;obtain ⟨u,e2,hu⟩:=oo t.data.toList;have hlen:=congrArg List.length e2;rw[aAc,<-hk,al]at hlen;rcases hu with rfl|⟨c,v,rfl,hc⟩
 ·simp at hlen;omega
 ·rw[get_at e2 hk hlt];exact hc
theorem DN {r:ByteArray} {n k N:Nat} (hk:k=((r.extract (n+1) r.size).data.toList.takeWhile isD).length) (hN:N=n+1+k) (hlt:N<r.size):
 (r.extract (n+1) r.size).data.toList=(r.extract (n+1) r.size).data.toList.takeWhile isD++r[N]::(r.extract (N+1) r.size).data.toList/\isD r[N]=false:=by
 have hT:(r.extract (n+1) r.size).size=r.size-(n+1):=by
  rw[<-al,dm,List.length_drop,al]
 have hlt2:k<(r.extract (n+1) r.size).size:=by omega
 have h:=uX hk hlt2;have e1:(r.extract (n+1) r.size)[k]=r[N]:=by
  rw[gS _ _ hlt2,gS _ _ hlt];simp only[dm,List.getElem_drop];congr 1;exact hN.symm
 have e2:((r.extract (n+1) r.size).extract (k+1) (r.extract (n+1) r.size).size).data.toList=(r.extract (N+1) r.size).data.toList:=by
  rw[dm,dm,dm,List.drop_drop];congr 1;omega
 rw[e1,e2]at h;exact h
theorem B4 {v p:List UInt8} {down:Bool} (hm:bc v=(p,down)):vW true v=if (p.takeWhile isD).length≠0/\(p.takeWhile isD).length<=2/\(p.takeWhile isD).length=p.length then some (if down=true then -(numN p:Int) else (numN p:Int)) else none:=by
 unfold vW;rw[if_pos rfl,hm];simp only;by_cases h:jk p=true/\p.length<=2
 ·have ht:=jO (jK h.1);have hc:p.length≠0/\p.length<=2/\p.length=p.length:=⟨by intro q;exact Ga h.1 (List.eq_nil_of_length_eq_zero q),h.2,rfl⟩;rw[if_pos h,ht,if_pos hc]
 ·rw[if_neg h,if_neg];rintro ⟨h0,h1,h2⟩;have ht:=nO h2;apply h;rw[ht]at h1 h0;refine ⟨sr ?_ h0,h1⟩;rw[<-ht];exact cW p
theorem vq {l:List UInt8} (h:l.all isD=true) (hl:l.length<=2):jl l=numN l/\numN l<=99:=by
 have h1:=E6 h;have h2:10 ^ l.length<=10 ^ 2:=Nat.pow_le_pow_right (by decide) hl;rw[ri];omega
theorem DB {d b:List UInt8} {neg:Bool} {p:Int} (hp:p<=99) (k:Int) (hk:k=p-(b.length:Int)):
 (Bad (jl (d++b)) k->AE d b neg (some p)=none)/\(¬Bad (jl (d++b)) k->AE d b neg (some p)=some (jl (d++b),k,neg)):=by
 have hb:=DP (d++b) k b.length p hp hk;unfold AE;simp only;rw[<-hk];constructor
 ·intro h;rw[if_neg (hb.1 h)]
 ·intro h;have h2:=Decidable.of_not_not (fun q=>h (hb.2 q));rw[if_pos h2,FA _ _ h]
