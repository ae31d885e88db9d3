/-
Parts of a proof, one behind the other (laid dense by a program of mine: pack.py).
-/
import Derived.Lib.AtoiErrMem
import Derived.Test.YtfenoaeoedobmaaGreatDoorAl02
import Derived.Test.YtfenoaeoedobmaaGreatDoorAl04
set_option linter.unusedVariables false
set_option linter.unusedSimpArgs false
set_option maxHeartbeats 1000000
namespace Go.Proofs.YtfenoaeoedobmaaGreatDoor
open Go Go.RowKit
theorem numN_ge_acc:∀(l:List UInt8) (acc:Nat),acc≤l.foldl (fun n c=>10*n+(c.toNat-48)) acc:=by
 intro l
 induction l with
 |nil=>intro acc;exact Nat.le_refl _
 |cons c r ih=>intro acc;exact Nat.le_trans (by omega) (ih (10*acc+(c.toNat-48)))
theorem parse_digits (M:Nat) (hM:M≤18446744073709551619):∀(l:List UInt8) (acc:Nat),acc≤M→l.all isD=true→
 Lib.parseUintM M acc l=if l.foldl (fun n c=>10*n+(c.toNat-48)) acc≤M then .ok (l.foldl (fun n c=>10*n+(c.toNat-48)) acc) else .range:=by
 intro l
 induction l with
 |nil=>intro acc h _;simp[Lib.parseUintM,h]
 |cons c r ih=>
  intro acc h hd;rw[List.all_cons]at hd;simp only[Bool.and_eq_true]at hd;have h2:=(isD_iff c).1 hd.1;have hge:=numN_ge_acc r (10*acc+(c.toNat-48));rw[List.foldl_cons,Lib.parseUintM,if_pos h2,Nat.mul_comm acc 10];by_cases h3:1844674407370955162≤acc
  ·rw[if_pos h3,if_neg];intro q;have:=Nat.le_trans hge q;omega
  ·rw[if_neg h3];by_cases h4:M<10*acc+(c.toNat-48)
   ·rw[if_pos h4,if_neg];intro q;have:=Nat.le_trans hge q;omega
   ·rw[if_neg h4];exact ih _ (by omega) hd.2
theorem parse_pos {l:List UInt8} (hd:allD l=true):Lib.parseIntB 64 l=if numN l≤9223372036854775807 then .ok (numN l:Int) else .range:=by
 have hall:=allD_all hd;cases l with
 |nil=>cases hd
 |cons c r=>
  have hp:=parse_digits (2 ^ 64-1) (by decide) (c::r) 0 (by decide) hall;have hc:isD c=true:=by
   rw[List.all_cons]at hall;simp only[Bool.and_eq_true]at hall;exact hall.1
  have hc2:=(isD_iff c).1 hc;have e1:¬(c.toNat=43∨c.toNat=45):=by omega
  have e2:¬c.toNat=45:=by omega
  unfold Lib.parseIntB;simp only[if_neg e1];unfold Lib.parseUintB;rw[if_neg (by simp),hp];rw[show (c::r).foldl (fun n c=>10*n+(c.toNat-48)) 0=numN (c::r) from rfl];generalize numN (c::r)=n;by_cases h1:n≤2 ^ 64-1
  ·rw[if_pos h1];simp only[e2];by_cases h2:n≤9223372036854775807
   ·rw[if_pos h2,if_neg (by simp;omega)];simp
   ·rw[if_neg h2,if_pos (by simp;omega)]
  ·rw[if_neg h1,if_neg (by omega)]
theorem parse_neg {l:List UInt8} (hd:allD l=true):Lib.parseIntB 64 (45::l)=if numN l≤9223372036854775808 then .ok (-(numN l:Int)) else .range:=by
 have hall:=allD_all hd;cases l with
 |nil=>cases hd
 |cons c r=>
  have hp:=parse_digits (2 ^ 64-1) (by decide) (c::r) 0 (by decide) hall;have e1:((45:UInt8).toNat=43∨(45:UInt8).toNat=45):= .inr rfl;have e2:(45:UInt8).toNat=45:=rfl;unfold Lib.parseIntB;simp only[if_pos e1];unfold Lib.parseUintB;rw[if_neg (by simp),hp];rw[show (c::r).foldl (fun n c=>10*n+(c.toNat-48)) 0=numN (c::r) from rfl];generalize numN (c::r)=n;by_cases h1:n≤2 ^ 64-1
  ·rw[if_pos h1];simp only[e2];by_cases h2:n≤9223372036854775808
   ·rw[if_pos h2,if_neg (by simp),if_neg (by simp;omega)];simp
   ·rw[if_neg h2,if_neg (by simp),if_pos (by simp;omega)]
  ·rw[if_neg h1,if_neg (by omega)]
def intP (l:List UInt8) (below:Bool):Option Int:=
 if below=true then
  if l=[48] then none
  else if numN l≤9223372036854775808 then some (-(numN l:Int)) else none
 else if numN l≤9223372036854775807 then some (numN l:Int) else none
def valV (kind:Int) (b:Bool) (i:Int) (x:Nat) (s:ByteArray):Value:= .agg #[.int .i64 kind,.bool b,.int .i64 i,.float .f64 x,.string s]
def IntPostP (l:List UInt8) (below:Bool) (w:World) (e:Ending) (w':World):Prop:=
 ∃(i:Int) (ok:Bool),e= .returned (.tuple #[valV 3 false i 0 ⟨#[]⟩,.bool ok])∧Below w.heap.size w w'∧(ok=true∧intP l below=some i∨ok=false∧intP l below=none)
theorem below_of_parse {w0 w w':World} {e:TypeId} (h0:Below w0.heap.size w0 w) (h:w'=w∨∃t,w'=Lib.bytesWorld w e t):Below w0.heap.size w0 w':=by
 rcases h with rfl|⟨t,rfl⟩
 ·exact h0
 ·exact h0.trans ((Lib.bytesWorld_below w e t).mono h0.size)
theorem store_float {a:Addr} {b:Nat} {m:Mode}:∀w,(store a (.float .f64 b) m).run Tryz.prog w=stored Tryz.prog w a (.float .f64 b) m:=fun w=>run_store Tryz.prog w a _ m rfl
theorem lt_of_cell {w:World} {a:Addr} {v:Value} (h:w.cell? a=some v):a.block<w.heap.size:=by
 rcases Nat.lt_or_ge a.block w.heap.size with h2|h2
 ·exact h2
 ·rw[World.cell?,Array.getElem?_eq_none h2]at h;cases h
def RangeLaid (w:World):Prop:=∃ev,w.cell? ⟨4,0,none⟩=some ev∧(ev= .nilIface∨∃te pe,ev= .iface te pe)
theorem integer_walk (w:World) (s:ByteArray) (hmax:s.size≤2097152) (below:Bool) (hd:allD s.data.toList=true) (hv:RangeLaid w):
 Calls Tryz.prog 117 #[.string s,.bool below] w fun e w'=>IntPostP s.data.toList below w e w':=by
 obtain ⟨ev,hv1,hv2⟩:=hv;have Hd:=hid hd;have hblt:(⟨4,0,none⟩:Addr).block<w.heap.size:=lt_of_cell hv1;have hst:= @store_float;clear hd;cases below with
 |false=>
  have hp:=parse_pos Hd.out;have hne:(s.toList==[45,48])=false:=by
   rw[Lib.toList_data];refine beq_eq_false_iff_ne.2 ?_;intro q;have:=Hd.out;rw[q]at this;exact absurd this (by decide)
  by_cases hle:numN s.data.toList≤9223372036854775807
  ·rw[if_pos hle]at hp;have hres:∀(i:Int) w',Below w.heap.size w w'→IntPostP s.data.toList false w (.returned (.tuple #[valV 3 false (numN s.data.toList:Int) 0 ⟨#[]⟩,.bool true])) w':=fun _ w' h=>⟨_,true,rfl,h,.inl ⟨rfl,by unfold intP;rw[if_neg (by decide),if_pos hle]⟩⟩;clear hle;have Hp:=hid (fun w=> Tryz.strconv_ParseInt_10_at64_ok s (by omega) _ hp w);clear hp;go_enter Tryz.func117,Tryz.ntmps117
   go_wp2_with fail
   refine (Hp.out _).mono ?_;rintro e w1 ⟨rfl,hw⟩;have hb:=below_of_parse ((Below.refl _ w).alloc (Nat.le_refl _) _) hw;have hb2:=below_of_parse (Below.refl _ _) hw;have hlt:w.heap.size<(w.alloc (Obj.cells #[.int .i64 0,.bool false,.int .i64 0,.float .f64 0,.string ⟨#[]⟩] 91)).heap.size:=by simp
   have f0:=hb2.frozen (p:=⟨w.heap.size,0,none⟩) hlt;have f1:=hb2.frozen (p:=⟨w.heap.size,1,none⟩) hlt;have f2:=hb2.frozen (p:=⟨w.heap.size,2,none⟩) hlt;have f3:=hb2.frozen (p:=⟨w.heap.size,3,none⟩) hlt;have f4:=hb2.frozen (p:=⟨w.heap.size,4,none⟩) hlt;have c0:=hb2.cell (p:=⟨w.heap.size,0,none⟩) hlt;have c1:=hb2.cell (p:=⟨w.heap.size,1,none⟩) hlt;have c2:=hb2.cell (p:=⟨w.heap.size,2,none⟩) hlt;have c3:=hb2.cell (p:=⟨w.heap.size,3,none⟩) hlt
   have c4:=hb2.cell (p:=⟨w.heap.size,4,none⟩) hlt;simp at f0 f1 f2 f3 f4 c0 c1 c2 c3 c4;clear hw hlt hb2;go_wp2;refine bodyPost_ret (v:= .tuple #[valV 3 false (numN s.data.toList:Int) 0 ⟨#[]⟩,.bool true]) (by simp[results,Tryz.results117,go_sem,valV,f0,f1,f2,f3,f4,c0,c1,c2,c3,c4]) rfl ?_;exact hres 0 _ (((((hb.setCell (Nat.le_refl _) _).setCell (Nat.le_refl _) _).setCell (Nat.le_refl _) _).setCell (Nat.le_refl _) _).setCell (Nat.le_refl _) _)
  ·rw[if_neg hle]at hp;have hres:∀(i:Int) w',Below w.heap.size w w'→IntPostP s.data.toList false w (.returned (.tuple #[valV 3 false i 0 ⟨#[]⟩,.bool false])) w':=fun i w' h=>⟨_,false,rfl,h,.inr ⟨rfl,by unfold intP;rw[if_neg (by decide),if_neg hle]⟩⟩;clear hle;have Hp:=hid (fun w (hv1:w.cell? ⟨4,0,none⟩=some ev)=> Tryz.strconv_ParseInt_10_at64_range s (by omega) hp ev w hv1 hv2);clear hp
   go_enter Tryz.func117,Tryz.ntmps117
   go_wp2_with fail
   refine (Hp.out _ ?_).mono ?_
   ·rw[((Below.refl w.heap.size w).alloc (Nat.le_refl _) _).cell hblt];exact hv1
   rintro e w1 ⟨N,rfl,hN,hob,hb2⟩;have hb:=((Below.refl _ w).alloc (Nat.le_refl _) _).trans (hb2.mono (by simp));have hlt:w.heap.size<(w.alloc (Obj.cells #[.int .i64 0,.bool false,.int .i64 0,.float .f64 0,.string ⟨#[]⟩] 91)).heap.size:=by simp
   have f0:=hb2.frozen (p:=⟨w.heap.size,0,none⟩) hlt;have f1:=hb2.frozen (p:=⟨w.heap.size,1,none⟩) hlt;have f2:=hb2.frozen (p:=⟨w.heap.size,2,none⟩) hlt;have f3:=hb2.frozen (p:=⟨w.heap.size,3,none⟩) hlt;have f4:=hb2.frozen (p:=⟨w.heap.size,4,none⟩) hlt;have c0:=hb2.cell (p:=⟨w.heap.size,0,none⟩) hlt;have c1:=hb2.cell (p:=⟨w.heap.size,1,none⟩) hlt;have c2:=hb2.cell (p:=⟨w.heap.size,2,none⟩) hlt;have c3:=hb2.cell (p:=⟨w.heap.size,3,none⟩) hlt
   have c4:=hb2.cell (p:=⟨w.heap.size,4,none⟩) hlt;simp at f0 f1 f2 f3 f4 c0 c1 c2 c3 c4;clear hN hob hlt hb2;go_wp2;refine bodyPost_ret (v:= .tuple #[valV 3 false (Lib.intSat 64 s.data.toList) 0 ⟨#[]⟩,.bool false]) (by simp[results,Tryz.results117,go_sem,valV,f0,f1,f2,f3,f4,c0,c1,c2,c3,c4]) rfl ?_;exact hres _ _ (((((hb.setCell (Nat.le_refl _) _).setCell (Nat.le_refl _) _).setCell (Nat.le_refl _) _).setCell (Nat.le_refl _) _).setCell (Nat.le_refl _) _)
 |true=>
  have hl:((⟨#[45]⟩:ByteArray)++s).data.toList=45::s.data.toList:=ByteArray.toList_data_append;have hsz:((⟨#[45]⟩:ByteArray)++s).size=s.size+1:=by rw[←size_list,hl,List.length_cons,size_list]
  have hp:=parse_neg Hd.out;rw[←hl]at hp;have hcat:(⟨#[45]⟩:ByteArray).size+s.size≤9223372036854775807:=by
   have:(⟨#[45]⟩:ByteArray).size=1:=rfl;omega
  by_cases hz:s.data.toList=[48]
  ·have hne:(((⟨#[45]⟩:ByteArray)++s).toList==[45,48])=true:=by
    rw[Lib.toList_data,hl,hz];rfl
   have hle:numN s.data.toList≤9223372036854775808:=by rw[hz];decide
   rw[if_pos hle]at hp;have hres:∀(i:Int) w',Below w.heap.size w w'→IntPostP s.data.toList true w (.returned (.tuple #[valV 3 false i 0 ⟨#[]⟩,.bool false])) w':=fun i w' h=>⟨_,false,rfl,h,.inr ⟨rfl,by unfold intP;rw[if_pos rfl,if_pos hz]⟩⟩;clear hle hz hl;have Hp:=hid (fun w=> Tryz.strconv_ParseInt_10_at64_ok (⟨#[45]⟩++s) (by rw[hsz];omega) _ hp w);clear hp;go_enter Tryz.func117,Tryz.ntmps117
   go_wp2_with fail
   refine (Hp.out _).mono ?_;rintro e w1 ⟨rfl,hw⟩;have hb:=below_of_parse ((Below.refl _ w).alloc (Nat.le_refl _) _) hw;have hb2:=below_of_parse (Below.refl _ _) hw;have hlt:w.heap.size<(w.alloc (Obj.cells #[.int .i64 0,.bool false,.int .i64 0,.float .f64 0,.string ⟨#[]⟩] 91)).heap.size:=by simp
   have f0:=hb2.frozen (p:=⟨w.heap.size,0,none⟩) hlt;have f1:=hb2.frozen (p:=⟨w.heap.size,1,none⟩) hlt;have f2:=hb2.frozen (p:=⟨w.heap.size,2,none⟩) hlt;have f3:=hb2.frozen (p:=⟨w.heap.size,3,none⟩) hlt;have f4:=hb2.frozen (p:=⟨w.heap.size,4,none⟩) hlt;have c0:=hb2.cell (p:=⟨w.heap.size,0,none⟩) hlt;have c1:=hb2.cell (p:=⟨w.heap.size,1,none⟩) hlt;have c2:=hb2.cell (p:=⟨w.heap.size,2,none⟩) hlt;have c3:=hb2.cell (p:=⟨w.heap.size,3,none⟩) hlt
   have c4:=hb2.cell (p:=⟨w.heap.size,4,none⟩) hlt;simp at f0 f1 f2 f3 f4 c0 c1 c2 c3 c4;clear hw hlt hb2;go_wp2;refine bodyPost_ret (v:= .tuple #[valV 3 false (-(numN s.data.toList:Int)) 0 ⟨#[]⟩,.bool false]) (by simp[results,Tryz.results117,go_sem,valV,f0,f1,f2,f3,f4,c0,c1,c2,c3,c4]) rfl ?_;exact hres _ _ (((((hb.setCell (Nat.le_refl _) _).setCell (Nat.le_refl _) _).setCell (Nat.le_refl _) _).setCell (Nat.le_refl _) _).setCell (Nat.le_refl _) _)
  ·have hne:(((⟨#[45]⟩:ByteArray)++s).toList==[45,48])=false:=by
    rw[Lib.toList_data,hl];refine beq_eq_false_iff_ne.2 ?_;intro q;exact hz (List.cons.inj q).2
   by_cases hle:numN s.data.toList≤9223372036854775808
   ·rw[if_pos hle]at hp;have hres:∀(i:Int) w',Below w.heap.size w w'→IntPostP s.data.toList true w (.returned (.tuple #[valV 3 false (-(numN s.data.toList:Int)) 0 ⟨#[]⟩,.bool true])) w':=fun i w' h=>⟨_,true,rfl,h,.inl ⟨rfl,by unfold intP;rw[if_pos rfl,if_neg hz,if_pos hle]⟩⟩;clear hle hl;have Hp:=hid (fun w=> Tryz.strconv_ParseInt_10_at64_ok (⟨#[45]⟩++s) (by rw[hsz];omega) _ hp w);clear hp;go_enter Tryz.func117,Tryz.ntmps117
    go_wp2_with fail
    refine (Hp.out _).mono ?_;rintro e w1 ⟨rfl,hw⟩;have hb:=below_of_parse ((Below.refl _ w).alloc (Nat.le_refl _) _) hw;have hb2:=below_of_parse (Below.refl _ _) hw;have hlt:w.heap.size<(w.alloc (Obj.cells #[.int .i64 0,.bool false,.int .i64 0,.float .f64 0,.string ⟨#[]⟩] 91)).heap.size:=by simp
    have f0:=hb2.frozen (p:=⟨w.heap.size,0,none⟩) hlt;have f1:=hb2.frozen (p:=⟨w.heap.size,1,none⟩) hlt;have f2:=hb2.frozen (p:=⟨w.heap.size,2,none⟩) hlt;have f3:=hb2.frozen (p:=⟨w.heap.size,3,none⟩) hlt;have f4:=hb2.frozen (p:=⟨w.heap.size,4,none⟩) hlt;have c0:=hb2.cell (p:=⟨w.heap.size,0,none⟩) hlt;have c1:=hb2.cell (p:=⟨w.heap.size,1,none⟩) hlt;have c2:=hb2.cell (p:=⟨w.heap.size,2,none⟩) hlt;have c3:=hb2.cell (p:=⟨w.heap.size,3,none⟩) hlt
    have c4:=hb2.cell (p:=⟨w.heap.size,4,none⟩) hlt;simp at f0 f1 f2 f3 f4 c0 c1 c2 c3 c4;clear hw hlt hb2;go_wp2;refine bodyPost_ret (v:= .tuple #[valV 3 false (-(numN s.data.toList:Int)) 0 ⟨#[]⟩,.bool true]) (by simp[results,Tryz.results117,go_sem,valV,f0,f1,f2,f3,f4,c0,c1,c2,c3,c4]) rfl ?_;exact hres 0 _ (((((hb.setCell (Nat.le_refl _) _).setCell (Nat.le_refl _) _).setCell (Nat.le_refl _) _).setCell (Nat.le_refl _) _).setCell (Nat.le_refl _) _)
   ·rw[if_neg hle]at hp;have hres:∀(i:Int) w',Below w.heap.size w w'→IntPostP s.data.toList true w (.returned (.tuple #[valV 3 false i 0 ⟨#[]⟩,.bool false])) w':=fun i w' h=>⟨_,false,rfl,h,.inr ⟨rfl,by unfold intP;rw[if_pos rfl,if_neg hz,if_neg hle]⟩⟩;clear hle hl;have Hp:=hid (fun w (hv1:w.cell? ⟨4,0,none⟩=some ev)=> Tryz.strconv_ParseInt_10_at64_range (⟨#[45]⟩++s) (by rw[hsz];omega) hp ev w hv1 hv2)
    clear hp;go_enter Tryz.func117,Tryz.ntmps117
    go_wp2_with fail
    refine (Hp.out _ ?_).mono ?_
    ·rw[((Below.refl w.heap.size w).alloc (Nat.le_refl _) _).cell hblt];exact hv1
    rintro e w1 ⟨N,rfl,hN,hob,hb2⟩;have hb:=((Below.refl _ w).alloc (Nat.le_refl _) _).trans (hb2.mono (by simp));have hlt:w.heap.size<(w.alloc (Obj.cells #[.int .i64 0,.bool false,.int .i64 0,.float .f64 0,.string ⟨#[]⟩] 91)).heap.size:=by simp
    have f0:=hb2.frozen (p:=⟨w.heap.size,0,none⟩) hlt;have f1:=hb2.frozen (p:=⟨w.heap.size,1,none⟩) hlt;have f2:=hb2.frozen (p:=⟨w.heap.size,2,none⟩) hlt;have f3:=hb2.frozen (p:=⟨w.heap.size,3,none⟩) hlt;have f4:=hb2.frozen (p:=⟨w.heap.size,4,none⟩) hlt;have c0:=hb2.cell (p:=⟨w.heap.size,0,none⟩) hlt;have c1:=hb2.cell (p:=⟨w.heap.size,1,none⟩) hlt;have c2:=hb2.cell (p:=⟨w.heap.size,2,none⟩) hlt;have c3:=hb2.cell (p:=⟨w.heap.size,3,none⟩) hlt
    have c4:=hb2.cell (p:=⟨w.heap.size,4,none⟩) hlt;simp at f0 f1 f2 f3 f4 c0 c1 c2 c3 c4;clear hN hob hlt hb2;go_wp2;refine bodyPost_ret (v:= .tuple #[valV 3 false (Lib.intSat 64 (⟨#[45]⟩++s).data.toList) 0 ⟨#[]⟩,.bool false]) (by simp[results,Tryz.results117,go_sem,valV,f0,f1,f2,f3,f4,c0,c1,c2,c3,c4]) rfl ?_;exact hres _ _ (((((hb.setCell (Nat.le_refl _) _).setCell (Nat.le_refl _) _).setCell (Nat.le_refl _) _).setCell (Nat.le_refl _) _).setCell (Nat.le_refl _) _)
theorem cutL_true {l x y:List UInt8} {c:UInt8} (h:cutL l c=(x,y,true)):l=x++c::y∧(∀z∈x,(z != c)=true):=by
 unfold cutL at h
 split at h
 ·cases h
 ·rename_i hn
  simp only[Prod.mk.injEq,and_true]at h;obtain ⟨rfl,rfl⟩:=h;have e:=List.takeWhile_append_dropWhile (p:=fun x=>x != c) (l:=l);refine ⟨?_,fun z hz=>List.all_eq_true.1 (List.all_takeWhile (p:=fun x=>x != c)) z hz⟩;cases hd:l.dropWhile (fun x=>x != c) with
  |nil=>
   exfalso
   rw[hd,List.append_nil]at e;apply hn;rw[List.all_eq_true];intro z hz;rw[←e]at hz;exact List.all_eq_true.1 (List.all_takeWhile (p:=fun x=>x != c)) z hz
  |cons q r=>
   have hq:¬(q != c)=true:=by
    have:=List.head?_dropWhile_not (p:=fun x=>x != c) (l:=l);rw[hd]at this
    simpa using this
   have hqc:q=c:=by simpa using hq
   rw[hd]at e
   conv=>lhs;rw[←e]
   rw[hqc];simp[hd,hqc]
theorem cutL_prefix {l x y:List UInt8} {c:UInt8} {ok:Bool} (h:cutL l c=(x,y,ok)):∃z,l=x++z:=by
 cases ok with
 |true=>exact ⟨_,(cutL_true h).1⟩
 |false=>
  unfold cutL at h
  split at h
  ·simp only[Prod.mk.injEq]at h;exact ⟨[],by rw[h.1,List.append_nil]⟩
  ·cases h
theorem cutL_of {x y:List UInt8} {c:UInt8} (h:∀z∈x,(z != c)=true):cutL (x++c::y) c=(x,y,true):=by
 have hn:¬(c != c)=true:=by simp
 unfold cutL;rw[if_neg,List.takeWhile_append_of_pos h,List.takeWhile_cons_of_neg (p:=fun x=>x != c) hn,List.dropWhile_append_of_pos h,List.dropWhile_cons_of_neg (p:=fun x=>x != c) hn]
 ·simp
 ·intro q;rw[List.all_eq_true]at q;exact hn (q c (by simp))
theorem cutL_none {l:List UInt8} {c:UInt8} (h:∀z∈l,(z != c)=true):cutL l c=(l,[],false):=by
 unfold cutL;rw[if_pos (List.all_eq_true.2 h)]
theorem dig_ne {c e:UInt8} (h:isD c=true) (he:isD e=false):(c != e)=true:=by
 rw[bne_iff_ne];intro q;rw[q,he]at h;cases h
theorem digs_ne {l:List UInt8} {e:UInt8} (h:l.all isD=true) (he:isD e=false):∀z∈l,(z != e)=true:=
 fun z hz=>dig_ne (List.all_eq_true.1 h z hz) he
theorem allD_ne {l:List UInt8} (h:allD l=true):l≠[]:=by
 rintro rfl;cases h
theorem wholeL_allD {l:List UInt8} (h:wholeL l=true):allD l=true:=by
 unfold wholeL at h;simp only[Bool.and_eq_true]at h;exact h.1
theorem decR_shape {l:List UInt8} (h:decR l≠none):∃a t,(minusL l).1=a++46::t∧wholeL a=true:=by
 unfold decR at h;simp only at h
 split at h
 ·rename_i hc
  obtain ⟨h1,h2,h3⟩:=hc;have e1:cutL (cutL (minusL l).1 101).1 46=((cutL (cutL (minusL l).1 101).1 46).1,(cutL (cutL (minusL l).1 101).1 46).2.1,true):=by
   rw[←h1]
  obtain ⟨e2,_⟩:=cutL_true e1;obtain ⟨z,hz⟩:=cutL_prefix (l:=(minusL l).1) (c:=101) (x:=(cutL (minusL l).1 101).1) (y:=(cutL (minusL l).1 101).2.1) (ok:=(cutL (minusL l).1 101).2.2) rfl;refine ⟨(cutL (cutL (minusL l).1 101).1 46).1,(cutL (cutL (minusL l).1 101).1 46).2.1++z,?_,h2⟩
  conv=>lhs;rw[hz,e2]
  simp
 ·exact absurd rfl h
theorem tw_shape {a t:List UInt8} (h:a.all isD=true):(a++46::t).takeWhile isD=a:=by
 rw[List.takeWhile_append_of_pos (List.all_eq_true.1 h),List.takeWhile_cons_of_neg (by decide),List.append_nil]
theorem decR_none {l r:List UInt8} {b:Bool} (hm:minusL l=(r,b)) (h:¬∃t,r=r.takeWhile isD++46::t∧wholeL (r.takeWhile isD)=true):decR l=none:=by
 apply Decidable.byContradiction;intro hn;obtain ⟨a,t,e,ha⟩:=decR_shape hn;rw[hm]at e;simp only at e;apply h;refine ⟨t,?_⟩;rw[e,tw_shape (whole_all ha)];exact ⟨rfl,ha⟩
theorem intR_none {l r:List UInt8} {b:Bool} (hm:minusL l=(r,b)) (h:wholeL r=false):intR l=none:=by
 unfold intR;rw[hm,if_pos h]
theorem numN_pos_acc:∀(l:List UInt8) (acc:Nat),0<acc→0<l.foldl (fun n c=>10*n+(c.toNat-48)) acc:=fun l acc h=>Nat.lt_of_lt_of_le h (numN_ge_acc l acc)
theorem numN_pos {l:List UInt8} (h:wholeL l=true) (h2:l≠[48]):0<numN l:=by
 have hd:=allD_all (wholeL_allD h);cases l with
 |nil=>cases h
 |cons c r=>
  rw[List.all_cons]at hd;simp only[Bool.and_eq_true]at hd;have hc:=(isD_iff c).1 hd.1;have hne:c.toNat≠48:=by
   intro q;have hc48:c=48:=UInt8.toNat_inj.1 (by simpa using q);subst hc48;unfold wholeL at h;simp only[Bool.and_eq_true,Bool.or_eq_true]at h;rcases h.2 with h3|h3
   ·simp at h3
   ·simp at h3;subst h3;exact h2 rfl
  show 0<(c::r).foldl (fun n c=>10*n+(c.toNat-48)) 0
  rw[List.foldl_cons];exact numN_pos_acc r _ (by omega)
theorem intR_whole {l r:List UInt8} {b:Bool} (hm:minusL l=(r,b)) (h:wholeL r=true):intR l=intP r b:=by
 unfold intR intP;rw[hm];simp only;rw[if_neg (by simp[h])];cases b with
 |false=>simp
 |true=>
  simp only[if_true];by_cases h48:r=[48]
  ·rw[if_pos h48,if_pos h48]
  ·rw[if_neg h48,if_neg h48];have:=numN_pos h h48;by_cases hle:numN r≤9223372036854775808
   ·rw[if_pos ⟨hle,this⟩,if_pos hle]
   ·rw[if_neg (fun q=>hle q.1),if_neg hle]
theorem decR_digits {l r:List UInt8} {b:Bool} (hm:minusL l=(r,b)) (h:r.all isD=true):decR l=none:=by
 refine decR_none hm ?_;rintro ⟨t,e,_⟩;rw[tw_self h]at e;have:=congrArg List.length e;simp at this
theorem decR_form {l d t x y:List UInt8} {b ok:Bool} (hm:minusL l=(d++46::t,b)) (hd:d.all isD=true) (hc:cutL t 101=(x,y,ok)):
 decR l=if wholeL d=true∧allD x=true then
  match powR ok y with
  |some k=>if numN (d++x)≤999999999999999∧x.length≤200∧¬Bad (numN (d++x)) (k-(x.length:Int)) then some (numN (d++x),k-(x.length:Int),b) else none
  |none=>none
 else none:=by
 have h1:cutL (d++46::t) 101=(d++46::x,y,ok):=by
  cases ok with
  |true=>
   obtain ⟨e,hx⟩:=cutL_true hc;have:d++46::t=(d++46::x)++101::y:=by rw[e];simp
   rw[this];refine cutL_of ?_;intro z hz;rcases List.mem_append.1 hz with hz|hz
   ·exact digs_ne hd (by decide) z hz
   ·rcases List.mem_cons.1 hz with rfl|hz
    ·decide
    ·exact hx z hz
  |false=>
   unfold cutL at hc
   split at hc
   ·rename_i hall
    simp only[Prod.mk.injEq,and_true]at hc;obtain ⟨rfl,rfl⟩:=hc;refine cutL_none ?_;intro z hz;rcases List.mem_append.1 hz with hz|hz
    ·exact digs_ne hd (by decide) z hz
    ·rcases List.mem_cons.1 hz with rfl|hz
     ·decide
     ·exact List.all_eq_true.1 hall z hz
   ·cases hc
 have h2:cutL (d++46::x) 46=(d,x,true):=cutL_of (digs_ne hd (by decide));unfold decR;simp only[hm,h1,h2,true_and];rfl
theorem cut_end {b:List UInt8} (hb:b.all isD=true):cutL b 101=(b,[],false):=cutL_none (digs_ne hb (by decide))
theorem cut_e {b v:List UInt8} (hb:b.all isD=true):cutL (b++101::v) 101=(b,v,true):=cutL_of (digs_ne hb (by decide))
theorem cut_bad {b v:List UInt8} {c:UInt8} (hb:b.all isD=true) (hc:isD c=false) (h:c≠101):allD (cutL (b++c::v) 101).1=false:=by
 cases hq:allD (cutL (b++c::v) 101).1 with
 |false=>rfl
 |true=>
  exfalso
  have hx:=allD_all hq;have key:∃w,(cutL (b++c::v) 101).1=b++c::w:=by
   unfold cutL
   split
   ·exact ⟨v,rfl⟩
   ·simp only;rw[List.takeWhile_append_of_pos (digs_ne hb (by decide)),List.takeWhile_cons_of_pos (by simpa using h)];exact ⟨_,rfl⟩
  obtain ⟨w,hw⟩:=key;rw[hw,List.all_append,List.all_cons,hc]at hx;simp at hx
theorem valS_eq_acc:∀(l:List UInt8) (a b:Nat),a=min b 1000000000000000000→l.foldl (fun m c=>min (m*10+(c.toNat-48)) 1000000000000000000) a=min (l.foldl (fun n c=>10*n+(c.toNat-48)) b) 1000000000000000000:=by
 intro l
 induction l with
 |nil=>intro a b h;exact h
 |cons c r ih=>
  intro a b h;rw[List.foldl_cons,List.foldl_cons];exact ih _ _ (by omega)
theorem valS_eq (l:List UInt8):valS l=min (numN l) 1000000000000000000:=valS_eq_acc l 0 0 (by decide)
theorem bad_held (l:List UInt8) (k:Int) (n:Nat) (p:Int) (hp:p≤99) (hk:k=p-(n:Int)):Bad (valS l) k↔¬(numN l≤999999999999999∧n≤200∧¬Bad (numN l) k):=by
 rw[valS_eq];unfold Bad;generalize numN l=x;omega
theorem held_eq (l:List UInt8) (k:Int) (h:¬Bad (valS l) k):valS l=numN l:=by
 rw[valS_eq]at h ⊢;unfold Bad at h;omega
theorem whole_tw {r:List UInt8} (h:wholeL r=true):r.takeWhile isD=r:=tw_self (whole_all h)
theorem bad_digits {l r:List UInt8} {b:Bool} (hm:minusL l=(r,b)) (h:wholeL (r.takeWhile isD)=false):intR l=none∧decR l=none:=by
 refine ⟨intR_none hm ?_,decR_none hm ?_⟩
 ·cases hq:wholeL r with
  |false=>rfl
  |true=>rw[whole_tw hq,hq]at h;cases h
 ·rintro ⟨t,_,q⟩;rw[q]at h;cases h
theorem tw_all_isD (r:List UInt8):(r.takeWhile isD).all isD=true:=List.all_takeWhile
theorem whole_of {r:List UInt8} (h0:(r.takeWhile isD).length≠0) (h:¬(1<(r.takeWhile isD).length∧(r.takeWhile isD).head? =some 48)):wholeL (r.takeWhile isD)=true:=by
 have hd:=tw_all_isD r;generalize r.takeWhile isD=d at*;unfold wholeL allD;rw[hd];cases d with
 |nil=>exact absurd rfl h0
 |cons c q=>
  simp only[List.isEmpty_cons,Bool.not_false,Bool.and_true,Bool.true_and,Bool.or_eq_true,decide_eq_true_eq];rcases Nat.lt_or_ge 1 (c::q).length with h1|h1
  ·exact .inl fun e=>h ⟨h1,e⟩
  ·exact .inr (by simp at h1 ⊢;exact h1)
theorem not_whole {r:List UInt8} (h:1<(r.takeWhile isD).length) (h2:(r.takeWhile isD).head? =some 48):wholeL (r.takeWhile isD)=false:=by
 cases hq:wholeL (r.takeWhile isD) with
 |false=>rfl
 |true=>
  unfold wholeL at hq;simp only[Bool.and_eq_true,Bool.or_eq_true,decide_eq_true_eq]at hq;rcases hq.2 with h3|h3
  ·exact absurd h2 h3
  ·omega
theorem tw_head {r:List UInt8} (h:0<(r.takeWhile isD).length):(r.takeWhile isD).head? =r.head? :=by
 cases r with
 |nil=>rfl
 |cons c q=>
  rw[List.takeWhile_cons]at h ⊢
  split
  ·rfl
  ·rename_i hn
   rw[if_neg hn]at h;simp at h
theorem tw_len_le (r:List UInt8):(r.takeWhile isD).length≤r.length:=List.IsPrefix.length_le (List.takeWhile_prefix isD)
theorem tw_full {r:List UInt8} (h:(r.takeWhile isD).length=r.length):r.takeWhile isD=r:=
 List.IsPrefix.eq_of_length (List.takeWhile_prefix isD) h
theorem not_int {l r:List UInt8} {b:Bool} (hm:minusL l=(r,b)) (h:(r.takeWhile isD).length≠r.length):intR l=none:=by
 refine intR_none hm ?_;cases hq:wholeL r with
 |false=>rfl
 |true=>exact absurd (by rw[whole_tw hq]) h
theorem tail_split (t:List UInt8):∃u,t=t.takeWhile isD++u∧(u=[]∨∃c v,u=c::v∧isD c=false):=by
 refine ⟨t.dropWhile isD,List.takeWhile_append_dropWhile.symm,?_⟩;cases hd:t.dropWhile isD with
 |nil=>exact .inl rfl
 |cons c v=>
  have:=List.head?_dropWhile_not (p:=isD) (l:=t);rw[hd]at this;exact .inr ⟨c,v,rfl,by simpa using this⟩
theorem get_at {s:ByteArray} {pre post:List UInt8} {c:UInt8} (h:s.data.toList=pre++c::post) {k:Nat} (hk:k=pre.length) (hlt:k<s.size):s[k]=c:=by
 subst hk;rw[get_list s _ hlt];simp[h]
theorem split_at {s:ByteArray} {k:Nat} (hlt:k<s.size):s.data.toList=s.data.toList.take k++s[k]::s.data.toList.drop (k+1):=by
 rw[get_list s k hlt,←List.drop_eq_getElem_cons (by rw[size_list];exact hlt),List.take_append_drop]
theorem tw_take (r:List UInt8):r.takeWhile isD=r.take (r.takeWhile isD).length:=List.prefix_iff_eq_take.1 (List.takeWhile_prefix isD)
theorem no_point {l:List UInt8} {r:ByteArray} {b:Bool} {n:Nat} (hm:minusL l=(r.data.toList,b)) (hn:n=(r.data.toList.takeWhile isD).length) (hlt:n<r.size) (h:r[n]≠46):decR l=none:=by
 refine decR_none hm ?_;rintro ⟨t,e,_⟩;exact h (get_at e hn hlt)
theorem point_form {r:ByteArray} {n:Nat} (hn:n=(r.data.toList.takeWhile isD).length) (hlt:n<r.size) (h:r[n]=46):
 r.data.toList=r.data.toList.takeWhile isD++46::(r.extract (n+1) r.size).data.toList:=by
 have e:=split_at hlt;rw[h]at e;rw[ext_from];have:=tw_take r.data.toList;rw[←hn]at this;rw[this];exact e
theorem no_digits_behind {l d t:List UInt8} {b:Bool} (hm:minusL l=(d++46::t,b)) (hd:d.all isD=true) (h:(t.takeWhile isD).length=0):decR l=none:=by
 obtain ⟨x,y,ok,hc⟩:∃x y ok,cutL t 101=(x,y,ok):=⟨_,_,_,rfl⟩;rw[decR_form hm hd hc,if_neg];rintro ⟨_,q⟩;obtain ⟨u,e,hu⟩:=tail_split t;rw[List.eq_nil_of_length_eq_zero h,List.nil_append]at e;have hx:x=(cutL t 101).1:=by rw[hc]
 have hall:([]:List UInt8).all isD=true:=rfl;rcases hu with hu|⟨c,v,hu,hcd⟩
 ·rw[e,hu]at hx;rw[hx]at q;cases q
 ·by_cases h101:c=101
  ·have:=cut_e (b:=[]) (v:=v) hall;rw[List.nil_append]at this;rw[e,hu,h101,this]at hx;rw[hx]at q;cases q
  ·have:=cut_bad (b:=[]) (v:=v) hall hcd h101;rw[List.nil_append]at this;rw[e,hu]at hx;rw[hx,this]at q;cases q
def decF (d b:List UInt8) (neg:Bool) (k:Option Int):Option (Nat×Int×Bool):=
 match k with
 |some k=>if numN (d++b)≤999999999999999∧b.length≤200∧¬Bad (numN (d++b)) (k-(b.length:Int)) then some (numN (d++b),k-(b.length:Int),neg) else none
 |none=>none
theorem allD_of {b:List UInt8} (h:b.all isD=true) (h0:b.length≠0):allD b=true:=by
 unfold allD;rw[h];cases b with
 |nil=>exact absurd rfl h0
 |cons c r=>rfl
theorem dec_end {l d t:List UInt8} {neg:Bool} (hm:minusL l=(d++46::t,neg)) (hw:wholeL d=true) (h0:(t.takeWhile isD).length≠0) (h:(t.takeWhile isD).length=t.length):
 decR l=decF d (t.takeWhile isD) neg (some 0):=by
 have ht:=tw_full h;rw[ht]at h0 ⊢;have hall:t.all isD=true:=by rw[←ht];exact tw_all_isD t
 rw[decR_form hm (whole_all hw) (cut_end hall),if_pos ⟨hw,allD_of hall h0⟩];rfl
theorem dec_pow {l d t v:List UInt8} {neg:Bool} (hm:minusL l=(d++46::t,neg)) (hw:wholeL d=true) (h0:(t.takeWhile isD).length≠0) (h:t=t.takeWhile isD++101::v):
 decR l=decF d (t.takeWhile isD) neg (powR true v):=by
 have hall:=tw_all_isD t;generalize t.takeWhile isD=b at*;subst h;rw[decR_form hm (whole_all hw) (cut_e hall),if_pos ⟨hw,allD_of hall h0⟩];rfl
theorem dec_odd {l d t v:List UInt8} {c:UInt8} {neg:Bool} (hm:minusL l=(d++46::t,neg)) (hd:d.all isD=true) (h:t=t.takeWhile isD++c::v) (hc:isD c=false) (hne:c≠101):
 decR l=none:=by
 obtain ⟨x,y,ok,hcu⟩:∃x y ok,cutL t 101=(x,y,ok):=⟨_,_,_,rfl⟩;rw[decR_form hm hd hcu,if_neg];rintro ⟨_,q⟩;have:=cut_bad (v:=v) (tw_all_isD t) hc hne;rw[←h,hcu]at this;simp only at this;rw[this]at q;cases q
theorem behind_form {t:ByteArray} {k:Nat} (hk:k=(t.data.toList.takeWhile isD).length) (hlt:k<t.size):t.data.toList=t.data.toList.takeWhile isD++t[k]::(t.extract (k+1) t.size).data.toList∧isD t[k]=false:=by
 have e:=split_at hlt;have h2:=tw_take t.data.toList;rw[←hk]at h2;rw[ext_from];refine ⟨by rw[h2];exact e,?_⟩;obtain ⟨u,e2,hu⟩:=tail_split t.data.toList;have hlen:=congrArg List.length e2;rw[List.length_append,←hk,size_list]at hlen;rcases hu with rfl|⟨c,v,rfl,hc⟩
 ·simp at hlen;omega
 ·rw[get_at e2 hk hlt];exact hc
theorem behind_r {r:ByteArray} {n k N:Nat} (hk:k=((r.extract (n+1) r.size).data.toList.takeWhile isD).length) (hN:N=n+1+k) (hlt:N<r.size):
 (r.extract (n+1) r.size).data.toList=(r.extract (n+1) r.size).data.toList.takeWhile isD++r[N]::(r.extract (N+1) r.size).data.toList∧isD r[N]=false:=by
 have hT:(r.extract (n+1) r.size).size=r.size-(n+1):=by
  rw[←size_list,ext_from,List.length_drop,size_list]
 have hlt2:k<(r.extract (n+1) r.size).size:=by omega
 have h:=behind_form hk hlt2;have e1:(r.extract (n+1) r.size)[k]=r[N]:=by
  rw[get_list _ _ hlt2,get_list _ _ hlt];simp only[ext_from,List.getElem_drop];congr 1;exact hN.symm
 have e2:((r.extract (n+1) r.size).extract (k+1) (r.extract (n+1) r.size).size).data.toList=(r.extract (N+1) r.size).data.toList:=by
  rw[ext_from,ext_from,ext_from,List.drop_drop];congr 1;omega
 rw[e1,e2]at h;exact h
theorem pow_form {v p:List UInt8} {down:Bool} (hm:minusL v=(p,down)):powR true v=if (p.takeWhile isD).length≠0∧(p.takeWhile isD).length≤2∧(p.takeWhile isD).length=p.length then some (if down=true then -(numN p:Int) else (numN p:Int)) else none:=by
 unfold powR;rw[if_pos rfl,hm];simp only;by_cases h:allD p=true∧p.length≤2
 ·have ht:=tw_self (allD_all h.1);have hc:p.length≠0∧p.length≤2∧p.length=p.length:=⟨by intro q;exact allD_ne h.1 (List.eq_nil_of_length_eq_zero q),h.2,rfl⟩;rw[if_pos h,ht,if_pos hc]
 ·rw[if_neg h,if_neg];rintro ⟨h0,h1,h2⟩;have ht:=tw_full h2;apply h;rw[ht]at h1 h0;refine ⟨allD_of ?_ h0,h1⟩;rw[←ht];exact tw_all_isD p
theorem valS_small {l:List UInt8} (h:l.all isD=true) (hl:l.length≤2):valS l=numN l∧numN l≤99:=by
 have h1:=numN_lt h;have h2:10 ^ l.length≤10 ^ 2:=Nat.pow_le_pow_right (by decide) hl;rw[valS_eq];omega
theorem dec_last {d b:List UInt8} {neg:Bool} {p:Int} (hp:p≤99) (k:Int) (hk:k=p-(b.length:Int)):
 (Bad (valS (d++b)) k→decF d b neg (some p)=none)∧(¬Bad (valS (d++b)) k→decF d b neg (some p)=some (valS (d++b),k,neg)):=by
 have hb:=bad_held (d++b) k b.length p hp hk;unfold decF;simp only;rw[←hk];constructor
 ·intro h;rw[if_neg (hb.1 h)]
 ·intro h;have h2:=Decidable.of_not_not (fun q=>h (hb.2 q));rw[if_pos h2,held_eq _ _ h]
end Go.Proofs.YtfenoaeoedobmaaGreatDoor
