/-
Parts of a proof, one behind the other (laid dense by a program of mine: pack.py).
-/
import Derived.Test.YtfenoaeoedobmaaGreatDoorAl06
set_option linter.unusedVariables false
set_option linter.unusedSimpArgs false
set_option maxHeartbeats 8000000
namespace Go.Proofs.YtfenoaeoedobmaaGreatDoor
open Go Go.RowKit
def nanB:Nat:=9221120237041090561
def infB:Nat:=9218868437227405312
def ninfB:Nat:=18442240474082181120
theorem nan_word:∀w:World,(callFunc 114 #[.int .u64 9221120237041090561]).run Tryz.prog w= .ok (.value (.float .f64 9221120237041090561)) w:=frombits_run 9221120237041090561
theorem inf_word:∀w:World,(callFunc 114 #[.int .u64 9218868437227405312]).run Tryz.prog w= .ok (.value (.float .f64 9218868437227405312)) w:=frombits_run 9218868437227405312
theorem ninf_word:∀w:World,(callFunc 114 #[.int .u64 18442240474082181120]).run Tryz.prog w= .ok (.value (.float .f64 18442240474082181120)) w:=frombits_run 18442240474082181120
theorem nan_walk (w:World):Calls Tryz.prog 76 #[] w fun e w'=>e= .returned (.float .f64 nanB)∧w'=w:=by
 have h:=nan_word;go_enter Tryz.func76,Tryz.ntmps76;go_wp2;go_ret;exact ⟨rfl,rfl⟩
theorem inf_walk (w:World):Calls Tryz.prog 77 #[.int .i64 1] w fun e w'=>e= .returned (.float .f64 infB)∧w'=w:=by
 have h:=inf_word;go_enter Tryz.func77,Tryz.ntmps77;go_wp2;go_ret;exact ⟨rfl,rfl⟩
theorem ninf_walk (w:World):Calls Tryz.prog 77 #[.int .i64 (-1)] w fun e w'=>e= .returned (.float .f64 ninfB)∧w'=w:=by
 have h:=ninf_word;go_enter Tryz.func77,Tryz.ntmps77;go_wp2;go_ret;exact ⟨rfl,rfl⟩
structure Val where
 kind:Int
 bool:Bool
 int:Int
 real:Nat
 text:ByteArray
def Val.v (a:Val):Value:=valV a.kind a.bool a.int a.real a.text
def readN (s:ByteArray):Val:=
 match intR s.data.toList with
 |some i=>⟨3,false,i,0,⟨#[]⟩⟩
 |none=>match decR s.data.toList with
  |some (m,k,b)=>⟨4,false,0,if b=true then negW (scW m k) else scW m k,⟨#[]⟩⟩
  |none=>⟨5,false,0,0,s⟩
def readS (s:ByteArray) (quoted:Bool):Val:=
 if quoted=true then ⟨5,false,0,0,s⟩
 else if s.data.toList=[]∨s.data.toList=[126]∨s.data.toList=[110,117,108,108] then ⟨1,false,0,0,⟨#[]⟩⟩
 else if s.data.toList=[116,114,117,101] then ⟨2,true,0,0,⟨#[]⟩⟩
 else if s.data.toList=[102,97,108,115,101] then ⟨2,false,0,0,⟨#[]⟩⟩
 else if s.data.toList=[46,110,97,110] then ⟨4,false,0,nanB,⟨#[]⟩⟩
 else if s.data.toList=[46,105,110,102] then ⟨4,false,0,infB,⟨#[]⟩⟩
 else if s.data.toList=[45,46,105,110,102] then ⟨4,false,0,ninfB,⟨#[]⟩⟩
 else readN s
def ReadPost (s:ByteArray) (quoted:Bool) (w:World) (e:Ending) (w':World):Prop:=
 e= .returned (readS s quoted).v∧Below w.heap.size w w'
theorem rangeLaid_alloc {w:World} (h:RangeLaid w) (o:Obj):RangeLaid (w.alloc o):=by
 obtain ⟨ev,q1,q2⟩:=h;exact ⟨ev,by rw[((Below.refl w.heap.size w).alloc (Nat.le_refl _) o).cell (lt_of_cell q1)];exact q1,q2⟩
theorem cells_facts_t {w:World} {b t:Nat} {v0 v1 v2 v3 v4:Value} (h:w.heap[b]? =some (.cells #[v0,v1,v2,v3,v4] t (0,0))):
 (w.cell? ⟨b,0,none⟩=some v0∧w.cell? ⟨b,1,none⟩=some v1∧w.cell? ⟨b,2,none⟩=some v2∧w.cell? ⟨b,3,none⟩=some v3∧w.cell? ⟨b,4,none⟩=some v4)∧
 (w.frozen? ⟨b,0,none⟩=false∧w.frozen? ⟨b,1,none⟩=false∧w.frozen? ⟨b,2,none⟩=false∧w.frozen? ⟨b,3,none⟩=false∧w.frozen? ⟨b,4,none⟩=false):=by
 refine ⟨⟨?_,?_,?_,?_,?_⟩,?_,?_,?_,?_,?_⟩<;>simp[World.cell?,World.frozen?,h]
structure RW (w w':World) (t:Nat):Prop where
 below:Below w.heap.size w w'
 r:w'.heap[w.heap.size]? =some (.cells #[.int .i64 0,.bool false,.int .i64 0,.float .f64 0,.string ⟨#[]⟩] t (0,0))
 lt:w.heap.size<w'.heap.size
theorem RW.first (w:World) (t:Nat):RW w (w.alloc (Obj.cells #[.int .i64 0,.bool false,.int .i64 0,.float .f64 0,.string ⟨#[]⟩] t)) t where
 below:=(Below.refl _ _).alloc (Nat.le_refl _) _
 r:=by simp[World.alloc,-World.alloc_eq]
 lt:=by simp
theorem RW.later {w w' w2:World} {t:Nat} (h:RW w w' t) (hb:Below w'.heap.size w' w2):RW w w2 t:=
 ⟨h.below.trans (hb.mono h.below.size),(hb.block _ h.lt).trans h.r,Nat.lt_of_lt_of_le h.lt hb.size⟩
theorem RW.laid {w w':World} {t:Nat} (h:RW w w' t) (hl:RangeLaid w):RangeLaid w':=by
 obtain ⟨ev,q1,q2⟩:=hl;exact ⟨ev,by rw[h.below.cell (lt_of_cell q1)];exact q1,q2⟩
theorem RW.drewN {w w':World} {t:Nat} (h:RW w w' t) (n:Nat):RW w (w'.drewN n) t:=
 ⟨h.below.trans ⟨rfl,rfl,rfl,Nat.le_refl _,fun _ _=>rfl⟩,h.r,h.lt⟩
theorem beq_yes {s:ByteArray} {l:List UInt8} (h:s.data.toList=l):(s.toList==l)=true:=by
 rw[Lib.toList_data,h];exact beq_self_eq_true l
theorem beq_no {s:ByteArray} {l:List UInt8} (h:¬s.data.toList=l):(s.toList==l)=false:=by
 rw[Lib.toList_data];exact beq_eq_false_iff_ne.2 h
theorem read_walk (w:World) (s:ByteArray) (hmax:s.size≤2097152) (quoted:Bool) (hv:RangeLaid w):
 Calls Tryz.prog 44 #[.string s,.bool quoted] w fun e w'=>ReadPost s quoted w e w':=by
 have hst:= @store_float;have hRW:=RW.first w 91;have Hv:=hid hv;clear hv;go_enter Tryz.func44,Tryz.ntmps44
 go_upto_if 7 with (fail)
 obtain ⟨w1,hw1⟩:∃w1,w1=w.alloc (Obj.cells #[.int .i64 0,.bool false,.int .i64 0,.float .f64 0,.string ⟨#[]⟩] 91):=⟨_,rfl⟩;rw[←hw1];rw[←hw1]at hRW;have HR:=hid hRW;clear hRW hw1;cases quoted with
 |true=>
  have hS:readS s true=⟨5,false,0,0,s⟩:=rfl;obtain ⟨⟨c0,c1,c2,c3,c4⟩,f0,f1,f2,f3,f4⟩:=cells_facts_t HR.out.r;go_wp2;refine bodyPost_ret (v:=valV 5 false 0 0 s) (by simp[results,Tryz.results44,go_sem,valV,f0,f1,f2,f3,f4,c0,c1,c2,c3,c4]) rfl ?_;exact ⟨by rw[hS];rfl,(((((HR.out.below.setCell (Nat.le_refl _) _).setCell (Nat.le_refl _) _).setCell (Nat.le_refl _) _).setCell (Nat.le_refl _) _).setCell (Nat.le_refl _) _)⟩
 |false=>
  by_cases hn:s.data.toList=[]
  ·have qn:=beq_yes hn;have hS:readS s false=⟨1,false,0,0,⟨#[]⟩⟩:=by simp[readS,hn]
   clear hn;obtain ⟨⟨c0,c1,c2,c3,c4⟩,f0,f1,f2,f3,f4⟩:=cells_facts_t HR.out.r;go_wp2;refine bodyPost_ret (v:=valV 1 false 0 0 ⟨#[]⟩) (by simp[results,Tryz.results44,go_sem,valV,f0,f1,f2,f3,f4,c0,c1,c2,c3,c4]) rfl ?_;exact ⟨by rw[hS];rfl,(((((HR.out.below.setCell (Nat.le_refl _) _).setCell (Nat.le_refl _) _).setCell (Nat.le_refl _) _).setCell (Nat.le_refl _) _).setCell (Nat.le_refl _) _)⟩
  ·have qn:=beq_no hn;by_cases ht:s.data.toList=[126]
   ·have qt:=beq_yes ht;have hS:readS s false=⟨1,false,0,0,⟨#[]⟩⟩:=by simp[readS,ht]
    clear hn ht;obtain ⟨⟨c0,c1,c2,c3,c4⟩,f0,f1,f2,f3,f4⟩:=cells_facts_t HR.out.r;go_wp2;refine bodyPost_ret (v:=valV 1 false 0 0 ⟨#[]⟩) (by simp[results,Tryz.results44,go_sem,valV,f0,f1,f2,f3,f4,c0,c1,c2,c3,c4]) rfl ?_;exact ⟨by rw[hS];rfl,(((((HR.out.below.setCell (Nat.le_refl _) _).setCell (Nat.le_refl _) _).setCell (Nat.le_refl _) _).setCell (Nat.le_refl _) _).setCell (Nat.le_refl _) _)⟩
   ·have qt:=beq_no ht;by_cases hu:s.data.toList=[110,117,108,108]
    ·have qu:=beq_yes hu;have hS:readS s false=⟨1,false,0,0,⟨#[]⟩⟩:=by simp[readS,hu]
     clear hn ht hu;obtain ⟨⟨c0,c1,c2,c3,c4⟩,f0,f1,f2,f3,f4⟩:=cells_facts_t HR.out.r;go_wp2;refine bodyPost_ret (v:=valV 1 false 0 0 ⟨#[]⟩) (by simp[results,Tryz.results44,go_sem,valV,f0,f1,f2,f3,f4,c0,c1,c2,c3,c4]) rfl ?_;exact ⟨by rw[hS];rfl,(((((HR.out.below.setCell (Nat.le_refl _) _).setCell (Nat.le_refl _) _).setCell (Nat.le_refl _) _).setCell (Nat.le_refl _) _).setCell (Nat.le_refl _) _)⟩
    ·have qu:=beq_no hu;by_cases hy:s.data.toList=[116,114,117,101]
     ·have qy:=beq_yes hy;have hS:readS s false=⟨2,true,0,0,⟨#[]⟩⟩:=by simp[readS,hy]
      clear hn ht hu hy;obtain ⟨⟨c0,c1,c2,c3,c4⟩,f0,f1,f2,f3,f4⟩:=cells_facts_t HR.out.r;go_wp2;refine bodyPost_ret (v:=valV 2 true 0 0 ⟨#[]⟩) (by simp[results,Tryz.results44,go_sem,valV,f0,f1,f2,f3,f4,c0,c1,c2,c3,c4]) rfl ?_;exact ⟨by rw[hS];rfl,(((((HR.out.below.setCell (Nat.le_refl _) _).setCell (Nat.le_refl _) _).setCell (Nat.le_refl _) _).setCell (Nat.le_refl _) _).setCell (Nat.le_refl _) _)⟩
     ·have qy:=beq_no hy;by_cases hf:s.data.toList=[102,97,108,115,101]
      ·have qf:=beq_yes hf;have hS:readS s false=⟨2,false,0,0,⟨#[]⟩⟩:=by simp[readS,hf]
       clear hn ht hu hy hf;obtain ⟨⟨c0,c1,c2,c3,c4⟩,f0,f1,f2,f3,f4⟩:=cells_facts_t HR.out.r;go_wp2;refine bodyPost_ret (v:=valV 2 false 0 0 ⟨#[]⟩) (by simp[results,Tryz.results44,go_sem,valV,f0,f1,f2,f3,f4,c0,c1,c2,c3,c4]) rfl ?_;exact ⟨by rw[hS];rfl,(((((HR.out.below.setCell (Nat.le_refl _) _).setCell (Nat.le_refl _) _).setCell (Nat.le_refl _) _).setCell (Nat.le_refl _) _).setCell (Nat.le_refl _) _)⟩
      ·have qf:=beq_no hf;by_cases ha:s.data.toList=[46,110,97,110]
       ·have qa:=beq_yes ha;have hS:readS s false=⟨4,false,0,nanB,⟨#[]⟩⟩:=by simp[readS,ha]
        clear hn ht hu hy hf ha;have Hc:=hid nan_walk
        go_wp2_with fail
        refine (Hc.out _).mono ?_;rintro e w1 ⟨rfl,hw⟩;obtain rfl:=hw.symm;clear Hc;obtain ⟨⟨c0,c1,c2,c3,c4⟩,f0,f1,f2,f3,f4⟩:=cells_facts_t HR.out.r;go_wp2;refine bodyPost_ret (v:=valV 4 false 0 nanB ⟨#[]⟩) (by simp[results,Tryz.results44,go_sem,valV,f0,f1,f2,f3,f4,c0,c1,c2,c3,c4]) rfl ?_;exact ⟨by rw[hS];rfl,(((((HR.out.below.setCell (Nat.le_refl _) _).setCell (Nat.le_refl _) _).setCell (Nat.le_refl _) _).setCell (Nat.le_refl _) _).setCell (Nat.le_refl _) _)⟩
       ·have qa:=beq_no ha;by_cases hi:s.data.toList=[46,105,110,102]
        ·have qi:=beq_yes hi;have hS:readS s false=⟨4,false,0,infB,⟨#[]⟩⟩:=by simp[readS,hi]
         clear hn ht hu hy hf ha hi;have Hc:=hid inf_walk
         go_wp2_with fail
         refine (Hc.out _).mono ?_;rintro e w1 ⟨rfl,hw⟩;obtain rfl:=hw.symm;clear Hc;obtain ⟨⟨c0,c1,c2,c3,c4⟩,f0,f1,f2,f3,f4⟩:=cells_facts_t HR.out.r;go_wp2;refine bodyPost_ret (v:=valV 4 false 0 infB ⟨#[]⟩) (by simp[results,Tryz.results44,go_sem,valV,f0,f1,f2,f3,f4,c0,c1,c2,c3,c4]) rfl ?_;exact ⟨by rw[hS];rfl,(((((HR.out.below.setCell (Nat.le_refl _) _).setCell (Nat.le_refl _) _).setCell (Nat.le_refl _) _).setCell (Nat.le_refl _) _).setCell (Nat.le_refl _) _)⟩
        ·have qi:=beq_no hi;by_cases hm:s.data.toList=[45,46,105,110,102]
         ·have qm:=beq_yes hm;have hS:readS s false=⟨4,false,0,ninfB,⟨#[]⟩⟩:=by simp[readS,hm]
          clear hn ht hu hy hf ha hi hm;have Hc:=hid ninf_walk
          go_wp2_with fail
          refine (Hc.out _).mono ?_;rintro e w1 ⟨rfl,hw⟩;obtain rfl:=hw.symm;clear Hc;obtain ⟨⟨c0,c1,c2,c3,c4⟩,f0,f1,f2,f3,f4⟩:=cells_facts_t HR.out.r;go_wp2;refine bodyPost_ret (v:=valV 4 false 0 ninfB ⟨#[]⟩) (by simp[results,Tryz.results44,go_sem,valV,f0,f1,f2,f3,f4,c0,c1,c2,c3,c4]) rfl ?_;exact ⟨by rw[hS];rfl,(((((HR.out.below.setCell (Nat.le_refl _) _).setCell (Nat.le_refl _) _).setCell (Nat.le_refl _) _).setCell (Nat.le_refl _) _).setCell (Nat.le_refl _) _)⟩
         ·have qm:=beq_no hm;have hS:readS s false=readN s:=by simp[readS,hn,ht,hu,hy,hf,ha,hi,hm]
          clear hn ht hu hy hf ha hi hm;have Hc:=hid (number_walk' w1 s hmax (HR.out.laid Hv.out))
          go_wp2_with fail
          refine Hc.out.mono ?_;rintro e w2 ⟨V,ok,rfl,hb,hcases⟩;have HR2:=hid (HR.out.later hb);clear hb Hc;obtain ⟨kd,vi,vx,hV⟩:∃kd vi vx,V=valV kd false vi vx ⟨#[]⟩:=by
           rcases hcases with ⟨_,⟨kd,i,h⟩,_⟩|⟨_,i,_,h⟩|⟨_,_,m,k,b,_,h⟩
           ·exact ⟨_,_,_,h⟩
           ·exact ⟨_,_,_,h⟩
           ·exact ⟨_,_,_,h⟩
          have HC:=hid hcases;have HV:=hid hV;clear hcases;rw[hV];clear hV;dsimp only[valV]
          go_upto_if 39 with (fail)
          obtain ⟨w3,hw3⟩:∃w3,w3=w2.alloc (Obj.cells #[.int .i64 kd,.bool false,.int .i64 vi,.float .f64 vx,.string ⟨#[]⟩] 91):=⟨_,rfl⟩;rw[←hw3];have HR3:=hid (HR2.out.later (w2:=w3) (by rw[hw3];exact (Below.refl _ _).alloc (Nat.le_refl _) _));have hB3:w3.heap[w2.heap.size]? =some (.cells #[.int .i64 kd,.bool false,.int .i64 vi,.float .f64 vx,.string ⟨#[]⟩] 91 (0,0)):=by
           rw[hw3];simp[World.alloc,-World.alloc_eq]
          have HB3:=hid hB3;clear hB3 hw3;cases ok with
          |false=>
           have hT:readS s false=⟨5,false,0,0,s⟩:=by
            rcases HC.out with ⟨_,_,hI,hD⟩|⟨q,_⟩|⟨q,_⟩
            ·rw[hS];unfold readN;rw[hI];simp only[hD]
            ·cases q
            ·cases q
           clear hS;obtain ⟨⟨c0,c1,c2,c3,c4⟩,f0,f1,f2,f3,f4⟩:=cells_facts_t HR3.out.r;go_wp2;refine bodyPost_ret (v:=valV 5 false 0 0 s) (by simp[results,Tryz.results44,go_sem,valV,f0,f1,f2,f3,f4,c0,c1,c2,c3,c4]) rfl ?_;exact ⟨by rw[hT];rfl,(((((HR3.out.below.setCell (Nat.le_refl _) _).setCell (Nat.le_refl _) _).setCell (Nat.le_refl _) _).setCell (Nat.le_refl _) _).setCell (Nat.le_refl _) _)⟩
          |true=>
           have hT:(readS s false).v=valV kd false vi vx ⟨#[]⟩:=by
            rcases HC.out with ⟨q,_⟩|⟨_,i,hI,hV⟩|⟨_,hI,m,k,b,hD,hV⟩
            ·cases q
            ·rw[←HV.out,hV,hS];unfold readN;rw[hI];rfl
            ·rw[←HV.out,hV,hS];unfold readN;rw[hI];simp only[hD];rfl
           clear hS;obtain ⟨⟨d0,d1,d2,d3,d4⟩,g0,g1,g2,g3,g4⟩:=cells_facts_t HB3.out;obtain ⟨⟨c0,c1,c2,c3,c4⟩,f0,f1,f2,f3,f4⟩:=cells_facts_t HR3.out.r;go_wp2;refine bodyPost_ret (v:=valV kd false vi vx ⟨#[]⟩) (by simp[results,Tryz.results44,go_sem,valV,f0,f1,f2,f3,f4,c0,c1,c2,c3,c4]) rfl ?_;exact ⟨by rw[hT],(((((HR3.out.below.setCell (Nat.le_refl _) _).setCell (Nat.le_refl _) _).setCell (Nat.le_refl _) _).setCell (Nat.le_refl _) _).setCell (Nat.le_refl _) _)⟩
end Go.Proofs.YtfenoaeoedobmaaGreatDoor
namespace Go.Proofs.YtfenoaeoedobmaaGreatDoor
open Go Go.RowKit Ieee
def HUND:Nat:=4636737291354636288
def cent (r:Nat):Bool:=((FloatKind.f64.format.order r 0==some .gt)||(FloatKind.f64.format.order r 0==some .eq))&&((FloatKind.f64.format.order r HUND==some .lt)||(FloatKind.f64.format.order r HUND==some .eq))
def noMinus (r:Nat):Nat:=if (FloatKind.f64.format.order r 0==some .eq)=true then 0 else r
theorem cut_whole (m d:Nat) (hm:0<m):Toward.even.cut false (m*2 ^ d) d=m:=by
 have hp:0<2 ^ d:=Nat.two_pow_pos d;have hl:d≤(m*2 ^ d).log2+2:=by
  have h1:2 ^ d≤m*2 ^ d:=Nat.le_mul_of_pos_left _ hm;have h2:d≤(m*2 ^ d).log2:=by
   rw[Nat.le_log2 (Nat.pos_iff_ne_zero.1 (Nat.lt_of_lt_of_le hp h1))];exact h1
  omega
 obtain ⟨c1,c2⟩:=cut_even (m*2 ^ d) d hl;generalize Toward.even.cut false (m*2 ^ d) d=k at*;have e1:2*k*2 ^ d≤(2*m+1)*2 ^ d:=by rw[Nat.add_mul,Nat.mul_assoc,Nat.mul_assoc,Nat.one_mul];exact c1
 have e2:2*m*2 ^ d≤(2*k+1)*2 ^ d:=by rw[Nat.add_mul,Nat.mul_assoc,Nat.mul_assoc,Nat.one_mul];exact c2
 have g1:=Nat.le_of_mul_le_mul_right e1 hp;have g2:=Nat.le_of_mul_le_mul_right e2 hp;omega
theorem log2_bin {m:Nat} (h1:4503599627370496≤m) (h2:m<9007199254740992):m.log2=52:=by
 have a:52≤m.log2:=(Nat.le_log2 (by omega)).2 h1;have b:m.log2<53:=(Nat.log2_lt (by omega)).2 h2;omega
theorem log2_shift (m d:Nat) (hm:0<m):(m*2 ^ d).log2=m.log2+d:=by
 have hp:0<2 ^ d:=Nat.two_pow_pos d;have h0:m*2 ^ d≠0:=Nat.ne_of_gt (Nat.mul_pos hm hp);refine Nat.le_antisymm ?_ ?_
 ·refine Nat.le_of_lt_succ ((Nat.log2_lt h0).2 ?_);have:m<2 ^ (m.log2+1):=Nat.lt_log2_self;rw[show (m.log2+d).succ=(m.log2+1)+d by omega,Nat.pow_add 2 (m.log2+1) d];exact Nat.mul_lt_mul_of_pos_right this hp
 ·refine (Nat.le_log2 h0).2 ?_;rw[Nat.pow_add];exact Nat.mul_le_mul_right _ (Nat.log2_self_le (by omega))
theorem near_self {x:Nat} (h:x<INF):double.nearest false (FV x) (-1074)=x:=by
 unfold INF at h;unfold FV;by_cases hb:x<4503599627370496
 ·rw[if_pos hb];unfold Format.nearest;by_cases h0:x=0
  ·rw[if_pos h0,h0];exact word_false 0
  ·rw[if_neg h0];dsimp only;have hl:x.log2<52:=(Nat.log2_lt h0).2 hb;rw[c_frac,c_least,c_bin,c_inf,show max ((-1074:Int)+(x.log2:Int)-((52:Nat):Int)) (-1074)= -1074 by omega,show ((-1074:Int)- -1074).toNat=0 from rfl,Nat.shiftLeft_zero,cut_zero_drop,word_false];unfold INF;omega
 ·rw[if_neg hb];obtain ⟨e,he⟩:∃e,e=x / 4503599627370496-1:=⟨_,rfl⟩;obtain ⟨m,hm⟩:∃m,m=4503599627370496+x % 4503599627370496:=⟨_,rfl⟩;rw[←he,←hm];have m1:4503599627370496≤m:=by omega
  have m2:m<9007199254740992:=by omega
  have hx:x=e*4503599627370496+m:=by omega
  have hl:(m*2 ^ e).log2=52+e:=by rw[log2_shift m e (by omega),log2_bin m1 m2]
  have h0:m*2 ^ e≠0:=Nat.ne_of_gt (Nat.mul_pos (by omega) (Nat.two_pow_pos _));unfold Format.nearest;rw[if_neg h0];dsimp only;rw[hl,c_frac,c_least,c_bin,c_inf,show max ((-1074:Int)+((52+e:Nat):Int)-((52:Nat):Int)) (-1074)=(e:Int)-1074 by omega,
   show ((-1074:Int)-((e:Int)-1074)).toNat=0 by omega,show ((e:Int)-1074- -1074).toNat=e by omega,Nat.shiftLeft_zero,cut_whole m e (by omega),word_false,←hx]
  unfold INF;omega
theorem add0 {x:Nat} (h:x<INF):floatBits .add .f64 x 0=some x:=by
 obtain ⟨mag,up,h1,h2⟩:=read_pos x h;have h0:double.read 0= .number false 0 (-1074):=by decide+kernel
 unfold floatBits
 show Format.add double x 0=some x
 unfold Format.add;rw[h1,h0];unfold Datum.sum;dsimp only;rw[show min ((up:Int)-1074) (-1074)= -1074 by omega,show ((up:Int)-1074- -1074).toNat=up by omega];have e1:signed false mag up=((mag*2 ^ up:Nat):Int):=by
  unfold signed;rw[if_neg (by decide),Nat.shiftLeft_eq]
 have e2:signed false 0 ((-1074:Int)- -1074).toNat=0:=rfl;rw[e1,e2,Int.add_zero,←h2];simp only[Option.map_some,Int.natAbs_natCast];unfold Format.write;have e3:(if ((FV x:Nat):Int)=0 then false&&false else decide (((FV x:Nat):Int)<0))=false:=by
  split
  ·rfl
  ·exact dF (by omega)
 rw[e3];dsimp only;rw[near_self h]
theorem order_zero (r:Nat):double.order r 0=(double.read r).order (.number false 0 (-1074)):=by
 unfold Format.order;rw[show double.read 0= .number false 0 (-1074) by decide+kernel]
theorem cent_fin {r:Nat} (hr:r<18446744073709551616) (hc:cent r=true):noMinus r<INF:=by
 have hH:double.read HUND= .number false 7036874417766400 (-46):=by decide+kernel
 unfold noMinus
 split
 ·decide
 ·rename_i hz
  unfold cent at hc;rw[Bool.and_eq_true,Bool.or_eq_true,Bool.or_eq_true]at hc;obtain ⟨c1,c2⟩:=hc;have c3:double.order r 0=some .gt:=by
   rcases c1 with c1|c1
   ·exact eq_of_beq c1
   ·exact absurd c1 hz
  have c4:double.order r HUND=some .lt∨double.order r HUND=some .eq:=by
   rcases c2 with c2|c2
   ·exact .inl (eq_of_beq c2)
   ·exact .inr (eq_of_beq c2)
  rw[order_zero]at c3;unfold Format.order at c4;rw[hH]at c4;cases hs:(r / 9223372036854775808 % 2==1) with
  |false=>
   have hlt:r<9223372036854775808:=by
    have:¬r / 9223372036854775808 % 2=1:=by simpa using hs
    omega
   rcases Nat.lt_or_ge r INF with g|g
   ·exact g
   ·exfalso
    have hrd:double.read r= .infinity false∨∃f,double.read r= .nan false f:=by
     unfold Format.read;simp only[c_sign,c_bin,c_inf,c_least,hs];rw[Nat.mod_eq_of_lt hlt];unfold INF at*;rw[if_neg (by omega),if_neg (by omega)]
     split
     ·exact .inl rfl
     ·exact .inr ⟨_,rfl⟩
    rcases hrd with e|⟨f,e⟩
    ·rw[e]at c4;rcases c4 with c4|c4<;>cases c4
    ·rw[e]at c3;cases c3
  |true=>
   exfalso
   have hrd:(∃m p,double.read r= .number true m p)∨double.read r= .infinity true∨∃f,double.read r= .nan true f:=by
    unfold Format.read;simp only[c_sign,c_bin,c_inf,c_least,hs]
    split
    ·exact .inl ⟨_,_,rfl⟩
    ·split
     ·exact .inl ⟨_,_,rfl⟩
     ·split
      ·exact .inr (.inl rfl)
      ·exact .inr (.inr ⟨_,rfl⟩)
   rcases hrd with ⟨m,p,e⟩|e|⟨f,e⟩
   ·rw[e]at c3;unfold Datum.order at c3;dsimp only at c3;rw[Option.some.injEq]at c3;have:=Int.compare_eq_gt.1 c3;unfold signed at this;rw[if_pos rfl,if_neg (by decide)]at this;generalize m <<< (p-min p (-1074)).toNat=a at this;generalize 0 <<< (-1074-min p (-1074)).toNat=b at this;omega
   ·rw[e]at c3;cases c3
   ·rw[e]at c3;cases c3
theorem wf_lt {r:Nat} (h:(Lit.float .f64 r).wf=true):r<18446744073709551616:=by
 simpa[Lit.wf] using h
theorem scW_lt (m:Nat) (k:Int):scW m k<18446744073709551616:=by
 have key:∀o:Option Nat,(∀r,o=some r→r<18446744073709551616)→o.getD 0<18446744073709551616:=fun o h=>by
  cases o with
  |none=>decide
  |some r=>exact h r rfl
 unfold scW
 split
 ·exact key _ fun r h=>wf_lt (floatBits_wf h)
 ·exact key _ fun r h=>wf_lt (floatBits_wf h)
end Go.Proofs.YtfenoaeoedobmaaGreatDoor
namespace Go.Proofs.YtfenoaeoedobmaaGreatDoor
open Go Go.RowKit
theorem pth_size (s:ByteArray):s.data.toList.length=s.size:=by rw[Array.length_toList];rfl
def pchar (c:UInt8):Bool:=decide (33≤c.toNat∧c.toNat≤126)
def pathB (l:List UInt8):Bool:=decide (1≤l.length∧l.length≤256∧l[0]? =some 47)&&l.all pchar
def foldOk (c:UInt8):Bool:=decide ((65≤c.toNat∧c.toNat≤90)∨(97≤c.toNat∧c.toNat≤122)∨(48≤c.toNat∧c.toNat≤57)∨c.toNat=45∨c.toNat=46)
def foldC (c:UInt8):UInt8:=if 65≤c.toNat∧c.toNat≤90 then c+32 else c
def foldV (s:ByteArray):ByteArray×Bool:=if 1≤s.size∧s.size≤64∧s.data.toList.all foldOk=true then (⟨(s.data.toList.map foldC).toArray⟩,true) else (⟨#[]⟩,false)
def begP (s:ByteArray):ByteArray:=⟨(Lib.trimSuffix s.data.toList [42]).toArray⟩
def begB (s:ByteArray):Bool:=Lib.hasSuffix s.data.toList [42]
def patB (s:ByteArray):Bool:=(begB s&&(begP s).toList==[])||pathB (begP s).data.toList
def hostR (s rest:ByteArray) (k:Int):Int×ByteArray:=if (foldV rest).2=true then (k,(foldV rest).1) else (3,s)
def hostV (s:ByteArray):Int×ByteArray:=if (s.toList==[42])=true then (2,⟨#[]⟩) else if Lib.hasPrefix s.data.toList [42,46]=true then hostR s (s.extract 2 s.size) 1 else hostR s s 0
theorem prefix_len {s:ByteArray} (h:Lib.hasPrefix s.data.toList [42,46]=true):2≤s.size:=by
 have h1:=List.IsPrefix.length_le (by simpa[Lib.hasPrefix] using h:[42,46] <+:s.data.toList);rw[pth_size]at h1;exact h1
def upCh (c:UInt8):Bool:=decide (65≤c.toNat∧c.toNat≤90)
def methL (l:List UInt8):Bool:=l.all upCh&&decide (0<l.length∧l.length≤64)
def methB (s:ByteArray):Bool:=(s.toList==[42])||methL s.data.toList
def hostB (s:ByteArray):Bool:=decide ((hostV s).1≠3)
structure Tgt where
 service:ByteArray
 split:ByteArray
 weight:Nat
structure Rul where
 path:ByteArray
 method:ByteArray
 split:ByteArray
 allow:Bool
structure Res where
 kind:Int
 name:ByteArray
 endps:List ByteArray
 targets:List Tgt
 host:ByteArray
 rules:List Rul
 route:ByteArray
 del:Bool
def Res.zero:Res:=⟨0,⟨#[]⟩,[],[],⟨#[]⟩,[],⟨#[]⟩,false⟩
abbrev Stop:=Int×Int
abbrev R (α:Type):=Except Stop α
def bs (l:List UInt8):ByteArray:=⟨l.toArray⟩
def kKind:ByteArray:=⟨#[107,105,110,100]⟩
def kName:ByteArray:=⟨#[110,97,109,101]⟩
def kDelete:ByteArray:=⟨#[100,101,108,101,116,101]⟩
def kEndpoints:ByteArray:=⟨#[101,110,100,112,111,105,110,116,115]⟩
def kTargets:ByteArray:=⟨#[116,97,114,103,101,116,115]⟩
def kService:ByteArray:=⟨#[115,101,114,118,105,99,101]⟩
def kSplit:ByteArray:=⟨#[115,112,108,105,116]⟩
def kWeight:ByteArray:=⟨#[119,101,105,103,104,116]⟩
def kHost:ByteArray:=⟨#[104,111,115,116]⟩
def kRules:ByteArray:=⟨#[114,117,108,101,115]⟩
def kRoute:ByteArray:=⟨#[114,111,117,116,101]⟩
def kAction:ByteArray:=⟨#[97,99,116,105,111,110]⟩
def kPath:ByteArray:=⟨#[112,97,116,104]⟩
def kMethod:ByteArray:=⟨#[109,101,116,104,111,100]⟩
def kAllow:ByteArray:=⟨#[97,108,108,111,119]⟩
def kDeny:ByteArray:=⟨#[100,101,110,121]⟩
def kStar:ByteArray:=⟨#[42]⟩
def fieldN (ns:List Nd) (m:Nd) (key:ByteArray):Option Nat:=
 (m.kids.find? fun k=>decide ((ns[k.toNat]!).key=key)).map Int.toNat
def fieldP (ns:List Nd) (m:Nd) (key:ByteArray):Option Nd:=(fieldN ns m key).map fun k=>ns[k]!
def needP (ns:List Nd) (m:Nd) (key:ByteArray):R Nd:=
 match fieldP ns m key with
 |some n=> .ok n
 |none=> .error (m.line,122)
def onlyP (ns:List Nd) (keys:List ByteArray):List Int→R Unit
 |[]=> .ok ()
 |k::r=>if (ns[k.toNat]!).key∈keys then onlyP ns keys r else .error ((ns[k.toNat]!).line,121)
def nameB (l:List UInt8):Bool:=l.all nameCh&&decide (0<l.length∧l.length≤64)
def wordP (n:Nd) (so:ByteArray→Bool):R ByteArray:=
 if n.kind≠1∨so n.text=false then .error (n.line,123) else .ok n.text
def isName (s:ByteArray):Bool:=nameB s.data.toList
def listP (ns:List Nd) (n:Nd) (least most:Nat):R (List Nd):=
 if n.kind≠3 then .error (n.line,123)
 else if n.kids.length<least∨most<n.kids.length then .error (n.line,124)
 else .ok (n.kids.map fun k=>ns[k.toNat]!)
def endpP:List Nd→List ByteArray→R (List ByteArray)
 |[],out=> .ok out
 |k::r,out=>
  match wordP k isName with
  | .error e=> .error e
  | .ok s=>if s∈out then .error (k.line,91) else endpP r (out++[s])
def serviceP (ns:List Nd) (m:Nd) (r:Res):R Res:=
 match fieldP ns m kEndpoints with
 |none=> .ok r
 |some n=>
  match listP ns n 0 16 with
  | .error e=> .error e
  | .ok l=>
   match endpP l [] with
   | .error e=> .error e
   | .ok out=> .ok {r with endps:=out}
def mapP (n:Nd):R Unit:=if n.kind≠2 then .error (n.line,123) else .ok ()
def weightP (n:Nd):R Nat:=
 if n.kind≠1 then .error (n.line,123)
 else if (readS n.text n.quoted).kind=3 then
  (if (readS n.text n.quoted).int<0∨100<(readS n.text n.quoted).int then .error (n.line,123) else .ok (floatOfInt .f64 (readS n.text n.quoted).int))
 else if (readS n.text n.quoted).kind=4 then
  (if cent (readS n.text n.quoted).real=true then .ok (noMinus (readS n.text n.quoted).real) else .error (n.line,123))
 else .error (n.line,123)
def secondN (ns:List Nd) (l:List Int) (b:Nd):Nd:=
 l.foldl (fun x k=>if (ns[k.toNat]!).key=kService∨(ns[k.toNat]!).key=kSplit then ns[k.toNat]! else x) b
def targetP (ns:List Nd) (k:Nd):R Tgt:=
 match mapP k with
 | .error e=> .error e
 | .ok ()=>
 match onlyP ns [kService,kSplit,kWeight] k.kids with
 | .error e=> .error e
 | .ok ()=>
 match (match fieldP ns k kService,fieldP ns k kSplit with
  |none,none=>(.error (k.line,122):R (ByteArray×ByteArray))
  |some _,some b=> .error ((secondN ns k.kids b).line,121)
  |some a,none=>(match wordP a isName with| .error e=> .error e| .ok s=> .ok (s,⟨#[]⟩))
  |none,some b=>(match wordP b isName with| .error e=> .error e| .ok s=> .ok (⟨#[]⟩,s))) with
 | .error e=> .error e
 | .ok (a,b)=>
 match needP ns k kWeight with
 | .error e=> .error e
 | .ok n=>
 match weightP n with
 | .error e=> .error e
 | .ok x=> .ok ⟨a,b,x⟩
def targetsP (ns:List Nd):List Nd→List Tgt→R (List Tgt)
 |[],out=> .ok out
 |k::r,out=>
  match targetP ns k with
  | .error e=> .error e
  | .ok t=>targetsP ns r (out++[t])
def splitP (ns:List Nd) (m:Nd) (r:Res):R Res:=
 match needP ns m kTargets with
 | .error e=> .error e
 | .ok n=>
 match listP ns n 1 8 with
 | .error e=> .error e
 | .ok l=>
 match targetsP ns l [] with
 | .error e=> .error e
 | .ok out=> .ok {r with targets:=out}
def isAct (s:ByteArray):Bool:=decide (s=kAllow∨s=kDeny)
def ruleP (ns:List Nd) (act:Bool) (k:Nd):R Rul:=
 match mapP k with
 | .error e=> .error e
 | .ok ()=>
 match onlyP ns [kPath,kMethod,if act=true then kAction else kSplit] k.kids with
 | .error e=> .error e
 | .ok ()=>
 match (if act=true then (match needP ns k kAction with| .error e=> .error e| .ok n=>wordP n isAct) else (.ok ⟨#[]⟩:R ByteArray)) with
 | .error e=> .error e
 | .ok a=>
 match needP ns k kPath with
 | .error e=> .error e
 | .ok n=>
 match wordP n patB with
 | .error e=> .error e
 | .ok p=>
 match (match fieldP ns k kMethod with|some n=>wordP n methB|none=>(.ok kStar:R ByteArray)) with
 | .error e=> .error e
 | .ok m=>
 match (if act=true then (.ok ⟨#[]⟩:R ByteArray) else (match needP ns k kSplit with| .error e=> .error e| .ok n=>wordP n isName)) with
 | .error e=> .error e
 | .ok s=> .ok ⟨p,m,s,decide (a=kAllow)⟩
def rulesL (ns:List Nd) (act:Bool):List Nd→List Rul→R (List Rul)
 |[],out=> .ok out
 |k::r,out=>
  match ruleP ns act k with
  | .error e=> .error e
  | .ok x=>rulesL ns act r (out++[x])
def rulesP (ns:List Nd) (act:Bool) (m:Nd) (r:Res):R Res:=
 match needP ns m kRules with
 | .error e=> .error e
 | .ok n=>
 match listP ns n 1 16 with
 | .error e=> .error e
 | .ok l=>
 match rulesL ns act l [] with
 | .error e=> .error e
 | .ok out=> .ok {r with rules:=out}
def routeP (ns:List Nd) (m:Nd) (r:Res):R Res:=
 match needP ns m kHost with
 | .error e=> .error e
 | .ok n=>
 match wordP n hostB with
 | .error e=> .error e
 | .ok s=>rulesP ns false m {r with host:=⟨(s.data.toList.map foldC).toArray⟩}
def policyP (ns:List Nd) (m:Nd) (r:Res):R Res:=
 match needP ns m kRoute with
 | .error e=> .error e
 | .ok n=>
 match wordP n isName with
 | .error e=> .error e
 | .ok s=>rulesP ns true m {r with route:=s}
def nService:ByteArray:=⟨#[83,101,114,118,105,99,101]⟩
def nSplit:ByteArray:=⟨#[83,112,108,105,116]⟩
def nRoute:ByteArray:=⟨#[82,111,117,116,101]⟩
def nPolicy:ByteArray:=⟨#[80,111,108,105,99,121]⟩
def kindN (n:Nd):Nat:=
 if n.kind≠1 then 0 else if n.text=nService then 1 else if n.text=nSplit then 2 else if n.text=nRoute then 3 else if n.text=nPolicy then 4 else 0
def ownF (k:Nat):List ByteArray:=
 if k=1 then [kEndpoints] else if k=2 then [kTargets] else if k=3 then [kHost,kRules] else [kRoute,kRules]
def bodyP (ns:List Nd) (m:Nd) (r:Res) (k:Nat):R Res:=
 match onlyP ns (kKind::kName::ownF k) m.kids with
 | .error e=> .error e
 | .ok ()=>if k=1 then serviceP ns m r else if k=2 then splitP ns m r else if k=3 then routeP ns m r else policyP ns m r
def isTrue (n:Nd):Bool:=decide (n.kind=1∧(readS n.text n.quoted).kind=2)&&(readS n.text n.quoted).bool
def docP (ns:List Nd):R Res:=
 if treeP ns=false then .error (0,100)
 else
 match mapP (ns[0]!) with
 | .error e=> .error e
 | .ok ()=>
 match needP ns (ns[0]!) kKind with
 | .error e=> .error e
 | .ok k=>
 if kindN k=0 then .error (k.line,120)
 else
 match needP ns (ns[0]!) kName with
 | .error e=> .error e
 | .ok n=>
 match wordP n isName with
 | .error e=> .error e
 | .ok s=>
 match fieldP ns (ns[0]!) kDelete with
 |some x=>
  if isTrue x=false then .error (x.line,123)
  else (match onlyP ns [kKind,kName,kDelete] (ns[0]!).kids with
   | .error e=> .error e
   | .ok ()=> .ok {Res.zero with kind:=(kindN k:Int),name:=s,del:=true})
 |none=>bodyP ns (ns[0]!) {Res.zero with kind:=(kindN k:Int),name:=s} (kindN k)
def docsP:List (List Nd)→Nat→Except (Nat×Stop) (List Res)
 |[],_=> .ok []
 |d::r,i=>
  match docP d with
  | .error e=> .error (i,e)
  | .ok x=>
   match docsP r (i+1) with
   | .error e=> .error e
   | .ok l=> .ok (x::l)
end Go.Proofs.YtfenoaeoedobmaaGreatDoor
