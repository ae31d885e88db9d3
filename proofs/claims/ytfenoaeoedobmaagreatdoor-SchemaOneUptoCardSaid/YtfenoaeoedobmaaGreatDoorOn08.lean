/-
Parts of a proof.
-/
import Derived.Test.YtfenoaeoedobmaaGreatDoorOn05
import Derived.Test.YtfenoaeoedobmaaGreatDoorOn07
set_option linter.unusedVariables false
set_option linter.unusedSimpArgs false
set_option maxHeartbeats 8000000
namespace Go.Proofs.YtfenoaeoedobmaaGreatDoor
open Go Go.RowKit
def Ff:Nat:=9221120237041090561
def Fy:Nat:=9218868437227405312
def wD:Nat:=18442240474082181120
theorem NB:∀w:World,(callFunc 114 #[.int .u64 9221120237041090561]).run Tryz.prog w= .ok (.value (.float .f64 9221120237041090561)) w:=fT 9221120237041090561
theorem Od:∀w:World,(callFunc 114 #[.int .u64 9218868437227405312]).run Tryz.prog w= .ok (.value (.float .f64 9218868437227405312)) w:=fT 9218868437227405312
theorem J3:∀w:World,(callFunc 114 #[.int .u64 18442240474082181120]).run Tryz.prog w= .ok (.value (.float .f64 18442240474082181120)) w:=fT 18442240474082181120
theorem NC (w:World):Calls Tryz.prog 76 #[] w fun e w'=>e= .returned (.float .f64 Ff)/\w'=w:=by
 have h:=NB;go_enter Tryz.func76,Tryz.ntmps76;go_wp2;go_ret;exact ⟨rfl,rfl⟩
theorem Oe (w:World):Calls Tryz.prog 77 #[.int .i64 1] w fun e w'=>e= .returned (.float .f64 Fy)/\w'=w:=by
 have h:=Od;go_enter Tryz.func77,Tryz.ntmps77;go_wp2;go_ret;exact ⟨rfl,rfl⟩
theorem J4 (w:World):Calls Tryz.prog 77 #[.int .i64 (-1)] w fun e w'=>e= .returned (.float .f64 wD)/\w'=w:=by
 have h:=J3;go_enter Tryz.func77,Tryz.ntmps77;go_wp2;go_ret;exact ⟨rfl,rfl⟩
structure Val where
 kind:Int
 bool:Bool
 int:Int
 real:Nat
 text:ByteArray
def Val.v (a:Val):Value:=b8 a.kind a.bool a.int a.real a.text
def kC (s:ByteArray):Val:=
 match nF s.data.toList with
 |some i=>⟨3,false,i,0,⟨#[]⟩⟩
 |none=>match kx s.data.toList with
  |some (m,k,b)=>⟨4,false,0,if b=true then mL (scW m k) else scW m k,⟨#[]⟩⟩
  |none=>⟨5,false,0,0,s⟩
def aZ (s:ByteArray) (quoted:Bool):Val:=
 if quoted=true then ⟨5,false,0,0,s⟩
 else if s.data.toList=[]\/s.data.toList=[126]\/s.data.toList=[110,117,108,108] then ⟨1,false,0,0,⟨#[]⟩⟩
 else if s.data.toList=[116,114,117,101] then ⟨2,true,0,0,⟨#[]⟩⟩
 else if s.data.toList=[102,97,108,115,101] then ⟨2,false,0,0,⟨#[]⟩⟩
 else if s.data.toList=[46,110,97,110] then ⟨4,false,0,Ff,⟨#[]⟩⟩
 else if s.data.toList=[46,105,110,102] then ⟨4,false,0,Fy,⟨#[]⟩⟩
 else if s.data.toList=[45,46,105,110,102] then ⟨4,false,0,wD,⟨#[]⟩⟩
 else kC s
def rG (s:ByteArray) (quoted:Bool) (w:World) (e:Ending) (w':World):Prop:=
 e= .returned (aZ s quoted).v/\Below w.heap.size w w'
theorem uz {w:World} (h:dW w) (o:Obj):dW (w.alloc o):=by
 obtain ⟨ev,q1,q2⟩:=h;exact ⟨ev,by rw[((aBi w.heap.size w).alloc (aBh _) o).cell (eW q1)];exact q1,q2⟩
theorem cj {w:World} {b t:Nat} {v0 v1 v2 v3 v4:Value} (h:w.heap[b]? =some (.cells #[v0,v1,v2,v3,v4] t (0,0))):
 (w.cell? ⟨b,0,none⟩=some v0/\w.cell? ⟨b,1,none⟩=some v1/\w.cell? ⟨b,2,none⟩=some v2/\w.cell? ⟨b,3,none⟩=some v3/\w.cell? ⟨b,4,none⟩=some v4)/\
 (w.frozen? ⟨b,0,none⟩=false/\w.frozen? ⟨b,1,none⟩=false/\w.frozen? ⟨b,2,none⟩=false/\w.frozen? ⟨b,3,none⟩=false/\w.frozen? ⟨b,4,none⟩=false):=by
 refine ⟨⟨?_,?_,?_,?_,?_⟩,?_,?_,?_,?_,?_⟩<;>simp[World.cell?,World.frozen?,h]
structure RW (w w':World) (t:Nat):Prop where
 below:Below w.heap.size w w'
 r:w'.heap[w.heap.size]? =some (.cells #[.int .i64 0,.bool false,.int .i64 0,.float .f64 0,.string ⟨#[]⟩] t (0,0))
 lt:w.heap.size<w'.heap.size
theorem RW.first (w:World) (t:Nat):RW w (w.alloc (Obj.cells #[.int .i64 0,.bool false,.int .i64 0,.float .f64 0,.string ⟨#[]⟩] t)) t where
 below:=(aBi _ _).alloc (aBh _) _
 r:=by simp[World.alloc,-World.alloc_eq]
 lt:=by simp
theorem RW.later {w w' w2:World} {t:Nat} (h:RW w w' t) (hb:Below w'.heap.size w' w2):RW w w2 t:=
 ⟨h.below.trans (hb.mono h.below.size),(hb.block _ h.lt).trans h.r,Nat.lt_of_lt_of_le h.lt hb.size⟩
theorem RW.laid {w w':World} {t:Nat} (h:RW w w' t) (hl:dW w):dW w':=by
 obtain ⟨ev,q1,q2⟩:=hl;exact ⟨ev,by rw[h.below.cell (eW q1)];exact q1,q2⟩
theorem RW.drewN {w w':World} {t:Nat} (h:RW w w' t) (n:Nat):RW w (w'.drewN n) t:=
 ⟨h.below.trans ⟨rfl,rfl,rfl,aBh _,fun _ _=>rfl⟩,h.r,h.lt⟩
theorem ia {s:ByteArray} {l:List UInt8} (h:s.data.toList=l):(s.toList==l)=true:=by
 rw[Lib.toList_data,h];exact beq_self_eq_true l
theorem ji {s:ByteArray} {l:List UInt8} (h:¬s.data.toList=l):(s.toList==l)=false:=by
 rw[Lib.toList_data];exact beq_eq_false_iff_ne.2 h
theorem se (w:World) (s:ByteArray) (CY:s.size<=2097152) (quoted:Bool) (hv:dW w):
 Calls Tryz.prog 44 #[.string s,.bool quoted] w fun e w'=>rG s quoted w e w':=by
 have cw:= @kA;have hRW:=RW.first w 91;have Hv:=hid hv;clear hv;go_enter Tryz.func44,Tryz.ntmps44
 go_upto_if 7 with (fail)
 obtain ⟨w1,gP⟩:=ex (w.alloc (Obj.cells #[.int .i64 0,.bool false,.int .i64 0,.float .f64 0,.string ⟨#[]⟩] 91));rw[<-gP];rw[<-gP]at hRW;have HR:=hid hRW;clear hRW gP;cases quoted with
 |true=>
  have hS:aZ s true=⟨5,false,0,0,s⟩:=rfl;obtain ⟨⟨c0,c1,c2,c3,c4⟩,f0,f1,f2,f3,f4⟩:=cj HR.o.r;go_wp2;refine bodyPost_ret (v:=b8 5 false 0 0 s) (by simp[results,Tryz.results44,go_sem,b8,f0,f1,f2,f3,f4,c0,c1,c2,c3,c4]) rfl ?_;exact ⟨by rw[hS];rfl,(((((HR.o.below.setCell (aBh _) _).setCell (aBh _) _).setCell (aBh _) _).setCell (aBh _) _).setCell (aBh _) _)⟩
 |false=>
  by_cases hn:s.data.toList=[]
  ·have qn:=ia hn;have hS:aZ s false=⟨1,false,0,0,⟨#[]⟩⟩:=by simp[aZ,hn]
   clear hn;obtain ⟨⟨c0,c1,c2,c3,c4⟩,f0,f1,f2,f3,f4⟩:=cj HR.o.r;go_wp2;refine bodyPost_ret (v:=b8 1 false 0 0 ⟨#[]⟩) (by simp[results,Tryz.results44,go_sem,b8,f0,f1,f2,f3,f4,c0,c1,c2,c3,c4]) rfl ?_;exact ⟨by rw[hS];rfl,(((((HR.o.below.setCell (aBh _) _).setCell (aBh _) _).setCell (aBh _) _).setCell (aBh _) _).setCell (aBh _) _)⟩
  ·have qn:=ji hn;by_cases ht:s.data.toList=[126]
   ·have qt:=ia ht;have hS:aZ s false=⟨1,false,0,0,⟨#[]⟩⟩:=by simp[aZ,ht]
    clear hn ht;obtain ⟨⟨c0,c1,c2,c3,c4⟩,f0,f1,f2,f3,f4⟩:=cj HR.o.r;go_wp2;refine bodyPost_ret (v:=b8 1 false 0 0 ⟨#[]⟩) (by simp[results,Tryz.results44,go_sem,b8,f0,f1,f2,f3,f4,c0,c1,c2,c3,c4]) rfl ?_;exact ⟨by rw[hS];rfl,(((((HR.o.below.setCell (aBh _) _).setCell (aBh _) _).setCell (aBh _) _).setCell (aBh _) _).setCell (aBh _) _)⟩
   ·have qt:=ji ht;by_cases hu:s.data.toList=[110,117,108,108]
    ·have qu:=ia hu;have hS:aZ s false=⟨1,false,0,0,⟨#[]⟩⟩:=by simp[aZ,hu]
     clear hn ht hu;obtain ⟨⟨c0,c1,c2,c3,c4⟩,f0,f1,f2,f3,f4⟩:=cj HR.o.r;go_wp2;refine bodyPost_ret (v:=b8 1 false 0 0 ⟨#[]⟩) (by simp[results,Tryz.results44,go_sem,b8,f0,f1,f2,f3,f4,c0,c1,c2,c3,c4]) rfl ?_;exact ⟨by rw[hS];rfl,(((((HR.o.below.setCell (aBh _) _).setCell (aBh _) _).setCell (aBh _) _).setCell (aBh _) _).setCell (aBh _) _)⟩
    ·have qu:=ji hu;by_cases hy:s.data.toList=[116,114,117,101]
     ·have qy:=ia hy;have hS:aZ s false=⟨2,true,0,0,⟨#[]⟩⟩:=by simp[aZ,hy]
      clear hn ht hu hy;obtain ⟨⟨c0,c1,c2,c3,c4⟩,f0,f1,f2,f3,f4⟩:=cj HR.o.r;go_wp2;refine bodyPost_ret (v:=b8 2 true 0 0 ⟨#[]⟩) (by simp[results,Tryz.results44,go_sem,b8,f0,f1,f2,f3,f4,c0,c1,c2,c3,c4]) rfl ?_;exact ⟨by rw[hS];rfl,(((((HR.o.below.setCell (aBh _) _).setCell (aBh _) _).setCell (aBh _) _).setCell (aBh _) _).setCell (aBh _) _)⟩
     ·have qy:=ji hy;by_cases hf:s.data.toList=[102,97,108,115,101]
      ·have qf:=ia hf;have hS:aZ s false=⟨2,false,0,0,⟨#[]⟩⟩:=by simp[aZ,hf]
       clear hn ht hu hy hf;obtain ⟨⟨c0,c1,c2,c3,c4⟩,f0,f1,f2,f3,f4⟩:=cj HR.o.r;go_wp2;refine bodyPost_ret (v:=b8 2 false 0 0 ⟨#[]⟩) (by simp[results,Tryz.results44,go_sem,b8,f0,f1,f2,f3,f4,c0,c1,c2,c3,c4]) rfl ?_;exact ⟨by rw[hS];rfl,(((((HR.o.below.setCell (aBh _) _).setCell (aBh _) _).setCell (aBh _) _).setCell (aBh _) _).setCell (aBh _) _)⟩
      ·have qf:=ji hf;by_cases ha:s.data.toList=[46,110,97,110]
       ·have qa:=ia ha;have hS:aZ s false=⟨4,false,0,Ff,⟨#[]⟩⟩:=by simp[aZ,ha]
        clear hn ht hu hy hf ha;have Hc:=hid NC
        go_wp2_with fail
        refine (Hc.o _).mono ?_;rintro e w1 ⟨rfl,hw⟩;obtain rfl:=hw.symm;clear Hc;obtain ⟨⟨c0,c1,c2,c3,c4⟩,f0,f1,f2,f3,f4⟩:=cj HR.o.r;go_wp2;refine bodyPost_ret (v:=b8 4 false 0 Ff ⟨#[]⟩) (by simp[results,Tryz.results44,go_sem,b8,f0,f1,f2,f3,f4,c0,c1,c2,c3,c4]) rfl ?_;exact ⟨by rw[hS];rfl,(((((HR.o.below.setCell (aBh _) _).setCell (aBh _) _).setCell (aBh _) _).setCell (aBh _) _).setCell (aBh _) _)⟩
       ·have qa:=ji ha;by_cases hi:s.data.toList=[46,105,110,102]
        ·have qi:=ia hi;have hS:aZ s false=⟨4,false,0,Fy,⟨#[]⟩⟩:=by simp[aZ,hi]
         clear hn ht hu hy hf ha hi;have Hc:=hid Oe
         go_wp2_with fail
         refine (Hc.o _).mono ?_;rintro e w1 ⟨rfl,hw⟩;obtain rfl:=hw.symm;clear Hc;obtain ⟨⟨c0,c1,c2,c3,c4⟩,f0,f1,f2,f3,f4⟩:=cj HR.o.r;go_wp2;refine bodyPost_ret (v:=b8 4 false 0 Fy ⟨#[]⟩) (by simp[results,Tryz.results44,go_sem,b8,f0,f1,f2,f3,f4,c0,c1,c2,c3,c4]) rfl ?_;exact ⟨by rw[hS];rfl,(((((HR.o.below.setCell (aBh _) _).setCell (aBh _) _).setCell (aBh _) _).setCell (aBh _) _).setCell (aBh _) _)⟩
        ·have qi:=ji hi;by_cases hm:s.data.toList=[45,46,105,110,102]
         ·have qm:=ia hm;have hS:aZ s false=⟨4,false,0,wD,⟨#[]⟩⟩:=by simp[aZ,hm]
          clear hn ht hu hy hf ha hi hm;have Hc:=hid J4
          go_wp2_with fail
          refine (Hc.o _).mono ?_;rintro e w1 ⟨rfl,hw⟩;obtain rfl:=hw.symm;clear Hc;obtain ⟨⟨c0,c1,c2,c3,c4⟩,f0,f1,f2,f3,f4⟩:=cj HR.o.r;go_wp2;refine bodyPost_ret (v:=b8 4 false 0 wD ⟨#[]⟩) (by simp[results,Tryz.results44,go_sem,b8,f0,f1,f2,f3,f4,c0,c1,c2,c3,c4]) rfl ?_;exact ⟨by rw[hS];rfl,(((((HR.o.below.setCell (aBh _) _).setCell (aBh _) _).setCell (aBh _) _).setCell (aBh _) _).setCell (aBh _) _)⟩
         ·have qm:=ji hm;have hS:aZ s false=kC s:=by simp[aZ,hn,ht,hu,hy,hf,ha,hi,hm]
          clear hn ht hu hy hf ha hi hm;have Hc:=hid (Aq w1 s CY (HR.o.laid Hv.o))
          go_wp2_with fail
          refine Hc.o.mono ?_;rintro e w2 ⟨V,ok,rfl,hb,FN⟩;have mX:=hid (HR.o.later hb);clear hb Hc;obtain ⟨kd,vi,vx,hV⟩:∃kd vi vx,V=b8 kd false vi vx ⟨#[]⟩:=by
           rcases FN with ⟨_,⟨kd,i,h⟩,_⟩|⟨_,i,_,h⟩|⟨_,_,m,k,b,_,h⟩
           ·exact ⟨_,_,_,h⟩
           ·exact ⟨_,_,_,h⟩
           ·exact ⟨_,_,_,h⟩
          have HC:=hid FN;have HV:=hid hV;clear FN;rw[hV];clear hV;dsimp only[b8]
          go_upto_if 39 with (fail)
          obtain ⟨w3,vf⟩:=ex (w2.alloc (Obj.cells #[.int .i64 kd,.bool false,.int .i64 vi,.float .f64 vx,.string ⟨#[]⟩] 91));rw[<-vf];have uP:=hid (mX.o.later (w2:=w3) (by rw[vf];exact (aBi _ _).alloc (aBh _) _));have hB3:w3.heap[w2.heap.size]? =some (.cells #[.int .i64 kd,.bool false,.int .i64 vi,.float .f64 vx,.string ⟨#[]⟩] 91 (0,0)):=by
           rw[vf];simp[World.alloc,-World.alloc_eq]
          have HB3:=hid hB3;clear hB3 vf;cases ok with
          |false=>
           have hT:aZ s false=⟨5,false,0,0,s⟩:=by
            rcases HC.o with ⟨_,_,hI,hD⟩|⟨q,_⟩|⟨q,_⟩
            ·rw[hS];unfold kC;rw[hI];simp only[hD]
            ·cases q
            ·cases q
           clear hS;obtain ⟨⟨c0,c1,c2,c3,c4⟩,f0,f1,f2,f3,f4⟩:=cj uP.o.r;go_wp2;refine bodyPost_ret (v:=b8 5 false 0 0 s) (by simp[results,Tryz.results44,go_sem,b8,f0,f1,f2,f3,f4,c0,c1,c2,c3,c4]) rfl ?_;exact ⟨by rw[hT];rfl,(((((uP.o.below.setCell (aBh _) _).setCell (aBh _) _).setCell (aBh _) _).setCell (aBh _) _).setCell (aBh _) _)⟩
          |true=>
           have hT:(aZ s false).v=b8 kd false vi vx ⟨#[]⟩:=by
            rcases HC.o with ⟨q,_⟩|⟨_,i,hI,hV⟩|⟨_,hI,m,k,b,hD,hV⟩
            ·cases q
            ·rw[<-HV.o,hV,hS];unfold kC;rw[hI];rfl
            ·rw[<-HV.o,hV,hS];unfold kC;rw[hI];simp only[hD];rfl
           clear hS;obtain ⟨⟨d0,d1,d2,d3,d4⟩,g0,g1,g2,g3,g4⟩:=cj HB3.o;obtain ⟨⟨c0,c1,c2,c3,c4⟩,f0,f1,f2,f3,f4⟩:=cj uP.o.r;go_wp2;refine bodyPost_ret (v:=b8 kd false vi vx ⟨#[]⟩) (by simp[results,Tryz.results44,go_sem,b8,f0,f1,f2,f3,f4,c0,c1,c2,c3,c4]) rfl ?_;exact ⟨by rw[hT],(((((uP.o.below.setCell (aBh _) _).setCell (aBh _) _).setCell (aBh _) _).setCell (aBh _) _).setCell (aBh _) _)⟩
end Go.Proofs.YtfenoaeoedobmaaGreatDoor
namespace Go.Proofs.YtfenoaeoedobmaaGreatDoor
open Go Go.RowKit Ieee
def uO:Nat:=4636737291354636288
def mR (r:Nat):Bool:=((FloatKind.f64.format.order r 0==some .gt)||(FloatKind.f64.format.order r 0==some .eq))&&((FloatKind.f64.format.order r uO==some .lt)||(FloatKind.f64.format.order r uO==some .eq))
def eF (r:Nat):Nat:=if (FloatKind.f64.format.order r 0==some .eq)=true then 0 else r
theorem Lh (m d:Nat) (hm:0<m):Toward.even.cut false (m*2 ^ d) d=m:=by
 have hp:0<2 ^ d:=Nat.two_pow_pos d;have hl:d<=(m*2 ^ d).log2+2:=by
  have h1:2 ^ d<=m*2 ^ d:=Nat.le_mul_of_pos_left _ hm;have h2:d<=(m*2 ^ d).log2:=by
   rw[Nat.le_log2 (Nat.pos_iff_ne_zero.1 (Nat.lt_of_lt_of_le hp h1))];exact h1
  omega
 obtain ⟨c1,c2⟩:=rh (m*2 ^ d) d hl;generalize Toward.even.cut false (m*2 ^ d) d=k at*;have e1:2*k*2 ^ d<=(2*m+1)*2 ^ d:=by rw[Nat.add_mul,Nat.mul_assoc,Nat.mul_assoc,Nat.one_mul];exact c1
 have e2:2*m*2 ^ d<=(2*k+1)*2 ^ d:=by rw[Nat.add_mul,Nat.mul_assoc,Nat.mul_assoc,Nat.one_mul];exact c2
 have g1:=Nat.le_of_mul_le_mul_right e1 hp;have g2:=Nat.le_of_mul_le_mul_right e2 hp;omega
theorem NO {m:Nat} (h1:4503599627370496<=m) (h2:m<9007199254740992):m.log2=52:=by
 have a:52<=m.log2:=(Nat.le_log2 (by omega)).2 h1;have b:m.log2<53:=(Nat.log2_lt (by omega)).2 h2;omega
theorem Fl (m d:Nat) (hm:0<m):(m*2 ^ d).log2=m.log2+d:=by
 have hp:0<2 ^ d:=Nat.two_pow_pos d;have h0:m*2 ^ d≠0:=Nat.ne_of_gt (Nat.mul_pos hm hp);refine Nat.le_antisymm ?_ ?_
 ·refine Nat.le_of_lt_succ ((Nat.log2_lt h0).2 ?_);have:m<2 ^ (m.log2+1):=Nat.lt_log2_self;rw[show (m.log2+d).succ=(m.log2+1)+d by omega,Nat.pow_add 2 (m.log2+1) d];exact Nat.mul_lt_mul_of_pos_right this hp
 ·refine (Nat.le_log2 h0).2 ?_;rw[Nat.pow_add];exact Nat.mul_le_mul_right _ (Nat.log2_self_le (by omega))
theorem J5 {x:Nat} (h:x<INF):double.nearest false (FV x) (-1074)=x:=by
 unfold INF at h;unfold FV;by_cases hb:x<4503599627370496
 ·rw[if_pos hb];unfold Format.nearest;by_cases h0:x=0
  ·rw[if_pos h0,h0];exact ep 0
  ·rw[if_neg h0];dsimp only;have hl:x.log2<52:=(Nat.log2_lt h0).2 hb;rw[Bo,jD,rq,mI,show max ((-1074:Int)+(x.log2:Int)-((52:Nat):Int)) (-1074)= -1074 by omega,show ((-1074:Int)- -1074).toNat=0 from rfl,Nat.shiftLeft_zero,lh,ep];unfold INF;omega
 ·rw[if_neg hb];obtain ⟨e,he⟩:=ex (x / 4503599627370496-1);obtain ⟨m,hm⟩:=ex (4503599627370496+x % 4503599627370496);rw[<-he,<-hm];have m1:4503599627370496<=m:=by omega
  have m2:m<9007199254740992:=by omega
  have hx:x=e*4503599627370496+m:=by omega
  have hl:(m*2 ^ e).log2=52+e:=by rw[Fl m e (by omega),NO m1 m2]
  have h0:m*2 ^ e≠0:=Nat.ne_of_gt (Nat.mul_pos (by omega) (Nat.two_pow_pos _));unfold Format.nearest;rw[if_neg h0];dsimp only;rw[hl,Bo,jD,rq,mI,show max ((-1074:Int)+((52+e:Nat):Int)-((52:Nat):Int)) (-1074)=(e:Int)-1074 by omega,
   show ((-1074:Int)-((e:Int)-1074)).toNat=0 by omega,show ((e:Int)-1074- -1074).toNat=e by omega,Nat.shiftLeft_zero,Lh m e (by omega),ep,<-hx]
  unfold INF;omega
theorem add0 {x:Nat} (h:x<INF):floatBits .add .f64 x 0=some x:=by
 obtain ⟨gz,up,h1,h2⟩:=du x h;have h0:double.read 0= .number false 0 (-1074):=by decide+kernel
 unfold floatBits
 show Format.add double x 0=some x
 unfold Format.add;rw[h1,h0];unfold Datum.sum;dsimp only;rw[show min ((up:Int)-1074) (-1074)= -1074 by omega,show ((up:Int)-1074- -1074).toNat=up by omega];have e1:signed false gz up=((gz*2 ^ up:Nat):Int):=by
  unfold signed;rw[if_neg (by decide),Nat.shiftLeft_eq]
 have e2:signed false 0 ((-1074:Int)- -1074).toNat=0:=rfl;rw[e1,e2,Int.add_zero,<-h2];simp only[Option.map_some,Int.natAbs_natCast];unfold Format.write;have e3:(if ((FV x:Nat):Int)=0 then false&&false else decide (((FV x:Nat):Int)<0))=false:=by
  split
  ·rfl
  ·exact dF (by omega)
 rw[e3];dsimp only;rw[J5 h]
theorem wy (r:Nat):double.order r 0=(double.read r).order (.number false 0 (-1074)):=by
 unfold Format.order;rw[show double.read 0= .number false 0 (-1074) by decide+kernel]
theorem rp {r:Nat} (hr:r<18446744073709551616) (hc:mR r=true):eF r<INF:=by
 have hH:double.read uO= .number false 7036874417766400 (-46):=by decide+kernel
 unfold eF
 split
 ·decide
 ·rename_i hz
  unfold mR at hc;rw[Bool.and_eq_true,Bool.or_eq_true,Bool.or_eq_true]at hc;obtain ⟨c1,c2⟩:=hc;have c3:double.order r 0=some .gt:=by
   rcases c1 with c1|c1
   ·exact eq_of_beq c1
   ·exact absurd c1 hz
  have c4:double.order r uO=some .lt\/double.order r uO=some .eq:=by
   rcases c2 with c2|c2
   ·exact .inl (eq_of_beq c2)
   ·exact .inr (eq_of_beq c2)
  rw[wy]at c3;unfold Format.order at c4;rw[hH]at c4;cases hs:(r / 9223372036854775808 % 2==1) with
  |false=>
   have aN:r<9223372036854775808:=by
    have:¬r / 9223372036854775808 % 2=1:=by simpa using hs
    omega
   rcases Nat.lt_or_ge r INF with g|g
   ·exact g
   ·exfalso
    have Zw:double.read r= .infinity false\/∃f,double.read r= .nan false f:=by
     unfold Format.read;simp only[xF,rq,mI,jD,hs];rw[Nat.mod_eq_of_lt aN];unfold INF at*;rw[if_neg (by omega),if_neg (by omega)]
     split
     ·exact .inl rfl
     ·exact .inr ⟨_,rfl⟩
    rcases Zw with e|⟨f,e⟩
    ·rw[e]at c4;rcases c4 with c4|c4<;>cases c4
    ·rw[e]at c3;cases c3
  |true=>
   exfalso
   have Zw:(∃m p,double.read r= .number true m p)\/double.read r= .infinity true\/∃f,double.read r= .nan true f:=by
    unfold Format.read;simp only[xF,rq,mI,jD,hs]
    split
    ·exact .inl ⟨_,_,rfl⟩
    ·split
     ·exact .inl ⟨_,_,rfl⟩
     ·split
      ·exact .inr (.inl rfl)
      ·exact .inr (.inr ⟨_,rfl⟩)
   rcases Zw with ⟨m,p,e⟩|e|⟨f,e⟩
   ·rw[e]at c3;unfold Datum.order at c3;dsimp only at c3;rw[Option.some.injEq]at c3;have:=Int.compare_eq_gt.1 c3;unfold signed at this;rw[if_pos rfl,if_neg (by decide)]at this;generalize m <<< (p-min p (-1074)).toNat=a at this;generalize 0 <<< (-1074-min p (-1074)).toNat=b at this;omega
   ·rw[e]at c3;cases c3
   ·rw[e]at c3;cases c3
theorem Tv {r:Nat} (h:(Lit.float .f64 r).wf=true):r<18446744073709551616:=by
 simpa[Lit.wf] using h
theorem Ey (m:Nat) (k:Int):scW m k<18446744073709551616:=by
 have key:∀o:Option Nat,(∀r,o=some r->r<18446744073709551616)->o.getD 0<18446744073709551616:=fun o h=>by
  cases o with
  |none=>decide
  |some r=>exact h r rfl
 unfold scW
 split
 ·exact key _ fun r h=>Tv (floatBits_wf h)
 ·exact key _ fun r h=>Tv (floatBits_wf h)
end Go.Proofs.YtfenoaeoedobmaaGreatDoor
namespace Go.Proofs.YtfenoaeoedobmaaGreatDoor
open Go Go.RowKit
theorem Nc (s:ByteArray):s.data.toList.length=s.size:=by rw[Array.length_toList];rfl
def oS (c:UInt8):Bool:=decide (33<=c.toNat/\c.toNat<=126)
def nu (l:List UInt8):Bool:=decide (1<=l.length/\l.length<=256/\l[0]? =some 47)&&l.all oS
def cO (c:UInt8):Bool:=decide ((65<=c.toNat/\c.toNat<=90)\/(97<=c.toNat/\c.toNat<=122)\/(48<=c.toNat/\c.toNat<=57)\/c.toNat=45\/c.toNat=46)
def cq (c:UInt8):UInt8:=if 65<=c.toNat/\c.toNat<=90 then c+32 else c
def iR (s:ByteArray):ByteArray×Bool:=if 1<=s.size/\s.size<=64/\s.data.toList.all cO=true then (⟨(s.data.toList.map cq).toArray⟩,true) else (⟨#[]⟩,false)
def sX (s:ByteArray):ByteArray:=⟨(Lib.trimSuffix s.data.toList [42]).toArray⟩
def Ll (s:ByteArray):Bool:=Lib.hasSuffix s.data.toList [42]
def ja (s:ByteArray):Bool:=(Ll s&&(sX s).toList==[])||nu (sX s).data.toList
def oY (s rest:ByteArray) (k:Int):Int×ByteArray:=if (iR rest).2=true then (k,(iR rest).1) else (3,s)
def nI (s:ByteArray):Int×ByteArray:=if (s.toList==[42])=true then (2,⟨#[]⟩) else if Lib.hasPrefix s.data.toList [42,46]=true then oY s (s.extract 2 s.size) 1 else oY s s 0
theorem ES {s:ByteArray} (h:Lib.hasPrefix s.data.toList [42,46]=true):2<=s.size:=by
 have h1:=List.IsPrefix.length_le (by simpa[Lib.hasPrefix] using h:[42,46] <+:s.data.toList);rw[Nc]at h1;exact h1
def xW (c:UInt8):Bool:=decide (65<=c.toNat/\c.toNat<=90)
def jo (l:List UInt8):Bool:=l.all xW&&decide (0<l.length/\l.length<=64)
def gK (s:ByteArray):Bool:=(s.toList==[42])||jo s.data.toList
def kJ (s:ByteArray):Bool:=decide ((nI s).1≠3)
structure Tgt where
 service:ByteArray
 split:ByteArray
 weight:Nat
structure Rul where
 path:ByteArray
 method:ByteArray
 split:ByteArray
 allow:Bool
structure Res where
 kind:Int
 name:ByteArray
 endps:List ByteArray
 targets:List Tgt
 host:ByteArray
 rules:List Rul
 route:ByteArray
 del:Bool
def Res.zero:Res:=⟨0,⟨#[]⟩,[],[],⟨#[]⟩,[],⟨#[]⟩,false⟩
abbrev fx:=Int×Int
abbrev R (α:Type):=Except fx α
def bs (l:List UInt8):ByteArray:=⟨l.toArray⟩
def kKind:ByteArray:=⟨#[107,105,110,100]⟩
def bJ:ByteArray:=⟨#[110,97,109,101]⟩
def bu:ByteArray:=⟨#[100,101,108,101,116,101]⟩
def bd:ByteArray:=⟨#[101,110,100,112,111,105,110,116,115]⟩
def cD:ByteArray:=⟨#[116,97,114,103,101,116,115]⟩
def aT:ByteArray:=⟨#[115,101,114,118,105,99,101]⟩
def aH:ByteArray:=⟨#[115,112,108,105,116]⟩
def aR:ByteArray:=⟨#[119,101,105,103,104,116]⟩
def gL:ByteArray:=⟨#[104,111,115,116]⟩
def bZ:ByteArray:=⟨#[114,117,108,101,115]⟩
def eK:ByteArray:=⟨#[114,111,117,116,101]⟩
def ca:ByteArray:=⟨#[97,99,116,105,111,110]⟩
def bS:ByteArray:=⟨#[112,97,116,104]⟩
def a9:ByteArray:=⟨#[109,101,116,104,111,100]⟩
def kAllow:ByteArray:=⟨#[97,108,108,111,119]⟩
def kDeny:ByteArray:=⟨#[100,101,110,121]⟩
def oW:ByteArray:=⟨#[42]⟩
def bH (ns:List Nd) (m:Nd) (key:ByteArray):Option Nat:=
 (m.kids.find? fun k=>decide ((ns[k.toNat]!).key=key)).map Int.toNat
def aY (ns:List Nd) (m:Nd) (key:ByteArray):Option Nd:=(bH ns m key).map fun k=>ns[k]!
def bt (ns:List Nd) (m:Nd) (key:ByteArray):R Nd:=
 match aY ns m key with
 |some n=> .ok n
 |none=> .error (m.line,122)
def bE (ns:List Nd) (keys:List ByteArray):List Int->R Unit
 |[]=> .ok ()
 |k::r=>if (ns[k.toNat]!).key∈keys then bE ns keys r else .error ((ns[k.toNat]!).line,121)
def GZ (l:List UInt8):Bool:=l.all bB&&decide (0<l.length/\l.length<=64)
def aO (n:Nd) (so:ByteArray->Bool):R ByteArray:=
 if n.kind≠1\/so n.text=false then .error (n.line,123) else .ok n.text
def aD (s:ByteArray):Bool:=GZ s.data.toList
def cp (ns:List Nd) (n:Nd) (least qC:Nat):R (List Nd):=
 if n.kind≠3 then .error (n.line,123)
 else if n.kids.length<least\/qC<n.kids.length then .error (n.line,124)
 else .ok (n.kids.map fun k=>ns[k.toNat]!)
def dQ:List Nd->List ByteArray->R (List ByteArray)
 |[],out=> .ok out
 |k::r,out=>
  match aO k aD with
  | .error e=> .error e
  | .ok s=>if s∈out then .error (k.line,91) else dQ r (out++[s])
def dX (ns:List Nd) (m:Nd) (r:Res):R Res:=
 match aY ns m bd with
 |none=> .ok r
 |some n=>
  match cp ns n 0 16 with
  | .error e=> .error e
  | .ok l=>
   match dQ l [] with
   | .error e=> .error e
   | .ok out=> .ok {r with endps:=out}
def dg (n:Nd):R Unit:=if n.kind≠2 then .error (n.line,123) else .ok ()
def bD (n:Nd):R Nat:=
 if n.kind≠1 then .error (n.line,123)
 else if (aZ n.text n.quoted).kind=3 then
  (if (aZ n.text n.quoted).int<0\/100<(aZ n.text n.quoted).int then .error (n.line,123) else .ok (floatOfInt .f64 (aZ n.text n.quoted).int))
 else if (aZ n.text n.quoted).kind=4 then
  (if mR (aZ n.text n.quoted).real=true then .ok (eF (aZ n.text n.quoted).real) else .error (n.line,123))
 else .error (n.line,123)
def eD (ns:List Nd) (l:List Int) (b:Nd):Nd:=
 l.foldl (fun x k=>if (ns[k.toNat]!).key=aT\/(ns[k.toNat]!).key=aH then ns[k.toNat]! else x) b
def cX (ns:List Nd) (k:Nd):R Tgt:=
 match dg k with
 | .error e=> .error e
 | .ok ()=>
 match bE ns [aT,aH,aR] k.kids with
 | .error e=> .error e
 | .ok ()=>
 match (match aY ns k aT,aY ns k aH with
  |none,none=>(.error (k.line,122):R (ByteArray×ByteArray))
  |some _,some b=> .error ((eD ns k.kids b).line,121)
  |some a,none=>(match aO a aD with| .error e=> .error e| .ok s=> .ok (s,⟨#[]⟩))
  |none,some b=>(match aO b aD with| .error e=> .error e| .ok s=> .ok (⟨#[]⟩,s))) with
 | .error e=> .error e
 | .ok (a,b)=>
 match bt ns k aR with
 | .error e=> .error e
 | .ok n=>
 match bD n with
 | .error e=> .error e
 | .ok x=> .ok ⟨a,b,x⟩
def ba (ns:List Nd):List Nd->List Tgt->R (List Tgt)
 |[],out=> .ok out
 |k::r,out=>
  match cX ns k with
  | .error e=> .error e
  | .ok t=>ba ns r (out++[t])
def iu (ns:List Nd) (m:Nd) (r:Res):R Res:=
 match bt ns m cD with
 | .error e=> .error e
 | .ok n=>
 match cp ns n 1 8 with
 | .error e=> .error e
 | .ok l=>
 match ba ns l [] with
 | .error e=> .error e
 | .ok out=> .ok {r with targets:=out}
def il (s:ByteArray):Bool:=decide (s=kAllow\/s=kDeny)
def fy (ns:List Nd) (act:Bool) (k:Nd):R Rul:=
 match dg k with
 | .error e=> .error e
 | .ok ()=>
 match bE ns [bS,a9,if act=true then ca else aH] k.kids with
 | .error e=> .error e
 | .ok ()=>
 match (if act=true then (match bt ns k ca with| .error e=> .error e| .ok n=>aO n il) else (.ok ⟨#[]⟩:R ByteArray)) with
 | .error e=> .error e
 | .ok a=>
 match bt ns k bS with
 | .error e=> .error e
 | .ok n=>
 match aO n ja with
 | .error e=> .error e
 | .ok p=>
 match (match aY ns k a9 with|some n=>aO n gK|none=>(.ok oW:R ByteArray)) with
 | .error e=> .error e
 | .ok m=>
 match (if act=true then (.ok ⟨#[]⟩:R ByteArray) else (match bt ns k aH with| .error e=> .error e| .ok n=>aO n aD)) with
 | .error e=> .error e
 | .ok s=> .ok ⟨p,m,s,decide (a=kAllow)⟩
def cc (ns:List Nd) (act:Bool):List Nd->List Rul->R (List Rul)
 |[],out=> .ok out
 |k::r,out=>
  match fy ns act k with
  | .error e=> .error e
  | .ok x=>cc ns act r (out++[x])
def gG (ns:List Nd) (act:Bool) (m:Nd) (r:Res):R Res:=
 match bt ns m bZ with
 | .error e=> .error e
 | .ok n=>
 match cp ns n 1 16 with
 | .error e=> .error e
 | .ok l=>
 match cc ns act l [] with
 | .error e=> .error e
 | .ok out=> .ok {r with rules:=out}
def gH (ns:List Nd) (m:Nd) (r:Res):R Res:=
 match bt ns m gL with
 | .error e=> .error e
 | .ok n=>
 match aO n kJ with
 | .error e=> .error e
 | .ok s=>gG ns false m {r with host:=⟨(s.data.toList.map cq).toArray⟩}
def eV (ns:List Nd) (m:Nd) (r:Res):R Res:=
 match bt ns m eK with
 | .error e=> .error e
 | .ok n=>
 match aO n aD with
 | .error e=> .error e
 | .ok s=>gG ns true m {r with route:=s}
def iN:ByteArray:=⟨#[83,101,114,118,105,99,101]⟩
def sq:ByteArray:=⟨#[83,112,108,105,116]⟩
def sr:ByteArray:=⟨#[82,111,117,116,101]⟩
def ow:ByteArray:=⟨#[80,111,108,105,99,121]⟩
def kindN (n:Nd):Nat:=
 if n.kind≠1 then 0 else if n.text=iN then 1 else if n.text=sq then 2 else if n.text=sr then 3 else if n.text=ow then 4 else 0
def oM (k:Nat):List ByteArray:=
 if k=1 then [bd] else if k=2 then [cD] else if k=3 then [gL,bZ] else [eK,bZ]
def nS (ns:List Nd) (m:Nd) (r:Res) (k:Nat):R Res:=
 match bE ns (kKind::bJ::oM k) m.kids with
 | .error e=> .error e
 | .ok ()=>if k=1 then dX ns m r else if k=2 then iu ns m r else if k=3 then gH ns m r else eV ns m r
def isTrue (n:Nd):Bool:=decide (n.kind=1/\(aZ n.text n.quoted).kind=2)&&(aZ n.text n.quoted).bool
def dO (ns:List Nd):R Res:=
 if dj ns=false then .error (0,100)
 else
 match dg (ns[0]!) with
 | .error e=> .error e
 | .ok ()=>
 match bt ns (ns[0]!) kKind with
 | .error e=> .error e
 | .ok k=>
 if kindN k=0 then .error (k.line,120)
 else
 match bt ns (ns[0]!) bJ with
 | .error e=> .error e
 | .ok n=>
 match aO n aD with
 | .error e=> .error e
 | .ok s=>
 match aY ns (ns[0]!) bu with
 |some x=>
  if isTrue x=false then .error (x.line,123)
  else (match bE ns [kKind,bJ,bu] (ns[0]!).kids with
   | .error e=> .error e
   | .ok ()=> .ok {Res.zero with kind:=(kindN k:Int),name:=s,del:=true})
 |none=>nS ns (ns[0]!) {Res.zero with kind:=(kindN k:Int),name:=s} (kindN k)
def dy:List (List Nd)->Nat->Except (Nat×fx) (List Res)
 |[],_=> .ok []
 |d::r,i=>
  match dO d with
  | .error e=> .error (i,e)
  | .ok x=>
   match dy r (i+1) with
   | .error e=> .error e
   | .ok l=> .ok (x::l)
