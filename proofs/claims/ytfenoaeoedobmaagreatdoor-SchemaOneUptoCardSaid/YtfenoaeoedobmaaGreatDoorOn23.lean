/-
Parts of a proof.
-/
import Derived.Laws.CopyOwn
import Derived.Test.YtfenoaeoedobmaaGreatDoorOn22
set_option linter.unusedVariables false
set_option linter.unusedSimpArgs false
set_option maxHeartbeats 4000000
set_option maxRecDepth 20000
namespace Go.Proofs.YtfenoaeoedobmaaGreatDoor
open Go Go.RowKit
theorem Oc:∀i:Fin 101,eF (floatOfInt .f64 (i.val:Int))=floatOfInt .f64 (i.val:Int)/\floatOfInt .f64 (i.val:Int)<INF:=by decide+kernel
theorem Kw {i:Int} (h1:¬i<0) (h2:¬100<i):eF (floatOfInt .f64 i)=floatOfInt .f64 i/\floatOfInt .f64 i<INF:=by
 obtain ⟨n,rfl⟩:∃n:Nat,i=(n:Int):=⟨i.toNat,by omega⟩;exact Oc ⟨n,by omega⟩
theorem RS {x:Nat} (h:x<18446744073709551616):mL x<18446744073709551616:=by
 have e:(18446744073709551616:Nat)=2 ^ 64:=by decide
 rw[e]at h |-;exact Nat.xor_lt_two_pow h (by decide)
theorem EL (s:ByteArray):(kC s).real<18446744073709551616:=by
 unfold kC
 split
 ·exact (by decide:(0:Nat)<18446744073709551616)
 ·split
  ·rename_i m k b _
   have h1:=Ey m k
   show (if b=true then mL (scW m k) else scW m k)<_
   split
   ·exact RS h1
   ·exact h1
  ·exact (by decide:(0:Nat)<18446744073709551616)
theorem wh (s:ByteArray) (q:Bool):(aZ s q).real<18446744073709551616:=by
 unfold aZ
 repeat' split
 all_goals first|exact (by decide:(0:Nat)<18446744073709551616)|exact (by decide:Ff<18446744073709551616)|exact (by decide:Fy<18446744073709551616)|exact (by decide:wD<18446744073709551616)|exact EL s
def XV {α:Type} (f:α->Value) (x:R α) (r:Ending):Prop:=match x with| .ok a=>r= .returned (f a)| .error e=>r=Pan e
theorem zT {n:Nd} (h:¬n.kind=1):bD n= .error (n.line,123):=by unfold bD;rw[if_pos h]
theorem Br {x:Nat} (h:x<INF):∀w,(binOp .add 56 (.float .f64 x) (.float .f64 0)).run Tryz.prog w= .ok (.float .f64 x) w:=by
 intro w;have:=add0 h;have h2:FloatKind.f64.format.add x 0=some x:=this;simp[binOp,Op.floatArith,h2]
theorem LZ (w:World) (m:NdM) (hm:m.Ok w) (hg:Glob w):
 Calls Tryz.prog 81 #[m.v] w fun r w'=>XV (fun x=> .float .f64 x) (bD m.nd) r/\Below w.heap.size w w':=by
 obtain ⟨ao,c,cI,_⟩:=j6 hm.kids;have gA:=hm.text;rw[bA cI];obtain ⟨⟨kind,key,text,quoted,line,kids⟩,kv⟩:=m;simp only at cI gA |-;subst cI;generalize kids.length=n at*;have hsf:∀(W:World) (a:Addr) (r:Nat),(store a (.float .f64 r)).run Tryz.prog W=stored Tryz.prog W a (.float .f64 r) .plain:=fun W a r=>run_store _ W a _ _ rfl;have lW:=hid (fun o=>(aBi w.heap.size w).alloc (aBh _) o)
 have Hf:=hid (fun w1=>lg w1 line 123);by_cases hk:kind=1
 ·have hw:bD ⟨kind,key,text,quoted,line,kids⟩=if (aZ text quoted).kind=3 then
   (if (aZ text quoted).int<0\/100<(aZ text quoted).int then .error (line,123) else .ok (floatOfInt .f64 (aZ text quoted).int))
   else if (aZ text quoted).kind=4 then
   (if mR (aZ text quoted).real=true then .ok (eF (aZ text quoted).real) else .error (line,123))
   else .error (line,123):=by
   unfold bD;rw[if_neg (fun q=>q hk)]
  rw[hw];have zm:=wh text quoted;have Hr:=hid (fun w1 (bG:Below w.heap.size w w1)=>se w1 text (by omega) quoted (hg.later bG).rng);unfold rG at Hr;generalize aZ text quoted=rv at*;obtain ⟨vk,vb,vi,vr,vt⟩:=rv;unfold Val.v b8 at Hr;simp only at zm Hr |-;have cK:=lW.o (.cells #[.int .i64 1,.string key,.string text,.bool quoted,.int .i64 line,.slice ao n c] 55)
  subst hk;clear hw hm gA hg;have zu:=Br (x:=0) (by unfold INF;decide);by_cases k3:vk=3
  ·rw[if_pos k3];have t3:(vk==3)=true:=by rw[beq_iff_eq];exact k3
   by_cases hi:vi<0\/100<vi
   ·rw[if_pos hi];by_cases h0:vi<0
    ·have t1:decide (vi<0)=true:=dT h0;clear hi h0 k3 zm zu;go_enter Tryz.func81,Tryz.ntmps81
     go_wp2_with fail
     refine (Hr.o _ cK).mono ?_;rintro r w1 ⟨rfl,hb⟩;have aN:w.heap.size<w1.heap.size:=by have:=hb.size;simp at this;omega
     have D4:∀ob,(w1.alloc ob).cell? ⟨w.heap.size,4,none⟩=some (.int .i64 line):=fun ob=>(World.cell?_of_block (ai ob aN)).trans ((hb.cell (p:=⟨w.heap.size,4,none⟩) (by simp)).trans (aa (ag _) 4));have Hb:=hid (cK.trans (hb.mono cK.size));clear hb Hr cK
     go_wp2_with fail
     refine (Hf.o _).mono ?_;rintro r w2 ⟨rfl,rfl⟩;exact ⟨rfl,rfl,(Hb.o).alloc (Below.size Hb.o) _⟩
    ·have t1:decide (vi<0)=false:=dF h0;have t2:decide (100<vi)=true:=dT (by omega);clear hi h0 k3 zm zu;go_enter Tryz.func81,Tryz.ntmps81
     go_wp2_with fail
     refine (Hr.o _ cK).mono ?_;rintro r w1 ⟨rfl,hb⟩;have aN:w.heap.size<w1.heap.size:=by have:=hb.size;simp at this;omega
     have D4:∀ob,(w1.alloc ob).cell? ⟨w.heap.size,4,none⟩=some (.int .i64 line):=fun ob=>(World.cell?_of_block (ai ob aN)).trans ((hb.cell (p:=⟨w.heap.size,4,none⟩) (by simp)).trans (aa (ag _) 4));have Hb:=hid (cK.trans (hb.mono cK.size));clear hb Hr cK
     go_wp2_with fail
     refine (Hf.o _).mono ?_;rintro r w2 ⟨rfl,rfl⟩;exact ⟨rfl,rfl,(Hb.o).alloc (Below.size Hb.o) _⟩
   ·rw[if_neg hi];have t1:decide (vi<0)=false:=dF (by omega);have t2:decide (100<vi)=false:=dF (by omega);obtain ⟨z1,z2⟩:=Kw (i:=vi) (by omega) (by omega);have C8:=Br z2;cases ho:(FloatKind.f64.format.order (floatOfInt .f64 vi) 0==some .eq) with
    |true=>
     have He:=hid (show floatOfInt .f64 vi=0 by rw[<-z1];unfold eF;rw[if_pos ho]);clear hi k3 z1 z2 zm C8;go_enter Tryz.func81,Tryz.ntmps81
     go_wp2_with fail
     refine (Hr.o _ cK).mono ?_;rintro r w1 ⟨rfl,hb⟩;have Hb:=hid (cK.trans (hb.mono cK.size));clear hb Hr cK Hf;go_wp2;go_ret;exact ⟨by rw[He.o];rfl,(Hb.o).alloc (Below.size Hb.o) _⟩
    |false=>
     clear hi k3 z1 z2 zm zu;go_enter Tryz.func81,Tryz.ntmps81
     go_wp2_with fail
     refine (Hr.o _ cK).mono ?_;rintro r w1 ⟨rfl,hb⟩;have Hb:=hid (cK.trans (hb.mono cK.size));clear hb Hr cK Hf;go_wp2;go_ret;exact ⟨rfl,(Hb.o).alloc (Below.size Hb.o) _⟩
  ·rw[if_neg k3];have t3:(vk==3)=false:=by rw[beq_eq_false_iff_ne];exact k3
   by_cases k4:vk=4
   ·rw[if_pos k4];have t4:(vk==4)=true:=by rw[beq_iff_eq];exact k4
    cases hc:mR vr with
    |true=>
     rw[if_pos rfl];have jA:=rp zm hc;have C8:=Br jA;have mT:=hc;unfold mR at mT;rw[Bool.and_eq_true]at mT;obtain ⟨c1,c2⟩:=mT;unfold uO at c2;cases ho:(FloatKind.f64.format.order vr 0==some .eq) with
     |true=>
      have e:eF vr=0:=by unfold eF;rw[if_pos ho]
      rw[e];have c3:(FloatKind.f64.format.order vr 0==some .gt||true)=true:=by simp
      rw[ho]at c1;clear k3 k4 zm hc jA C8 e c3 c1;go_enter Tryz.func81,Tryz.ntmps81
      go_wp2_with fail
      refine (Hr.o _ cK).mono ?_;rintro r w1 ⟨rfl,hb⟩;have Hb:=hid (cK.trans (hb.mono cK.size));clear hb Hr cK Hf;go_wp2;go_ret;exact ⟨rfl,(Hb.o).alloc (Below.size Hb.o) _⟩
     |false=>
      have e:eF vr=vr:=by unfold eF;rw[if_neg (by rw[ho];decide)]
      rw[e]at C8 |-;rw[ho,Bool.or_false]at c1;clear k3 k4 zm hc jA e zu;go_enter Tryz.func81,Tryz.ntmps81
      go_wp2_with fail
      refine (Hr.o _ cK).mono ?_;rintro r w1 ⟨rfl,hb⟩;have Hb:=hid (cK.trans (hb.mono cK.size));clear hb Hr cK Hf;go_wp2;go_ret;exact ⟨rfl,(Hb.o).alloc (Below.size Hb.o) _⟩
    |false=>
     rw[if_neg (by decide)];unfold mR uO at hc;clear k3 k4 zm zu;cases c1:(FloatKind.f64.format.order vr 0==some .gt||FloatKind.f64.format.order vr 0==some .eq) with
     |true=>
      rw[c1,Bool.true_and]at hc;go_enter Tryz.func81,Tryz.ntmps81
      go_wp2_with fail
      refine (Hr.o _ cK).mono ?_;rintro r w1 ⟨rfl,hb⟩;have aN:w.heap.size<w1.heap.size:=by have:=hb.size;simp at this;omega
      have D4:∀ob,(w1.alloc ob).cell? ⟨w.heap.size,4,none⟩=some (.int .i64 line):=fun ob=>(World.cell?_of_block (ai ob aN)).trans ((hb.cell (p:=⟨w.heap.size,4,none⟩) (by simp)).trans (aa (ag _) 4));have Hb:=hid (cK.trans (hb.mono cK.size));clear hb Hr cK
      go_wp2_with fail
      refine (Hf.o _).mono ?_;rintro r w2 ⟨rfl,rfl⟩;exact ⟨rfl,rfl,(Hb.o).alloc (Below.size Hb.o) _⟩
     |false=>
      clear hc;go_enter Tryz.func81,Tryz.ntmps81
      go_wp2_with fail
      refine (Hr.o _ cK).mono ?_;rintro r w1 ⟨rfl,hb⟩;have aN:w.heap.size<w1.heap.size:=by have:=hb.size;simp at this;omega
      have D4:∀ob,(w1.alloc ob).cell? ⟨w.heap.size,4,none⟩=some (.int .i64 line):=fun ob=>(World.cell?_of_block (ai ob aN)).trans ((hb.cell (p:=⟨w.heap.size,4,none⟩) (by simp)).trans (aa (ag _) 4));have Hb:=hid (cK.trans (hb.mono cK.size));clear hb Hr cK
      go_wp2_with fail
      refine (Hf.o _).mono ?_;rintro r w2 ⟨rfl,rfl⟩;exact ⟨rfl,rfl,(Hb.o).alloc (Below.size Hb.o) _⟩
   ·rw[if_neg k4];have t4:(vk==4)=false:=by rw[beq_eq_false_iff_ne];exact k4
    clear k3 k4 zm zu;go_enter Tryz.func81,Tryz.ntmps81
    go_wp2_with fail
    refine (Hr.o _ cK).mono ?_;rintro r w1 ⟨rfl,hb⟩;have aN:w.heap.size<w1.heap.size:=by have:=hb.size;simp at this;omega
    have D4:∀ob,(w1.alloc ob).cell? ⟨w.heap.size,4,none⟩=some (.int .i64 line):=fun ob=>(World.cell?_of_block (ai ob aN)).trans ((hb.cell (p:=⟨w.heap.size,4,none⟩) (by simp)).trans (aa (ag _) 4));have Hb:=hid (cK.trans (hb.mono cK.size));clear hb Hr cK
    go_wp2_with fail
    refine (Hf.o _).mono ?_;rintro r w2 ⟨rfl,rfl⟩;exact ⟨rfl,rfl,(Hb.o).alloc (Below.size Hb.o) _⟩
 ·rw[zT hk];have t1:(kind==1)=false:=by rw[beq_eq_false_iff_ne];exact hk
  have p1:¬kind=1:=hk;clear hk hg hm gA;go_enter Tryz.func81,Tryz.ntmps81
  go_wp2_with fail
  refine (Hf.o _).mono ?_;rintro r w1 ⟨rfl,rfl⟩;exact ⟨rfl,rfl,lW.o _⟩
theorem PF {l:List UInt8} {k:Nat} {c:UInt8} (h:l[k]? =some c):l.drop k=c::l.drop (k+1):=by
 obtain ⟨hk,he⟩:=aBo h;rw[List.drop_eq_getElem_cons hk,he]
theorem Ai {l:List UInt8} (h:¬(1<=l.length/\l.length<=256/\l[0]? =some 47)):nu l=false:=by
 unfold nu;rw[dF h];rfl
theorem Cv {l:List UInt8} {k:Nat} {c:UInt8} (hc:l[k]? =some c) (h:oS c=false):nu l=false:=by
 unfold nu;rw[Bool.and_eq_false_iff];refine .inr ?_;rw[List.all_eq_false];exact ⟨c,List.mem_of_getElem? hc,by rw[h];decide⟩
theorem Ni {l:List UInt8} (h:1<=l.length/\l.length<=256/\l[0]? =some 47) (ha:∀(j:Nat) (c:UInt8),j<l.length->l[j]? =some c->oS c=true):nu l=true:=by
 unfold nu;rw[dT h,Bool.true_and,List.all_eq_true];intro c hc;obtain ⟨j,hj,e⟩:=List.getElem_of_mem hc;exact ha j c hj (by rw[aBn hj,e])
theorem VK (w:World) (s:ByteArray):Calls Tryz.prog 158 #[.string s] w fun r w'=>r= .returned (.bool (nu s.data.toList))/\w'=w:=by
 have jg:=aj s;by_cases h1:s.size<1
 ·have hf:=Ai (l:=s.data.toList) (by omega);rw[hf];have b1:(s.size:Int)<1:=by omega
  clear hf jg h1;go_enter Tryz.func158,Tryz.ntmps158;go_wp2;go_ret;exact ⟨rfl,rfl⟩
 have b1:(1:Int)<=(s.size:Int):=by omega
 by_cases h2:256<s.size
 ·have hf:=Ai (l:=s.data.toList) (by omega);rw[hf];have b2:(256:Int)<(s.size:Int):=by omega
  clear hf jg h1 h2;go_enter Tryz.func158,Tryz.ntmps158;go_wp2;go_ret;exact ⟨rfl,rfl⟩
 have b2:(s.size:Int)<=256:=by omega
 obtain ⟨c0,QB⟩:∃c,s.data.toList[0]? =some c:=⟨s.data.toList[0]'(by omega),aBn _⟩;have hi0:=aU (0:Int) rfl QB;by_cases h3:c0.toNat=47;rotate_left
 ·have hf:=Ai (l:=s.data.toList) (fun ⟨_,_,q⟩=>by
   rw[QB]at q;obtain rfl:=aBm q;exact h3 rfl)
  rw[hf];have t1:((c0.toNat:Int) != 47)=true:=by rw[bne_iff_ne];omega
  clear hf jg h1 h2 h3 QB;go_enter Tryz.func158,Tryz.ntmps158;go_wp2;go_ret;exact ⟨rfl,rfl⟩
 have t1:((c0.toNat:Int) != 47)=false:=by rw[bne_eq_false_iff_eq];omega
 have hc47:c0=47:=by apply UInt8.toNat_inj.1;rw[h3];rfl
 have Hh:=hid (show 1<=s.data.toList.length/\s.data.toList.length<=256/\s.data.toList[0]? =some 47 from ⟨by omega,by omega,by rw[QB,hc47]⟩);obtain ⟨n,hn⟩:=ex (s.size);have Hn:=hid hn;obtain ⟨l,hl⟩:=ex (s.data.toList);have Hl:=hid hl;have H256:=hid (show n<=256 by omega);rw[<-hl];clear jg h1 h2 h3 hc47 QB hn hl;go_enter Tryz.func158,Tryz.ntmps158;go_wp2
 go_loop [19] (fun v=>∃k:Nat,v= .int .i64 (k:Int)/\Hid (k<=n/\∀(j:Nat) (c:UInt8),j<k->l[j]? =some c->oS c=true)) (fun v=>n-(intOf v).toNat)
 case atStart=>exact ⟨0,rfl,hid ⟨Nat.zero_le _,fun j c h=>absurd h (Nat.not_lt_zero _)⟩⟩
 case round=>
  obtain ⟨k,rfl,H⟩:=hrel;have hn:n=s.size:=Hn.o;have hl:l=s.data.toList:=Hl.o;by_cases cg:k<n
  ·obtain ⟨c,hc⟩:∃c,l[k]? =some c:=⟨l[k]'(by rw[hl,aj];omega),aBn _⟩;have ib:=aU (s:=s) (k:Int) rfl (by rw[<-hl];exact hc);have b3:(k:Int)<(s.size:Int):=by omega
   have wk:wrap64 ((k:Int)+1)=(k:Int)+1:=by have:=H256.o;unfold wrap64;omega
   have cY:=hid (eJ cg wk);have df:=hid (g8 wk);by_cases zp:c.toNat<33
   ·have p1:(c.toNat:Int)<33:=by omega
    have hf:=Cv hc (show oS c=false by unfold oS;exact dF (by omega));have Hf:=hid hf;clear hn hl cg hc zp H hf wk;go_wp2;go_ret;exact ⟨(congrArg (fun b=>Ending.returned (.bool b)) Hf.o).symm,rfl⟩
   ·have p1:(33:Int)<=(c.toNat:Int):=by omega
    by_cases T6:126<c.toNat
    ·have p2:(126:Int)<(c.toNat:Int):=by omega
     have hf:=Cv hc (show oS c=false by unfold oS;exact dF (by omega));have Hf:=hid hf;clear hn hl cg hc zp T6 H hf wk;go_wp2;go_ret;exact ⟨(congrArg (fun b=>Ending.returned (.bool b)) Hf.o).symm,rfl⟩
    ·have p2:(c.toNat:Int)<=126:=by omega
     have aX:=hid (show k+1<=n/\∀(j:Nat) (c:UInt8),j<k+1->l[j]? =some c->oS c=true from ⟨cg,fun j d hj hd=>by
      by_cases e:j=k
      ·subst e;rw[hc]at hd;obtain rfl:=aBm hd;unfold oS;exact dT (by omega)
      ·exact H.o.2 j d (by omega) hd⟩)
     clear hn hl cg hc zp T6 H wk;go_wp2;go_round
     case rel=>exact ⟨k+1,by go_num,aX⟩
     case measure=>have:=Hn.o;simp[intOf];omega
  ·have b3:(s.size:Int)<=(k:Int):=by omega
   have hf:=Ni (l:=l) (by rw[hl];exact Hh.o) (fun j c hj hc=>H.o.2 j c (by rw[hl,aj]at hj;omega) hc);have Hf:=hid hf;clear hn hl cg H hf;go_wp2;go_ret;exact ⟨(congrArg (fun b=>Ending.returned (.bool b)) Hf.o).symm,rfl⟩
def cur (l:List UInt8) (k:Nat):List UInt8:=(l.take k).map cq++l.drop k
theorem II (l:List UInt8) (k:Nat):(cur l k).length=l.length:=by
 unfold cur;rw[aBj,List.length_map,List.length_take,List.length_drop];omega
theorem Gd {l:List UInt8} {k:Nat} {c:UInt8} (h:l[k]? =some c):(cur l k)[k]? =some c:=by
 have hk:=(aBo h).1;unfold cur;rw[List.getElem?_append_right (by rw[List.length_map,List.length_take];omega),List.length_map,List.length_take,List.getElem?_drop,show k+(k-min k l.length)=k by omega,h]
theorem xy {l:List UInt8} {k:Nat} {c:UInt8} (h:l[k]? =some c):cur l (k+1)=(cur l k).set k (cq c):=by
 have hk:=(aBo h).1;have e1:l.take (k+1)=l.take k++[c]:=by rw[List.take_add_one,h];rfl
 unfold cur;rw[e1,List.map_append,List.set_append_right _ _ (by rw[List.length_map,List.length_take];omega),List.length_map,List.length_take,show k-min k l.length=0 by omega,PF h,List.set_cons_zero,List.append_assoc];rfl
theorem DF {l:List UInt8} {k:Nat} {c:UInt8} (h:l[k]? =some c) (hc:cq c=c):cur l (k+1)=cur l k:=by
 rw[xy h,hc];have h1:=Gd h;apply List.ext_getElem?;intro j;by_cases e:j=k
 ·subst e;rw[List.getElem?_set_self (aBo h1).1,h1]
 ·rw[List.getElem?_set_ne (fun q=>e q.symm)]
theorem IJ (l:List UInt8):cur l l.length=l.map cq:=by
 unfold cur;rw[List.take_length,List.drop_length,List.append_nil]
theorem Dc {c:UInt8} (h1:65<=c.toNat) (h2:c.toNat<=90):((cq c).toNat:Int)=(c.toNat:Int)+32:=by
 unfold cq;rw[if_pos ⟨h1,h2⟩,UInt8.toNat_add];have:(32:UInt8).toNat=32:=rfl;rw[this];omega
theorem ki {c:UInt8} (h:¬(65<=c.toNat/\c.toNat<=90)):cq c=c:=by
 unfold cq;rw[if_neg h]
structure FB (w wr:World) (l:List UInt8):Prop where
 below:Below w.heap.size w wr
 cell:∀(j:Nat) (c:UInt8),l[j]? =some c->wr.cell? ⟨w.heap.size,j,none⟩=some (.int .u8 (c.toNat:Int))
 free:∀j,j<l.length->wr.frozen? ⟨w.heap.size,j,none⟩=false
theorem FB.set {w wr:World} {l:List UInt8} (h:FB w wr l) (k:Nat) (c:UInt8) (hk:k<l.length):FB w (wr.setCell ⟨w.heap.size,k,none⟩ (.int .u8 (c.toNat:Int))) (l.set k c):=by
 refine ⟨h.below.setCell (aBh _) _,fun j d hj=> ?_,fun j hj=> ?_⟩
 ·by_cases e:j=k
  ·subst e;rw[List.getElem?_set_self hk]at hj;obtain rfl:=aBm hj;exact World.cell?_setCell_same _ _ _ (h.cell j _ (aBn hk))
  ·rw[List.getElem?_set_ne (fun q=>e q.symm)]at hj;rw[World.cell?_setCell_other _ _ _ _ (fun q=>e (by injection q with _ q2 _;exact q2.symm))];exact h.cell j d hj
 ·rw[List.length_set]at hj;rw[World.frozen?_setCell];exact h.free j hj
theorem FB.first (w:World) (s:ByteArray):FB w (Lib.bytesWorld w 5 s) s.data.toList:=by
 refine ⟨Lib.bytesWorld_below _ _ _,fun j c hj=> ?_,fun j hj=> ?_⟩
 ·have aN:=(aBo hj).1;rw[aj]at aN;rw[Lib.bytesWorld_cell w 5 s j aN,List.getD_eq_getElem?_getD,hj];rfl
 ·rw[aj]at hj;unfold World.frozen?;rw[show (⟨w.heap.size,j,none⟩:Addr).block=w.heap.size from rfl,Lib.bytesWorld_at_new];have:j<(Lib.bytesCells w 5 s).size:=by
   unfold Lib.bytesCells;rw[Array.size_append,Array.size_map]
   show j<s.size+_
   omega
  simp;omega
def gB (w:World) (s:ByteArray) (r:Ending) (w':World):Prop:=r= .returned (.tuple #[.string (iR s).1,.bool (iR s).2])/\Below w.heap.size w w'
theorem A4 {w w':World} {s:ByteArray} (h:¬(1<=s.size/\s.size<=64/\s.data.toList.all cO=true)) (hb:Below w.heap.size w w'):gB w s (.returned (.tuple #[.string ⟨#[]⟩,.bool false])) w':=by
 unfold gB iR;rw[if_neg h];exact ⟨rfl,hb⟩
theorem Pm {w w':World} {s:ByteArray} {k:Nat} {c:UInt8} (hc:s.data.toList[k]? =some c) (h:cO c=false) (hb:Below w.heap.size w w'):gB w s (.returned (.tuple #[.string ⟨#[]⟩,.bool false])) w':=
 A4 (fun q=>by
  have:=List.all_eq_true.1 q.2.2 c (List.mem_of_getElem? hc);rw[h]at this;cases this) hb
theorem Pj {w w':World} {s:ByteArray} (h1:1<=s.size) (h2:s.size<=64) (ha:∀(j:Nat) (c:UInt8),j<s.size->s.data.toList[j]? =some c->cO c=true) (hb:Below w.heap.size w w'):
 gB w s (.returned (.tuple #[.string ⟨(s.data.toList.map cq).toArray⟩,.bool true])) w':=by
 have hall:s.data.toList.all cO=true:=by
  rw[List.all_eq_true];intro c hc;obtain ⟨j,hj,e⟩:=List.getElem_of_mem hc;have ZR:=hj;rw[aj]at ZR;exact ha j c ZR (by rw[aBn hj,e])
 unfold gB iR;rw[if_pos ⟨h1,h2,hall⟩];exact ⟨rfl,hb⟩
theorem Pk (w:World) (s:ByteArray):Calls Tryz.prog 156 #[.string s] w (gB w s):=by
 by_cases h1:s.size<1
 ·have aX:=hid (A4 (w:=w) (s:=s) (fun q=>by omega) (aBi _ w));have b1:(s.size:Int)<1:=by omega
  clear h1;go_enter Tryz.func156,Tryz.ntmps156;go_wp2
  go_ret2
  exact aX.o
 have b1:(1:Int)<=(s.size:Int):=by omega
 by_cases h2:64<s.size
 ·have aX:=hid (A4 (w:=w) (s:=s) (fun q=>by omega) (aBi _ w));have b2:(64:Int)<(s.size:Int):=by omega
  clear h1 h2;go_enter Tryz.func156,Tryz.ntmps156;go_wp2
  go_ret2
  exact aX.o
 have b2:(s.size:Int)<=64:=by omega
 have BF:=Lib.run_convert_string_bytes (P:= Tryz.prog) w 9 42 5 s Tryz.underlying9 Tryz.underlying42 Tryz.underlying5;obtain ⟨cap,iQ⟩:=ex (grownCap w s.size 0 5);obtain ⟨w1,gP⟩:=ex (Lib.bytesWorld w 5 s);have H0:=hid (FB.first w s);rw[<-iQ,<-gP]at BF;rw[<-gP]at H0;obtain ⟨n,hn⟩:=ex (s.size);have Hn:=hid hn;obtain ⟨l,hl⟩:=ex (s.data.toList)
 have Hl:=hid hl;have H64:=hid (show 1<=n/\n<=64 by omega);have b3:(0:Int)<=(s.size:Int):=by omega
 clear iQ gP hn hl h1 h2;go_enter Tryz.func156,Tryz.ntmps156;go_wp2
 go_loopw [19] (fun v wr=>∃k:Nat,v= .int .i64 (k:Int)/\Hid (k<=n/\FB w wr (cur l k)/\∀(j:Nat) (c:UInt8),j<k->l[j]? =some c->cO c=true)) (fun v _=>n-(intOf v).toNat)
 case atStart=>exact ⟨0,rfl,hid ⟨Nat.zero_le _,by rw[show cur l 0=l from rfl,Hl.o];exact H0.o,fun j c h=>absurd h (Nat.not_lt_zero _)⟩⟩
 case round=>
  obtain ⟨k,rfl,H⟩:=hrel;have hn:n=s.size:=Hn.o;have hl:l=s.data.toList:=Hl.o;clear H0;by_cases cg:k<n
  ·obtain ⟨c,hc⟩:∃c,l[k]? =some c:=⟨l[k]'(by rw[hl,aj];omega),aBn _⟩;have hlen:k<(cur l k).length:=by rw[II,hl,aj];omega
   have x0:wr.cell? ⟨w.heap.size,k,none⟩=some (.int .u8 (c.toNat:Int)):=H.o.2.1.cell k c (Gd hc);have f0:wr.frozen? ⟨w.heap.size,k,none⟩=false:=H.o.2.1.free k hlen;have b4:(k:Int)<(s.size:Int):=by omega
   have b5:(k:Int)<=64:=by omega
   have mA:=hid (fun (hok:cO c=true)=>show ∀(j:Nat) (d:UInt8),j<k+1->l[j]? =some d->cO d=true from fun j d hj hd=>by
    by_cases e:j=k
    ·subst e;rw[hc]at hd;obtain rfl:=aBm hd;exact hok
    ·exact H.o.2.2 j d (by omega) hd)
   have Hc:=hid hc;have Ub:s.data.toList[k]? =some c:=by rw[<-hl];exact hc
   have aG:=hid (fun (hb:cO c=false)=>Pm Ub hb H.o.2.1.below);have kP:=hid (fun (hk:cq c=c)=>show FB w wr (cur l (k+1)) from by rw[DF hc hk];exact H.o.2.1);have LM:=hid (show FB w (wr.setCell ⟨w.heap.size,k,none⟩ (.int .u8 ((cq c).toNat:Int))) (cur l (k+1)) from by rw[xy hc];exact H.o.2.1.set k _ hlen);have zL:=hid cg;have oZ:(c.toNat<45)\/(c.toNat=45)\/(c.toNat=46)\/(c.toNat=47)\/(48<=c.toNat/\c.toNat<=57)\/(58<=c.toNat/\c.toNat<=64)\/(65<=c.toNat/\c.toNat<=90)\/(91<=c.toNat/\c.toNat<=96)\/(97<=c.toNat/\c.toNat<=122)\/(123<=c.toNat):=by omega
   clear hn hl cg hc hlen H Ub;rcases oZ with h|h|h|h|h|h|h|h|h|h
   ·have SX:((c.toNat:Int)==45)=false:=bF (by omega);have SW:((c.toNat:Int)==46)=false:=bF (by omega);have p0:(c.toNat:Int)<65:=by omega
    have p1:(c.toNat:Int)<=90:=by omega
    have p2:(c.toNat:Int)<97:=by omega
    have p3:(c.toNat:Int)<=122:=by omega
    have p4:(c.toNat:Int)<48:=by omega
    have p5:(c.toNat:Int)<=57:=by omega
    have aX:=hid (aG.o (by unfold cO;exact dF (by omega)));clear h aG kP LM mA;go_wp2
    go_ret2
    exact aX.o
   ·have SX:((c.toNat:Int)==45)=true:=by rw[beq_iff_eq];omega
    have SW:((c.toNat:Int)==46)=false:=bF (by omega);have p0:(c.toNat:Int)<65:=by omega
    have p1:(c.toNat:Int)<=90:=by omega
    have p2:(c.toNat:Int)<97:=by omega
    have p3:(c.toNat:Int)<=122:=by omega
    have p4:(c.toNat:Int)<48:=by omega
    have p5:(c.toNat:Int)<=57:=by omega
    have aX:=hid (show k+1<=n/\FB w wr (cur l (k+1))/\∀(j:Nat) (d:UInt8),j<k+1->l[j]? =some d->cO d=true from ⟨zL.o,kP.o (ki (by omega)),mA.o (by unfold cO;exact dT (by omega))⟩);clear h aG kP LM mA;go_wp2;go_roundw
    case rel=>exact ⟨k+1,by go_num,aX⟩
    case measure=>have:=Hn.o;simp[intOf];omega
   ·have SX:((c.toNat:Int)==45)=false:=bF (by omega);have SW:((c.toNat:Int)==46)=true:=by rw[beq_iff_eq];omega
    have p0:(c.toNat:Int)<65:=by omega
    have p1:(c.toNat:Int)<=90:=by omega
    have p2:(c.toNat:Int)<97:=by omega
    have p3:(c.toNat:Int)<=122:=by omega
    have p4:(c.toNat:Int)<48:=by omega
    have p5:(c.toNat:Int)<=57:=by omega
    have aX:=hid (show k+1<=n/\FB w wr (cur l (k+1))/\∀(j:Nat) (d:UInt8),j<k+1->l[j]? =some d->cO d=true from ⟨zL.o,kP.o (ki (by omega)),mA.o (by unfold cO;exact dT (by omega))⟩);clear h aG kP LM mA;go_wp2;go_roundw
    case rel=>exact ⟨k+1,by go_num,aX⟩
    case measure=>have:=Hn.o;simp[intOf];omega
   ·have SX:((c.toNat:Int)==45)=false:=bF (by omega);have SW:((c.toNat:Int)==46)=false:=bF (by omega);have p0:(c.toNat:Int)<65:=by omega
    have p1:(c.toNat:Int)<=90:=by omega
    have p2:(c.toNat:Int)<97:=by omega
    have p3:(c.toNat:Int)<=122:=by omega
    have p4:(c.toNat:Int)<48:=by omega
    have p5:(c.toNat:Int)<=57:=by omega
    have aX:=hid (aG.o (by unfold cO;exact dF (by omega)));clear h aG kP LM mA;go_wp2
    go_ret2
    exact aX.o
   ·have SX:((c.toNat:Int)==45)=false:=bF (by omega);have SW:((c.toNat:Int)==46)=false:=bF (by omega);have p0:(c.toNat:Int)<65:=by omega
    have p1:(c.toNat:Int)<=90:=by omega
    have p2:(c.toNat:Int)<97:=by omega
    have p3:(c.toNat:Int)<=122:=by omega
    have p4:(48:Int)<=(c.toNat:Int):=by omega
    have p5:(c.toNat:Int)<=57:=by omega
    have aX:=hid (show k+1<=n/\FB w wr (cur l (k+1))/\∀(j:Nat) (d:UInt8),j<k+1->l[j]? =some d->cO d=true from ⟨zL.o,kP.o (ki (by omega)),mA.o (by unfold cO;exact dT (by omega))⟩);clear h aG kP LM mA;go_wp2;go_roundw
    case rel=>exact ⟨k+1,by go_num,aX⟩
    case measure=>have:=Hn.o;simp[intOf];omega
   ·have SX:((c.toNat:Int)==45)=false:=bF (by omega);have SW:((c.toNat:Int)==46)=false:=bF (by omega);have p0:(c.toNat:Int)<65:=by omega
    have p1:(c.toNat:Int)<=90:=by omega
    have p2:(c.toNat:Int)<97:=by omega
    have p3:(c.toNat:Int)<=122:=by omega
    have p4:(48:Int)<=(c.toNat:Int):=by omega
    have p5:(57:Int)<(c.toNat:Int):=by omega
    have aX:=hid (aG.o (by unfold cO;exact dF (by omega)));clear h aG kP LM mA;go_wp2
    go_ret2
    exact aX.o
   ·have SX:((c.toNat:Int)==45)=false:=bF (by omega);have SW:((c.toNat:Int)==46)=false:=bF (by omega);have p0:(65:Int)<=(c.toNat:Int):=by omega
    have p1:(c.toNat:Int)<=90:=by omega
    have p2:(c.toNat:Int)<97:=by omega
    have p3:(c.toNat:Int)<=122:=by omega
    have p4:(48:Int)<=(c.toNat:Int):=by omega
    have p5:(57:Int)<(c.toNat:Int):=by omega
    have Ie:=Dc (c:=c) (by omega) (by omega);have wu:IntKind.u8.wrap ((c.toNat:Int)+32)=(c.toNat:Int)+32:=by rw[IntKind.wrap_u8];omega
    rw[Ie]at LM;have aX:=hid (show k+1<=n/\FB w (wr.setCell ⟨w.heap.size,k,none⟩ (.int .u8 ((c.toNat:Int)+32))) (cur l (k+1))/\∀(j:Nat) (d:UInt8),j<k+1->l[j]? =some d->cO d=true from ⟨zL.o,LM.o,mA.o (by unfold cO;exact dT (by omega))⟩);clear h aG kP LM mA Ie;go_wp2;go_roundw
    case rel=>exact ⟨k+1,by go_num,aX⟩
    case measure=>have:=Hn.o;simp[intOf];omega
   ·have SX:((c.toNat:Int)==45)=false:=bF (by omega);have SW:((c.toNat:Int)==46)=false:=bF (by omega);have p0:(65:Int)<=(c.toNat:Int):=by omega
    have p1:(90:Int)<(c.toNat:Int):=by omega
    have p2:(c.toNat:Int)<97:=by omega
    have p3:(c.toNat:Int)<=122:=by omega
    have p4:(48:Int)<=(c.toNat:Int):=by omega
    have p5:(57:Int)<(c.toNat:Int):=by omega
    have aX:=hid (aG.o (by unfold cO;exact dF (by omega)));clear h aG kP LM mA;go_wp2
    go_ret2
    exact aX.o
   ·have SX:((c.toNat:Int)==45)=false:=bF (by omega);have SW:((c.toNat:Int)==46)=false:=bF (by omega);have p0:(65:Int)<=(c.toNat:Int):=by omega
    have p1:(90:Int)<(c.toNat:Int):=by omega
    have p2:(97:Int)<=(c.toNat:Int):=by omega
    have p3:(c.toNat:Int)<=122:=by omega
    have p4:(48:Int)<=(c.toNat:Int):=by omega
    have p5:(57:Int)<(c.toNat:Int):=by omega
    have aX:=hid (show k+1<=n/\FB w wr (cur l (k+1))/\∀(j:Nat) (d:UInt8),j<k+1->l[j]? =some d->cO d=true from ⟨zL.o,kP.o (ki (by omega)),mA.o (by unfold cO;exact dT (by omega))⟩);clear h aG kP LM mA;go_wp2;go_roundw
    case rel=>exact ⟨k+1,by go_num,aX⟩
    case measure=>have:=Hn.o;simp[intOf];omega
   ·have SX:((c.toNat:Int)==45)=false:=bF (by omega);have SW:((c.toNat:Int)==46)=false:=bF (by omega);have p0:(65:Int)<=(c.toNat:Int):=by omega
    have p1:(90:Int)<(c.toNat:Int):=by omega
    have p2:(97:Int)<=(c.toNat:Int):=by omega
    have p3:(122:Int)<(c.toNat:Int):=by omega
    have p4:(48:Int)<=(c.toNat:Int):=by omega
    have p5:(57:Int)<(c.toNat:Int):=by omega
    have aX:=hid (aG.o (by unfold cO;exact dF (by omega)));clear h aG kP LM mA;go_wp2
    go_ret2
    exact aX.o
  ·have hk:k=n:=by have:=H.o.1;omega
   subst hk;have b4:(s.size:Int)<=(k:Int):=by omega
   have ZK:l.length=s.size:=by rw[hl,aj]
   have OY:cur l k=l.map cq:=by rw[<-IJ l,ZK,<-hn]
   have oC:=H.o.2.1;rw[OY,hl]at oC;have Yd:=run_convert_bytes_back (P:= Tryz.prog) wr 42 9 5 ⟨w.heap.size,0,none⟩ cap (s.data.toList.map cq) Tryz.underlying42 Tryz.underlying5 Tryz.underlying9 (fun j hj=>by
    rw[Addr.add_mid,Nat.zero_add];exact oC.cell j _ (aBn hj))
   rw[List.length_map,aj]at Yd;have aX:=hid (Pj (w:=w) (s:=s) (by omega) (by omega) (fun j c hj hc=>H.o.2.2 j c (by omega) (by rw[hl];exact hc)) oC.below);generalize (⟨(s.data.toList.map cq).toArray⟩:ByteArray)=res at*;clear hn hl cg H oC OY ZK;go_wp2
   go_ret2
   exact aX.o
theorem P3 (w:World) (s:ByteArray) (hs:s.size<=40000000):Calls Tryz.prog 157 #[.string s] w fun r w'=>r= .returned (.tuple #[.string (sX s),.bool (Ll s)])/\w'=w:=by
 have Hc:=hid (show Calls Tryz.prog 190 #[.string s,.string ⟨#[42]⟩] w fun e w'=>e= .returned (.tuple #[.string (sX s),.bool (Ll s)])/\w'=w from Tryz.strings_CutSuffix s ⟨#[42]⟩ w (by omega));clear hs;generalize sX s=p at*;generalize Ll s=b at*;go_enter Tryz.func157,Tryz.ntmps157
 go_wp2_with fail
 refine cS Hc.o ?_;clear Hc;go_wp2
 go_ret2
 exact ⟨rfl,rfl⟩
theorem JP (w:World) (s:ByteArray) (hs:s.size<=40000000):Calls Tryz.prog 121 #[.string s] w fun r w'=>r= .returned (.bool (ja s))/\w'=w:=by
 have Hb:=hid (P3 w s hs);have Hp:=hid (VK w (sX s));have Hv:=hid (show ja s=((Ll s&&(sX s).toList==[])||nu (sX s).data.toList) from rfl);clear hs;generalize ja s=v at*;generalize nu (sX s).data.toList=pv at*;generalize sX s=p at*;generalize Ll s=b at*;cases b with
 |false=>
  have hv:v=pv:=by rw[Hv.o];rfl
  subst hv;go_enter Tryz.func121,Tryz.ntmps121
  go_wp2_with fail
  refine cS Hb.o ?_;clear Hb
  go_wp2_with fail
  refine cS Hp.o ?_;clear Hp;go_wp2;go_ret;exact ⟨rfl,rfl⟩
 |true=>
  cases he:(p.toList==[]) with
  |true=>
   have t2:p.toList=[]:=by simpa using he
   have t3:p.toList.isEmpty=true:=by rw[t2];rfl
   have hv:v=true:=by rw[Hv.o,he];rfl
   subst hv;have T2:=hid t2;clear t2;go_enter Tryz.func121,Tryz.ntmps121
   go_wp2_with fail
   refine cS Hb.o ?_;clear Hb;go_wp2;go_ret;exact ⟨rfl,rfl⟩
  |false=>
   have t3:p.toList.isEmpty=false:=by
    cases hq:p.toList with
    |nil=>rw[hq]at he;cases he
    |cons a b=>rfl
   have hv:v=pv:=by rw[Hv.o,he];rfl
   subst hv;go_enter Tryz.func121,Tryz.ntmps121
   go_wp2_with fail
   refine cS Hb.o ?_;clear Hb
   go_wp2_with fail
   refine cS Hp.o ?_;clear Hp;go_wp2;go_ret;exact ⟨rfl,rfl⟩
def fk (w:World) (s:ByteArray) (r:Ending) (w':World):Prop:=r= .returned (.tuple #[.int .i64 (nI s).1,.string (nI s).2])/\Below w.heap.size w w'
theorem Wf (w:World) (s:ByteArray):Calls Tryz.prog 119 #[.string s] w (fk w s):=by
 have Hh:=hid (show Calls Tryz.prog 115 #[.string s,.string ⟨#[42,46]⟩] w fun e w'=>e= .returned (.bool (Lib.hasPrefix s.data.toList [42,46]))/\w'=w from Tryz.strings_HasPrefix s ⟨#[42,46]⟩ w);cases cw:(s.toList==[42]) with
 |true=>
  have aX:=hid (show fk w s (.returned (.tuple #[.int .i64 2,.string ⟨#[]⟩])) w from by unfold fk nI;rw[if_pos cw];exact ⟨rfl,aBi _ _⟩);clear Hh;go_enter Tryz.func119,Tryz.ntmps119;go_wp2
  go_ret2
  exact aX.o
 |false=>
  cases hp:Lib.hasPrefix s.data.toList [42,46] with
  |true=>
   have h2:=ES hp;have b1:(2:Int)<=(s.size:Int):=by omega
   have b2:(0:Int)<=(s.size:Int):=by omega
   rw[hp]at Hh;have Hf:=hid (fun k=>Pk (w.drewN k) (s.extract 2 s.size));have Hv:=hid (show nI s=oY s (s.extract 2 s.size) 1 from by unfold nI;rw[if_neg (by rw[cw];decide),if_pos hp]);cases hok:(iR (s.extract 2 s.size)).2 with
   |true=>
    have aX:=hid (fun w2 (hb:Below w.heap.size w w2)=>show fk w s (.returned (.tuple #[.int .i64 1,.string (iR (s.extract 2 s.size)).1])) w2 from by unfold fk;rw[Hv.o];unfold oY;rw[if_pos hok];exact ⟨rfl,hb⟩);unfold gB at Hf;rw[hok]at Hf;have HT:=hid cw;generalize (iR (s.extract 2 s.size)).1=fv at*;clear hp h2 hok Hv;go_enter Tryz.func119,Tryz.ntmps119
    go_wp2_with fail
    refine cS Hh.o ?_;clear Hh
    go_wp2_with fail
    go_quiet (fail)
    go_wp2_with fail
    refine (Hf.o _).mono ?_;rintro r w2 ⟨rfl,hb⟩;have He:=hid (aX.o w2 ((bdH (aBi _ w) _).trans hb));clear hb Hf aX;go_wp2
    go_ret2
    exact He.o
   |false=>
    have aX:=hid (fun w2 (hb:Below w.heap.size w w2)=>show fk w s (.returned (.tuple #[.int .i64 3,.string s])) w2 from by unfold fk;rw[Hv.o];unfold oY;rw[if_neg (by rw[hok];decide)];exact ⟨rfl,hb⟩);unfold gB at Hf;rw[hok]at Hf;have HT:=hid cw;generalize (iR (s.extract 2 s.size)).1=fv at*;clear hp h2 hok Hv;go_enter Tryz.func119,Tryz.ntmps119
    go_wp2_with fail
    refine cS Hh.o ?_;clear Hh
    go_wp2_with fail
    go_quiet (fail)
    go_wp2_with fail
    refine (Hf.o _).mono ?_;rintro r w2 ⟨rfl,hb⟩;have He:=hid (aX.o w2 ((bdH (aBi _ w) _).trans hb));clear hb Hf aX;go_wp2
    go_ret2
    exact He.o
  |false=>
   rw[hp]at Hh;have Hf:=hid (Pk w s);have Hv:=hid (show nI s=oY s s 0 from by unfold nI;rw[if_neg (by rw[cw];decide),if_neg (by rw[hp];decide)]);cases hok:(iR s).2 with
   |true=>
    have aX:=hid (fun w2 (hb:Below w.heap.size w w2)=>show fk w s (.returned (.tuple #[.int .i64 0,.string (iR s).1])) w2 from by unfold fk;rw[Hv.o];unfold oY;rw[if_pos hok];exact ⟨rfl,hb⟩);unfold gB at Hf;rw[hok]at Hf;have HT:=hid cw;generalize (iR s).1=fv at*;clear hp hok Hv;go_enter Tryz.func119,Tryz.ntmps119
    go_wp2_with fail
    refine cS Hh.o ?_;clear Hh
    go_wp2_with fail
    refine Hf.o.mono ?_;rintro r w2 ⟨rfl,hb⟩;have He:=hid (aX.o w2 hb);clear hb Hf aX;go_wp2
    go_ret2
    exact He.o
   |false=>
    have aX:=hid (fun w2 (hb:Below w.heap.size w w2)=>show fk w s (.returned (.tuple #[.int .i64 3,.string s])) w2 from by unfold fk;rw[Hv.o];unfold oY;rw[if_neg (by rw[hok];decide)];exact ⟨rfl,hb⟩);unfold gB at Hf;rw[hok]at Hf;have HT:=hid cw;generalize (iR s).1=fv at*;clear hp hok Hv;go_enter Tryz.func119,Tryz.ntmps119
    go_wp2_with fail
    refine cS Hh.o ?_;clear Hh
    go_wp2_with fail
    refine Hf.o.mono ?_;rintro r w2 ⟨rfl,hb⟩;have He:=hid (aX.o w2 hb);clear hb Hf aX;go_wp2
    go_ret2
    exact He.o
