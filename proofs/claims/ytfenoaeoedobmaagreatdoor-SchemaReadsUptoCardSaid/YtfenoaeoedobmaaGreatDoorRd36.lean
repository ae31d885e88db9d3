/-
Parts of a proof, one behind the other (laid dense by a program of mine: pack.py).
-/
import Derived.Test.YtfenoaeoedobmaaGreatDoorRd35
set_option linter.unusedVariables false
set_option linter.unusedSimpArgs false
set_option maxHeartbeats 4000000
set_option maxRecDepth 20000
namespace Go.Proofs.YtfenoaeoedobmaaGreatDoor
open Go Go.RowKit
theorem onlyR_in {ns:List Nd} {keys:List ByteArray} {k:Nat} {r:List Int} {st:St} (h:(ns[k]!).key∈keys):onlyR ns keys ((k:Int)::r) st=onlyR ns keys r st:=by
 rw[onlyR];rw[if_pos (by simpa using h)]
theorem onlyR_out {ns:List Nd} {keys:List ByteArray} {k:Nat} {r:List Int} {st:St} (h:¬(ns[k]!).key∈keys):onlyR ns keys ((k:Int)::r) st=onlyR ns keys r (failR st (ns[k]!).line 121):=by
 rw[onlyR];rw[if_neg (by simpa using h)];rfl
theorem c9_alloc {w:World} {a1 a2 a3 a4 a5 a6 a7 a8 a9:Addr} {v1 v2 v3 v4 v5 v6 v7 v8 v9:Value} (h:w.cell? a1=some v1∧w.cell? a2=some v2∧w.cell? a3=some v3∧w.cell? a4=some v4∧w.cell? a5=some v5∧w.cell? a6=some v6∧w.cell? a7=some v7∧w.cell? a8=some v8∧w.cell? a9=some v9) (ob:Obj):
 (w.alloc ob).cell? a1=some v1∧(w.alloc ob).cell? a2=some v2∧(w.alloc ob).cell? a3=some v3∧(w.alloc ob).cell? a4=some v4∧(w.alloc ob).cell? a5=some v5∧(w.alloc ob).cell? a6=some v6∧(w.alloc ob).cell? a7=some v7∧(w.alloc ob).cell? a8=some v8∧(w.alloc ob).cell? a9=some v9:=by
 have hb:=(Below.refl w.heap.size w).alloc (Nat.le_refl _) ob;have k:∀{a:Addr} {v:Value},w.cell? a=some v→(w.alloc ob).cell? a=some v:=fun {a v} q=>(hb.cell (lt_of_cell q)).trans q;obtain ⟨h1,h2,h3,h4,h5,h6,h7,h8,h9⟩:=h;exact ⟨k h1,k h2,k h3,k h4,k h5,k h6,k h7,k h8,k h9⟩
def hadK (keys:List ByteArray) (j:Nat) (key:ByteArray):Bool:=decide (key∈keys.take j)
theorem hadK_zero (keys:List ByteArray) (key:ByteArray):hadK keys 0 key=false:=by simp[hadK]
theorem hadK_all {keys:List ByteArray} {j:Nat} (h:keys.length≤j) (key:ByteArray):hadK keys j key=decide (key∈keys):=by unfold hadK;rw[List.take_of_length_le h]
theorem hadK_step {keys:List ByteArray} {j:Nat} {s key:ByteArray} (h:keys[j]? =some s):hadK keys (j+1) key=(hadK keys j key||(s.toList==key.toList)):=by
 unfold hadK;rw[List.take_add_one,h];by_cases e:s=key
 ·have:=same_yes e;rw[this];simp[e]
 ·have:=same_no e;rw[this];have e2:¬key=s:=fun q=>e q.symm;simp[e2]
theorem only_r {w0 w:World} {db b o cap:Nat} {ms:List NdM} {st:St} (h:DQ w0 w db b o cap ms st) {i:Nat} {m:NdM} (hi:ms[i]? =some m) (kv:Value) (keys:List ByteArray) (hkeys:SlR w kv 1 keys strCell) (hkb:∀g,kv.ownBlock=some g→g≠db):
 Calls Tryz.prog 61 #[.pointer (some ⟨db,0,none⟩),.int .i64 (i:Int),kv] w (PostQ w0 w db b o cap ms (onlyR (nds ms) keys m.nd.kids st) (.tuple #[])):=by
 obtain ⟨c,hok⟩:=h.at hi;obtain ⟨ao2,c2,hkv,hl2,hks⟩:=ints_open hok.kids;obtain ⟨q,hq⟩:∃q,q=m.nd.kids.length:=⟨_,rfl⟩;rw[←hq]at hkv hl2 hks;obtain ⟨n,hn⟩:∃n,n=ms.length:=⟨_,rfl⟩;have bi:(i:Int)<(n:Int):=by have:=(List.getElem?_eq_some_iff.1 hi).1;omega
 obtain ⟨ka,kc,hkv2,hkl,hkat⟩:=hkeys;subst hkv2;obtain ⟨y,hy⟩:∃y,y=keys.length:=⟨_,rfl⟩;rw[←hy]at hkl hkat hkb ⊢;have Hn:=hid hn;have Hq:=hid (And.intro hq hl2);have Hy:=hid (And.intro hy hkl);have Hi:=hid hi;have Hkv:=hid hkv;have Hkeys:=hid (fun (wr:World) (hm:Mod (fun k=>k=db) w wr) t (ht:t<y)=>show ∃s kb ko,keys[t]? =some s∧ka=some ⟨kb,ko,none⟩∧wr.cell? ⟨kb,ko+t,none⟩=some (.string s) from by
  obtain ⟨s,hs⟩:∃s,keys[t]? =some s:=at_of_lt (by omega);obtain ⟨kb,ko,e,hlt,hc⟩:=hkat (by omega);have h1:=hc t s hs 0 _ rfl;rw[Nat.mul_one,Nat.add_zero]at h1;exact ⟨s,kb,ko,hs,e,hm.cell h1 (hkb kb (by rw[e];rfl))⟩)
 have H0:=hid (show 0≤q∧∃s1,onlyR (nds ms) keys m.nd.kids st=onlyR (nds ms) keys (m.nd.kids.drop 0) s1∧DQ w0 w db b o cap ms s1∧Mod (fun k=>k=db) w w from ⟨Nat.zero_le _,st,rfl,h,Mod.refl _ _⟩);generalize onlyR (nds ms) keys m.nd.kids st=res at*;clear h hok hkv hq hks hl2 hn c hi hkat hy hkl hkb;go_enter Tryz.func61,Tryz.ntmps61
 go_wp2
 go_loopw [6] (fun vi wr=>∃j:Nat,vi= .int .i64 (j:Int)∧Hid (j≤q∧∃s1,res=onlyR (nds ms) keys (m.nd.kids.drop j) s1∧DQ w0 wr db b o cap ms s1∧Mod (fun k=>k=db) w wr)) (fun vi _=>q-(intOf vi).toNat)
 case atStart=>exact ⟨0,rfl,H0⟩
 case round=>
  clear H0;obtain ⟨j,rfl,H⟩:=hrel;obtain ⟨hjq,s1,hst,hD,hM⟩:=H.out;obtain ⟨d0,d1,d2,hlt⟩:=hD.heads Hn.out;have ci:=(hD.at Hi.out).1.c5;rw[Hkv.out]at ci;by_cases hj:j<q
  ·have tj:decide (j<q)=true:=dT hj;have bj:(j:Int)<(q:Int):=by omega
   obtain ⟨x,hx⟩:∃x,m.nd.kids[j]? =some x:=at_of_lt (by have:=Hq.out.1;omega);obtain ⟨k,mk,rfl,hk,_⟩:=hD.kid (List.mem_of_getElem? Hi.out) (List.mem_of_getElem? hx);have bk:(k:Int)<(n:Int):=by have:=(List.getElem?_eq_some_iff.1 hk).1;have:=Hn.out;omega
   obtain ⟨ao4,c4,e4,_,hks⟩:=ints_open (hD.at Hi.out).2.kids;rw[Hkv.out]at e4;injection e4 with e41 e42 e43
   subst e41;clear e42 e43;obtain ⟨b2,o2,rfl,hb2,hc⟩:=hks (by have:=Hq.out.1;omega);have x1:=hc j _ hx;obtain ⟨cn,hokk⟩:=hD.at hk;obtain ⟨ao3,c3,hkv3,_,_⟩:=ints_open hokk.kids;obtain ⟨q3,hq3⟩:∃q3,q3=mk.nd.kids.length:=⟨_,rfl⟩;rw[←hq3]at hkv3;have y0:=cn.c0;have y1:=cn.c1;have y2:=cn.c2;have y3:=cn.c3;have y4:=cn.c4;have y5:=cn.c5;rw[hkv3]at y5;rw[drop_at hx]at hst;have hkd:=nds_at hk;have hK0:wr.drew.cell? ⟨db,0,none⟩=some (.slice (some ⟨b,o,none⟩) n cap)∧wr.drew.cell? ⟨b,o+i*6+5,none⟩=some (.slice (some ⟨b2,o2,none⟩) q c2)∧wr.drew.cell? ⟨b2,o2+j,none⟩=some (.int .i64 (k:Int))∧wr.drew.cell? ⟨b,o+k*6,none⟩=some (.int .i64 mk.nd.kind)∧wr.drew.cell? ⟨b,o+k*6+1,none⟩=some (.string mk.nd.key)∧wr.drew.cell? ⟨b,o+k*6+2,none⟩=some (.string mk.nd.text)∧wr.drew.cell? ⟨b,o+k*6+3,none⟩=some (.bool mk.nd.quoted)∧wr.drew.cell? ⟨b,o+k*6+4,none⟩=some (.int .i64 mk.nd.line)∧wr.drew.cell? ⟨b,o+k*6+5,none⟩=some (.slice ao3 q3 c3):=⟨d0,ci,x1,y0,y1,y2,y3,y4,y5⟩
   have HD:=hid (And.intro hst (And.intro hD hM));have Hkd:=hid hkd;clear hst hD hM H hkd hokk hkv3 hq3 cn hks hb2 hc hx hk
   go_wp2_with fail
   refine wp_calm2 ?_
   go_region_held3 (fun w'=>w'.cell? ⟨db,0,none⟩=some (.slice (some ⟨b,o,none⟩) n cap)∧w'.cell? ⟨b,o+i*6+5,none⟩=some (.slice (some ⟨b2,o2,none⟩) q c2)∧w'.cell? ⟨b2,o2+j,none⟩=some (.int .i64 (k:Int))∧w'.cell? ⟨b,o+k*6,none⟩=some (.int .i64 mk.nd.kind)∧w'.cell? ⟨b,o+k*6+1,none⟩=some (.string mk.nd.key)∧w'.cell? ⟨b,o+k*6+2,none⟩=some (.string mk.nd.text)∧w'.cell? ⟨b,o+k*6+3,none⟩=some (.bool mk.nd.quoted)∧w'.cell? ⟨b,o+k*6+4,none⟩=some (.int .i64 mk.nd.line)∧w'.cell? ⟨b,o+k*6+5,none⟩=some (.slice ao3 q3 c3)) (first|exact hK0|exact c9_alloc hK0 _|exact c9_alloc (w:=wr) hK0 _|assumption) (first|fail)
   all_goals go_wp2
   obtain ⟨kb,hkb⟩:∃kb,kb=wr.heap.size:=⟨_,rfl⟩;have hb2:Below wr.heap.size wr (wr.alloc (.cells #[.int .i64 mk.nd.kind,.string mk.nd.key,.string mk.nd.text,.bool mk.nd.quoted,.int .i64 mk.nd.line,.slice ao3 q3 c3] 55)).drew:=((Below.refl _ _).alloc (Nat.le_refl _) _).drew;have hn2:(wr.alloc (.cells #[.int .i64 mk.nd.kind,.string mk.nd.key,.string mk.nd.text,.bool mk.nd.quoted,.int .i64 mk.nd.line,.slice ao3 q3 c3] 55)).drew.heap[kb]? =some (.cells #[.int .i64 mk.nd.kind,.string mk.nd.key,.string mk.nd.text,.bool mk.nd.quoted,.int .i64 mk.nd.line,.slice ao3 q3 c3] 55 (0,0)):=by rw[hkb];exact alloc_new _
   rw[←hkb];generalize (wr.alloc (.cells #[.int .i64 mk.nd.kind,.string mk.nd.key,.string mk.nd.text,.bool mk.nd.quoted,.int .i64 mk.nd.line,.slice ao3 q3 c3] 55)).drew=w2 at hb2 hn2 ⊢;have H2:=hid (show res=onlyR (nds ms) keys ((k:Int)::m.nd.kids.drop (j+1)) s1∧DQ w0 w2 db b o cap ms s1∧Mod (fun k=>k=db) w w2∧w2.heap[kb]? =some (.cells #[.int .i64 mk.nd.kind,.string mk.nd.key,.string mk.nd.text,.bool mk.nd.quoted,.int .i64 mk.nd.line,.slice ao3 q3 c3] 55 (0,0)) from ⟨HD.out.1,HD.out.2.1.later hb2,HD.out.2.2.trans ((mod_below hb2).mono (fun _ _ f=>f.elim)),hn2⟩)
   have hz:hadK keys 0 mk.nd.key=false:=hadK_zero _ _;have Hz:=hid hz
   rename_i hH kS1 kS2
   clear hH;clear hb2 hn2 hkb hK0 HD hz x1 y0 y1 y2 y3 y4 y5 ci d0 d1 d2 hlt
   go_loopw [8,9] (fun vk vi w'=>∃t:Nat,vi= .int .i64 (t:Int)∧vk= .bool (hadK keys t mk.nd.key)∧Hid (t≤y)∧Hid (∃e,w'=w2.drewN e)) (fun _ vi _=>y-(intOf vi).toNat)
   case atStart=>exact ⟨0,rfl,by rw[Hz.out],hid (Nat.zero_le _),hid ⟨0,rfl⟩⟩
   case round=>
    obtain ⟨t,rfl,rfl,Ht,He⟩:=hrel;obtain ⟨e,he⟩:=He.out;have hb3:Below w2.heap.size w2 wr:=by rw[he];exact bdH (Below.refl _ _) e
    have hM3:Mod (fun k=>k=db) w wr:=H2.out.2.2.1.trans ((mod_below hb3).mono (fun _ _ f=>f.elim));have hn3:=(hb3.block _ (lt_of_heap H2.out.2.2.2)).trans H2.out.2.2.2;have z1:=cell_blk hn3 1;have z4:=cell_blk hn3 4;simp at z1 z4;have HD3:=hid (show DQ w0 wr db b o cap ms s1∧Mod (fun k=>k=db) w wr from ⟨H2.out.2.1.later hb3,hM3⟩);by_cases ht:t<y
    ·have tt:decide (t<y)=true:=dT ht;have bt:(t:Int)<(y:Int):=by omega
     obtain ⟨s,kb2,ko,hs,rfl,hsc⟩:=Hkeys.out wr hM3 t ht;obtain ⟨Hms,Hgo⟩:=step_two (k:=t) (n:=y) ht (by have:=Hy.out.2;omega);have hstep:=hadK_step (key:=mk.nd.key) hs;have Hdr:=hid (show ∀a,∃e2,wr.drewN a=w2.drewN e2 from fun a=>⟨e+a,by rw[he];simp[World.drewN,Nat.add_assoc]⟩);have Ht1:=hid (show t+1≤y from ht);clear he He hb3 hM3 hn3 ht hs Hkeys z4 HD3;cases hkn:hadK keys t mk.nd.key with
     |true=>
      rw[hkn,Bool.true_or]at hstep;have Hst:=hid hstep;clear hkn hstep;go_wp2;go_quiet (fail);go_wp2;go_roundw
      case rel=>exact ⟨t+1,Hgo.out,by rw[Hst.out],Ht1,hid (Hdr.out _)⟩
      case measure=>exact Hms.out
     |false=>
      rw[hkn,Bool.false_or]at hstep;have Hst:=hid hstep;clear hkn hstep;go_wp2;go_quiet (fail);go_wp2;go_roundw
      case rel=>exact ⟨t+1,Hgo.out,by rw[Hst.out],Ht1,hid (Hdr.out _)⟩
      case measure=>exact Hms.out
    ·have tt:decide (t<y)=false:=dF ht;have hall:=hadK_all (keys:=keys) (j:=t) (by have:=Hy.out.1;omega) mk.nd.key;obtain ⟨hst,hD,hM,hn2⟩:=H2.out;have hkd:=Hkd.out;obtain ⟨Hms,Hgo⟩:=step_two (k:=j) (n:=q) hj (by have:=Hq.out.2;omega);by_cases e:mk.nd.key∈keys
     ·rw[dT e]at hall;rw[onlyR_in (by rw[hkd];exact e)]at hst;have HE:=hid (show j+1≤q∧∃s1,res=onlyR (nds ms) keys (m.nd.kids.drop (j+1)) s1∧DQ w0 wr db b o cap ms s1∧Mod (fun k=>k=db) w wr from ⟨hj,s1,hst,HD3.out.1,HD3.out.2⟩);have Hal:=hid hall;clear hst hD hM hn2 hkd e hall he He hb3 hM3 hn3 HD3 H2 Hkeys ht hj z1 z4;rw[Hal.out];go_wp2;go_roundw
      case rel=>exact ⟨j+1,Hgo.out,HE⟩
      case measure=>exact Hms.out
     ·rw[dF e]at hall;rw[onlyR_out (by rw[hkd];exact e),hkd]at hst;have Hfl:=hid (fail_r HD3.out.1 mk.nd.line 121 (by decide));have HM3:=hid HD3.out.2;have Hst:=hid (And.intro hst (show j+1≤q from hj));have Hal:=hid hall;clear hst hD hM hn2 hkd e hall he He hb3 hM3 hn3 HD3 H2 Hkeys ht hj z1;rw[Hal.out]
      go_wp2_with fail
      refine Hfl.out.mono ?_;rintro r w5 ⟨rfl,hq5,hm5⟩;have HE:=hid (show j+1≤q∧∃s1,res=onlyR (nds ms) keys (m.nd.kids.drop (j+1)) s1∧DQ w0 w5 db b o cap ms s1∧Mod (fun k=>k=db) w w5 from ⟨Hst.out.2,_,Hst.out.1,hq5,HM3.out.trans hm5⟩);clear hq5 hm5 Hfl z4;go_wp2;go_roundw
      case rel=>exact ⟨j+1,Hgo.out,HE⟩
      case measure=>exact Hms.out
  ·have tj:decide (j<q)=false:=dF hj;have HE:=hid (show PostQ w0 w db b o cap ms res (.tuple #[]) (.returned (.tuple #[])) wr from by
    rw[List.drop_eq_nil_of_le (by have:=Hq.out.1;omega)]at hst;have e:res=s1:=hst;rw[e];exact ⟨rfl,hD,hM⟩)
   clear hst hD hM H hj Hkeys hjq;go_wp2
   first|go_end0|refine bodyPost_ret (results_none rfl _ _ _) rfl ?_
   exact HE.out
noncomputable def tg0:Code:=(ncl (ncx Tryz.f91.body))
noncomputable def tg1:Code:=(ncl (ncr (ncx Tryz.f91.body)))
noncomputable def tg2:Code:=(ncl (ncr (ncr (ncx Tryz.f91.body))))
noncomputable def tg4:Code:=(ncl (ncr (ncr (ncr (ncx Tryz.f91.body)))))
noncomputable def tg5:Code:=(ncl (ncr (ncr (ncr (ncr (ncx Tryz.f91.body))))))
noncomputable def tg6:Code:=(ncl (ncr (ncr (ncr (ncr (ncr (ncx Tryz.f91.body)))))))
noncomputable def tg8:Code:=(ncl (ncr (ncr (ncr (ncr (ncr (ncr (ncx Tryz.f91.body))))))))
noncomputable def tg12:Code:=(ncl (ncr (ncr (ncr (ncr (ncr (ncr (ncr (ncx Tryz.f91.body)))))))))
noncomputable def tg13:Code:=(ncl (ncr (ncr (ncr (ncr (ncr (ncr (ncr (ncr (ncx Tryz.f91.body))))))))))
noncomputable def tg14:Code:=(ncl (ncr (ncr (ncr (ncr (ncr (ncr (ncr (ncr (ncr (ncx Tryz.f91.body)))))))))))
noncomputable def tgE:Code:=(ncr (ncr (ncr (ncr (ncr (ncr (ncr (ncr (ncr (ncr (ncx Tryz.f91.body)))))))))))
theorem tg_act (a:Act) (hs:a.tmps.size=83) (hd:a.defers=[]):∃v:Nat→Value,(∀(i:Nat) (x:Value),a.tmps[i]? =some x→v i=x)∧a=⟨#[v 0,v 1,v 2,v 3,v 4,v 5,v 6,v 7,v 8,v 9,v 10,v 11,v 12,v 13,v 14,v 15,v 16,v 17,v 18,v 19,v 20,v 21,v 22,v 23,v 24,v 25,v 26,v 27,v 28,v 29,v 30,v 31,v 32,v 33,v 34,v 35,v 36,v 37,v 38,v 39,v 40,v 41,v 42,v 43,v 44,v 45,v 46,v 47,v 48,v 49,v 50,v 51,v 52,v 53,v 54,v 55,v 56,v 57,v 58,v 59,v 60,v 61,v 62,v 63,v 64,v 65,v 66,v 67,v 68,v 69,v 70,v 71,v 72,v 73,v 74,v 75,v 76,v 77,v 78,v 79,v 80,v 81,v 82],[]⟩:=by
 obtain ⟨t,d⟩:=a;obtain ⟨l⟩:=t;obtain rfl:d=[]:=hd;have hl:l.length=83:=hs;refine ⟨fun i=>l.getD i undef,fun i x hx=> ?_,?_⟩
 ·have hx':l[i]? =some x:=by simpa using hx
  simp[List.getD,hx']
 ·have e:l=(List.range 83).map (fun i=>l.getD i undef):=by
   apply List.ext_getElem
   ·simp[hl]
   ·intro i h1 h2;simp[List.getD,h1]
  generalize (fun i=>l.getD i undef)=v at e ⊢;subst e;rfl
structure TgA (a:Act) (db:Nat) (i:Nat) (tb:Nat) (xb:Nat):Prop where
 size:a.tmps.size=83
 dfr:a.defers=[]
 s0:a.tmps[0]? =some (.pointer (some ⟨db,0,none⟩))
 s1:a.tmps[1]? =some (.int .i64 (i:Int))
 s4:a.tmps[4]? =some (.pointer (some ⟨tb,0,none⟩))
 s5:a.tmps[5]? =some (.pointer (some ⟨xb,0,none⟩))
theorem TgA.shape {a:Act} {db:Nat} {i:Nat} {tb:Nat} {xb:Nat} (h:TgA a db i tb xb):∃v:Nat→Value,a=⟨#[.pointer (some ⟨db,0,none⟩),.int .i64 (i:Int),v 2,v 3,.pointer (some ⟨tb,0,none⟩),.pointer (some ⟨xb,0,none⟩),v 6,v 7,v 8,v 9,v 10,v 11,v 12,v 13,v 14,v 15,v 16,v 17,v 18,v 19,v 20,v 21,v 22,v 23,v 24,v 25,v 26,v 27,v 28,v 29,v 30,v 31,v 32,v 33,v 34,v 35,v 36,v 37,v 38,v 39,v 40,v 41,v 42,v 43,v 44,v 45,v 46,v 47,v 48,v 49,v 50,v 51,v 52,v 53,v 54,v 55,v 56,v 57,v 58,v 59,v 60,v 61,v 62,v 63,v 64,v 65,v 66,v 67,v 68,v 69,v 70,v 71,v 72,v 73,v 74,v 75,v 76,v 77,v 78,v 79,v 80,v 81,v 82],[]⟩:=by
 obtain ⟨v,hv,hd⟩:=tg_act a h.size h.dfr;have e0:=hv 0 _ h.s0;have e1:=hv 1 _ h.s1;have e4:=hv 4 _ h.s4;have e5:=hv 5 _ h.s5;refine ⟨v,?_⟩;rw[hd];simp only[e0,e1,e4,e5]
structure TgB (a:Act) (db:Nat) (i:Nat) (tb:Nat) (xb:Nat) (x:Option Nat) (y:Option Nat):Prop where
 size:a.tmps.size=83
 dfr:a.defers=[]
 s0:a.tmps[0]? =some (.pointer (some ⟨db,0,none⟩))
 s1:a.tmps[1]? =some (.int .i64 (i:Int))
 s4:a.tmps[4]? =some (.pointer (some ⟨tb,0,none⟩))
 s5:a.tmps[5]? =some (.pointer (some ⟨xb,0,none⟩))
 s6:a.tmps[6]? =some (.int .i64 (fldV x))
 s7:a.tmps[7]? =some (.int .i64 (fldV y))
theorem TgB.shape {a:Act} {db:Nat} {i:Nat} {tb:Nat} {xb:Nat} {x:Option Nat} {y:Option Nat} (h:TgB a db i tb xb x y):∃v:Nat→Value,a=⟨#[.pointer (some ⟨db,0,none⟩),.int .i64 (i:Int),v 2,v 3,.pointer (some ⟨tb,0,none⟩),.pointer (some ⟨xb,0,none⟩),.int .i64 (fldV x),.int .i64 (fldV y),v 8,v 9,v 10,v 11,v 12,v 13,v 14,v 15,v 16,v 17,v 18,v 19,v 20,v 21,v 22,v 23,v 24,v 25,v 26,v 27,v 28,v 29,v 30,v 31,v 32,v 33,v 34,v 35,v 36,v 37,v 38,v 39,v 40,v 41,v 42,v 43,v 44,v 45,v 46,v 47,v 48,v 49,v 50,v 51,v 52,v 53,v 54,v 55,v 56,v 57,v 58,v 59,v 60,v 61,v 62,v 63,v 64,v 65,v 66,v 67,v 68,v 69,v 70,v 71,v 72,v 73,v 74,v 75,v 76,v 77,v 78,v 79,v 80,v 81,v 82],[]⟩:=by
 obtain ⟨v,hv,hd⟩:=tg_act a h.size h.dfr;have e0:=hv 0 _ h.s0;have e1:=hv 1 _ h.s1;have e4:=hv 4 _ h.s4;have e5:=hv 5 _ h.s5;have e6:=hv 6 _ h.s6;have e7:=hv 7 _ h.s7;refine ⟨v,?_⟩;rw[hd];simp only[e0,e1,e4,e5,e6,e7]
structure TQ (w0 wb w:World) (db b o cap:Nat) (ms:List NdM) (st:St) (tb xb T:Nat) (tc xc:Array Value):Prop where
 dq:DQ w0 w db b o cap ms st
 mod:Mod (fun k=>k=db) wb w
 tbk:w.heap[tb]? =some (.cells tc T (0,0))
 xbk:w.heap[xb]? =some (.cells xc T (0,0))
 htb:wb.heap.size≤tb
 hxb:wb.heap.size≤xb
 hne:tb≠xb
 hdb:db<wb.heap.size
 hwb:w0.heap.size≤wb.heap.size
theorem TQ.call {w0 wb w w2:World} {db b o cap:Nat} {ms:List NdM} {st st2:St} {tb xb T:Nat} {tc xc:Array Value} (h:TQ w0 wb w db b o cap ms st tb xb T tc xc) (hd:DQ w0 w2 db b o cap ms st2) (hm:Mod (fun k=>k=db) w w2):TQ w0 wb w2 db b o cap ms st2 tb xb T tc xc:=
 ⟨hd,h.mod.trans hm,hm.heap h.tbk (by have:=h.htb;have:=h.hdb;omega),hm.heap h.xbk (by have:=h.hxb;have:=h.hdb;omega),h.htb,h.hxb,h.hne,h.hdb,h.hwb⟩
theorem TQ.later {w0 wb w w2:World} {db b o cap:Nat} {ms:List NdM} {st:St} {tb xb T:Nat} {tc xc:Array Value} (h:TQ w0 wb w db b o cap ms st tb xb T tc xc) (hb:Below w.heap.size w w2):TQ w0 wb w2 db b o cap ms st tb xb T tc xc:=
 h.call (h.dq.later hb) ((mod_below hb).mono (fun _ _ f=>f.elim))
theorem TQ.drewN {w0 wb w:World} {db b o cap:Nat} {ms:List NdM} {st:St} {tb xb T:Nat} {tc xc:Array Value} (h:TQ w0 wb w db b o cap ms st tb xb T tc xc) (k:Nat):TQ w0 wb (w.drewN k) db b o cap ms st tb xb T tc xc:=h.later (bdH (Below.refl _ _) k)
theorem TQ.put {w0 wb w:World} {db b o cap:Nat} {ms:List NdM} {st:St} {tb xb T:Nat} {tc xc xc':Array Value} (h:TQ w0 wb w db b o cap ms st tb xb T tc xc) (i:Nat) (v:Value) (he:xc.setIfInBounds i v=xc'):TQ w0 wb (w.setCell ⟨xb,i,none⟩ v) db b o cap ms st tb xb T tc xc':=by
 have m1:Mod (fun k=>k=xb) w (w.setCell ⟨xb,i,none⟩ v):=(Mod.refl _ _).setCell _ _ (fun _=>rfl);have hx:=h.hxb;have hd:=h.hdb;refine ⟨h.dq.step m1 (fun e=>by omega) (fun k e=>by have:=h.hwb;omega),?_,m1.heap h.tbk h.hne,by rw[set_blk h.xbk,he],h.htb,h.hxb,h.hne,h.hdb,h.hwb⟩;exact h.mod.trans' m1 (fun k hk e=>by omega)
theorem TQ.copy {w0 wb w w2:World} {db b o cap:Nat} {ms:List NdM} {st:St} {tb xb T:Nat} {tc xc:Array Value} (h:TQ w0 wb w db b o cap ms st tb xb T tc xc) (m1:Mod (fun k=>k=tb) w w2) (hb:w2.heap[tb]? =some (.cells xc T (0,0))):TQ w0 wb w2 db b o cap ms st tb xb T xc xc:=by
 have hx:=h.htb;have hd:=h.hdb;refine ⟨h.dq.step m1 (fun e=>by omega) (fun k e=>by have:=h.hwb;omega),?_,hb,m1.heap h.xbk (fun e=>h.hne e.symm),h.htb,h.hxb,h.hne,h.hdb,h.hwb⟩;exact h.mod.trans' m1 (fun k hk e=>by omega)
def tgtA (t:Tgt):Array Value:=#[.string t.service,.string t.split,.float .f64 t.weight]
theorem textR_size {w0 w:World} {db b o cap:Nat} {ms:List NdM} {st:St} (h:DQ w0 w db b o cap ms st) (x:Option Nat) (hx:∀k,x=some k→k<ms.length):(textR (nds ms) x).size≤1048576:=by
 cases x with
 |none=>show (⟨#[]⟩:ByteArray).size≤_;decide
 |some k=>
  obtain ⟨mk,hk⟩:∃mk,ms[k]? =some mk:=at_of_lt (hx k rfl);have:=(h.at hk).2.text;unfold textR;simp only[nds_at hk];exact this
theorem DQ.fldlt {w0 w:World} {db b o cap:Nat} {ms:List NdM} {st:St} (h:DQ w0 w db b o cap ms st) {m:NdM} (hm:m∈ms) {key:ByteArray}:∀k,fieldN (nds ms) m.nd key=some k→k<ms.length:=fun k hk=>by
 obtain ⟨mk,h1,_⟩:=h.fld hm hk;exact (List.getElem?_eq_some_iff.1 h1).1
theorem need_lt {ns:List Nd} {m:Nd} {key:ByteArray} {st:St} {k:Nat} (h:(needR ns m key st).1=some k):fieldN ns m key=some k:=by
 unfold needR at h;cases hx:fieldN ns m key with
 |none=>rw[hx]at h;cases h
 |some z=>rw[hx]at h;exact h
section
variable {w0 wb w:World} {Q:Exit→Act→World→Prop} {a:Act} {ms:List NdM} {st:St} {db b o cap i tb xb:Nat} {m:NdM} {t:Tgt} {tc:Array Value}
theorem tg_map (X:Code) (hf:TgA a db i tb xb) (h:TQ w0 wb w db b o cap ms none tb xb 58 tc (tgtA t)) (htc:∃z,tc=tgtA z) (hi:ms[i]? =some m)
 (stop:∀a' w' st2,isMapR m.nd none=st2→st2≠none→TgA a' db i tb xb→TQ w0 wb w' db b o cap ms st2 tb xb 58 (tgtA t) (tgtA t)→Q .ret a' w')
 (ok:∀a' w',isMapR m.nd none=none→TgA a' db i tb xb→TQ w0 wb w' db b o cap ms none tb xb 58 tc (tgtA t)→X.wp Tryz.prog Q a' w'):(Code.seq tg2 X).wp Tryz.prog Q a w:=by
 have hst:= @store_float;have Hm:=hid (isMap_r h.dq hi);obtain ⟨s2,hs2⟩:∃s2,s2=isMapR m.nd none:=⟨_,rfl⟩;rw[←hs2]at Hm;have HT:=hid h;have Hok:=hid ok;have Hstop:=hid stop;have Hs:=hid hs2;obtain ⟨vv,rfl⟩:=hf.shape;obtain ⟨z,rfl⟩:=htc;clear hf h ok stop hs2;cases hz:decide (s2=none) with
 |true=>
  rw[hz]at Hm;have he:=of_decide_eq_true hz;subst he;clear hz;dsimp only[tg2,ncs,ncl,ncr,ncb,nco,nct,nce,ncx,Tryz.f91]
  go_wp2_with fail
  refine Hm.out.mono ?_;rintro r w2 ⟨rfl,hq,hm⟩;have HE:=hid (HT.out.call hq hm);clear hq hm Hm;go_wp2;exact Hok.out _ _ Hs.out.symm ⟨rfl,rfl,rfl,rfl,rfl,rfl⟩ HE.out
 |false=>
  rw[hz]at Hm;have Hne:=hid (of_decide_eq_false hz);clear hz;dsimp only[tg2,ncs,ncl,ncr,ncb,nco,nct,nce,ncx,Tryz.f91]
  go_wp2_with fail
  refine Hm.out.mono ?_;rintro r w2 ⟨rfl,hq,hm⟩;have hT:=HT.out.call hq hm;have x0:=cell_blk hT.xbk 0;have x1:=cell_blk hT.xbk 1;have x2:=cell_blk hT.xbk 2;have y0:=cell_blk hT.tbk 0;have y1:=cell_blk hT.tbk 1;have y2:=cell_blk hT.tbk 2;have yf:=fun j=>frozen_blk hT.tbk j;unfold tgtA at x0 x1 x2 y0 y1 y2;simp at x0 x1 x2 y0 y1 y2;obtain ⟨f1,f2⟩:=fault3 hT.tbk (.string t.service) (.string t.split) (.float .f64 t.weight)
  have HE:=hid (hT.copy f1 f2);clear hq hm Hm hT f1 f2;go_wp2;exact Hstop.out _ _ _ Hs.out.symm Hne.out ⟨rfl,rfl,rfl,rfl,rfl,rfl⟩ HE.out
theorem tg_only (X:Code) (hf:TgA a db i tb xb) (h:TQ w0 wb w db b o cap ms st tb xb 58 tc (tgtA t)) (hi:ms[i]? =some m)
 (ok:∀a' w',TgA a' db i tb xb→TQ w0 wb w' db b o cap ms (onlyR (nds ms) [kService,kSplit,kWeight] m.nd.kids st) tb xb 58 tc (tgtA t)→X.wp Tryz.prog Q a' w'):(Code.seq tg4 X).wp Tryz.prog Q a w:=by
 have hb1:=(Below.refl w.heap.size w).alloc (Nat.le_refl _) (.cells #[.string kService,.string kSplit,.string kWeight] 9);have HT:=hid (h.later hb1);have hlt:=lt_of_heap h.dq.doc;have Ho:=hid (only_r (h.later hb1).dq hi _ _ (strs3 w kService kSplit kWeight) (fun g hg e=>by injection hg with hg;have hg2:w.heap.size=g:=hg;omega));have Hok:=hid ok;obtain ⟨vv,rfl⟩:=hf.shape;clear hf h ok hb1 hlt
 generalize onlyR (nds ms) [kService,kSplit,kWeight] m.nd.kids st=s2 at*;unfold kService kSplit kWeight at Ho HT;dsimp only[tg4,ncs,ncl,ncr,ncb,nco,nct,nce,ncx,Tryz.f91]
 go_wp2_with fail
 refine Ho.out.mono ?_;rintro r w2 ⟨rfl,hq,hm⟩;have HE:=hid (HT.out.call hq hm);clear hq hm Ho HT;go_wp2;exact Hok.out _ _ ⟨rfl,rfl,rfl,rfl,rfl,rfl⟩ HE.out
theorem tg_flds (X:Code) (hf:TgA a db i tb xb) (h:TQ w0 wb w db b o cap ms st tb xb 58 tc (tgtA t)) (hi:ms[i]? =some m)
 (ok:∀a',TgB a' db i tb xb (fieldN (nds ms) m.nd kService) (fieldN (nds ms) m.nd kSplit)→X.wp Tryz.prog Q a' w):(Code.seq tg5 X).wp Tryz.prog Q a w:=by
 have H1:=hid (field_r h.dq hi kService);have H2:=hid (field_r h.dq hi kSplit);have Hok:=hid ok;obtain ⟨vv,rfl⟩:=hf.shape;clear hf h ok;generalize fieldN (nds ms) m.nd kService=x at*;generalize fieldN (nds ms) m.nd kSplit=y at*;unfold kService at H1;unfold kSplit at H2;dsimp only[tg5,ncs,ncl,ncr,ncb,nco,nct,nce,ncx,Tryz.f91]
 go_wp2_with fail
 refine H1.out.mono ?_;rintro r w2 ⟨rfl,hw⟩;obtain rfl:=hw.symm;clear H1
 go_wp2_with fail
 refine H2.out.mono ?_;rintro r w2 ⟨rfl,hw⟩;obtain rfl:=hw.symm;clear H2;go_wp2;exact Hok.out _ ⟨rfl,rfl,rfl,rfl,rfl,rfl,rfl,rfl⟩
theorem tg_which (X:Code) {x y:Option Nat} (hf:TgB a db i tb xb x y) (h:TQ w0 wb w db b o cap ms st tb xb 58 tc (tgtA t)) (hi:ms[i]? =some m) (hx:∀k,x=some k→k<ms.length) (hy:∀k,y=some k→k<ms.length)
 (ok:∀a' w',TgB a' db i tb xb x (whichR (nds ms) i x y st).1→TQ w0 wb w' db b o cap ms (whichR (nds ms) i x y st).2 tb xb 58 tc (tgtA t)→X.wp Tryz.prog Q a' w'):(Code.seq tg6 (Code.seq tg8 X)).wp Tryz.prog Q a w:=by
 have hni:=nds_at hi;have Hok:=hid ok;have HT:=hid h;obtain ⟨n,hn⟩:∃n,n=ms.length:=⟨_,rfl⟩;obtain ⟨d0,d1,d2,hlt⟩:=h.dq.heads hn;have bi:(i:Int)<(n:Int):=by have:=(List.getElem?_eq_some_iff.1 hi).1;omega
 have ci:=(h.dq.at hi).1.c4;cases x with
 |none=>
  cases y with
  |none=>
   have hw:whichR (nds ms) i none none st=(none,failR st m.nd.line 122):=by unfold whichR;simp only[hni]
   rw[hw]at Hok;have Hf:=hid (fail_r h.dq m.nd.line 122 (by decide));obtain ⟨vv,rfl⟩:=hf.shape;have hv:fldV none= -1:=rfl;rw[hv];clear hf h ok hi hx hy hni hn hlt hw;dsimp only[tg6,tg8,ncs,ncl,ncr,ncb,nco,nct,nce,ncx,Tryz.f91]
   go_wp2_with fail
   refine Hf.out.mono ?_;rintro r w2 ⟨rfl,hq,hm⟩;have HE:=hid (HT.out.call hq hm);clear hq hm Hf d0 d1 d2 ci;go_wp2;exact Hok.out _ _ ⟨rfl,rfl,rfl,rfl,rfl,rfl,rfl,rfl⟩ HE.out
  |some y=>
   have hw:whichR (nds ms) i none (some y) st=(some y,st):=rfl;rw[hw]at Hok;obtain ⟨vv,rfl⟩:=hf.shape;have hv:fldV none= -1:=rfl;have hv2:fldV (some y)=(y:Int):=rfl;rw[hv,hv2];have ty:decide ((y:Int)<0)=false:=dF (by omega);clear hf h ok hi hx hy hni hn hlt hw;dsimp only[tg6,tg8,ncs,ncl,ncr,ncb,nco,nct,nce,ncx,Tryz.f91];go_wp2;exact Hok.out _ _ ⟨rfl,rfl,rfl,rfl,rfl,rfl,rfl,rfl⟩ HT.out
 |some x=>
  have hv:fldV (some x)=(x:Int):=rfl;have tx:decide ((x:Int)<0)=false:=dF (by omega);have tx2:decide ((0:Int)≤(x:Int))=true:=dT (by omega);cases y with
  |none=>
   have hw:whichR (nds ms) i (some x) none st=(none,st):=rfl;rw[hw]at Hok;obtain ⟨vv,rfl⟩:=hf.shape;have hv2:fldV none= -1:=rfl;rw[hv,hv2];clear hf h ok hi hx hy hni hn hlt hw;dsimp only[tg6,tg8,ncs,ncl,ncr,ncb,nco,nct,nce,ncx,Tryz.f91];go_wp2;exact Hok.out _ _ ⟨rfl,rfl,rfl,rfl,rfl,rfl,rfl,rfl⟩ HT.out
  |some y=>
   have hv2:fldV (some y)=(y:Int):=rfl;have ty2:decide ((0:Int)≤(y:Int))=true:=dT (by omega);by_cases hg:x>y
   ·have tg:decide (y<x)=true:=dT hg;obtain ⟨mz,hz⟩:∃mz,ms[x]? =some mz:=at_of_lt (hx x rfl);have hw:whichR (nds ms) i (some x) (some y) st=(some x,failR st mz.nd.line 121):=by
     unfold whichR;simp only[if_pos hg,nds_at hz]
    rw[hw]at Hok;have Hf:=hid (fail_r h.dq mz.nd.line 121 (by decide));have cz:=(h.dq.at hz).1.c4;have bz:(x:Int)<(n:Int):=by have:=hx x rfl;omega
    obtain ⟨vv,rfl⟩:=hf.shape;rw[hv,hv2];clear hf h ok hi hx hy hni hn hlt hw hg hz;dsimp only[tg6,tg8,ncs,ncl,ncr,ncb,nco,nct,nce,ncx,Tryz.f91]
    go_wp2_with fail
    refine Hf.out.mono ?_;rintro r w2 ⟨rfl,hq,hm⟩;have HE:=hid (HT.out.call hq hm);clear hq hm Hf d0 d1 d2 ci cz;go_wp2;exact Hok.out _ _ ⟨rfl,rfl,rfl,rfl,rfl,rfl,rfl,rfl⟩ HE.out
   ·have tg:decide (y<x)=false:=dF hg;obtain ⟨mz,hz⟩:∃mz,ms[y]? =some mz:=at_of_lt (hy y rfl);have hw:whichR (nds ms) i (some x) (some y) st=(some y,failR st mz.nd.line 121):=by
     unfold whichR;simp only[if_neg hg,nds_at hz]
    rw[hw]at Hok;have Hf:=hid (fail_r h.dq mz.nd.line 121 (by decide));have cz:=(h.dq.at hz).1.c4;have bz:(y:Int)<(n:Int):=by have:=hy y rfl;omega
    obtain ⟨vv,rfl⟩:=hf.shape;rw[hv,hv2];clear hf h ok hi hx hy hni hn hlt hw hg hz;dsimp only[tg6,tg8,ncs,ncl,ncr,ncb,nco,nct,nce,ncx,Tryz.f91]
    go_wp2_with fail
    refine Hf.out.mono ?_;rintro r w2 ⟨rfl,hq,hm⟩;have HE:=hid (HT.out.call hq hm);clear hq hm Hf d0 d1 d2 ci cz;go_wp2;exact Hok.out _ _ ⟨rfl,rfl,rfl,rfl,rfl,rfl,rfl,rfl⟩ HE.out
theorem tg_svc (X:Code) {x y:Option Nat} (hf:TgB a db i tb xb x y) (h:TQ w0 wb w db b o cap ms st tb xb 58 tc (tgtA t)) (hx:∀k,x=some k→k<ms.length)
 (ok:∀a' w',TgB a' db i tb xb x y→TQ w0 wb w' db b o cap ms (wordR (nds ms) x (isName (textR (nds ms) x)) st).2 tb xb 58 tc (tgtA {t with service:=(wordR (nds ms) x (isName (textR (nds ms) x)) st).1})→X.wp Tryz.prog Q a' w'):(Code.seq tg12 X).wp Tryz.prog Q a w:=by
 have Ht:=hid (text_r h.dq x hx);have Hn:=hid (rname_c w (textR (nds ms) x) (textR_size h.dq x hx));have Hw:=hid (word_r h.dq x hx (isName (textR (nds ms) x)));have HT:=hid h;have Hok:=hid ok;generalize (wordR (nds ms) x (isName (textR (nds ms) x)) st)=p at*;obtain ⟨p1,p2⟩:=p;generalize textR (nds ms) x=tx at*;generalize isName tx=nm at*;simp only at Hw Hok;obtain ⟨vv,rfl⟩:=hf.shape;clear hf h ok hx
 dsimp only[tg12,ncs,ncl,ncr,ncb,nco,nct,nce,ncx,Tryz.f91]
 go_wp2_with fail
 refine Ht.out.mono ?_;rintro r w2 ⟨rfl,hw⟩;obtain rfl:=hw.symm;clear Ht
 go_wp2_with fail
 refine Hn.out.mono ?_;rintro r w2 ⟨rfl,hw⟩;obtain rfl:=hw.symm;clear Hn
 go_wp2_with fail
 refine Hw.out.mono ?_;rintro r w2 ⟨rfl,hq,hm⟩;have hT:=HT.out.call hq hm;have x0:=cell_blk hT.xbk 0;have xf:=frozen_blk hT.xbk 0;unfold tgtA at x0;simp at x0;have HE:=hid (hT.put 0 (.string p1) (xc':=tgtA {t with service:=p1}) rfl);clear hq hm Hw HT hT;go_wp2;exact Hok.out _ _ ⟨rfl,rfl,rfl,rfl,rfl,rfl,rfl,rfl⟩ HE.out
theorem tg_spl (X:Code) {x y:Option Nat} (hf:TgB a db i tb xb x y) (h:TQ w0 wb w db b o cap ms st tb xb 58 tc (tgtA t)) (hx:∀k,y=some k→k<ms.length)
 (ok:∀a' w',TgB a' db i tb xb x y→TQ w0 wb w' db b o cap ms (wordR (nds ms) y (isName (textR (nds ms) y)) st).2 tb xb 58 tc (tgtA {t with split:=(wordR (nds ms) y (isName (textR (nds ms) y)) st).1})→X.wp Tryz.prog Q a' w'):(Code.seq tg13 X).wp Tryz.prog Q a w:=by
 have Ht:=hid (text_r h.dq y hx);have Hn:=hid (rname_c w (textR (nds ms) y) (textR_size h.dq y hx));have Hw:=hid (word_r h.dq y hx (isName (textR (nds ms) y)));have HT:=hid h;have Hok:=hid ok;generalize (wordR (nds ms) y (isName (textR (nds ms) y)) st)=p at*;obtain ⟨p1,p2⟩:=p;generalize textR (nds ms) y=tx at*;generalize isName tx=nm at*;simp only at Hw Hok;obtain ⟨vv,rfl⟩:=hf.shape;clear hf h ok hx
 dsimp only[tg13,ncs,ncl,ncr,ncb,nco,nct,nce,ncx,Tryz.f91]
 go_wp2_with fail
 refine Ht.out.mono ?_;rintro r w2 ⟨rfl,hw⟩;obtain rfl:=hw.symm;clear Ht
 go_wp2_with fail
 refine Hn.out.mono ?_;rintro r w2 ⟨rfl,hw⟩;obtain rfl:=hw.symm;clear Hn
 go_wp2_with fail
 refine Hw.out.mono ?_;rintro r w2 ⟨rfl,hq,hm⟩;have hT:=HT.out.call hq hm;have x0:=cell_blk hT.xbk 1;have xf:=frozen_blk hT.xbk 1;unfold tgtA at x0;simp at x0;have HE:=hid (hT.put 1 (.string p1) (xc':=tgtA {t with split:=p1}) rfl);clear hq hm Hw HT hT;go_wp2;exact Hok.out _ _ ⟨rfl,rfl,rfl,rfl,rfl,rfl,rfl,rfl⟩ HE.out
theorem tg_wei (X:Code) {x y:Option Nat} (hf:TgB a db i tb xb x y) (h:TQ w0 wb w db b o cap ms st tb xb 58 tc (tgtA t)) (hi:ms[i]? =some m)
 (ok:∀a' w',TgB a' db i tb xb x y→TQ w0 wb w' db b o cap ms (weightR (nds ms) (needR (nds ms) m.nd kWeight st).1 (needR (nds ms) m.nd kWeight st).2).2 tb xb 58 tc (tgtA {t with weight:=(weightR (nds ms) (needR (nds ms) m.nd kWeight st).1 (needR (nds ms) m.nd kWeight st).2).1})→X.wp Tryz.prog Q a' w'):(Code.seq tg14 X).wp Tryz.prog Q a w:=by
 have hst:= @store_float;have Hn:=hid (need_r h.dq hi kWeight);have hlt:∀k,(needR (nds ms) m.nd kWeight st).1=some k→k<ms.length:=fun k hk=>h.dq.fldlt (List.mem_of_getElem? hi) k (need_lt hk);have Hw:=hid (fun w2 (q:DQ w0 w2 db b o cap ms (needR (nds ms) m.nd kWeight st).2)=>weight_r q _ hlt);have HT:=hid h;have Hok:=hid ok;generalize (weightR (nds ms) (needR (nds ms) m.nd kWeight st).1 (needR (nds ms) m.nd kWeight st).2)=p at*
 obtain ⟨p1,p2⟩:=p;generalize needR (nds ms) m.nd kWeight st=nd at*;obtain ⟨n1,n2⟩:=nd;simp only at Hn Hw Hok;obtain ⟨vv,rfl⟩:=hf.shape;clear hf h ok hlt hi;unfold kWeight at Hn;dsimp only[tg14,ncs,ncl,ncr,ncb,nco,nct,nce,ncx,Tryz.f91]
 go_wp2_with fail
 refine Hn.out.mono ?_;rintro r w2 ⟨rfl,hq,hm⟩;have HT2:=hid (HT.out.call hq hm);have Hw2:=hid (Hw.out w2 hq);clear hq hm Hn HT Hw
 go_wp2_with fail
 refine Hw2.out.mono ?_;rintro r w3 ⟨rfl,hq,hm⟩;have hT:=HT2.out.call hq hm;have x0:=cell_blk hT.xbk 2;have xf:=frozen_blk hT.xbk 2;unfold tgtA at x0;simp at x0;have HE:=hid (hT.put 2 (.float .f64 p1) (xc':=tgtA {t with weight:=p1}) rfl);clear hq hm Hw2 HT2 hT;go_wp2;exact Hok.out _ _ ⟨rfl,rfl,rfl,rfl,rfl,rfl,rfl,rfl⟩ HE.out
theorem tg_end {x y:Option Nat} (hf:TgB a db i tb xb x y) (h:TQ w0 wb w db b o cap ms st tb xb 58 tc (tgtA t)) (htc:∃z,tc=tgtA z)
 (ok:∀a' w',TgB a' db i tb xb x y→TQ w0 wb w' db b o cap ms st tb xb 58 (tgtA t) (tgtA t)→Q .ret a' w'):tgE.wp Tryz.prog Q a w:=by
 have hst:= @store_float;have Hok:=hid ok;obtain ⟨z,rfl⟩:=htc;have x0:=cell_blk h.xbk 0;have x1:=cell_blk h.xbk 1;have x2:=cell_blk h.xbk 2;have y0:=cell_blk h.tbk 0;have y1:=cell_blk h.tbk 1;have y2:=cell_blk h.tbk 2;have yf:=fun j=>frozen_blk h.tbk j;unfold tgtA at x0 x1 x2 y0 y1 y2;simp at x0 x1 x2 y0 y1 y2;obtain ⟨f1,f2⟩:=fault3 h.tbk (.string t.service) (.string t.split) (.float .f64 t.weight)
 have HE:=hid (h.copy f1 f2);obtain ⟨vv,rfl⟩:=hf.shape;clear hf h ok f1 f2;dsimp only[tgE,ncs,ncl,ncr,ncb,nco,nct,nce,ncx,Tryz.f91];go_wp2;exact Hok.out _ _ ⟨rfl,rfl,rfl,rfl,rfl,rfl,rfl,rfl⟩ HE.out
end
noncomputable def tgRest:Code:=(ncr (ncr (ncx Tryz.f91.body)))
theorem tgRest_eq:tgRest=Code.seq tg2 (Code.seq tg4 (Code.seq tg5 (Code.seq tg6 (Code.seq tg8 (Code.seq tg12 (Code.seq tg13 (Code.seq tg14 tgE))))))):=rfl
def tgt0:Tgt:=⟨⟨#[]⟩,⟨#[]⟩,0⟩
def PostT (w0 w:World) (db b o cap:Nat) (ms:List NdM) (p:Tgt×St) (r:Ending) (w':World):Prop:=
 r= .returned (.agg (tgtA p.1))∧DQ w0 w' db b o cap ms p.2∧Mod (fun k=>k=db) w w'
theorem results_tgt {w:World} {b:Nat} {t:Tgt} {tmps:Array Value} (h4:tmps[4]? =some (.pointer (some ⟨b,0,none⟩))) (hb:w.heap[b]? =some (.cells (tgtA t) 58 (0,0))):
 (results Tryz.f91 tmps).run Tryz.prog w= .ok (.agg (tgtA t)) w:=by
 have h1:=run_loadVar_mid (P:= Tryz.prog) w b 0 58 (tgtA t).toList _ (range_blk (l:=(tgtA t).toList) hb) Tryz.underlying58 rfl (show (Tryz.prog.info? 58).map (·.size)=some 3 by kernel_rfl);rw[Array.getElem?_eq_some_iff]at h4;obtain ⟨l4,e4⟩:=h4;simp[results,Tryz.results91,asAddr,Array.getD,l4,e4,h1]
theorem target_r {w0 w:World} {db b o cap i:Nat} {ms:List NdM} {m:NdM} (h:DQ w0 w db b o cap ms none) (hi:ms[i]? =some m):
 Calls Tryz.prog 91 #[.pointer (some ⟨db,0,none⟩),.int .i64 (i:Int)] w (PostT w0 w db b o cap ms (targetR (nds ms) i none)):=by
 have hst:= @store_float;have hni:=nds_at hi;have hw1:∀z,TQ w0 w ((w.alloc (.cells (tgtA z) 58)).alloc (.cells (tgtA z) 58)) db b o cap ms none w.heap.size (w.heap.size+1) 58 (tgtA z) (tgtA z):=fun z=>by
  have hb:Below w.heap.size w ((w.alloc (.cells (tgtA z) 58)).alloc (.cells (tgtA z) 58)):=((Below.refl _ _).alloc (Nat.le_refl _) _).alloc (by simp) _;exact ⟨h.later hb,(mod_below hb).mono (fun _ _ f=>f.elim),alloc2_old _ _ _,alloc2_new _ _ _,Nat.le_refl _,by omega,by omega,lt_of_heap h.doc,h.below.size⟩
 have HQ:=hid (hw1 tgt0);have Hfin:=hid (fun (a':Act) (w':World) (st2:St) (t:Tgt) (tc:Array Value) (e:targetR (nds ms) i none=(t,st2)) (h4:a'.tmps[4]? =some (.pointer (some ⟨w.heap.size,0,none⟩))) (hd:a'.defers=[]) (hq:TQ w0 w w' db b o cap ms st2 w.heap.size (w.heap.size+1) 58 (tgtA t) tc)=>
  show bodyPost Tryz.prog Tryz.f91 (PostT w0 w db b o cap ms (targetR (nds ms) i none)) .ret a' w' from bodyPost_ret (results_tgt h4 hq.tbk) hd ⟨by rw[e],by rw[e];exact hq.dq,hq.mod⟩)
 refine calls_of_wp Tryz.func91 rfl ?_
 show Code.wp _ (Code.seq tg0 (Code.seq tg1 tgRest)) _ _ _
 simp only[Tryz.ntmps91,List.size_toArray,List.length_cons,List.length_nil,Nat.reduceAdd,Nat.reduceSub,Array.replicate_succ,Array.replicate_zero,List.push_toArray,List.append_toArray,List.nil_append,List.cons_append];clear h hw1;generalize bodyPost Tryz.prog Tryz.f91 (PostT w0 w db b o cap ms (targetR (nds ms) i none))=QQ at*
 have HR:=hid (fun (a:Act) (hf:TgA a db i w.heap.size (w.heap.size+1)) (w1:World) (h1:TQ w0 w w1 db b o cap ms none w.heap.size (w.heap.size+1) 58 (tgtA tgt0) (tgtA tgt0))=>show tgRest.wp Tryz.prog QQ a w1 from by
  rw[tgRest_eq];refine tg_map _ hf h1 ⟨_,rfl⟩ hi ?_ ?_
  ·intro a2 w2 st2 he hne hf2 h2;refine Hfin.out _ _ st2 tgt0 _ ?_ hf2.s4 hf2.dfr h2;unfold targetR;rw[hni,he,if_pos hne];rfl
  intro a2 w2 hmap hf2 h2;refine tg_only _ hf2 h2 hi ?_;intro a3 w3 hf3 h3;refine tg_flds _ hf3 h3 hi ?_;intro a4 hf4;have hfl:∀key k,fieldN (nds ms) m.nd key=some k→k<ms.length:=fun key k hk=>h3.dq.fldlt (List.mem_of_getElem? hi) k hk;refine tg_which _ hf4 h3 hi (hfl _) (hfl _) ?_;intro a5 w5 hf5 h5;refine tg_svc _ hf5 h5 (hfl _) ?_;intro a6 w6 hf6 h6;refine tg_spl _ hf6 h6 ?_ ?_
  ·intro k hk
   revert hk
   unfold whichR
   split
   ·nofun
   ·rename_i x y ex ey
    intro hk;injection hk with hk
    split at hk
    ·exact hfl _ _ (by rw[ex,hk])
    ·exact hfl _ _ (by rw[ey,hk])
   ·nofun
   ·rename_i y ex ey
    intro hk;injection hk with hk
    exact hfl _ _ (by rw[ey,hk])
  intro a7 w7 hf7 h7;refine tg_wei _ hf7 h7 hi ?_;intro a8 w8 hf8 h8;refine tg_end hf8 h8 ⟨_,rfl⟩ ?_;intro a9 w9 hf9 h9;refine Hfin.out _ _ _ _ _ ?_ hf9.s4 hf9.dfr h9;unfold targetR;rw[hni,hmap,if_neg (fun q=>q rfl)];unfold targetT;simp only[hni])
 unfold tgtA tgt0 at HQ;dsimp only[tg0,tg1,ncs,ncl,ncr,ncb,nco,nct,nce,ncx,Tryz.f91];go_wp2;exact HR.out _ ⟨rfl,rfl,rfl,rfl,rfl,rfl⟩ _ HQ.out
end Go.Proofs.YtfenoaeoedobmaaGreatDoor
