/-
Parts of a proof, one behind the other (laid dense by a program of mine: pack.py).
-/
import Derived.Test.YtfenoaeoedobmaaGreatDoorRd39
set_option linter.unusedVariables false
set_option linter.unusedSimpArgs false
set_option maxHeartbeats 4000000
set_option maxRecDepth 20000
namespace Go.Proofs.YtfenoaeoedobmaaGreatDoor
open Go Go.RowKit
theorem pre_two {s:ByteArray} (h:2<s.size):((s.extract 0 2).toList==[42,46])=Lib.hasPrefix s.data.toList [42,46]:=by
 have hl:s.data.toList.length=s.size:=len_str s;rw[Lib.toList_data,ext_listB];unfold Lib.hasPrefix;rw[List.drop_zero];cases hs:s.data.toList with
 |nil=>rw[hs]at hl;simp at hl;omega
 |cons a r=>
  cases r with
  |nil=>rw[hs]at hl;simp at hl;omega
  |cons b t=>
   show ([a,b]==[42,46])=(42==a&&(46==b&&List.isPrefixOf [] t))
   have e:List.isPrefixOf ([]:List UInt8) t=true:=by cases t<;>rfl
   rw[e,Bool.and_true];by_cases ha:a=42
   ·by_cases hb:b=46
    ·rw[ha,hb];rfl
    ·rw[beq_eq_false_iff_ne.2 (fun q=>hb q.symm:(46:UInt8)≠b),Bool.and_false];exact beq_eq_false_iff_ne.2 (fun q=>hb (by injection q with _ q;injection q))
   ·rw[beq_eq_false_iff_ne.2 (fun q=>ha q.symm:(42:UInt8)≠a),Bool.false_and];exact beq_eq_false_iff_ne.2 (fun q=>ha (by injection q))
theorem ret_is {a b:Int×ByteArray} (h:a=b):Ending.returned (.tuple #[.int .i64 a.1,.string a.2])= .returned (.tuple #[.int .i64 b.1,.string b.2]):=by rw[h]
theorem rsort_c (w:World) (s:ByteArray) (hs:s.size≤1048576):
 Calls Tryz.prog 131 #[.string s] w fun r w'=>r= .returned (.tuple #[.int .i64 (sortR s).1,.string (sortR s).2])∧Below w.heap.size w w':=by
 cases hst:(s.toList==[42]) with
 |true=>
  have He:=hid (show (3,⟨#[]⟩)=sortR s by unfold sortR;rw[if_pos hst]);clear hs;go_enter Tryz.func131,Tryz.ntmps131;go_wp2
  go_ret2
  exact ⟨ret_is He.out,Below.refl _ _⟩
 |false=>
  by_cases h2:2<s.size
  ·have hpre:=pre_two h2;have t1:decide (2<(s.size:Int))=true:=dT (by omega);have b2:(2:Int)≤(s.size:Int):=by omega
   cases hp:Lib.hasPrefix s.data.toList [42,46] with
   |true=>
    rw[hp]at hpre;have Hf:=hid (rfolded_c w (s.extract 2 s.size) (by rw[ByteArray.size_extract];omega));unfold foldPost at Hf;have hv:sortR s=if (foldV (s.extract 2 s.size)).2=true then (2,(foldV (s.extract 2 s.size)).1) else (4,s):=by
     unfold sortR;rw[if_neg (by rw[hst];decide),if_pos ⟨h2,hp⟩]
    have Hv:=hid hv;clear hs h2 hp hv;generalize sortR s=sv at*;generalize foldV (s.extract 2 s.size)=fv at*;obtain ⟨f1,f2⟩:=fv;cases f2 with
    |true=>
     have He:=hid (show (2,f1)=sv from Hv.out.symm);clear Hv;go_enter Tryz.func131,Tryz.ntmps131
     go_wp2_with fail
     refine Hf.out.mono ?_;rintro r w1 ⟨rfl,hb⟩;have Hb:=hid hb;clear hb Hf;go_wp2
     go_ret2
     exact ⟨ret_is He.out,Hb.out⟩
    |false=>
     have He:=hid (show (4,s)=sv from Hv.out.symm);clear Hv;go_enter Tryz.func131,Tryz.ntmps131
     go_wp2_with fail
     refine Hf.out.mono ?_;rintro r w1 ⟨rfl,hb⟩;have Hb:=hid hb;clear hb Hf;go_wp2
     go_ret2
     exact ⟨ret_is He.out,Hb.out⟩
   |false=>
    rw[hp]at hpre;have Hf:=hid (rfolded_c w s hs);unfold foldPost at Hf;have hv:sortR s=if (foldV s).2=true then (1,(foldV s).1) else (4,s):=by
     unfold sortR;rw[if_neg (by rw[hst];decide),if_neg (fun q=>by rw[hp]at q;cases q.2)]
    have Hv:=hid hv;clear hs h2 hp hv;generalize sortR s=sv at*;generalize foldV s=fv at*;obtain ⟨f1,f2⟩:=fv;cases f2 with
    |true=>
     have He:=hid (show (1,f1)=sv from Hv.out.symm);clear Hv;go_enter Tryz.func131,Tryz.ntmps131
     go_wp2_with fail
     refine Hf.out.mono ?_;rintro r w1 ⟨rfl,hb⟩;have Hb:=hid hb;clear hb Hf;go_wp2
     go_ret2
     exact ⟨ret_is He.out,Hb.out⟩
    |false=>
     have He:=hid (show (4,s)=sv from Hv.out.symm);clear Hv;go_enter Tryz.func131,Tryz.ntmps131
     go_wp2_with fail
     refine Hf.out.mono ?_;rintro r w1 ⟨rfl,hb⟩;have Hb:=hid hb;clear hb Hf;go_wp2
     go_ret2
     exact ⟨ret_is He.out,Hb.out⟩
  ·have t1:decide (2<(s.size:Int))=false:=dF (by omega);have Hf:=hid (rfolded_c w s hs);unfold foldPost at Hf;have hv:sortR s=if (foldV s).2=true then (1,(foldV s).1) else (4,s):=by
    unfold sortR;rw[if_neg (by rw[hst];decide),if_neg (fun q=>h2 q.1)]
   have Hv:=hid hv;clear hs h2 hv;generalize sortR s=sv at*;generalize foldV s=fv at*;obtain ⟨f1,f2⟩:=fv;cases f2 with
   |true=>
    have He:=hid (show (1,f1)=sv from Hv.out.symm);clear Hv;go_enter Tryz.func131,Tryz.ntmps131
    go_wp2_with fail
    refine Hf.out.mono ?_;rintro r w1 ⟨rfl,hb⟩;have Hb:=hid hb;clear hb Hf;go_wp2
    go_ret2
    exact ⟨ret_is He.out,Hb.out⟩
   |false=>
    have He:=hid (show (4,s)=sv from Hv.out.symm);clear Hv;go_enter Tryz.func131,Tryz.ntmps131
    go_wp2_with fail
    refine Hf.out.mono ?_;rintro r w1 ⟨rfl,hb⟩;have Hb:=hid hb;clear hb Hf;go_wp2
    go_ret2
    exact ⟨ret_is He.out,Hb.out⟩
theorem rhost_c (w:World) (s:ByteArray) (hs:s.size≤1048576):
 Calls Tryz.prog 93 #[.string s] w fun r w'=>r= .returned (.bool (hostB s))∧Below w.heap.size w w':=by
 have Hh:=hid (rsort_c w s hs);rw[←sortR_host];obtain ⟨z,hz⟩:∃z,z=(sortR s).1:=⟨_,rfl⟩;rw[←hz]at Hh ⊢;clear hz hs;go_enter Tryz.func93,Tryz.ntmps93
 go_wp2_with fail
 refine Hh.out.mono ?_;rintro r w1 ⟨rfl,hb⟩;have Hb:=hid hb;clear hb Hh;go_wp2;go_ret;exact ⟨rfl,Hb.out⟩
theorem listR_low {w0 w:World} {db b o cap:Nat} {ms:List NdM} {st0:St} (h:DQ w0 w db b o cap ms st0) {x:Option Nat} (hx:∀k,x=some k→k<ms.length) (least most:Nat) (st:St):(∀z∈(listR (nds ms) x least most st).1,0≤z∧z<(ms.length:Int))∧(listR (nds ms) x least most st).1.length≤most:=by
 cases x with
 |none=>cases st<;>exact ⟨nofun,Nat.zero_le _⟩
 |some k=>
  cases st with
  |some e=>exact ⟨nofun,Nat.zero_le _⟩
  |none=>
   obtain ⟨mk,hk⟩:∃mk,ms[k]? =some mk:=at_of_lt (hx k rfl);have hm:=h.mapOk (List.mem_of_getElem? hk);have hw:listR (nds ms) (some k) least most none=if mk.nd.kind≠3 then ([],some (mk.nd.line,123)) else if mk.nd.kids.length<least∨most<mk.nd.kids.length then ([],some (mk.nd.line,124)) else (mk.nd.kids,none):=by
    show (if ((nds ms)[k]!).kind≠3 then _ else if ((nds ms)[k]!).kids.length<least∨most<((nds ms)[k]!).kids.length then _ else _)=_
    rw[nds_at hk]
   rw[hw]
   split
   ·exact ⟨nofun,Nat.zero_le _⟩
   ·split
    ·exact ⟨nofun,Nat.zero_le _⟩
    ·refine ⟨fun z hz=> ?_,by simp only;omega⟩;have:=hm.low z hz;rw[nds_len]at this;exact this
theorem wordR_size {ns:List Nd} {x:Option Nat} {so:Bool} {st:St} {M:Nat} (h:(textR ns x).size≤M):(wordR ns x so st).1.size≤M:=by
 cases x with
 |none=>cases st<;>exact Nat.zero_le _
 |some k=>
  cases st with
  |some e=>exact Nat.zero_le _
  |none=>
   show (if (ns[k]!).kind≠1∨so=false then ((⟨#[]⟩:ByteArray),some ((ns[k]!).line,123)) else ((ns[k]!).text,none)).1.size≤M
   split
   ·exact Nat.zero_le _
   ·exact h
theorem endpR_len (ns:List Nd):∀(L:List Int) (out:List ByteArray) (st:St),(endpR ns L out st).1.length=out.length+L.length
 |[],out,st=>rfl
 |k::r,out,st=>by
  rw[endpR,endpR_len ns r,List.length_append];simp only[List.length_cons,List.length_nil];omega
theorem targetsR_len (ns:List Nd):∀(L:List Int) (out:List Tgt) (st:St),(targetsR ns L out st).1.length≤out.length+L.length
 |[],out,st=>Nat.le_refl _
 |k::r,out,some e=>by rw[targetsR];simp
 |k::r,out,none=>by
  rw[targetsR];refine Nat.le_trans (targetsR_len ns r _ _) ?_;rw[List.length_append];simp only[List.length_cons,List.length_nil];omega
theorem rulesR_len (ns:List Nd) (act:Bool):∀(L:List Int) (out:List Rul) (st:St),(rulesR ns act L out st).1.length≤out.length+L.length
 |[],out,st=>Nat.le_refl _
 |k::r,out,some e=>by rw[rulesR];simp
 |k::r,out,none=>by
  rw[rulesR];refine Nat.le_trans (rulesR_len ns act r _ _) ?_;rw[List.length_append];simp only[List.length_cons,List.length_nil];omega
theorem strs4 (w:World) (x y z u:ByteArray):SlR (w.alloc (.cells #[.string x,.string y,.string z,.string u] 9)) (.slice (some ⟨w.heap.size,0,none⟩) 4 4) 1 [x,y,z,u] strCell:=by
 refine ⟨_,_,rfl,by simp,fun _=>⟨_,_,rfl,by simp,?_⟩⟩;intro i s hi j v hj;have hn:=alloc_new (w:=w) (.cells #[.string x,.string y,.string z,.string u] 9);rw[cell_blk hn]
 match i,j,hi,hj with
 |0,0,hi,hj=>cases hi;cases hj;rfl
 |1,0,hi,hj=>cases hi;cases hj;rfl
 |2,0,hi,hj=>cases hi;cases hj;rfl
 |3,0,hi,hj=>cases hi;cases hj;rfl
theorem postL_open {w0 w w':World} {db b o cap:Nat} {ms:List NdM} {p:List Int×St} {r:Ending} (h:PostL w0 w db b o cap ms p r w'):∃la lc,r= .returned (.slice la p.1.length lc)∧LsI w0 la p.1.length lc p.1∧DQ w0 w' db b o cap ms p.2∧Mod (fun k=>k=db) w w':=by
 obtain ⟨⟨v,hr,hs⟩,hd,hm⟩:=h;have hs2:=hs;obtain ⟨la,lc,hv,_⟩:=hs;rw[hv]at hs2;exact ⟨la,lc,by rw[hr,hv],⟨rfl,hs2⟩,hd,hm⟩
noncomputable def rqb1:Code:=(ncl (ncb (ncr (ncx Tryz.f62.body))))
noncomputable def rqe14:Code:=(ncl (nce (ncr (ncb (ncr (ncx Tryz.f62.body))))))
noncomputable def rqe21:Code:=(ncl (ncl (nce (ncr (nce (ncr (ncb (ncr (ncx Tryz.f62.body)))))))))
noncomputable def rqe22:Code:=(nce (ncr (ncl (nce (ncr (nce (ncr (ncb (ncr (ncx Tryz.f62.body))))))))))
noncomputable def rqv24:Code:=(ncl (ncl (ncr (nct (ncr (nce (ncr (nce (ncr (ncb (ncr (ncx Tryz.f62.body))))))))))))
noncomputable def rqv25:Code:=(ncl (nct (ncr (ncl (ncr (nct (ncr (nce (ncr (nce (ncr (ncb (ncr (ncx Tryz.f62.body))))))))))))))
noncomputable def rqv26:Code:=(ncl (ncr (nct (ncr (ncl (ncr (nct (ncr (nce (ncr (nce (ncr (ncb (ncr (ncx Tryz.f62.body)))))))))))))))
noncomputable def rqv27:Code:=(ncr (ncr (nct (ncr (ncl (ncr (nct (ncr (nce (ncr (nce (ncr (ncb (ncr (ncx Tryz.f62.body)))))))))))))))
noncomputable def rqv28:Code:=(ncl (nce (ncr (ncl (ncr (nct (ncr (nce (ncr (nce (ncr (ncb (ncr (ncx Tryz.f62.body))))))))))))))
noncomputable def rqv29:Code:=(ncl (ncr (nce (ncr (ncl (ncr (nct (ncr (nce (ncr (nce (ncr (ncb (ncr (ncx Tryz.f62.body)))))))))))))))
noncomputable def rqv30:Code:=(ncl (ncr (ncr (nce (ncr (ncl (ncr (nct (ncr (nce (ncr (nce (ncr (ncb (ncr (ncx Tryz.f62.body))))))))))))))))
noncomputable def rqv31:Code:=(ncr (ncr (ncr (nce (ncr (ncl (ncr (nct (ncr (nce (ncr (nce (ncr (ncb (ncr (ncx Tryz.f62.body))))))))))))))))
structure RqL (a:Act) (db:Nat) (rb:Nat) (lk:ByteArray):Prop where
 size:a.tmps.size=200
 dfr:a.defers=[]
 s0:a.tmps[0]? =some (.pointer (some ⟨db,0,none⟩))
 s1:a.tmps[1]? =some (.pointer (some ⟨rb,0,none⟩))
 s10:a.tmps[10]? =some (.string lk)
theorem RqL.shape {a:Act} {db:Nat} {rb:Nat} {lk:ByteArray} (h:RqL a db rb lk):∃v:Nat→Value,a=⟨#[.pointer (some ⟨db,0,none⟩),.pointer (some ⟨rb,0,none⟩),v 2,v 3,v 4,v 5,v 6,v 7,v 8,v 9,.string lk,v 11,v 12,v 13,v 14,v 15,v 16,v 17,v 18,v 19,v 20,v 21,v 22,v 23,v 24,v 25,v 26,v 27,v 28,v 29,v 30,v 31,v 32,v 33,v 34,v 35,v 36,v 37,v 38,v 39,v 40,v 41,v 42,v 43,v 44,v 45,v 46,v 47,v 48,v 49,v 50,v 51,v 52,v 53,v 54,v 55,v 56,v 57,v 58,v 59,v 60,v 61,v 62,v 63,v 64,v 65,v 66,v 67,v 68,v 69,v 70,v 71,v 72,v 73,v 74,v 75,v 76,v 77,v 78,v 79,v 80,v 81,v 82,v 83,v 84,v 85,v 86,v 87,v 88,v 89,v 90,v 91,v 92,v 93,v 94,v 95,v 96,v 97,v 98,v 99,v 100,v 101,v 102,v 103,v 104,v 105,v 106,v 107,v 108,v 109,v 110,v 111,v 112,v 113,v 114,v 115,v 116,v 117,v 118,v 119,v 120,v 121,v 122,v 123,v 124,v 125,v 126,v 127,v 128,v 129,v 130,v 131,v 132,v 133,v 134,v 135,v 136,v 137,v 138,v 139,v 140,v 141,v 142,v 143,v 144,v 145,v 146,v 147,v 148,v 149,v 150,v 151,v 152,v 153,v 154,v 155,v 156,v 157,v 158,v 159,v 160,v 161,v 162,v 163,v 164,v 165,v 166,v 167,v 168,v 169,v 170,v 171,v 172,v 173,v 174,v 175,v 176,v 177,v 178,v 179,v 180,v 181,v 182,v 183,v 184,v 185,v 186,v 187,v 188,v 189,v 190,v 191,v 192,v 193,v 194,v 195,v 196,v 197,v 198,v 199],[]⟩:=by
 obtain ⟨v,hv,hd⟩:=rq_act a h.size h.dfr;have e0:=hv 0 _ h.s0;have e1:=hv 1 _ h.s1;have e10:=hv 10 _ h.s10;refine ⟨v,?_⟩;rw[hd];simp only[e0,e1,e10]
section
variable {w0 wb w:World} {Q:Exit→Act→World→Prop} {a:Act} {ms:List NdM} {st:St} {db b o cap rb f:Nat} {pre:Value→Array Value} {e sz:Nat} {v:Value} {n:Nat} {xs:List Value} {m0:NdM}
theorem rq_only1 (X:Code) (hf:RqA a db rb) (h:RQ w0 wb w db b o cap ms st rb f pre e sz v n xs) (h0:ms[0]? =some m0)
 (ok:∀a' w',RqA a' db rb→RQ w0 wb w' db b o cap ms (onlyR (nds ms) [kKind,kName,kEndpoints] m0.nd.kids st) rb f pre e sz v n xs→X.wp Tryz.prog Q a' w'):(Code.seq rqs2 X).wp Tryz.prog Q a w:=by
 have hb1:=(Below.refl w.heap.size w).alloc (Nat.le_refl _) (.cells #[.string kKind,.string kName,.string kEndpoints] 9);have HT:=hid (h.later hb1);have hlt:=lt_of_heap h.dq.doc;have Ho:=hid (only_r (i:=0) (h.later hb1).dq h0 _ _ (strs3 w kKind kName kEndpoints) (fun g hg e=>by injection hg with hg;have hg2:w.heap.size=g:=hg;omega));have Hok:=hid ok;obtain ⟨vv,rfl⟩:=hf.shape;clear hf h ok hb1 hlt h0
 generalize onlyR (nds ms) [kKind,kName,kEndpoints] m0.nd.kids st=s2 at*;unfold kKind kName kEndpoints at Ho HT;dsimp only[rqs2,ncs,ncl,ncr,ncb,nco,nct,nce,ncx,Tryz.f62]
 go_wp2_with fail
 refine Ho.out.mono ?_;rintro r w2 ⟨rfl,hq,hm⟩;have HE:=hid (HT.out.call hq hm);clear hq hm Ho HT;go_wp2;exact Hok.out _ _ ⟨rfl,rfl,rfl,rfl⟩ HE.out
theorem rq_only2 (X:Code) (hf:RqA a db rb) (h:RQ w0 wb w db b o cap ms st rb f pre e sz v n xs) (h0:ms[0]? =some m0)
 (ok:∀a' w',RqA a' db rb→RQ w0 wb w' db b o cap ms (onlyR (nds ms) [kKind,kName,kTargets] m0.nd.kids st) rb f pre e sz v n xs→X.wp Tryz.prog Q a' w'):(Code.seq rqt15 X).wp Tryz.prog Q a w:=by
 have hb1:=(Below.refl w.heap.size w).alloc (Nat.le_refl _) (.cells #[.string kKind,.string kName,.string kTargets] 9);have HT:=hid (h.later hb1);have hlt:=lt_of_heap h.dq.doc;have Ho:=hid (only_r (i:=0) (h.later hb1).dq h0 _ _ (strs3 w kKind kName kTargets) (fun g hg e=>by injection hg with hg;have hg2:w.heap.size=g:=hg;omega));have Hok:=hid ok;obtain ⟨vv,rfl⟩:=hf.shape;clear hf h ok hb1 hlt h0
 generalize onlyR (nds ms) [kKind,kName,kTargets] m0.nd.kids st=s2 at*;unfold kKind kName kTargets at Ho HT;dsimp only[rqt15,ncs,ncl,ncr,ncb,nco,nct,nce,ncx,Tryz.f62]
 go_wp2_with fail
 refine Ho.out.mono ?_;rintro r w2 ⟨rfl,hq,hm⟩;have HE:=hid (HT.out.call hq hm);clear hq hm Ho HT;go_wp2;exact Hok.out _ _ ⟨rfl,rfl,rfl,rfl⟩ HE.out
theorem rq_lst1 (X:Code) (hf:RqA a db rb) (h:RQ w0 wb w db b o cap ms st rb f pre e sz v n xs) (h0:ms[0]? =some m0)
 (ok:∀a' w' la lc,RqS a' db rb la (listR (nds ms) (fieldN (nds ms) m0.nd kEndpoints) 0 16 st).1.length lc 0→LsI w0 la (listR (nds ms) (fieldN (nds ms) m0.nd kEndpoints) 0 16 st).1.length lc (listR (nds ms) (fieldN (nds ms) m0.nd kEndpoints) 0 16 st).1→RQ w0 wb w' db b o cap ms (listR (nds ms) (fieldN (nds ms) m0.nd kEndpoints) 0 16 st).2 rb f pre e sz v n xs→X.wp Tryz.prog Q a' w'):(Code.seq rqs3 (Code.seq rqs4 X)).wp Tryz.prog Q a w:=by
 have Hn:=hid (field_r (i:=0) h.dq h0 kEndpoints);have hlt:∀k,(fieldN (nds ms) m0.nd kEndpoints)=some k→k<ms.length:=fun k hk=>h.dq.fldlt (List.mem_of_getElem? h0) k hk;have Hl:=hid (list_r h.dq _ hlt 0 16 (by decide) (by decide));have HT:=hid h;have Hok:=hid ok;generalize (listR (nds ms) (fieldN (nds ms) m0.nd kEndpoints) 0 16 st)=LL at*;generalize fieldN (nds ms) m0.nd kEndpoints=n1 at*;unfold kEndpoints at Hn
 obtain ⟨vv,rfl⟩:=hf.shape;clear hf h ok hlt h0;dsimp only[rqs3,rqs4,ncs,ncl,ncr,ncb,nco,nct,nce,ncx,Tryz.f62]
 go_wp2_with fail
 refine Hn.out.mono ?_;rintro r w2 ⟨rfl,hw⟩;obtain rfl:=hw.symm;have HT2:=HT;have Hl2:=Hl;clear Hn HT Hl
 go_wp2_with fail
 refine Hl2.out.mono ?_;intro r w3 hp;obtain ⟨la,lc,rfl,hL,hq,hm⟩:=postL_open hp;have HE:=hid (And.intro hL (HT2.out.call hq hm));clear hq hm Hl2 HT2 hp hL;go_wp2;exact Hok.out _ _ la lc ⟨rfl,rfl,rfl,rfl,rfl,rfl⟩ HE.out.1 HE.out.2
theorem rq_lst2 (X:Code) (hf:RqA a db rb) (h:RQ w0 wb w db b o cap ms st rb f pre e sz v n xs) (h0:ms[0]? =some m0)
 (ok:∀a' w' la lc,RqT a' db rb la (listR (nds ms) (needR (nds ms) m0.nd kTargets st).1 1 8 (needR (nds ms) m0.nd kTargets st).2).1.length lc 0→LsI w0 la (listR (nds ms) (needR (nds ms) m0.nd kTargets st).1 1 8 (needR (nds ms) m0.nd kTargets st).2).1.length lc (listR (nds ms) (needR (nds ms) m0.nd kTargets st).1 1 8 (needR (nds ms) m0.nd kTargets st).2).1→RQ w0 wb w' db b o cap ms (listR (nds ms) (needR (nds ms) m0.nd kTargets st).1 1 8 (needR (nds ms) m0.nd kTargets st).2).2 rb f pre e sz v n xs→X.wp Tryz.prog Q a' w'):(Code.seq rqt16 (Code.seq rqt17 X)).wp Tryz.prog Q a w:=by
 have Hn:=hid (need_r (i:=0) h.dq h0 kTargets);have hlt:∀k,(needR (nds ms) m0.nd kTargets st).1=some k→k<ms.length:=fun k hk=>h.dq.fldlt (List.mem_of_getElem? h0) k (need_lt hk);have Hl:=hid (fun w2 (q:DQ w0 w2 db b o cap ms (needR (nds ms) m0.nd kTargets st).2)=>list_r q _ hlt 1 8 (by decide) (by decide));have HT:=hid h;have Hok:=hid ok;generalize (listR (nds ms) (needR (nds ms) m0.nd kTargets st).1 1 8 (needR (nds ms) m0.nd kTargets st).2)=LL at*
 generalize needR (nds ms) m0.nd kTargets st=nd at*;obtain ⟨n1,n2⟩:=nd;simp only at Hn Hl;unfold kTargets at Hn;obtain ⟨vv,rfl⟩:=hf.shape;clear hf h ok hlt h0;dsimp only[rqt16,rqt17,ncs,ncl,ncr,ncb,nco,nct,nce,ncx,Tryz.f62]
 go_wp2_with fail
 refine Hn.out.mono ?_;rintro r w2 ⟨rfl,hq,hm⟩;have HT2:=hid (HT.out.call hq hm);have Hl2:=hid (Hl.out w2 hq);clear hq hm Hn HT Hl
 go_wp2_with fail
 refine Hl2.out.mono ?_;intro r w3 hp;obtain ⟨la,lc,rfl,hL,hq,hm⟩:=postL_open hp;have HE:=hid (And.intro hL (HT2.out.call hq hm));clear hq hm Hl2 HT2 hp hL;go_wp2;exact Hok.out _ _ la lc ⟨rfl,rfl,rfl,rfl,rfl,rfl⟩ HE.out.1 HE.out.2
theorem rq_lst3 (X:Code) {lk:ByteArray} (hf:RqL a db rb lk) (h:RQ w0 wb w db b o cap ms st rb f pre e sz v n xs) (h0:ms[0]? =some m0)
 (ok:∀a' w' la lc,RqU a' db rb la (listR (nds ms) (needR (nds ms) m0.nd kRules st).1 1 16 (needR (nds ms) m0.nd kRules st).2).1.length lc 0 lk→LsI w0 la (listR (nds ms) (needR (nds ms) m0.nd kRules st).1 1 16 (needR (nds ms) m0.nd kRules st).2).1.length lc (listR (nds ms) (needR (nds ms) m0.nd kRules st).1 1 16 (needR (nds ms) m0.nd kRules st).2).1→RQ w0 wb w' db b o cap ms (listR (nds ms) (needR (nds ms) m0.nd kRules st).1 1 16 (needR (nds ms) m0.nd kRules st).2).2 rb f pre e sz v n xs→X.wp Tryz.prog Q a' w'):(Code.seq rqu32 (Code.seq rqu33 X)).wp Tryz.prog Q a w:=by
 have Hn:=hid (need_r (i:=0) h.dq h0 kRules);have hlt:∀k,(needR (nds ms) m0.nd kRules st).1=some k→k<ms.length:=fun k hk=>h.dq.fldlt (List.mem_of_getElem? h0) k (need_lt hk);have Hl:=hid (fun w2 (q:DQ w0 w2 db b o cap ms (needR (nds ms) m0.nd kRules st).2)=>list_r q _ hlt 1 16 (by decide) (by decide));have HT:=hid h;have Hok:=hid ok;generalize (listR (nds ms) (needR (nds ms) m0.nd kRules st).1 1 16 (needR (nds ms) m0.nd kRules st).2)=LL at*
 generalize needR (nds ms) m0.nd kRules st=nd at*;obtain ⟨n1,n2⟩:=nd;simp only at Hn Hl;unfold kRules at Hn;obtain ⟨vv,rfl⟩:=hf.shape;clear hf h ok hlt h0;dsimp only[rqu32,rqu33,ncs,ncl,ncr,ncb,nco,nct,nce,ncx,Tryz.f62]
 go_wp2_with fail
 refine Hn.out.mono ?_;rintro r w2 ⟨rfl,hq,hm⟩;have HT2:=hid (HT.out.call hq hm);have Hl2:=hid (Hl.out w2 hq);clear hq hm Hn HT Hl
 go_wp2_with fail
 refine Hl2.out.mono ?_;intro r w3 hp;obtain ⟨la,lc,rfl,hL,hq,hm⟩:=postL_open hp;have HE:=hid (And.intro hL (HT2.out.call hq hm));clear hq hm Hl2 HT2 hp hL;go_wp2;exact Hok.out _ _ la lc ⟨rfl,rfl,rfl,rfl,rfl,rfl,rfl⟩ HE.out.1 HE.out.2
theorem rq_host {pre2:Value→Array Value} (hf:RqL a db rb kSplit) (h:RQ w0 wb w db b o cap ms st rb f pre e sz v n xs) (hc:(pre v)[4]? =some (.string ⟨#[]⟩)) (h0:ms[0]? =some m0)
 (hp2:(pre v).setIfInBounds 4 (.string (foldB (wordR (nds ms) (needR (nds ms) m0.nd kHost (onlyR (nds ms) [kKind,kName,kHost,kRules] m0.nd.kids st)).1 (hostB (textR (nds ms) (needR (nds ms) m0.nd kHost (onlyR (nds ms) [kKind,kName,kHost,kRules] m0.nd.kids st)).1)) (needR (nds ms) m0.nd kHost (onlyR (nds ms) [kKind,kName,kHost,kRules] m0.nd.kids st)).2).1))=pre2 v) (hs2:∀v v',(pre2 v).setIfInBounds f v'=pre2 v')
 (ok:∀a' w',RqL a' db rb kSplit→RQ w0 wb w' db b o cap ms (wordR (nds ms) (needR (nds ms) m0.nd kHost (onlyR (nds ms) [kKind,kName,kHost,kRules] m0.nd.kids st)).1 (hostB (textR (nds ms) (needR (nds ms) m0.nd kHost (onlyR (nds ms) [kKind,kName,kHost,kRules] m0.nd.kids st)).1)) (needR (nds ms) m0.nd kHost (onlyR (nds ms) [kKind,kName,kHost,kRules] m0.nd.kids st)).2).2 rb f pre2 e sz v n xs→Q .normal a' w'):(Code.seq rqv25 (Code.seq rqv26 rqv27)).wp Tryz.prog Q a w:=by
 have hb1:=(Below.refl w.heap.size w).alloc (Nat.le_refl _) (.cells #[.string kKind,.string kName,.string kHost,.string kRules] 9);have HT:=hid (h.later hb1);have hlt0:=lt_of_heap h.dq.doc;have Ho:=hid (only_r (i:=0) (h.later hb1).dq h0 _ _ (strs4 w kKind kName kHost kRules) (fun g hg e=>by injection hg with hg;have hg2:w.heap.size=g:=hg;omega));have Hn:=hid (fun w2 (q:DQ w0 w2 db b o cap ms (onlyR (nds ms) [kKind,kName,kHost,kRules] m0.nd.kids st))=>need_r (i:=0) q h0 kHost)
 have hlt:∀k,(needR (nds ms) m0.nd kHost (onlyR (nds ms) [kKind,kName,kHost,kRules] m0.nd.kids st)).1=some k→k<ms.length:=fun k hk=>h.dq.fldlt (List.mem_of_getElem? h0) k (need_lt hk);have Ht:=hid (fun w2 (q:DQ w0 w2 db b o cap ms (needR (nds ms) m0.nd kHost (onlyR (nds ms) [kKind,kName,kHost,kRules] m0.nd.kids st)).2)=>text_r q _ hlt);have Hp:=hid (fun w2=>rhost_c w2 (textR (nds ms) (needR (nds ms) m0.nd kHost (onlyR (nds ms) [kKind,kName,kHost,kRules] m0.nd.kids st)).1) (textR_size h.dq _ hlt))
 have Hw:=hid (fun w2 (q:DQ w0 w2 db b o cap ms (needR (nds ms) m0.nd kHost (onlyR (nds ms) [kKind,kName,kHost,kRules] m0.nd.kids st)).2)=>word_r q _ hlt (hostB (textR (nds ms) (needR (nds ms) m0.nd kHost (onlyR (nds ms) [kKind,kName,kHost,kRules] m0.nd.kids st)).1)));have Hfo:=hid (fun w2=>rfold_c w2 (wordR (nds ms) (needR (nds ms) m0.nd kHost (onlyR (nds ms) [kKind,kName,kHost,kRules] m0.nd.kids st)).1 (hostB (textR (nds ms) (needR (nds ms) m0.nd kHost (onlyR (nds ms) [kKind,kName,kHost,kRules] m0.nd.kids st)).1)) (needR (nds ms) m0.nd kHost (onlyR (nds ms) [kKind,kName,kHost,kRules] m0.nd.kids st)).2).1 (wordR_size (textR_size h.dq _ hlt)))
 have HP2:=hid hp2;have HS2:=hid hs2;have Hc:=hid hc;have Hok:=hid ok;generalize (wordR (nds ms) (needR (nds ms) m0.nd kHost (onlyR (nds ms) [kKind,kName,kHost,kRules] m0.nd.kids st)).1 (hostB (textR (nds ms) (needR (nds ms) m0.nd kHost (onlyR (nds ms) [kKind,kName,kHost,kRules] m0.nd.kids st)).1)) (needR (nds ms) m0.nd kHost (onlyR (nds ms) [kKind,kName,kHost,kRules] m0.nd.kids st)).2)=p at*;obtain ⟨p1,p2⟩:=p
 generalize (needR (nds ms) m0.nd kHost (onlyR (nds ms) [kKind,kName,kHost,kRules] m0.nd.kids st))=nd at*;obtain ⟨n1,n2⟩:=nd;generalize (onlyR (nds ms) [kKind,kName,kHost,kRules] m0.nd.kids st)=s1 at*;simp only at Hn Hw Hok Ht Hp HP2 Hfo;generalize textR (nds ms) n1=tx at*;generalize hostB tx=bm at*;obtain ⟨vv,rfl⟩:=hf.shape;clear hf h ok hb1 hlt0 hlt h0 hp2 hs2 hc;unfold kHost at Hn;unfold kKind kName kHost kRules at Ho HT
 unfold kSplit at*;dsimp only[rqv25,rqv26,rqv27,ncs,ncl,ncr,ncb,nco,nct,nce,ncx,Tryz.f62]
 go_wp2_with fail
 refine Ho.out.mono ?_;rintro r w1 ⟨rfl,hq,hm⟩;have HT1:=hid (HT.out.call hq hm);have Hn1:=hid (Hn.out w1 hq);clear hq hm Ho HT Hn
 go_wp2_with fail
 refine Hn1.out.mono ?_;rintro r w2 ⟨rfl,hq,hm⟩;have HT2:=hid (HT1.out.call hq hm);have Ht2:=hid (Ht.out w2 hq);have HQ2:=hid hq;clear hq hm Hn1 HT1 Ht
 go_wp2_with fail
 refine Ht2.out.mono ?_;rintro r w3 ⟨rfl,hw⟩;obtain rfl:=hw.symm;clear Ht2
 go_wp2_with fail
 refine (Hp.out _).mono ?_;rintro r w3 ⟨rfl,hb⟩;have HT3:=hid (HT2.out.later hb);have Hw3:=hid (Hw.out w3 (HQ2.out.later hb));clear hb Hp HT2 HQ2 Hw
 go_wp2_with fail
 refine Hw3.out.mono ?_;rintro r w4 ⟨rfl,hq,hm⟩;have HT4:=hid (HT3.out.call hq hm);clear hq hm Hw3 HT3
 go_wp2_with fail
 refine (Hfo.out _).mono ?_;rintro r w5 ⟨rfl,hb⟩;have hT:=HT4.out.later hb;clear hb Hfo HT4;have x0:=(cell_blk hT.blk 4).trans Hc.out;have xf:=frozen_blk hT.blk 4;have HE:=hid (hT.field 4 (.string (foldB p1)) HP2.out HS2.out);clear hT;go_wp2;exact Hok.out _ _ ⟨rfl,rfl,rfl,rfl,rfl⟩ HE.out
theorem rq_pol {pre2:Value→Array Value} (hf:RqL a db rb kSplit) (h:RQ w0 wb w db b o cap ms st rb f pre e sz v n xs) (hc:(pre v)[6]? =some (.string ⟨#[]⟩)) (h0:ms[0]? =some m0)
 (hp2:(pre v).setIfInBounds 6 (.string (wordR (nds ms) (needR (nds ms) m0.nd kRoute (onlyR (nds ms) [kKind,kName,kRoute,kRules] m0.nd.kids st)).1 (isName (textR (nds ms) (needR (nds ms) m0.nd kRoute (onlyR (nds ms) [kKind,kName,kRoute,kRules] m0.nd.kids st)).1)) (needR (nds ms) m0.nd kRoute (onlyR (nds ms) [kKind,kName,kRoute,kRules] m0.nd.kids st)).2).1)=pre2 v) (hs2:∀v v',(pre2 v).setIfInBounds f v'=pre2 v')
 (ok:∀a' w',RqL a' db rb kAction→RQ w0 wb w' db b o cap ms (wordR (nds ms) (needR (nds ms) m0.nd kRoute (onlyR (nds ms) [kKind,kName,kRoute,kRules] m0.nd.kids st)).1 (isName (textR (nds ms) (needR (nds ms) m0.nd kRoute (onlyR (nds ms) [kKind,kName,kRoute,kRules] m0.nd.kids st)).1)) (needR (nds ms) m0.nd kRoute (onlyR (nds ms) [kKind,kName,kRoute,kRules] m0.nd.kids st)).2).2 rb f pre2 e sz v n xs→Q .normal a' w'):(Code.seq rqv28 (Code.seq rqv29 (Code.seq rqv30 rqv31))).wp Tryz.prog Q a w:=by
 have hb1:=(Below.refl w.heap.size w).alloc (Nat.le_refl _) (.cells #[.string kKind,.string kName,.string kRoute,.string kRules] 9);have HT:=hid (h.later hb1);have hlt0:=lt_of_heap h.dq.doc;have Ho:=hid (only_r (i:=0) (h.later hb1).dq h0 _ _ (strs4 w kKind kName kRoute kRules) (fun g hg e=>by injection hg with hg;have hg2:w.heap.size=g:=hg;omega));have Hn:=hid (fun w2 (q:DQ w0 w2 db b o cap ms (onlyR (nds ms) [kKind,kName,kRoute,kRules] m0.nd.kids st))=>need_r (i:=0) q h0 kRoute)
 have hlt:∀k,(needR (nds ms) m0.nd kRoute (onlyR (nds ms) [kKind,kName,kRoute,kRules] m0.nd.kids st)).1=some k→k<ms.length:=fun k hk=>h.dq.fldlt (List.mem_of_getElem? h0) k (need_lt hk);have Ht:=hid (fun w2 (q:DQ w0 w2 db b o cap ms (needR (nds ms) m0.nd kRoute (onlyR (nds ms) [kKind,kName,kRoute,kRules] m0.nd.kids st)).2)=>text_r q _ hlt);have Hp:=hid (fun w2=>rname_c w2 (textR (nds ms) (needR (nds ms) m0.nd kRoute (onlyR (nds ms) [kKind,kName,kRoute,kRules] m0.nd.kids st)).1) (textR_size h.dq _ hlt))
 have Hw:=hid (fun w2 (q:DQ w0 w2 db b o cap ms (needR (nds ms) m0.nd kRoute (onlyR (nds ms) [kKind,kName,kRoute,kRules] m0.nd.kids st)).2)=>word_r q _ hlt (isName (textR (nds ms) (needR (nds ms) m0.nd kRoute (onlyR (nds ms) [kKind,kName,kRoute,kRules] m0.nd.kids st)).1)));have HP2:=hid hp2;have HS2:=hid hs2;have Hc:=hid hc;have Hok:=hid ok;generalize (wordR (nds ms) (needR (nds ms) m0.nd kRoute (onlyR (nds ms) [kKind,kName,kRoute,kRules] m0.nd.kids st)).1 (isName (textR (nds ms) (needR (nds ms) m0.nd kRoute (onlyR (nds ms) [kKind,kName,kRoute,kRules] m0.nd.kids st)).1)) (needR (nds ms) m0.nd kRoute (onlyR (nds ms) [kKind,kName,kRoute,kRules] m0.nd.kids st)).2)=p at*
 obtain ⟨p1,p2⟩:=p;generalize (needR (nds ms) m0.nd kRoute (onlyR (nds ms) [kKind,kName,kRoute,kRules] m0.nd.kids st))=nd at*;obtain ⟨n1,n2⟩:=nd;generalize (onlyR (nds ms) [kKind,kName,kRoute,kRules] m0.nd.kids st)=s1 at*;simp only at Hn Hw Hok Ht Hp HP2;generalize textR (nds ms) n1=tx at*;generalize isName tx=bm at*;obtain ⟨vv,rfl⟩:=hf.shape;clear hf h ok hb1 hlt0 hlt h0 hp2 hs2 hc;unfold kRoute at Hn
 unfold kKind kName kRoute kRules at Ho HT;unfold kSplit kAction at*;dsimp only[rqv28,rqv29,rqv30,rqv31,ncs,ncl,ncr,ncb,nco,nct,nce,ncx,Tryz.f62]
 go_wp2_with fail
 refine Ho.out.mono ?_;rintro r w1 ⟨rfl,hq,hm⟩;have HT1:=hid (HT.out.call hq hm);have Hn1:=hid (Hn.out w1 hq);clear hq hm Ho HT Hn
 go_wp2_with fail
 refine Hn1.out.mono ?_;rintro r w2 ⟨rfl,hq,hm⟩;have HT2:=hid (HT1.out.call hq hm);have Ht2:=hid (Ht.out w2 hq);have HQ2:=hid hq;clear hq hm Hn1 HT1 Ht
 go_wp2_with fail
 refine Ht2.out.mono ?_;rintro r w3 ⟨rfl,hw⟩;obtain rfl:=hw.symm;clear Ht2
 go_wp2_with fail
 refine (Hp.out _).mono ?_;rintro r w3 ⟨rfl,hw⟩;obtain rfl:=hw.symm;have HT3:=HT2;have Hw3:=hid (Hw.out _ HQ2.out);clear Hp HT2 HQ2 Hw
 go_wp2_with fail
 refine Hw3.out.mono ?_;rintro r w4 ⟨rfl,hq,hm⟩;have hT:=HT3.out.call hq hm;clear hq hm Hw3 HT3;have x0:=(cell_blk hT.blk 6).trans Hc.out;have xf:=frozen_blk hT.blk 6;have HE:=hid (hT.field 6 (.string p1) HP2.out HS2.out);clear hT;go_wp2;exact Hok.out _ _ ⟨rfl,rfl,rfl,rfl,rfl⟩ HE.out
end
end Go.Proofs.YtfenoaeoedobmaaGreatDoor
