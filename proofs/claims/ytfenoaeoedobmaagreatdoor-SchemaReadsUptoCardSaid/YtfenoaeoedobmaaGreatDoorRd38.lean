/-
Parts of a proof, one behind the other (laid dense by a program of mine: pack.py).
-/
import Derived.StillTail
import Derived.Test.YtfenoaeoedobmaaGreatDoorRd37
set_option linter.unusedVariables false
set_option linter.unusedSimpArgs false
set_option maxRecDepth 20000
namespace Go.Proofs.YtfenoaeoedobmaaGreatDoor
open Go
section
variable {P:Program} {ops:Array Oper} {Q:Exit→Act→World→Prop} {md:Region.Mode} {S:World→Prop} {F:Nat→Bool}
def wpAnyK (P:Program) (md:Region.Mode) (ops:Array Oper) (Q:Exit→Act→World→Prop) (S:World→Prop) (F:Nat→Bool):Nat→Array Bool→Act→World→Prop
 |0,listed,a,w=>Region.ready md ops listed=[]∧Q .normal a w
 |fuel+1,listed,a,w=>
  (Region.ready md ops listed=[]→Q .normal a w)∧
  ∀i∈Region.ready md ops listed,wpOp P ops Q i (fun a' w'=>(F i=true→S w')∧wpAnyK P md ops Q S F fuel (listed.setIfInBounds i true) a' w') a w
theorem wpAny_of_K:∀(fuel:Nat) (listed:Array Bool) (a:Act) (w:World),wpAnyK P md ops Q S F fuel listed a w→wpAny P md ops Q fuel listed a w
 |0,_,_,_,h=>h
 |fuel+1,_,_,_,h=>⟨h.1,fun i hi=>wpOp_mono (fun a' w' h'=>wpAny_of_K fuel _ a' w' h'.2) (h.2 i hi)⟩
def closedB (md:Region.Mode) (ops:Array Oper) (listed:Array Bool):Bool:=
 (List.range ops.size).all fun j=> !listed.getD j false||match ops[j]? with|some oj=>oj.after.all fun e=> !Region.binds md e||listed.getD e.on false|none=>true
def Closed (md:Region.Mode) (ops:Array Oper) (listed:Array Bool):Prop:=
 ∀(j:Nat) oj,ops[j]? =some oj→listed.getD j false=true→∀e∈oj.after,Region.binds md e=true→listed.getD e.on false=true
theorem closedB_spec {listed:Array Bool} (h:closedB md ops listed=true):Closed md ops listed:=fun j oj hj hl e he hb=>by
 unfold closedB at h;rw[List.all_eq_true]at h;have h1:=h j (List.mem_range.2 (Array.getElem?_eq_some_iff.1 hj).1);simp only[hl,hj,Bool.not_true,Bool.false_or]at h1;have h2:=(Array.all_eq_true_iff_forall_mem.1 h1) e he
 simpa[hb] using h2
def reachB (md:Region.Mode) (ops:Array Oper) (i:Nat):Nat→Nat→Bool
 |0,_=>false
 |n+1,j=>match ops[j]? with|some oj=>oj.after.any fun e=>Region.binds md e&&(e.on==i||reachB md ops i n e.on)|none=>false
theorem reach_listed {i:Nat} {listed:Array Bool} (hc:Closed md ops listed):∀(n j:Nat) (oj:Oper),ops[j]? =some oj→(∀e∈oj.after,Region.binds md e=true→listed.getD e.on false=true)→reachB md ops i n j=true→listed.getD i false=true
 |0,j,oj,_,_,h=>by cases h
 |n+1,j,oj,hj,hall,h=>by
  unfold reachB at h;rw[hj]at h;obtain ⟨e,he,hb⟩:=Array.any_eq_true'.1 h;simp only[Bool.and_eq_true,Bool.or_eq_true,beq_iff_eq]at hb;have hl:=hall e he hb.1;rcases hb.2 with e2|e2
  ·rw[←e2];exact hl
  ·cases ho:ops[e.on]? with
   |none=>cases n with
    |zero=>cases e2
    |succ n=>unfold reachB at e2;rw[ho]at e2;cases e2
   |some o2=>exact reach_listed hc n e.on o2 ho (fun e3 h3 h4=>hc e.on o2 ho hl e3 h3 h4) e2
theorem wpAnyK_first {i:Nat} {oi:Oper} {v:Value} (hi:ops[i]? =some oi) (hsel:∀(j:Nat) (o:Oper) cs b,ops[j]? =some o→o.op≠ .select cs b)
 (hQ:∀c a w,Q (.panic c) (a.put oi.dst v) w→Q (.panic c) a w) (hF:∀j oj,ops[j]? =some oj→j≠i→F j=false→reachB md ops i ops.size j=true):
 ∀(fuel:Nat) (listed:Array Bool) (a:Act) (w:World),Closed md ops listed→listed.size=ops.size→
  (∀j oj,ops[j]? =some oj→j≠i→listed.getD j true=false→(∀e∈oj.after,Region.binds md e=true→e.on≠i)→oi.apart ops oj=true)→
  i∈Region.ready md ops listed→YieldsIf P ops S oi v a→S w→
  wpAnyK P md ops Q S F fuel (listed.setIfInBounds i true) (a.put oi.dst v) w→wpAnyK P md ops Q S F (fuel+1) listed a w:=by
 intro fuel
 induction fuel with
 |zero=>
  intro listed a w _ _ _ hr hy hS H;refine ⟨fun h=>(by rw[h]at hr;cases hr),fun j hj=> ?_⟩;by_cases hji:j=i
  ·subst hji;exact hy.wpOp hi hS ⟨fun _=>hS,H⟩
  ·have:=ready_mono hj hji;rw[H.1]at this;cases this
 |succ fuel ih=>
  intro listed a w hcl hsz hfree hr hy hS H;refine ⟨fun h=>(by rw[h]at hr;cases hr),fun j hj=> ?_⟩;by_cases hji:j=i
  ·subst hji;exact hy.wpOp hi hS ⟨fun _=>hS,H⟩
  ·have h1:=H.2 j (ready_mono hj hji);obtain ⟨hjun,oj,hoj,hall⟩:=mem_ready.1 hj;have hiun:listed.getD i false=false:=getD_both (mem_ready.1 hr).1;have hnot:∀e∈oj.after,Region.binds md e=true→e.on≠i:=fun e he hb heq=>by
    have h1:=hall e he hb;rw[heq,hiun]at h1;cases h1
   have hFj:F j=true:=by
    cases hf:F j with
    |true=>rfl
    |false=>
     have h2:=reach_listed hcl _ j oj hoj (fun e he hb=>hall e he hb) (hF j oj hoj hji hf);rw[hiun]at h2;cases h2
   have h2:=wpOp_putIf hoj (hfree j oj hoj hji hjun hnot) (fun cs b=>hsel i oi cs b hi) (fun cs b=>hsel j oj cs b hoj) hQ hy h1;have hfree':∀k ok,ops[k]? =some ok→k≠i→(listed.setIfInBounds j true).getD k true=false→
    (∀e∈ok.after,Region.binds md e=true→e.on≠i)→oi.apart ops ok=true:=fun k ok hk hki hun hno=>by
    refine hfree k ok hk hki ?_ hno;by_cases hjk:j=k
    ·subst hjk;exact hjun
    ·rw[getD_set_ne true hjk]at hun;exact hun
   have hcl':Closed md ops (listed.setIfInBounds j true):=fun k ok hk hl e he hb=>by
    by_cases hjk:j=k
    ·subst hjk;obtain rfl:=Option.some.inj (hk.symm.trans hoj);exact getD_set_true (hall e he hb)
    ·rw[getD_set_ne false hjk]at hl;exact getD_set_true (hcl k ok hk hl e he hb)
   refine wpOp_mono (fun a' w' h3=>⟨h3.2.1,ih (listed.setIfInBounds j true) a' w' hcl' (by simpa using hsz) hfree' (ready_mono hr (Ne.symm hji)) h3.1 (h3.2.1 hFj) ?_⟩) h2;rw[Array.setIfInBounds_comm _ _ hji];exact h3.2.2
def waitsB (md:Region.Mode) (ops:Array Oper) (F:Nat→Bool) (i:Nat):Bool:=
 (List.range ops.size).all fun j=>j==i||F j||reachB md ops i ops.size j
theorem waitsB_spec {i:Nat} (h:waitsB md ops F i=true):∀j oj,ops[j]? =some oj→j≠i→F j=false→reachB md ops i ops.size j=true:=fun j oj hj hji hF=>by
 unfold waitsB at h;rw[List.all_eq_true]at h;have h1:=h j (List.mem_range.2 (Array.getElem?_eq_some_iff.1 hj).1)
 simpa[hF,hji] using h1
theorem wpAnyK_take {i:Nat} {oi:Oper} {v:Value} {fuel:Nat} {listed:Array Bool} {a:Act} {w:World} (hi:ops[i]? =some oi)
 (hs:Region.noSelect ops=true) (hf:Region.free md ops listed i=true) (hr:(Region.ready md ops listed).contains i=true) (hF:(waitsB md ops F i&&closedB md ops listed&&(listed.size==ops.size))=true)
 (hQ:∀c a w,Q (.panic c) (a.put oi.dst v) w→Q (.panic c) a w) (hy:YieldsIf P ops S oi v a) (hS:S w)
 (h:wpAnyK P md ops Q S F fuel (listed.setIfInBounds i true) (a.put oi.dst v) w):wpAnyK P md ops Q S F (fuel+1) listed a w:=by
 simp only[Bool.and_eq_true,beq_iff_eq]at hF;exact wpAnyK_first hi (Region.noSelect_spec hs) hQ (waitsB_spec hF.1.1) fuel listed a w (closedB_spec hF.1.2) hF.2 (Region.free_spec hi hf) (by simpa using hr) hy hS h
theorem wK {i:Nat} {oi:Oper} {v:Value} {fuel:Nat} {listed:Array Bool} {a:Act} {w:World} (hi:ops[i]? =some oi)
 (hb:(Region.noSelect ops&&Region.free md ops listed i&&(Region.ready md ops listed).contains i&&(waitsB md ops F i&&closedB md ops listed&&(listed.size==ops.size)))=true)
 (hQ:∀c a w,Q (.panic c) (a.put oi.dst v) w→Q (.panic c) a w) (hw:Region.wanted oi (yielded ops a.tmps)=true) (hy:∀w,S w→(execOp a.eval oi).run P w= .ok (.value v) w) (hS:S w)
 (h:wpAnyK P md ops Q S F fuel (listed.setIfInBounds i true) (a.put oi.dst v) w):wpAnyK P md ops Q S F (fuel+1) listed a w:=by
 simp only[Bool.and_eq_true]at hb;exact wpAnyK_take hi hb.1.1.1 hb.1.1.2 hb.1.2 (by simp only[Bool.and_eq_true];exact hb.2) hQ (Or.inl ⟨hw,hy⟩) hS h
theorem wpAnyK_one {i:Nat} {o:Oper} {fuel:Nat} {listed:Array Bool} {a:Act} {w:World} (hr:Region.ready md ops listed=[i]) (ho:ops[i]? =some o)
 (h:∀K':Act→World→Prop,Shut (∀a w,(F i=true→S w)→wpAnyK P md ops Q S F fuel (listed.setIfInBounds i true) a w→K' a w)→if Region.wanted o (yielded ops a.tmps)=true then Oper.wp P o a w K' Q else K' (a.put o.dst undef) w):
 wpAnyK P md ops Q S F (fuel+1) listed a w:=by
 refine ⟨fun h0=>(by rw[hr]at h0;cases h0),fun j hj=> ?_⟩;rw[hr]at hj;obtain rfl:=List.mem_singleton.1 hj;exact wpOp_step ho (fun K' hK=>h K' (fun a w hS hW=>hK a w ⟨hS,hW⟩))
theorem wpAnyK_done {listed:Array Bool} {a:Act} {w:World} (hr:Region.ready md ops listed=[]) (h:Q .normal a w):
 ∀fuel,wpAnyK P md ops Q S F fuel listed a w
 |0=>⟨hr,h⟩
 |_+1=>⟨fun _=>h,by rw[hr];simp⟩
theorem wp_region_K {id:Nat} {a:Act} {w:World} (S:World→Prop) (F:Nat→Bool) (hm:P.follows .mixedOrders=true)
 (h:wpAnyK P .any ops Q S F ops.size (Array.replicate ops.size false) a w.drew):(Code.region id ops true).wp P Q a w:=
 wp_region_any hm (wpAny_of_K _ _ _ _ h)
end
end Go.Proofs.YtfenoaeoedobmaaGreatDoor
namespace Go.Proofs.YtfenoaeoedobmaaGreatDoor
open Go Go.RowKit
noncomputable def rqH:Code:=(ncl (ncx Tryz.f62.body))
noncomputable def rqS:Code:=(nct (ncr (ncb (ncr (ncx Tryz.f62.body)))))
noncomputable def rqs2:Code:=(ncl (nct (ncr (ncb (ncr (ncx Tryz.f62.body))))))
noncomputable def rqs3:Code:=(ncl (ncr (nct (ncr (ncb (ncr (ncx Tryz.f62.body)))))))
noncomputable def rqs4:Code:=(ncl (ncr (ncr (nct (ncr (ncb (ncr (ncx Tryz.f62.body))))))))
noncomputable def rqsL:Code:=(ncb (ncr (ncr (ncr (nct (ncr (ncb (ncr (ncx Tryz.f62.body)))))))))
noncomputable def rqsO:Code:=(nco (ncb (ncr (ncr (ncr (nct (ncr (ncb (ncr (ncx Tryz.f62.body))))))))))
noncomputable def rqsT:Code:=(ncl (nco (ncb (ncr (ncr (ncr (nct (ncr (ncb (ncr (ncx Tryz.f62.body)))))))))))
noncomputable def rqs7:Code:=(ncl (ncb (ncl (ncr (nco (ncb (ncr (ncr (ncr (nct (ncr (ncb (ncr (ncx Tryz.f62.body))))))))))))))
noncomputable def rqs8:Code:=(ncl (ncl (ncr (ncb (ncl (ncr (nco (ncb (ncr (ncr (ncr (nct (ncr (ncb (ncr (ncx Tryz.f62.body))))))))))))))))
noncomputable def rqsI:Code:=(ncb (ncr (ncl (ncr (ncb (ncl (ncr (nco (ncb (ncr (ncr (ncr (nct (ncr (ncb (ncr (ncx Tryz.f62.body)))))))))))))))))
noncomputable def rqsJ:Code:=(nco (ncb (ncr (ncl (ncr (ncb (ncl (ncr (nco (ncb (ncr (ncr (ncr (nct (ncr (ncb (ncr (ncx Tryz.f62.body))))))))))))))))))
noncomputable def rqs13:Code:=(ncr (ncr (ncb (ncl (ncr (nco (ncb (ncr (ncr (ncr (nct (ncr (ncb (ncr (ncx Tryz.f62.body)))))))))))))))
noncomputable def rqs6:Code:=(ncr (ncr (nco (ncb (ncr (ncr (ncr (nct (ncr (ncb (ncr (ncx Tryz.f62.body))))))))))))
noncomputable def rqT:Code:=(nct (ncr (nce (ncr (ncb (ncr (ncx Tryz.f62.body)))))))
noncomputable def rqt15:Code:=(ncl (nct (ncr (nce (ncr (ncb (ncr (ncx Tryz.f62.body))))))))
noncomputable def rqt16:Code:=(ncl (ncr (nct (ncr (nce (ncr (ncb (ncr (ncx Tryz.f62.body)))))))))
noncomputable def rqt17:Code:=(ncl (ncr (ncr (nct (ncr (nce (ncr (ncb (ncr (ncx Tryz.f62.body))))))))))
noncomputable def rqtL:Code:=(ncb (ncr (ncr (ncr (nct (ncr (nce (ncr (ncb (ncr (ncx Tryz.f62.body)))))))))))
noncomputable def rqtT:Code:=(ncl (nco (ncb (ncr (ncr (ncr (nct (ncr (nce (ncr (ncb (ncr (ncx Tryz.f62.body)))))))))))))
noncomputable def rqt20:Code:=(ncb (ncl (ncr (nco (ncb (ncr (ncr (ncr (nct (ncr (nce (ncr (ncb (ncr (ncx Tryz.f62.body)))))))))))))))
noncomputable def rqt19:Code:=(ncr (ncr (nco (ncb (ncr (ncr (ncr (nct (ncr (nce (ncr (ncb (ncr (ncx Tryz.f62.body))))))))))))))
noncomputable def rqu:Code:=(nct (ncr (nce (ncr (nce (ncr (ncb (ncr (ncx Tryz.f62.body)))))))))
noncomputable def rqu23:Code:=(ncl (nct (ncr (nce (ncr (nce (ncr (ncb (ncr (ncx Tryz.f62.body))))))))))
noncomputable def rqu24:Code:=(ncl (ncr (nct (ncr (nce (ncr (nce (ncr (ncb (ncr (ncx Tryz.f62.body)))))))))))
noncomputable def rqu32:Code:=(ncl (ncr (ncr (nct (ncr (nce (ncr (nce (ncr (ncb (ncr (ncx Tryz.f62.body))))))))))))
noncomputable def rqu33:Code:=(ncl (ncr (ncr (ncr (nct (ncr (nce (ncr (nce (ncr (ncb (ncr (ncx Tryz.f62.body)))))))))))))
noncomputable def rquL:Code:=(ncb (ncr (ncr (ncr (ncr (nct (ncr (nce (ncr (nce (ncr (ncb (ncr (ncx Tryz.f62.body))))))))))))))
noncomputable def rquT:Code:=(ncl (nco (ncb (ncr (ncr (ncr (ncr (nct (ncr (nce (ncr (nce (ncr (ncb (ncr (ncx Tryz.f62.body))))))))))))))))
noncomputable def rqu36:Code:=(ncb (ncl (ncr (nco (ncb (ncr (ncr (ncr (ncr (nct (ncr (nce (ncr (nce (ncr (ncb (ncr (ncx Tryz.f62.body))))))))))))))))))
noncomputable def rqu35:Code:=(ncr (ncr (nco (ncb (ncr (ncr (ncr (ncr (nct (ncr (nce (ncr (nce (ncr (ncb (ncr (ncx Tryz.f62.body)))))))))))))))))
theorem rq_act (a:Act) (hs:a.tmps.size=200) (hd:a.defers=[]):∃v:Nat→Value,(∀(i:Nat) (x:Value),a.tmps[i]? =some x→v i=x)∧a=⟨#[v 0,v 1,v 2,v 3,v 4,v 5,v 6,v 7,v 8,v 9,v 10,v 11,v 12,v 13,v 14,v 15,v 16,v 17,v 18,v 19,v 20,v 21,v 22,v 23,v 24,v 25,v 26,v 27,v 28,v 29,v 30,v 31,v 32,v 33,v 34,v 35,v 36,v 37,v 38,v 39,v 40,v 41,v 42,v 43,v 44,v 45,v 46,v 47,v 48,v 49,v 50,v 51,v 52,v 53,v 54,v 55,v 56,v 57,v 58,v 59,v 60,v 61,v 62,v 63,v 64,v 65,v 66,v 67,v 68,v 69,v 70,v 71,v 72,v 73,v 74,v 75,v 76,v 77,v 78,v 79,v 80,v 81,v 82,v 83,v 84,v 85,v 86,v 87,v 88,v 89,v 90,v 91,v 92,v 93,v 94,v 95,v 96,v 97,v 98,v 99,v 100,v 101,v 102,v 103,v 104,v 105,v 106,v 107,v 108,v 109,v 110,v 111,v 112,v 113,v 114,v 115,v 116,v 117,v 118,v 119,v 120,v 121,v 122,v 123,v 124,v 125,v 126,v 127,v 128,v 129,v 130,v 131,v 132,v 133,v 134,v 135,v 136,v 137,v 138,v 139,v 140,v 141,v 142,v 143,v 144,v 145,v 146,v 147,v 148,v 149,v 150,v 151,v 152,v 153,v 154,v 155,v 156,v 157,v 158,v 159,v 160,v 161,v 162,v 163,v 164,v 165,v 166,v 167,v 168,v 169,v 170,v 171,v 172,v 173,v 174,v 175,v 176,v 177,v 178,v 179,v 180,v 181,v 182,v 183,v 184,v 185,v 186,v 187,v 188,v 189,v 190,v 191,v 192,v 193,v 194,v 195,v 196,v 197,v 198,v 199],[]⟩:=by
 obtain ⟨t,d⟩:=a;obtain ⟨l⟩:=t;obtain rfl:d=[]:=hd;have hl:l.length=200:=hs;refine ⟨fun i=>l.getD i undef,fun i x hx=> ?_,?_⟩
 ·have hx':l[i]? =some x:=by simpa using hx
  simp[List.getD,hx']
 ·have e:l=(List.range 200).map (fun i=>l.getD i undef):=by
   apply List.ext_getElem
   ·simp[hl]
   ·intro i h1 h2;simp[List.getD,h1]
  generalize (fun i=>l.getD i undef)=v at e ⊢;subst e;rfl
structure RqA (a:Act) (db:Nat) (rb:Nat):Prop where
 size:a.tmps.size=200
 dfr:a.defers=[]
 s0:a.tmps[0]? =some (.pointer (some ⟨db,0,none⟩))
 s1:a.tmps[1]? =some (.pointer (some ⟨rb,0,none⟩))
theorem RqA.shape {a:Act} {db:Nat} {rb:Nat} (h:RqA a db rb):∃v:Nat→Value,a=⟨#[.pointer (some ⟨db,0,none⟩),.pointer (some ⟨rb,0,none⟩),v 2,v 3,v 4,v 5,v 6,v 7,v 8,v 9,v 10,v 11,v 12,v 13,v 14,v 15,v 16,v 17,v 18,v 19,v 20,v 21,v 22,v 23,v 24,v 25,v 26,v 27,v 28,v 29,v 30,v 31,v 32,v 33,v 34,v 35,v 36,v 37,v 38,v 39,v 40,v 41,v 42,v 43,v 44,v 45,v 46,v 47,v 48,v 49,v 50,v 51,v 52,v 53,v 54,v 55,v 56,v 57,v 58,v 59,v 60,v 61,v 62,v 63,v 64,v 65,v 66,v 67,v 68,v 69,v 70,v 71,v 72,v 73,v 74,v 75,v 76,v 77,v 78,v 79,v 80,v 81,v 82,v 83,v 84,v 85,v 86,v 87,v 88,v 89,v 90,v 91,v 92,v 93,v 94,v 95,v 96,v 97,v 98,v 99,v 100,v 101,v 102,v 103,v 104,v 105,v 106,v 107,v 108,v 109,v 110,v 111,v 112,v 113,v 114,v 115,v 116,v 117,v 118,v 119,v 120,v 121,v 122,v 123,v 124,v 125,v 126,v 127,v 128,v 129,v 130,v 131,v 132,v 133,v 134,v 135,v 136,v 137,v 138,v 139,v 140,v 141,v 142,v 143,v 144,v 145,v 146,v 147,v 148,v 149,v 150,v 151,v 152,v 153,v 154,v 155,v 156,v 157,v 158,v 159,v 160,v 161,v 162,v 163,v 164,v 165,v 166,v 167,v 168,v 169,v 170,v 171,v 172,v 173,v 174,v 175,v 176,v 177,v 178,v 179,v 180,v 181,v 182,v 183,v 184,v 185,v 186,v 187,v 188,v 189,v 190,v 191,v 192,v 193,v 194,v 195,v 196,v 197,v 198,v 199],[]⟩:=by
 obtain ⟨v,hv,hd⟩:=rq_act a h.size h.dfr;have e0:=hv 0 _ h.s0;have e1:=hv 1 _ h.s1;refine ⟨v,?_⟩;rw[hd];simp only[e0,e1]
structure RqT (a:Act) (db:Nat) (rb:Nat) (la:Option Addr) (q:Nat) (lc:Nat) (j:Nat):Prop where
 size:a.tmps.size=200
 dfr:a.defers=[]
 s0:a.tmps[0]? =some (.pointer (some ⟨db,0,none⟩))
 s1:a.tmps[1]? =some (.pointer (some ⟨rb,0,none⟩))
 s8:a.tmps[8]? =some (.slice la q lc)
 s9:a.tmps[9]? =some (.int .i64 (j:Int))
theorem RqT.shape {a:Act} {db:Nat} {rb:Nat} {la:Option Addr} {q:Nat} {lc:Nat} {j:Nat} (h:RqT a db rb la q lc j):∃v:Nat→Value,a=⟨#[.pointer (some ⟨db,0,none⟩),.pointer (some ⟨rb,0,none⟩),v 2,v 3,v 4,v 5,v 6,v 7,.slice la q lc,.int .i64 (j:Int),v 10,v 11,v 12,v 13,v 14,v 15,v 16,v 17,v 18,v 19,v 20,v 21,v 22,v 23,v 24,v 25,v 26,v 27,v 28,v 29,v 30,v 31,v 32,v 33,v 34,v 35,v 36,v 37,v 38,v 39,v 40,v 41,v 42,v 43,v 44,v 45,v 46,v 47,v 48,v 49,v 50,v 51,v 52,v 53,v 54,v 55,v 56,v 57,v 58,v 59,v 60,v 61,v 62,v 63,v 64,v 65,v 66,v 67,v 68,v 69,v 70,v 71,v 72,v 73,v 74,v 75,v 76,v 77,v 78,v 79,v 80,v 81,v 82,v 83,v 84,v 85,v 86,v 87,v 88,v 89,v 90,v 91,v 92,v 93,v 94,v 95,v 96,v 97,v 98,v 99,v 100,v 101,v 102,v 103,v 104,v 105,v 106,v 107,v 108,v 109,v 110,v 111,v 112,v 113,v 114,v 115,v 116,v 117,v 118,v 119,v 120,v 121,v 122,v 123,v 124,v 125,v 126,v 127,v 128,v 129,v 130,v 131,v 132,v 133,v 134,v 135,v 136,v 137,v 138,v 139,v 140,v 141,v 142,v 143,v 144,v 145,v 146,v 147,v 148,v 149,v 150,v 151,v 152,v 153,v 154,v 155,v 156,v 157,v 158,v 159,v 160,v 161,v 162,v 163,v 164,v 165,v 166,v 167,v 168,v 169,v 170,v 171,v 172,v 173,v 174,v 175,v 176,v 177,v 178,v 179,v 180,v 181,v 182,v 183,v 184,v 185,v 186,v 187,v 188,v 189,v 190,v 191,v 192,v 193,v 194,v 195,v 196,v 197,v 198,v 199],[]⟩:=by
 obtain ⟨v,hv,hd⟩:=rq_act a h.size h.dfr;have e0:=hv 0 _ h.s0;have e1:=hv 1 _ h.s1;have e8:=hv 8 _ h.s8;have e9:=hv 9 _ h.s9;refine ⟨v,?_⟩;rw[hd];simp only[e0,e1,e8,e9]
structure RqU (a:Act) (db:Nat) (rb:Nat) (la:Option Addr) (q:Nat) (lc:Nat) (j:Nat) (lk:ByteArray):Prop where
 size:a.tmps.size=200
 dfr:a.defers=[]
 s0:a.tmps[0]? =some (.pointer (some ⟨db,0,none⟩))
 s1:a.tmps[1]? =some (.pointer (some ⟨rb,0,none⟩))
 s10:a.tmps[10]? =some (.string lk)
 s13:a.tmps[13]? =some (.slice la q lc)
 s14:a.tmps[14]? =some (.int .i64 (j:Int))
theorem RqU.shape {a:Act} {db:Nat} {rb:Nat} {la:Option Addr} {q:Nat} {lc:Nat} {j:Nat} {lk:ByteArray} (h:RqU a db rb la q lc j lk):∃v:Nat→Value,a=⟨#[.pointer (some ⟨db,0,none⟩),.pointer (some ⟨rb,0,none⟩),v 2,v 3,v 4,v 5,v 6,v 7,v 8,v 9,.string lk,v 11,v 12,.slice la q lc,.int .i64 (j:Int),v 15,v 16,v 17,v 18,v 19,v 20,v 21,v 22,v 23,v 24,v 25,v 26,v 27,v 28,v 29,v 30,v 31,v 32,v 33,v 34,v 35,v 36,v 37,v 38,v 39,v 40,v 41,v 42,v 43,v 44,v 45,v 46,v 47,v 48,v 49,v 50,v 51,v 52,v 53,v 54,v 55,v 56,v 57,v 58,v 59,v 60,v 61,v 62,v 63,v 64,v 65,v 66,v 67,v 68,v 69,v 70,v 71,v 72,v 73,v 74,v 75,v 76,v 77,v 78,v 79,v 80,v 81,v 82,v 83,v 84,v 85,v 86,v 87,v 88,v 89,v 90,v 91,v 92,v 93,v 94,v 95,v 96,v 97,v 98,v 99,v 100,v 101,v 102,v 103,v 104,v 105,v 106,v 107,v 108,v 109,v 110,v 111,v 112,v 113,v 114,v 115,v 116,v 117,v 118,v 119,v 120,v 121,v 122,v 123,v 124,v 125,v 126,v 127,v 128,v 129,v 130,v 131,v 132,v 133,v 134,v 135,v 136,v 137,v 138,v 139,v 140,v 141,v 142,v 143,v 144,v 145,v 146,v 147,v 148,v 149,v 150,v 151,v 152,v 153,v 154,v 155,v 156,v 157,v 158,v 159,v 160,v 161,v 162,v 163,v 164,v 165,v 166,v 167,v 168,v 169,v 170,v 171,v 172,v 173,v 174,v 175,v 176,v 177,v 178,v 179,v 180,v 181,v 182,v 183,v 184,v 185,v 186,v 187,v 188,v 189,v 190,v 191,v 192,v 193,v 194,v 195,v 196,v 197,v 198,v 199],[]⟩:=by
 obtain ⟨v,hv,hd⟩:=rq_act a h.size h.dfr;have e0:=hv 0 _ h.s0;have e1:=hv 1 _ h.s1;have e10:=hv 10 _ h.s10;have e13:=hv 13 _ h.s13;have e14:=hv 14 _ h.s14;refine ⟨v,?_⟩;rw[hd];simp only[e0,e1,e10,e13,e14]
structure RqS (a:Act) (db:Nat) (rb:Nat) (la:Option Addr) (q:Nat) (lc:Nat) (j:Nat):Prop where
 size:a.tmps.size=200
 dfr:a.defers=[]
 s0:a.tmps[0]? =some (.pointer (some ⟨db,0,none⟩))
 s1:a.tmps[1]? =some (.pointer (some ⟨rb,0,none⟩))
 s4:a.tmps[4]? =some (.slice la q lc)
 s5:a.tmps[5]? =some (.int .i64 (j:Int))
theorem RqS.shape {a:Act} {db:Nat} {rb:Nat} {la:Option Addr} {q:Nat} {lc:Nat} {j:Nat} (h:RqS a db rb la q lc j):∃v:Nat→Value,a=⟨#[.pointer (some ⟨db,0,none⟩),.pointer (some ⟨rb,0,none⟩),v 2,v 3,.slice la q lc,.int .i64 (j:Int),v 6,v 7,v 8,v 9,v 10,v 11,v 12,v 13,v 14,v 15,v 16,v 17,v 18,v 19,v 20,v 21,v 22,v 23,v 24,v 25,v 26,v 27,v 28,v 29,v 30,v 31,v 32,v 33,v 34,v 35,v 36,v 37,v 38,v 39,v 40,v 41,v 42,v 43,v 44,v 45,v 46,v 47,v 48,v 49,v 50,v 51,v 52,v 53,v 54,v 55,v 56,v 57,v 58,v 59,v 60,v 61,v 62,v 63,v 64,v 65,v 66,v 67,v 68,v 69,v 70,v 71,v 72,v 73,v 74,v 75,v 76,v 77,v 78,v 79,v 80,v 81,v 82,v 83,v 84,v 85,v 86,v 87,v 88,v 89,v 90,v 91,v 92,v 93,v 94,v 95,v 96,v 97,v 98,v 99,v 100,v 101,v 102,v 103,v 104,v 105,v 106,v 107,v 108,v 109,v 110,v 111,v 112,v 113,v 114,v 115,v 116,v 117,v 118,v 119,v 120,v 121,v 122,v 123,v 124,v 125,v 126,v 127,v 128,v 129,v 130,v 131,v 132,v 133,v 134,v 135,v 136,v 137,v 138,v 139,v 140,v 141,v 142,v 143,v 144,v 145,v 146,v 147,v 148,v 149,v 150,v 151,v 152,v 153,v 154,v 155,v 156,v 157,v 158,v 159,v 160,v 161,v 162,v 163,v 164,v 165,v 166,v 167,v 168,v 169,v 170,v 171,v 172,v 173,v 174,v 175,v 176,v 177,v 178,v 179,v 180,v 181,v 182,v 183,v 184,v 185,v 186,v 187,v 188,v 189,v 190,v 191,v 192,v 193,v 194,v 195,v 196,v 197,v 198,v 199],[]⟩:=by
 obtain ⟨v,hv,hd⟩:=rq_act a h.size h.dfr;have e0:=hv 0 _ h.s0;have e1:=hv 1 _ h.s1;have e4:=hv 4 _ h.s4;have e5:=hv 5 _ h.s5;refine ⟨v,?_⟩;rw[hd];simp only[e0,e1,e4,e5]
structure RqI (a:Act) (db:Nat) (rb:Nat) (la:Option Addr) (q:Nat) (lc:Nat) (j:Nat) (s:ByteArray):Prop where
 size:a.tmps.size=200
 dfr:a.defers=[]
 s0:a.tmps[0]? =some (.pointer (some ⟨db,0,none⟩))
 s1:a.tmps[1]? =some (.pointer (some ⟨rb,0,none⟩))
 s4:a.tmps[4]? =some (.slice la q lc)
 s5:a.tmps[5]? =some (.int .i64 (j:Int))
 s6:a.tmps[6]? =some (.string s)
theorem RqI.shape {a:Act} {db:Nat} {rb:Nat} {la:Option Addr} {q:Nat} {lc:Nat} {j:Nat} {s:ByteArray} (h:RqI a db rb la q lc j s):∃v:Nat→Value,a=⟨#[.pointer (some ⟨db,0,none⟩),.pointer (some ⟨rb,0,none⟩),v 2,v 3,.slice la q lc,.int .i64 (j:Int),.string s,v 7,v 8,v 9,v 10,v 11,v 12,v 13,v 14,v 15,v 16,v 17,v 18,v 19,v 20,v 21,v 22,v 23,v 24,v 25,v 26,v 27,v 28,v 29,v 30,v 31,v 32,v 33,v 34,v 35,v 36,v 37,v 38,v 39,v 40,v 41,v 42,v 43,v 44,v 45,v 46,v 47,v 48,v 49,v 50,v 51,v 52,v 53,v 54,v 55,v 56,v 57,v 58,v 59,v 60,v 61,v 62,v 63,v 64,v 65,v 66,v 67,v 68,v 69,v 70,v 71,v 72,v 73,v 74,v 75,v 76,v 77,v 78,v 79,v 80,v 81,v 82,v 83,v 84,v 85,v 86,v 87,v 88,v 89,v 90,v 91,v 92,v 93,v 94,v 95,v 96,v 97,v 98,v 99,v 100,v 101,v 102,v 103,v 104,v 105,v 106,v 107,v 108,v 109,v 110,v 111,v 112,v 113,v 114,v 115,v 116,v 117,v 118,v 119,v 120,v 121,v 122,v 123,v 124,v 125,v 126,v 127,v 128,v 129,v 130,v 131,v 132,v 133,v 134,v 135,v 136,v 137,v 138,v 139,v 140,v 141,v 142,v 143,v 144,v 145,v 146,v 147,v 148,v 149,v 150,v 151,v 152,v 153,v 154,v 155,v 156,v 157,v 158,v 159,v 160,v 161,v 162,v 163,v 164,v 165,v 166,v 167,v 168,v 169,v 170,v 171,v 172,v 173,v 174,v 175,v 176,v 177,v 178,v 179,v 180,v 181,v 182,v 183,v 184,v 185,v 186,v 187,v 188,v 189,v 190,v 191,v 192,v 193,v 194,v 195,v 196,v 197,v 198,v 199],[]⟩:=by
 obtain ⟨v,hv,hd⟩:=rq_act a h.size h.dfr;have e0:=hv 0 _ h.s0;have e1:=hv 1 _ h.s1;have e4:=hv 4 _ h.s4;have e5:=hv 5 _ h.s5;have e6:=hv 6 _ h.s6;refine ⟨v,?_⟩;rw[hd];simp only[e0,e1,e4,e5,e6]
structure RqJ (a:Act) (db:Nat) (rb:Nat) (la:Option Addr) (q:Nat) (lc:Nat) (j:Nat) (s:ByteArray) (t:Nat):Prop where
 size:a.tmps.size=200
 dfr:a.defers=[]
 s0:a.tmps[0]? =some (.pointer (some ⟨db,0,none⟩))
 s1:a.tmps[1]? =some (.pointer (some ⟨rb,0,none⟩))
 s4:a.tmps[4]? =some (.slice la q lc)
 s5:a.tmps[5]? =some (.int .i64 (j:Int))
 s6:a.tmps[6]? =some (.string s)
 s7:a.tmps[7]? =some (.int .i64 (t:Int))
theorem RqJ.shape {a:Act} {db:Nat} {rb:Nat} {la:Option Addr} {q:Nat} {lc:Nat} {j:Nat} {s:ByteArray} {t:Nat} (h:RqJ a db rb la q lc j s t):∃v:Nat→Value,a=⟨#[.pointer (some ⟨db,0,none⟩),.pointer (some ⟨rb,0,none⟩),v 2,v 3,.slice la q lc,.int .i64 (j:Int),.string s,.int .i64 (t:Int),v 8,v 9,v 10,v 11,v 12,v 13,v 14,v 15,v 16,v 17,v 18,v 19,v 20,v 21,v 22,v 23,v 24,v 25,v 26,v 27,v 28,v 29,v 30,v 31,v 32,v 33,v 34,v 35,v 36,v 37,v 38,v 39,v 40,v 41,v 42,v 43,v 44,v 45,v 46,v 47,v 48,v 49,v 50,v 51,v 52,v 53,v 54,v 55,v 56,v 57,v 58,v 59,v 60,v 61,v 62,v 63,v 64,v 65,v 66,v 67,v 68,v 69,v 70,v 71,v 72,v 73,v 74,v 75,v 76,v 77,v 78,v 79,v 80,v 81,v 82,v 83,v 84,v 85,v 86,v 87,v 88,v 89,v 90,v 91,v 92,v 93,v 94,v 95,v 96,v 97,v 98,v 99,v 100,v 101,v 102,v 103,v 104,v 105,v 106,v 107,v 108,v 109,v 110,v 111,v 112,v 113,v 114,v 115,v 116,v 117,v 118,v 119,v 120,v 121,v 122,v 123,v 124,v 125,v 126,v 127,v 128,v 129,v 130,v 131,v 132,v 133,v 134,v 135,v 136,v 137,v 138,v 139,v 140,v 141,v 142,v 143,v 144,v 145,v 146,v 147,v 148,v 149,v 150,v 151,v 152,v 153,v 154,v 155,v 156,v 157,v 158,v 159,v 160,v 161,v 162,v 163,v 164,v 165,v 166,v 167,v 168,v 169,v 170,v 171,v 172,v 173,v 174,v 175,v 176,v 177,v 178,v 179,v 180,v 181,v 182,v 183,v 184,v 185,v 186,v 187,v 188,v 189,v 190,v 191,v 192,v 193,v 194,v 195,v 196,v 197,v 198,v 199],[]⟩:=by
 obtain ⟨v,hv,hd⟩:=rq_act a h.size h.dfr;have e0:=hv 0 _ h.s0;have e1:=hv 1 _ h.s1;have e4:=hv 4 _ h.s4;have e5:=hv 5 _ h.s5;have e6:=hv 6 _ h.s6;have e7:=hv 7 _ h.s7;refine ⟨v,?_⟩;rw[hd];simp only[e0,e1,e4,e5,e6,e7]
structure RQ (w0 wb w:World) (db b o cap:Nat) (ms:List NdM) (st:St) (rb f:Nat) (pre:Value→Array Value) (e sz:Nat) (v:Value) (n:Nat) (xs:List Value):Prop where
 dq:DQ w0 w db b o cap ms st
 mod:Mod (fun k=>k=db∨k=rb) wb w
 blk:w.heap[rb]? =some (.cells (pre v) 49 (0,0))
 row:w.ownsRow 0 e sz v n xs
 new:∀g,v.ownBlock=some g→wb.heap.size≤g
 set:∀v v',(pre v).setIfInBounds f v'=pre v'
 rlt:rb<wb.heap.size
 dlt:db<wb.heap.size
 hne:rb≠db
 rlo:w0.heap.size≤rb
theorem RQ.call {w0 wb w w2:World} {db b o cap:Nat} {ms:List NdM} {st st2:St} {rb f:Nat} {pre:Value→Array Value} {e sz:Nat} {v:Value} {n:Nat} {xs:List Value} (h:RQ w0 wb w db b o cap ms st rb f pre e sz v n xs) (hd:DQ w0 w2 db b o cap ms st2) (hm:Mod (fun k=>k=db) w w2):RQ w0 wb w2 db b o cap ms st2 rb f pre e sz v n xs:=
 ⟨hd,h.mod.trans (hm.mono fun _ _ q=> .inl q),hm.heap h.blk h.hne,ownsRow_mod h.row hm (fun g hg q=>by have:=h.new g hg;have:=h.dlt;omega),h.new,h.set,h.rlt,h.dlt,h.hne,h.rlo⟩
theorem RQ.later {w0 wb w w2:World} {db b o cap:Nat} {ms:List NdM} {st:St} {rb f:Nat} {pre:Value→Array Value} {e sz:Nat} {v:Value} {n:Nat} {xs:List Value} (h:RQ w0 wb w db b o cap ms st rb f pre e sz v n xs) (hb:Below w.heap.size w w2):RQ w0 wb w2 db b o cap ms st rb f pre e sz v n xs:=
 h.call (h.dq.later hb) ((mod_below hb).mono (fun _ _ f=>f.elim))
theorem RQ.put {w0 wb w w2:World} {db b o cap:Nat} {ms:List NdM} {st:St} {rb f:Nat} {pre:Value→Array Value} {e sz:Nat} {v v':Value} {n m:Nat} {xs ys:List Value} (h:RQ w0 wb w db b o cap ms st rb f pre e sz v n xs) (own2:w2.ownsRow 0 e sz v' m ys) (gr2:w.grownBy w2 v.ownBlock)
 (new2:∀g,v'.ownBlock=some g→v.ownBlock=some g∨w.heap.size≤g):RQ w0 wb (w2.setCell ⟨rb,f,none⟩ v') db b o cap ms st rb f pre e sz v' m ys:=by
 have hm:Mod (fun k=>v.ownBlock=some k) w w2:=(Mod.refl _ _).grown gr2 (fun k e _=>e);have hs:=h.mod.size;have hlo:=h.dq.below.size;have hr:=h.rlt;have hdl:=h.dlt;have hb:=hm.heap h.blk (fun q=>by have:=h.new rb q;omega);have hnew:∀g,v'.ownBlock=some g→wb.heap.size≤g:=fun g hg=>by
  rcases new2 g hg with q|q
  ·exact h.new g q
  ·omega
 have m2:Mod (fun k=>k=rb) w2 (w2.setCell ⟨rb,f,none⟩ v'):=(Mod.refl _ _).setCell _ _ (fun _=>rfl);have hrl:=h.rlo;have d1:DQ w0 w2 db b o cap ms st:=h.dq.step hm (fun q=>by have:=h.new db q;omega) (fun k q=>by have:=h.new k q;omega);refine ⟨d1.step m2 (fun q=>h.hne q.symm) (fun k q=>by omega),?_,by rw[set_blk hb,h.set],ownsRow_mod own2 m2 (fun g hg q=>by have:=hnew g hg;omega),hnew,h.set,hr,hdl,h.hne,hrl⟩
 refine (h.mod.trans' hm (fun i hi q=>by have:=h.new i q;omega)).trans (m2.mono fun _ _ q=> .inr q)
theorem RQ.field {w0 wb w:World} {db b o cap:Nat} {ms:List NdM} {st:St} {rb f:Nat} {pre pre':Value→Array Value} {e sz:Nat} {v:Value} {n:Nat} {xs:List Value} (h:RQ w0 wb w db b o cap ms st rb f pre e sz v n xs) (i:Nat) (u:Value) (he:(pre v).setIfInBounds i u=pre' v) (hs:∀v v',(pre' v).setIfInBounds f v'=pre' v'):RQ w0 wb (w.setCell ⟨rb,i,none⟩ u) db b o cap ms st rb f pre' e sz v n xs:=by
 have m2:Mod (fun k=>k=rb) w (w.setCell ⟨rb,i,none⟩ u):=(Mod.refl _ _).setCell _ _ (fun _=>rfl);have hr:=h.rlt;have hrl:=h.rlo;exact ⟨h.dq.step m2 (fun q=>h.hne q.symm) (fun k q=>by omega),h.mod.trans (m2.mono fun _ _ q=> .inr q),by rw[set_blk h.blk,he],ownsRow_mod h.row m2 (fun g hg q=>by have:=h.new g hg;omega),h.new,hs,hr,h.dlt,h.hne,hrl⟩
structure LsI (w0:World) (la:Option Addr) (q lc:Nat) (L:List Int):Prop where
 len:q=L.length
 row:SlR w0 (.slice la q lc) 1 L intCell
theorem LsI.at {w0:World} {la:Option Addr} {q lc:Nat} {L:List Int} (h:LsI w0 la q lc L) {j:Nat} (hj:j<q):∃x lb lo,L[j]? =some x∧la=some ⟨lb,lo,none⟩∧lb<w0.heap.size∧w0.cell? ⟨lb,lo+j,none⟩=some (.int .i64 x):=by
 have hl:=h.len;obtain ⟨x,hx⟩:∃x,L[j]? =some x:=at_of_lt (by omega);obtain ⟨ao,cap,hv,_,hat⟩:=h.row;injection hv with h1 h2 h3
 subst h1;obtain ⟨lb,lo,e,hlt,hc⟩:=hat (by omega);have h4:=hc j x hx 0 _ rfl;rw[Nat.mul_one,Nat.add_zero]at h4;exact ⟨x,lb,lo,hx,e,hlt,h4⟩
end Go.Proofs.YtfenoaeoedobmaaGreatDoor
