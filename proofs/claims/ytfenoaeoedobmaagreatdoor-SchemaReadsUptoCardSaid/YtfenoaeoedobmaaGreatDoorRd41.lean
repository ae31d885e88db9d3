/-
Parts of a proof, one behind the other (laid dense by a program of mine: pack.py).
-/
import Derived.Test.YtfenoaeoedobmaaGreatDoorRd40
set_option linter.unusedVariables false
set_option linter.unusedSimpArgs false
set_option maxHeartbeats 4000000
set_option maxRecDepth 20000
namespace Go.Proofs.YtfenoaeoedobmaaGreatDoor
open Go Go.RowKit
theorem out_blk {id:Nat} {Q:Exit→Act→World→Prop} {a:Act} {w:World} (h:Q .normal a w):Exit.inBlock id Q (.exit id) a w:=by
 show (if id=id then Q .normal a w else _)
 rw[if_pos rfl];exact h
def preE (kd:Int) (nm:ByteArray) (v:Value):Array Value:=#[.int .i64 kd,.string nm,v,.slice none 0 0,.string ⟨#[]⟩,.slice none 0 0,.string ⟨#[]⟩,.bool false]
def preT (kd:Int) (nm:ByteArray) (v:Value):Array Value:=#[.int .i64 kd,.string nm,.slice none 0 0,v,.string ⟨#[]⟩,.slice none 0 0,.string ⟨#[]⟩,.bool false]
def preU (kd:Int) (nm ht rt:ByteArray) (v:Value):Array Value:=#[.int .i64 kd,.string nm,.slice none 0 0,.slice none 0 0,.string ht,v,.string rt,.bool false]
def PostR (w0 w:World) (db b o cap:Nat) (ms:List NdM) (rb:Nat) (p:Res×St) (w':World):Prop:=
 DQ w0 w' db b o cap ms p.2∧Mod (fun k=>k=db∨k=rb) w w'∧∃ev tv rv,w'.heap[rb]? =some (.cells (resA p.1 ev tv rv) 49 (0,0))∧ResN w' w.heap.size p.1 ev tv rv
def resK (kd:Int) (nm:ByteArray):Res:=⟨kd,nm,[],[],⟨#[]⟩,[],⟨#[]⟩,false⟩
section
variable {w0 w:World} {Q:Exit→Act→World→Prop} {a:Act} {ms:List NdM} {db b o cap rb:Nat} {m0:NdM} {kd:Int} {nm:ByteArray}
theorem rest_S (hf:RqA a db rb) (h:RQ w0 w w db b o cap ms none rb 2 (preE kd nm) 9 1 (.slice none 0 0) 0 []) (h0:ms[0]? =some m0)
 (ok:∀a' w',a'.defers=[]→PostR w0 w db b o cap ms rb (serviceR (nds ms) (resK kd nm) none) w'→Q .normal a' w'):rqS.wp Tryz.prog Q a w:=by
 have hm:=nds_at h0
 show (Code.seq rqs2 (Code.seq rqs3 (Code.seq rqs4 (Code.block 1 rqsL)))).wp Tryz.prog Q a w
 refine rq_only1 _ hf h h0 (fun a1 w1 f1 h1=> ?_);refine rq_lst1 _ f1 h1 h0 (fun a2 w2 la lc f2 hL h2=> ?_);have hx:∀k,fieldN (nds ms) m0.nd kEndpoints=some k→k<ms.length:=fun k hk=>h1.dq.fldlt (List.mem_of_getElem? h0) k hk;obtain ⟨l1,l2⟩:=listR_low h1.dq hx 0 16 (onlyR (nds ms) [kKind,kName,kEndpoints] m0.nd.kids none);refine wp_block (rq_sloop f2 hL (by omega) l1 h2 (fun _=>rfl) (fun a3 w3 v3 hd h3=>out_blk (ok _ _ hd ?_)))
 have hs:serviceR (nds ms) (resK kd nm) none=({resK kd nm with endps:=(endpR (nds ms) (listR (nds ms) (fieldN (nds ms) m0.nd kEndpoints) 0 16 (onlyR (nds ms) [kKind,kName,kEndpoints] m0.nd.kids none)).1 [] (listR (nds ms) (fieldN (nds ms) m0.nd kEndpoints) 0 16 (onlyR (nds ms) [kKind,kName,kEndpoints] m0.nd.kids none)).2).1},(endpR (nds ms) (listR (nds ms) (fieldN (nds ms) m0.nd kEndpoints) 0 16 (onlyR (nds ms) [kKind,kName,kEndpoints] m0.nd.kids none)).1 [] (listR (nds ms) (fieldN (nds ms) m0.nd kEndpoints) 0 16 (onlyR (nds ms) [kKind,kName,kEndpoints] m0.nd.kids none)).2).2):=by
  unfold serviceR;simp only[hm]
 rw[hs];have hlen:=endpR_len (nds ms) (listR (nds ms) (fieldN (nds ms) m0.nd kEndpoints) 0 16 (onlyR (nds ms) [kKind,kName,kEndpoints] m0.nd.kids none)).1 [] (listR (nds ms) (fieldN (nds ms) m0.nd kEndpoints) 0 16 (onlyR (nds ms) [kKind,kName,kEndpoints] m0.nd.kids none)).2;refine ⟨h3.dq,h3.mod,v3,.slice none 0 0,.slice none 0 0,h3.blk,⟨h3.row,World.ownsRow_nil _ _ _ _,World.ownsRow_nil _ _ _ _,h3.new,nofun,nofun,?_,by simp[resK],by simp[resK]⟩⟩
 show (endpR (nds ms) _ [] _).1.length≤1000
 rw[hlen];simp only[List.length_nil];omega
theorem rest_T (hf:RqA a db rb) (h:RQ w0 w w db b o cap ms none rb 3 (preT kd nm) 58 3 (.slice none 0 0) 0 []) (h0:ms[0]? =some m0)
 (ok:∀a' w',a'.defers=[]→PostR w0 w db b o cap ms rb (splitR (nds ms) (resK kd nm) none) w'→Q .normal a' w'):rqT.wp Tryz.prog Q a w:=by
 have hm:=nds_at h0
 show (Code.seq rqt15 (Code.seq rqt16 (Code.seq rqt17 (Code.block 5 rqtL)))).wp Tryz.prog Q a w
 refine rq_only2 _ hf h h0 (fun a1 w1 f1 h1=> ?_);refine rq_lst2 _ f1 h1 h0 (fun a2 w2 la lc f2 hL h2=> ?_);generalize hn:needR (nds ms) m0.nd kTargets (onlyR (nds ms) [kKind,kName,kTargets] m0.nd.kids none)=nd at*;have hx:∀k,nd.1=some k→k<ms.length:=fun k hk=>h1.dq.fldlt (List.mem_of_getElem? h0) k (need_lt (by rw[hn];exact hk));obtain ⟨l1,l2⟩:=listR_low h1.dq hx 1 8 nd.2;generalize hl:listR (nds ms) nd.1 1 8 nd.2=ls at*
 refine wp_block (rq_tloop f2 hL (by omega) l1 h2 (fun _=>rfl) (fun a3 w3 v3 hd h3=>out_blk (ok _ _ hd ?_)));have hs:splitR (nds ms) (resK kd nm) none=({resK kd nm with targets:=(targetsR (nds ms) ls.1 [] ls.2).1},(targetsR (nds ms) ls.1 [] ls.2).2):=by
  unfold splitR;simp only[hm,hn,hl]
 rw[hs];have hlen:=targetsR_len (nds ms) ls.1 [] ls.2;refine ⟨h3.dq,h3.mod,.slice none 0 0,v3,.slice none 0 0,h3.blk,⟨World.ownsRow_nil _ _ _ _,h3.row,World.ownsRow_nil _ _ _ _,nofun,h3.new,nofun,by simp[resK],?_,by simp[resK]⟩⟩
 show (targetsR (nds ms) _ [] _).1.length≤1000
 simp only[List.length_nil]at hlen;omega
noncomputable def rqvT:Code:=nct (ncr rqu24)
noncomputable def rqvE:Code:=nce (ncr rqu24)
theorem rest_R {act:Bool} {st:St} {w1:World} {ht rt:ByteArray} (hf:RqL a db rb (lastK act)) (h:RQ w0 w w1 db b o cap ms st rb 5 (preU kd nm ht rt) 60 4 (.slice none 0 0) 0 []) (h0:ms[0]? =some m0)
 (ok:∀a' w',a'.defers=[]→PostR w0 w db b o cap ms rb (rulesT (nds ms) act {resK kd nm with host:=ht,route:=rt} st) w'→Q .normal a' w'):(Code.seq rqu32 (Code.seq rqu33 (Code.block 7 rquL))).wp Tryz.prog Q a w1:=by
 have hm:=nds_at h0;refine rq_lst3 _ hf h h0 (fun a2 w2 la lc f2 hL h2=> ?_);generalize hn:needR (nds ms) m0.nd kRules st=nd at*;have hx:∀k,nd.1=some k→k<ms.length:=fun k hk=>h.dq.fldlt (List.mem_of_getElem? h0) k (need_lt (by rw[hn];exact hk));obtain ⟨l1,l2⟩:=listR_low h.dq hx 1 16 nd.2;generalize hl:listR (nds ms) nd.1 1 16 nd.2=ls at*;refine wp_block (rq_uloop (act:=act) f2 hL (by omega) l1 h2 (fun _=>rfl) (fun a3 w3 v3 hd h3=>out_blk (ok _ _ hd ?_)))
 have hs:rulesT (nds ms) act {resK kd nm with host:=ht,route:=rt} st=({resK kd nm with host:=ht,route:=rt,rules:=(rulesR (nds ms) act ls.1 [] ls.2).1},(rulesR (nds ms) act ls.1 [] ls.2).2):=by
  unfold rulesT;simp only[hm,hn,hl]
 rw[hs];have hlen:=rulesR_len (nds ms) act ls.1 [] ls.2;refine ⟨h3.dq,h3.mod,.slice none 0 0,.slice none 0 0,v3,h3.blk,⟨World.ownsRow_nil _ _ _ _,World.ownsRow_nil _ _ _ _,h3.row,nofun,nofun,h3.new,by simp[resK],by simp[resK],?_⟩⟩
 show (rulesR (nds ms) act _ [] _).1.length≤1000
 simp only[List.length_nil]at hlen;omega
theorem rest_U3 (hf:RqA a db rb) (h:RQ w0 w w db b o cap ms none rb 5 (preU 3 nm ⟨#[]⟩ ⟨#[]⟩) 60 4 (.slice none 0 0) 0 []) (h0:ms[0]? =some m0)
 (ok:∀a' w',a'.defers=[]→PostR w0 w db b o cap ms rb (routeR (nds ms) (resK 3 nm) none) w'→Q .normal a' w'):rqu.wp Tryz.prog Q a w:=by
 have hm:=nds_at h0;have c0:w.cell? ⟨rb,0,none⟩=some (.int .i64 3):=cell_blk h.blk 0;have HK:=hid (fun (Q1:Exit→Act→World→Prop) (a1:Act) (f1:RqL a1 db rb kSplit) (hq:∀a' w',(Code.seq rqu32 (Code.seq rqu33 (Code.block 7 rquL))).wp Tryz.prog Q a' w'→Q1 .normal a' w')=>show rqvT.wp Tryz.prog Q1 a1 w from by
  show (Code.seq rqv25 (Code.seq rqv26 rqv27)).wp Tryz.prog Q1 a1 w
  generalize hp:(wordR (nds ms) (needR (nds ms) m0.nd kHost (onlyR (nds ms) [kKind,kName,kHost,kRules] m0.nd.kids none)).1 (hostB (textR (nds ms) (needR (nds ms) m0.nd kHost (onlyR (nds ms) [kKind,kName,kHost,kRules] m0.nd.kids none)).1)) (needR (nds ms) m0.nd kHost (onlyR (nds ms) [kKind,kName,kHost,kRules] m0.nd.kids none)).2)=p;refine rq_host (pre2:=preU 3 nm (foldB p.1) ⟨#[]⟩) f1 h rfl h0 (by rw[hp];rfl) (fun _ _=>rfl) (fun a2 w2 f2 h2=>hq _ _ ?_)
  rw[hp]at h2;refine rest_R (act:=false) f2 h2 h0 (fun a' w' hd hP=>ok _ _ hd ?_);have hr:routeR (nds ms) (resK 3 nm) none=rulesT (nds ms) false {resK 3 nm with host:=foldB p.1} p.2:=by
   unfold routeR;simp only[hm,hp]
  rw[hr];exact hP)
 obtain ⟨vv,rfl⟩:=hf.shape;clear hf h ok h0 hm
 show (Code.seq rqu23 (Code.seq (Code.seq rqv24 (Code.cond (.tmp 135) rqvT rqvE)) (Code.seq rqu32 (Code.seq rqu33 (Code.block 7 rquL))))).wp Tryz.prog Q _ w
 have hX:∃X,X=Code.seq rqu32 (Code.seq rqu33 (Code.block 7 rquL)):=⟨_,rfl⟩;obtain ⟨X,hX⟩:=hX;rw[←hX]at HK ⊢;clear hX;dsimp only[rqu23,rqv24,ncs,ncl,ncr,ncb,nco,nct,nce,ncx,Tryz.f62];go_wp2
 rename_i K1 hK1
 exact HK.out _ _ ⟨rfl,rfl,rfl,rfl,rfl⟩ (fun a' w' hw=>hK1 _ _ hw)
theorem rest_U4 (hf:RqA a db rb) (h:RQ w0 w w db b o cap ms none rb 5 (preU 4 nm ⟨#[]⟩ ⟨#[]⟩) 60 4 (.slice none 0 0) 0 []) (h0:ms[0]? =some m0)
 (ok:∀a' w',a'.defers=[]→PostR w0 w db b o cap ms rb (policyR (nds ms) (resK 4 nm) none) w'→Q .normal a' w'):rqu.wp Tryz.prog Q a w:=by
 have hm:=nds_at h0;have c0:w.cell? ⟨rb,0,none⟩=some (.int .i64 4):=cell_blk h.blk 0;have HK:=hid (fun (Q1:Exit→Act→World→Prop) (a1:Act) (f1:RqL a1 db rb kSplit) (hq:∀a' w',(Code.seq rqu32 (Code.seq rqu33 (Code.block 7 rquL))).wp Tryz.prog Q a' w'→Q1 .normal a' w')=>show rqvE.wp Tryz.prog Q1 a1 w from by
  show (Code.seq rqv28 (Code.seq rqv29 (Code.seq rqv30 rqv31))).wp Tryz.prog Q1 a1 w
  generalize hp:(wordR (nds ms) (needR (nds ms) m0.nd kRoute (onlyR (nds ms) [kKind,kName,kRoute,kRules] m0.nd.kids none)).1 (isName (textR (nds ms) (needR (nds ms) m0.nd kRoute (onlyR (nds ms) [kKind,kName,kRoute,kRules] m0.nd.kids none)).1)) (needR (nds ms) m0.nd kRoute (onlyR (nds ms) [kKind,kName,kRoute,kRules] m0.nd.kids none)).2)=p;refine rq_pol (pre2:=preU 4 nm ⟨#[]⟩ p.1) f1 h rfl h0 (by rw[hp];rfl) (fun _ _=>rfl) (fun a2 w2 f2 h2=>hq _ _ ?_)
  rw[hp]at h2;refine rest_R (act:=true) f2 h2 h0 (fun a' w' hd hP=>ok _ _ hd ?_);have hr:policyR (nds ms) (resK 4 nm) none=rulesT (nds ms) true {resK 4 nm with route:=p.1} p.2:=by
   unfold policyR;simp only[hm,hp]
  rw[hr];exact hP)
 obtain ⟨vv,rfl⟩:=hf.shape;clear hf h ok h0 hm
 show (Code.seq rqu23 (Code.seq (Code.seq rqv24 (Code.cond (.tmp 135) rqvT rqvE)) (Code.seq rqu32 (Code.seq rqu33 (Code.block 7 rquL))))).wp Tryz.prog Q _ w
 have hX:∃X,X=Code.seq rqu32 (Code.seq rqu33 (Code.block 7 rquL)):=⟨_,rfl⟩;obtain ⟨X,hX⟩:=hX;rw[←hX]at HK ⊢;clear hX;dsimp only[rqu23,rqv24,ncs,ncl,ncr,ncb,nco,nct,nce,ncx,Tryz.f62];go_wp2
 rename_i K1 hK1
 exact HK.out _ _ ⟨rfl,rfl,rfl,rfl,rfl⟩ (fun a' w' hw=>hK1 _ _ hw)
def preAll (kd:Int) (nm:ByteArray):Array Value:=#[.int .i64 kd,.string nm,.slice none 0 0,.slice none 0 0,.string ⟨#[]⟩,.slice none 0 0,.string ⟨#[]⟩,.bool false]
theorem rest_r {k:Nat} (h:DQ w0 w db b o cap ms none) (h0:ms[0]? =some m0) (hb:w.heap[rb]? =some (.cells (preAll (k:Int) nm) 49 (0,0))) (hne:rb≠db) (hlo:w0.heap.size≤rb) (hk1:1≤k) (hk4:k≤4):
 Calls Tryz.prog 62 #[.pointer (some ⟨db,0,none⟩),.pointer (some ⟨rb,0,none⟩)] w fun r w'=>r= .returned (.tuple #[])∧PostR w0 w db b o cap ms rb (restR (nds ms) (resK (k:Int) nm) k none) w':=by
 have hq:∀(f:Nat) (pre:Value→Array Value) (e sz:Nat),0<sz→w.heap[rb]? =some (.cells (pre (.slice none 0 0)) 49 (0,0))→(∀v v',(pre v).setIfInBounds f v'=pre v')→RQ w0 w w db b o cap ms none rb f pre e sz (.slice none 0 0) 0 []:=fun f pre e sz hz hb hs=>
  ⟨h,Mod.refl _ _,hb,World.ownsRow_nil _ _ _ _,nofun,hs,lt_of_heap hb,lt_of_heap h.doc,hne,hlo⟩
 have c0:w.cell? ⟨rb,0,none⟩=some (.int .i64 (k:Int)):=cell_blk hb 0;have HS:=hid (fun Q a hf ok (e:k=1)=>rest_S (Q:=Q) (a:=a) hf (hq 2 (preE (k:Int) nm) 9 1 (by decide) hb (fun _ _=>rfl)) h0 ok);have HT:=hid (fun Q a hf ok (e:k=2)=>rest_T (Q:=Q) (a:=a) hf (hq 3 (preT (k:Int) nm) 58 3 (by decide) hb (fun _ _=>rfl)) h0 ok);have H3:=hid (fun Q a hf ok (e:k=3)=>rest_U3 (Q:=Q) (a:=a) (nm:=nm) hf (hq 5 (preU 3 nm ⟨#[]⟩ ⟨#[]⟩) 60 4 (by decide) (by rw[hb,e];rfl) (fun _ _=>rfl)) h0 ok)
 have H4:=hid (fun Q a hf ok (e:k=4)=>rest_U4 (Q:=Q) (a:=a) (nm:=nm) hf (hq 5 (preU 4 nm ⟨#[]⟩ ⟨#[]⟩) 60 4 (by decide) (by rw[hb,e];rfl) (fun _ _=>rfl)) h0 ok);clear h h0 hb hne hlo hq;refine calls_of_wp Tryz.func62 rfl ?_
 show Code.wp _ (Code.seq rqH (Code.block 0 (Code.seq rqb1 (Code.cond (.tmp 19) rqS (Code.seq rqe14 (Code.cond (.tmp 91) rqT (Code.seq (Code.seq rqe21 (Code.cond (.tmp 128) .skip rqe22)) (Code.cond (.tmp 128) rqu .skip)))))))) _ _ _
 simp only[Tryz.ntmps62,List.size_toArray,List.length_cons,List.length_nil,Nat.reduceAdd,Nat.reduceSub,Array.replicate_succ,Array.replicate_zero,List.push_toArray,List.append_toArray,List.nil_append,List.cons_append];dsimp only[rqH,rqb1,rqe14,rqe21,rqe22,ncs,ncl,ncr,ncb,nco,nct,nce,ncx,Tryz.f62];have hfin:∀(k':Nat) (p:Res×St) (a':Act) (w':World),a'.defers=[]→PostR w0 w db b o cap ms rb p w'→restR (nds ms) (resK (k:Int) nm) k none=p→bodyPost Tryz.prog Tryz.f62 (fun r w'=>r= .returned (.tuple #[])∧PostR w0 w db b o cap ms rb (restR (nds ms) (resK (k:Int) nm) k none) w') .normal a' w':=fun k' p a' w' hd hP hp=>⟨hd,.tuple #[],results_none rfl _ _ _,rfl,by rw[hp];exact hP⟩
 have HF:=hid (hfin 0);clear hfin;rcases (show k=1∨k=2∨k=3∨k=4 by omega) with rfl|rfl|rfl|rfl
 ·clear HT H3 H4 hk1 hk4;go_wp2;refine HS.out _ _ ⟨rfl,rfl,rfl,rfl⟩ (fun a' w' hd hP=> ?_) trivial;exact HF.out _ a' w' hd hP (by unfold restR;simp)
 ·clear HS H3 H4 hk1 hk4;go_wp2;refine HT.out _ _ ⟨rfl,rfl,rfl,rfl⟩ (fun a' w' hd hP=> ?_) trivial;exact HF.out _ a' w' hd hP (by unfold restR;simp)
 ·clear HS HT H4 hk1 hk4;go_wp2;refine H3.out _ _ ⟨rfl,rfl,rfl,rfl⟩ (fun a' w' hd hP=> ?_) trivial;exact HF.out _ a' w' hd hP (by unfold restR;simp)
 ·clear HS HT H3 hk1 hk4;go_wp2;refine H4.out _ _ ⟨rfl,rfl,rfl,rfl⟩ (fun a' w' hd hP=> ?_) trivial;exact HF.out _ a' w' hd hP (by unfold restR;simp)
end
noncomputable def xr0:Code:=(ncl (ncx Tryz.f22.body))
noncomputable def xr1:Code:=(ncl (ncr (ncx Tryz.f22.body)))
noncomputable def xr3:Code:=(ncl (ncr (ncr (ncx Tryz.f22.body))))
noncomputable def xr4:Code:=(ncl (ncr (ncr (ncr (ncx Tryz.f22.body)))))
noncomputable def xr5:Code:=(ncl (ncr (ncr (ncr (ncr (ncx Tryz.f22.body))))))
noncomputable def xr7:Code:=(ncl (ncr (ncr (ncr (ncr (ncr (ncx Tryz.f22.body)))))))
noncomputable def xr8:Code:=(ncl (ncr (ncr (ncr (ncr (ncr (ncr (ncx Tryz.f22.body))))))))
noncomputable def xr8h:Code:=(ncl (ncl (ncr (ncr (ncr (ncr (ncr (ncr (ncx Tryz.f22.body)))))))))
noncomputable def xrK:Code:=(nct (ncr (ncl (ncr (ncr (ncr (ncr (ncr (ncr (ncx Tryz.f22.body))))))))))
noncomputable def xrK9:Code:=(ncl (ncl (nct (ncr (ncl (ncr (ncr (ncr (ncr (ncr (ncr (ncx Tryz.f22.body))))))))))))
noncomputable def xrKL:Code:=(ncb (ncr (ncl (nct (ncr (ncl (ncr (ncr (ncr (ncr (ncr (ncr (ncx Tryz.f22.body)))))))))))))
noncomputable def xrKT:Code:=(ncl (nco (ncb (ncr (ncl (nct (ncr (ncl (ncr (ncr (ncr (ncr (ncr (ncr (ncx Tryz.f22.body)))))))))))))))
noncomputable def xrKR:Code:=(ncb (ncl (ncr (nco (ncb (ncr (ncl (nct (ncr (ncl (ncr (ncr (ncr (ncr (ncr (ncr (ncx Tryz.f22.body)))))))))))))))))
noncomputable def xrK12:Code:=(ncl (ncb (ncl (ncr (nco (ncb (ncr (ncl (nct (ncr (ncl (ncr (ncr (ncr (ncr (ncr (ncr (ncx Tryz.f22.body))))))))))))))))))
noncomputable def xrK13:Code:=(ncr (ncb (ncl (ncr (nco (ncb (ncr (ncl (nct (ncr (ncl (ncr (ncr (ncr (ncr (ncr (ncr (ncx Tryz.f22.body))))))))))))))))))
noncomputable def xrK11:Code:=(ncr (ncr (nco (ncb (ncr (ncl (nct (ncr (ncl (ncr (ncr (ncr (ncr (ncr (ncr (ncx Tryz.f22.body))))))))))))))))
noncomputable def xrK14:Code:=(ncr (nct (ncr (ncl (ncr (ncr (ncr (ncr (ncr (ncr (ncx Tryz.f22.body)))))))))))
noncomputable def xr16:Code:=(ncl (ncr (ncr (ncr (ncr (ncr (ncr (ncr (ncx Tryz.f22.body)))))))))
noncomputable def xr17:Code:=(ncl (ncr (ncr (ncr (ncr (ncr (ncr (ncr (ncr (ncx Tryz.f22.body))))))))))
noncomputable def xr19:Code:=(ncl (ncr (ncr (ncr (ncr (ncr (ncr (ncr (ncr (ncr (ncx Tryz.f22.body)))))))))))
noncomputable def xr20:Code:=(ncl (ncr (ncr (ncr (ncr (ncr (ncr (ncr (ncr (ncr (ncr (ncx Tryz.f22.body))))))))))))
noncomputable def xr22:Code:=(ncl (ncr (ncr (ncr (ncr (ncr (ncr (ncr (ncr (ncr (ncr (ncr (ncx Tryz.f22.body)))))))))))))
noncomputable def xr23h:Code:=(ncl (ncl (ncr (ncr (ncr (ncr (ncr (ncr (ncr (ncr (ncr (ncr (ncr (ncr (ncx Tryz.f22.body)))))))))))))))
noncomputable def xrD:Code:=(nct (ncr (ncl (ncr (ncr (ncr (ncr (ncr (ncr (ncr (ncr (ncr (ncr (ncr (ncr (ncx Tryz.f22.body))))))))))))))))
noncomputable def xrD24:Code:=(ncl (nct (ncr (ncl (ncr (ncr (ncr (ncr (ncr (ncr (ncr (ncr (ncr (ncr (ncr (ncr (ncx Tryz.f22.body)))))))))))))))))
noncomputable def xrD25:Code:=(ncl (ncr (nct (ncr (ncl (ncr (ncr (ncr (ncr (ncr (ncr (ncr (ncr (ncr (ncr (ncr (ncr (ncx Tryz.f22.body))))))))))))))))))
noncomputable def xrD27:Code:=(ncl (ncr (ncr (nct (ncr (ncl (ncr (ncr (ncr (ncr (ncr (ncr (ncr (ncr (ncr (ncr (ncr (ncr (ncx Tryz.f22.body)))))))))))))))))))
noncomputable def xrD28:Code:=(ncr (ncr (ncr (nct (ncr (ncl (ncr (ncr (ncr (ncr (ncr (ncr (ncr (ncr (ncr (ncr (ncr (ncr (ncx Tryz.f22.body)))))))))))))))))))
noncomputable def xrF:Code:=(nce (ncr (ncl (ncr (ncr (ncr (ncr (ncr (ncr (ncr (ncr (ncr (ncr (ncr (ncr (ncx Tryz.f22.body))))))))))))))))
noncomputable def xr30:Code:=(ncl (ncr (ncr (ncr (ncr (ncr (ncr (ncr (ncr (ncr (ncr (ncr (ncr (ncr (ncx Tryz.f22.body)))))))))))))))
noncomputable def xrE:Code:=(ncr (ncr (ncr (ncr (ncr (ncr (ncr (ncr (ncr (ncr (ncr (ncr (ncr (ncr (ncx Tryz.f22.body)))))))))))))))
theorem xr_act (a:Act) (hs:a.tmps.size=158) (hd:a.defers=[]):∃v:Nat→Value,(∀(i:Nat) (x:Value),a.tmps[i]? =some x→v i=x)∧a=⟨#[v 0,v 1,v 2,v 3,v 4,v 5,v 6,v 7,v 8,v 9,v 10,v 11,v 12,v 13,v 14,v 15,v 16,v 17,v 18,v 19,v 20,v 21,v 22,v 23,v 24,v 25,v 26,v 27,v 28,v 29,v 30,v 31,v 32,v 33,v 34,v 35,v 36,v 37,v 38,v 39,v 40,v 41,v 42,v 43,v 44,v 45,v 46,v 47,v 48,v 49,v 50,v 51,v 52,v 53,v 54,v 55,v 56,v 57,v 58,v 59,v 60,v 61,v 62,v 63,v 64,v 65,v 66,v 67,v 68,v 69,v 70,v 71,v 72,v 73,v 74,v 75,v 76,v 77,v 78,v 79,v 80,v 81,v 82,v 83,v 84,v 85,v 86,v 87,v 88,v 89,v 90,v 91,v 92,v 93,v 94,v 95,v 96,v 97,v 98,v 99,v 100,v 101,v 102,v 103,v 104,v 105,v 106,v 107,v 108,v 109,v 110,v 111,v 112,v 113,v 114,v 115,v 116,v 117,v 118,v 119,v 120,v 121,v 122,v 123,v 124,v 125,v 126,v 127,v 128,v 129,v 130,v 131,v 132,v 133,v 134,v 135,v 136,v 137,v 138,v 139,v 140,v 141,v 142,v 143,v 144,v 145,v 146,v 147,v 148,v 149,v 150,v 151,v 152,v 153,v 154,v 155,v 156,v 157],[]⟩:=by
 obtain ⟨t,d⟩:=a;obtain ⟨l⟩:=t;obtain rfl:d=[]:=hd;have hl:l.length=158:=hs;refine ⟨fun i=>l.getD i undef,fun i x hx=> ?_,?_⟩
 ·have hx':l[i]? =some x:=by simpa using hx
  simp[List.getD,hx']
 ·have e:l=(List.range 158).map (fun i=>l.getD i undef):=by
   apply List.ext_getElem
   ·simp[hl]
   ·intro i h1 h2;simp[List.getD,h1]
  generalize (fun i=>l.getD i undef)=v at e ⊢;subst e;rfl
structure XrA (a:Act) (b:Nat) (o:Nat) (q:Nat) (cap:Nat) (rn:Nat) (db:Nat) (rb:Nat):Prop where
 size:a.tmps.size=158
 dfr:a.defers=[]
 s0:a.tmps[0]? =some (.slice (some ⟨b,o,none⟩) q cap)
 s2:a.tmps[2]? =some (.pointer (some ⟨rn,0,none⟩))
 s5:a.tmps[5]? =some (.pointer (some ⟨db,0,none⟩))
 s6:a.tmps[6]? =some (.pointer (some ⟨rb,0,none⟩))
theorem XrA.shape {a:Act} {b:Nat} {o:Nat} {q:Nat} {cap:Nat} {rn:Nat} {db:Nat} {rb:Nat} (h:XrA a b o q cap rn db rb):∃v:Nat→Value,a=⟨#[.slice (some ⟨b,o,none⟩) q cap,v 1,.pointer (some ⟨rn,0,none⟩),v 3,v 4,.pointer (some ⟨db,0,none⟩),.pointer (some ⟨rb,0,none⟩),v 7,v 8,v 9,v 10,v 11,v 12,v 13,v 14,v 15,v 16,v 17,v 18,v 19,v 20,v 21,v 22,v 23,v 24,v 25,v 26,v 27,v 28,v 29,v 30,v 31,v 32,v 33,v 34,v 35,v 36,v 37,v 38,v 39,v 40,v 41,v 42,v 43,v 44,v 45,v 46,v 47,v 48,v 49,v 50,v 51,v 52,v 53,v 54,v 55,v 56,v 57,v 58,v 59,v 60,v 61,v 62,v 63,v 64,v 65,v 66,v 67,v 68,v 69,v 70,v 71,v 72,v 73,v 74,v 75,v 76,v 77,v 78,v 79,v 80,v 81,v 82,v 83,v 84,v 85,v 86,v 87,v 88,v 89,v 90,v 91,v 92,v 93,v 94,v 95,v 96,v 97,v 98,v 99,v 100,v 101,v 102,v 103,v 104,v 105,v 106,v 107,v 108,v 109,v 110,v 111,v 112,v 113,v 114,v 115,v 116,v 117,v 118,v 119,v 120,v 121,v 122,v 123,v 124,v 125,v 126,v 127,v 128,v 129,v 130,v 131,v 132,v 133,v 134,v 135,v 136,v 137,v 138,v 139,v 140,v 141,v 142,v 143,v 144,v 145,v 146,v 147,v 148,v 149,v 150,v 151,v 152,v 153,v 154,v 155,v 156,v 157],[]⟩:=by
 obtain ⟨v,hv,hd⟩:=xr_act a h.size h.dfr;have e0:=hv 0 _ h.s0;have e2:=hv 2 _ h.s2;have e5:=hv 5 _ h.s5;have e6:=hv 6 _ h.s6;refine ⟨v,?_⟩;rw[hd];simp only[e0,e2,e5,e6]
structure XrB (a:Act) (b:Nat) (o:Nat) (q:Nat) (cap:Nat) (rn:Nat) (db:Nat) (rb:Nat) (x:Option Nat):Prop where
 size:a.tmps.size=158
 dfr:a.defers=[]
 s0:a.tmps[0]? =some (.slice (some ⟨b,o,none⟩) q cap)
 s2:a.tmps[2]? =some (.pointer (some ⟨rn,0,none⟩))
 s5:a.tmps[5]? =some (.pointer (some ⟨db,0,none⟩))
 s6:a.tmps[6]? =some (.pointer (some ⟨rb,0,none⟩))
 s7:a.tmps[7]? =some (.int .i64 (fldV x))
theorem XrB.shape {a:Act} {b:Nat} {o:Nat} {q:Nat} {cap:Nat} {rn:Nat} {db:Nat} {rb:Nat} {x:Option Nat} (h:XrB a b o q cap rn db rb x):∃v:Nat→Value,a=⟨#[.slice (some ⟨b,o,none⟩) q cap,v 1,.pointer (some ⟨rn,0,none⟩),v 3,v 4,.pointer (some ⟨db,0,none⟩),.pointer (some ⟨rb,0,none⟩),.int .i64 (fldV x),v 8,v 9,v 10,v 11,v 12,v 13,v 14,v 15,v 16,v 17,v 18,v 19,v 20,v 21,v 22,v 23,v 24,v 25,v 26,v 27,v 28,v 29,v 30,v 31,v 32,v 33,v 34,v 35,v 36,v 37,v 38,v 39,v 40,v 41,v 42,v 43,v 44,v 45,v 46,v 47,v 48,v 49,v 50,v 51,v 52,v 53,v 54,v 55,v 56,v 57,v 58,v 59,v 60,v 61,v 62,v 63,v 64,v 65,v 66,v 67,v 68,v 69,v 70,v 71,v 72,v 73,v 74,v 75,v 76,v 77,v 78,v 79,v 80,v 81,v 82,v 83,v 84,v 85,v 86,v 87,v 88,v 89,v 90,v 91,v 92,v 93,v 94,v 95,v 96,v 97,v 98,v 99,v 100,v 101,v 102,v 103,v 104,v 105,v 106,v 107,v 108,v 109,v 110,v 111,v 112,v 113,v 114,v 115,v 116,v 117,v 118,v 119,v 120,v 121,v 122,v 123,v 124,v 125,v 126,v 127,v 128,v 129,v 130,v 131,v 132,v 133,v 134,v 135,v 136,v 137,v 138,v 139,v 140,v 141,v 142,v 143,v 144,v 145,v 146,v 147,v 148,v 149,v 150,v 151,v 152,v 153,v 154,v 155,v 156,v 157],[]⟩:=by
 obtain ⟨v,hv,hd⟩:=xr_act a h.size h.dfr;have e0:=hv 0 _ h.s0;have e2:=hv 2 _ h.s2;have e5:=hv 5 _ h.s5;have e6:=hv 6 _ h.s6;have e7:=hv 7 _ h.s7;refine ⟨v,?_⟩;rw[hd];simp only[e0,e2,e5,e6,e7]
structure XrC (a:Act) (b:Nat) (o:Nat) (q:Nat) (cap:Nat) (rn:Nat) (db:Nat) (rb:Nat) (x:Option Nat) (i:Nat):Prop where
 size:a.tmps.size=158
 dfr:a.defers=[]
 s0:a.tmps[0]? =some (.slice (some ⟨b,o,none⟩) q cap)
 s2:a.tmps[2]? =some (.pointer (some ⟨rn,0,none⟩))
 s5:a.tmps[5]? =some (.pointer (some ⟨db,0,none⟩))
 s6:a.tmps[6]? =some (.pointer (some ⟨rb,0,none⟩))
 s7:a.tmps[7]? =some (.int .i64 (fldV x))
 s8:a.tmps[8]? =some (.int .i64 (i:Int))
theorem XrC.shape {a:Act} {b:Nat} {o:Nat} {q:Nat} {cap:Nat} {rn:Nat} {db:Nat} {rb:Nat} {x:Option Nat} {i:Nat} (h:XrC a b o q cap rn db rb x i):∃v:Nat→Value,a=⟨#[.slice (some ⟨b,o,none⟩) q cap,v 1,.pointer (some ⟨rn,0,none⟩),v 3,v 4,.pointer (some ⟨db,0,none⟩),.pointer (some ⟨rb,0,none⟩),.int .i64 (fldV x),.int .i64 (i:Int),v 9,v 10,v 11,v 12,v 13,v 14,v 15,v 16,v 17,v 18,v 19,v 20,v 21,v 22,v 23,v 24,v 25,v 26,v 27,v 28,v 29,v 30,v 31,v 32,v 33,v 34,v 35,v 36,v 37,v 38,v 39,v 40,v 41,v 42,v 43,v 44,v 45,v 46,v 47,v 48,v 49,v 50,v 51,v 52,v 53,v 54,v 55,v 56,v 57,v 58,v 59,v 60,v 61,v 62,v 63,v 64,v 65,v 66,v 67,v 68,v 69,v 70,v 71,v 72,v 73,v 74,v 75,v 76,v 77,v 78,v 79,v 80,v 81,v 82,v 83,v 84,v 85,v 86,v 87,v 88,v 89,v 90,v 91,v 92,v 93,v 94,v 95,v 96,v 97,v 98,v 99,v 100,v 101,v 102,v 103,v 104,v 105,v 106,v 107,v 108,v 109,v 110,v 111,v 112,v 113,v 114,v 115,v 116,v 117,v 118,v 119,v 120,v 121,v 122,v 123,v 124,v 125,v 126,v 127,v 128,v 129,v 130,v 131,v 132,v 133,v 134,v 135,v 136,v 137,v 138,v 139,v 140,v 141,v 142,v 143,v 144,v 145,v 146,v 147,v 148,v 149,v 150,v 151,v 152,v 153,v 154,v 155,v 156,v 157],[]⟩:=by
 obtain ⟨v,hv,hd⟩:=xr_act a h.size h.dfr;have e0:=hv 0 _ h.s0;have e2:=hv 2 _ h.s2;have e5:=hv 5 _ h.s5;have e6:=hv 6 _ h.s6;have e7:=hv 7 _ h.s7;have e8:=hv 8 _ h.s8;refine ⟨v,?_⟩;rw[hd];simp only[e0,e2,e5,e6,e7,e8]
structure XrN (a:Act) (b:Nat) (o:Nat) (q:Nat) (cap:Nat) (rn:Nat) (db:Nat) (rb:Nat) (x:Option Nat):Prop where
 size:a.tmps.size=158
 dfr:a.defers=[]
 s0:a.tmps[0]? =some (.slice (some ⟨b,o,none⟩) q cap)
 s2:a.tmps[2]? =some (.pointer (some ⟨rn,0,none⟩))
 s5:a.tmps[5]? =some (.pointer (some ⟨db,0,none⟩))
 s6:a.tmps[6]? =some (.pointer (some ⟨rb,0,none⟩))
 s9:a.tmps[9]? =some (.int .i64 (fldV x))
theorem XrN.shape {a:Act} {b:Nat} {o:Nat} {q:Nat} {cap:Nat} {rn:Nat} {db:Nat} {rb:Nat} {x:Option Nat} (h:XrN a b o q cap rn db rb x):∃v:Nat→Value,a=⟨#[.slice (some ⟨b,o,none⟩) q cap,v 1,.pointer (some ⟨rn,0,none⟩),v 3,v 4,.pointer (some ⟨db,0,none⟩),.pointer (some ⟨rb,0,none⟩),v 7,v 8,.int .i64 (fldV x),v 10,v 11,v 12,v 13,v 14,v 15,v 16,v 17,v 18,v 19,v 20,v 21,v 22,v 23,v 24,v 25,v 26,v 27,v 28,v 29,v 30,v 31,v 32,v 33,v 34,v 35,v 36,v 37,v 38,v 39,v 40,v 41,v 42,v 43,v 44,v 45,v 46,v 47,v 48,v 49,v 50,v 51,v 52,v 53,v 54,v 55,v 56,v 57,v 58,v 59,v 60,v 61,v 62,v 63,v 64,v 65,v 66,v 67,v 68,v 69,v 70,v 71,v 72,v 73,v 74,v 75,v 76,v 77,v 78,v 79,v 80,v 81,v 82,v 83,v 84,v 85,v 86,v 87,v 88,v 89,v 90,v 91,v 92,v 93,v 94,v 95,v 96,v 97,v 98,v 99,v 100,v 101,v 102,v 103,v 104,v 105,v 106,v 107,v 108,v 109,v 110,v 111,v 112,v 113,v 114,v 115,v 116,v 117,v 118,v 119,v 120,v 121,v 122,v 123,v 124,v 125,v 126,v 127,v 128,v 129,v 130,v 131,v 132,v 133,v 134,v 135,v 136,v 137,v 138,v 139,v 140,v 141,v 142,v 143,v 144,v 145,v 146,v 147,v 148,v 149,v 150,v 151,v 152,v 153,v 154,v 155,v 156,v 157],[]⟩:=by
 obtain ⟨v,hv,hd⟩:=xr_act a h.size h.dfr;have e0:=hv 0 _ h.s0;have e2:=hv 2 _ h.s2;have e5:=hv 5 _ h.s5;have e6:=hv 6 _ h.s6;have e9:=hv 9 _ h.s9;refine ⟨v,?_⟩;rw[hd];simp only[e0,e2,e5,e6,e9]
structure XrX (a:Act) (b:Nat) (o:Nat) (q:Nat) (cap:Nat) (rn:Nat) (db:Nat) (rb:Nat) (x:Option Nat):Prop where
 size:a.tmps.size=158
 dfr:a.defers=[]
 s0:a.tmps[0]? =some (.slice (some ⟨b,o,none⟩) q cap)
 s2:a.tmps[2]? =some (.pointer (some ⟨rn,0,none⟩))
 s5:a.tmps[5]? =some (.pointer (some ⟨db,0,none⟩))
 s6:a.tmps[6]? =some (.pointer (some ⟨rb,0,none⟩))
 s10:a.tmps[10]? =some (.int .i64 (fldV x))
theorem XrX.shape {a:Act} {b:Nat} {o:Nat} {q:Nat} {cap:Nat} {rn:Nat} {db:Nat} {rb:Nat} {x:Option Nat} (h:XrX a b o q cap rn db rb x):∃v:Nat→Value,a=⟨#[.slice (some ⟨b,o,none⟩) q cap,v 1,.pointer (some ⟨rn,0,none⟩),v 3,v 4,.pointer (some ⟨db,0,none⟩),.pointer (some ⟨rb,0,none⟩),v 7,v 8,v 9,.int .i64 (fldV x),v 11,v 12,v 13,v 14,v 15,v 16,v 17,v 18,v 19,v 20,v 21,v 22,v 23,v 24,v 25,v 26,v 27,v 28,v 29,v 30,v 31,v 32,v 33,v 34,v 35,v 36,v 37,v 38,v 39,v 40,v 41,v 42,v 43,v 44,v 45,v 46,v 47,v 48,v 49,v 50,v 51,v 52,v 53,v 54,v 55,v 56,v 57,v 58,v 59,v 60,v 61,v 62,v 63,v 64,v 65,v 66,v 67,v 68,v 69,v 70,v 71,v 72,v 73,v 74,v 75,v 76,v 77,v 78,v 79,v 80,v 81,v 82,v 83,v 84,v 85,v 86,v 87,v 88,v 89,v 90,v 91,v 92,v 93,v 94,v 95,v 96,v 97,v 98,v 99,v 100,v 101,v 102,v 103,v 104,v 105,v 106,v 107,v 108,v 109,v 110,v 111,v 112,v 113,v 114,v 115,v 116,v 117,v 118,v 119,v 120,v 121,v 122,v 123,v 124,v 125,v 126,v 127,v 128,v 129,v 130,v 131,v 132,v 133,v 134,v 135,v 136,v 137,v 138,v 139,v 140,v 141,v 142,v 143,v 144,v 145,v 146,v 147,v 148,v 149,v 150,v 151,v 152,v 153,v 154,v 155,v 156,v 157],[]⟩:=by
 obtain ⟨v,hv,hd⟩:=xr_act a h.size h.dfr;have e0:=hv 0 _ h.s0;have e2:=hv 2 _ h.s2;have e5:=hv 5 _ h.s5;have e6:=hv 6 _ h.s6;have e10:=hv 10 _ h.s10;refine ⟨v,?_⟩;rw[hd];simp only[e0,e2,e5,e6,e10]
structure XrV (a:Act) (b:Nat) (o:Nat) (q:Nat) (cap:Nat) (rn:Nat) (db:Nat) (rb:Nat) (x:Option Nat) (vb:Nat):Prop where
 size:a.tmps.size=158
 dfr:a.defers=[]
 s0:a.tmps[0]? =some (.slice (some ⟨b,o,none⟩) q cap)
 s2:a.tmps[2]? =some (.pointer (some ⟨rn,0,none⟩))
 s5:a.tmps[5]? =some (.pointer (some ⟨db,0,none⟩))
 s6:a.tmps[6]? =some (.pointer (some ⟨rb,0,none⟩))
 s10:a.tmps[10]? =some (.int .i64 (fldV x))
 s11:a.tmps[11]? =some (.pointer (some ⟨vb,0,none⟩))
theorem XrV.shape {a:Act} {b:Nat} {o:Nat} {q:Nat} {cap:Nat} {rn:Nat} {db:Nat} {rb:Nat} {x:Option Nat} {vb:Nat} (h:XrV a b o q cap rn db rb x vb):∃v:Nat→Value,a=⟨#[.slice (some ⟨b,o,none⟩) q cap,v 1,.pointer (some ⟨rn,0,none⟩),v 3,v 4,.pointer (some ⟨db,0,none⟩),.pointer (some ⟨rb,0,none⟩),v 7,v 8,v 9,.int .i64 (fldV x),.pointer (some ⟨vb,0,none⟩),v 12,v 13,v 14,v 15,v 16,v 17,v 18,v 19,v 20,v 21,v 22,v 23,v 24,v 25,v 26,v 27,v 28,v 29,v 30,v 31,v 32,v 33,v 34,v 35,v 36,v 37,v 38,v 39,v 40,v 41,v 42,v 43,v 44,v 45,v 46,v 47,v 48,v 49,v 50,v 51,v 52,v 53,v 54,v 55,v 56,v 57,v 58,v 59,v 60,v 61,v 62,v 63,v 64,v 65,v 66,v 67,v 68,v 69,v 70,v 71,v 72,v 73,v 74,v 75,v 76,v 77,v 78,v 79,v 80,v 81,v 82,v 83,v 84,v 85,v 86,v 87,v 88,v 89,v 90,v 91,v 92,v 93,v 94,v 95,v 96,v 97,v 98,v 99,v 100,v 101,v 102,v 103,v 104,v 105,v 106,v 107,v 108,v 109,v 110,v 111,v 112,v 113,v 114,v 115,v 116,v 117,v 118,v 119,v 120,v 121,v 122,v 123,v 124,v 125,v 126,v 127,v 128,v 129,v 130,v 131,v 132,v 133,v 134,v 135,v 136,v 137,v 138,v 139,v 140,v 141,v 142,v 143,v 144,v 145,v 146,v 147,v 148,v 149,v 150,v 151,v 152,v 153,v 154,v 155,v 156,v 157],[]⟩:=by
 obtain ⟨v,hv,hd⟩:=xr_act a h.size h.dfr;have e0:=hv 0 _ h.s0;have e2:=hv 2 _ h.s2;have e5:=hv 5 _ h.s5;have e6:=hv 6 _ h.s6;have e10:=hv 10 _ h.s10;have e11:=hv 11 _ h.s11;refine ⟨v,?_⟩;rw[hd];simp only[e0,e2,e5,e6,e10,e11]
def resD (kd:Int) (nm:ByteArray) (dl:Bool):Array Value:=#[.int .i64 kd,.string nm,.slice none 0 0,.slice none 0 0,.string ⟨#[]⟩,.slice none 0 0,.string ⟨#[]⟩,.bool dl]
structure XQ (w0 w:World) (db b o cap:Nat) (ms:List NdM) (st:St) (rn rb:Nat) (kd:Int) (nm:ByteArray) (dl:Bool):Prop where
 dq:DQ w0 w db b o cap ms st
 rnk:w.heap[rn]? =some (.cells (resD 0 ⟨#[]⟩ false) 49 (0,0))
 rbk:w.heap[rb]? =some (.cells (resD kd nm dl) 49 (0,0))
 nlo:w0.heap.size≤rn
 blo:w0.heap.size≤rb
 nd:rn≠db
 bd:rb≠db
 nb:rn≠rb
theorem XQ.call {w0 w w2:World} {db b o cap:Nat} {ms:List NdM} {st st2:St} {rn rb:Nat} {kd:Int} {nm:ByteArray} {dl:Bool} (h:XQ w0 w db b o cap ms st rn rb kd nm dl) (hd:DQ w0 w2 db b o cap ms st2) (hm:Mod (fun k=>k=db) w w2):XQ w0 w2 db b o cap ms st2 rn rb kd nm dl:=
 ⟨hd,hm.heap h.rnk h.nd,hm.heap h.rbk h.bd,h.nlo,h.blo,h.nd,h.bd,h.nb⟩
theorem XQ.later {w0 w w2:World} {db b o cap:Nat} {ms:List NdM} {st:St} {rn rb:Nat} {kd:Int} {nm:ByteArray} {dl:Bool} (h:XQ w0 w db b o cap ms st rn rb kd nm dl) (hb:Below w.heap.size w w2):XQ w0 w2 db b o cap ms st rn rb kd nm dl:=
 h.call (h.dq.later hb) ((mod_below hb).mono (fun _ _ f=>f.elim))
theorem XQ.put {w0 w:World} {db b o cap:Nat} {ms:List NdM} {st:St} {rn rb:Nat} {kd kd':Int} {nm nm':ByteArray} {dl dl':Bool} (h:XQ w0 w db b o cap ms st rn rb kd nm dl) (i:Nat) (v:Value) (he:(resD kd nm dl).setIfInBounds i v=resD kd' nm' dl'):XQ w0 (w.setCell ⟨rb,i,none⟩ v) db b o cap ms st rn rb kd' nm' dl':=by
 have m2:Mod (fun k=>k=rb) w (w.setCell ⟨rb,i,none⟩ v):=(Mod.refl _ _).setCell _ _ (fun _=>rfl);have hb:=h.blo;exact ⟨h.dq.step m2 (fun q=>h.bd q.symm) (fun k q=>by omega),m2.heap h.rnk h.nb,by rw[set_blk h.rbk,he],h.nlo,h.blo,h.nd,h.bd,h.nb⟩
def SReadR (w0:World) (x:Res×Int×Int) (r:Ending) (w':World):Prop:=
 ∃ev tv rv,r= .returned (.tuple #[.agg (resA x.1 ev tv rv),.int .i64 x.2.1,.int .i64 x.2.2])∧ResN w' w0.heap.size x.1 ev tv rv∧Below w0.heap.size w0 w'
theorem results_xr {w:World} {n:Nat} {l e:Int} {arr:List Value} {tmps:Array Value} (h2:tmps[2]? =some (.pointer (some ⟨n,0,none⟩))) (h3:tmps[3]? =some (.int .i64 l)) (h4:tmps[4]? =some (.int .i64 e)) (ha:w.heap[n]? =some (.cells arr.toArray 49 (0,0))) (hl:arr.length=8):
 (results Tryz.f22 tmps).run Tryz.prog w= .ok (.tuple #[.agg arr.toArray,.int .i64 l,.int .i64 e]) w:=by
 have h1:=run_loadVar_mid (P:= Tryz.prog) w n 0 49 arr _ (range_blk ha) Tryz.underlying49 rfl (show (Tryz.prog.info? 49).map (·.size)=some arr.length by rw[hl];kernel_rfl);rw[Array.getElem?_eq_some_iff]at h2 h3 h4;obtain ⟨l2,e2⟩:=h2;obtain ⟨l3,e3⟩:=h3;obtain ⟨l4,e4⟩:=h4;simp[results,Tryz.results22,asAddr,Array.getD,l2,e2,l3,e3,l4,e4,h1]
theorem kinds_r (w:World):Calls Tryz.prog 54 #[] w fun r w'=>∃g,r= .returned (.slice (some ⟨g,0,none⟩) 5 5)∧Below w.heap.size w w'∧∀i s,kindL[i]? =some s→w'.cell? ⟨g,0+i,none⟩=some (.string s):=by
 have Hb:=hid (fun o=>(Below.refl w.heap.size w).alloc (Nat.le_refl _) o);have Hc:=hid (show ∀i s,kindL[i]? =some s→(w.alloc (.cells kindA 9)).cell? ⟨w.heap.size,0+i,none⟩=some (.string s) from fun i s hs=>by
  rw[Nat.zero_add,cell_blk (alloc_new _)];have hi:i<5:=(List.getElem?_eq_some_iff.1 hs).1
  match i,hi,hs with
  |0,_,hs=>cases hs;rfl
  |1,_,hs=>cases hs;rfl
  |2,_,hs=>cases hs;rfl
  |3,_,hs=>cases hs;rfl
  |4,_,hs=>cases hs;rfl)
 unfold kindA at Hc;go_enter Tryz.func54,Tryz.ntmps54;go_wp2;go_ret;exact ⟨_,rfl,Hb.out _,Hc.out⟩
end Go.Proofs.YtfenoaeoedobmaaGreatDoor
