/-
For every list of documents of bulk at most 1048576, SchemaAlone returns true, and its argument reads behind the call as it read before. Its conditions: that bound, and what the listed package variables hold (tied to the program's text by the card).
-/
import Derived.SevenTiedAt
import Derived.Test.YtfenoaeoedobmaaGreatDoorAl45
set_option maxRecDepth 100000
set_option linter.unusedVariables false
set_option linter.unusedSimpArgs false
namespace Go.Proofs.YtfenoaeoedobmaaGreatDoor
open Go.ChangeShapes Go.WideShapes Go.ChangeAt Go.RowKit Go.Deep
theorem gP10: Tryz.prog.globalNamed "internal/strconv.uint64pow10"=some 2 :=by kernel_rfl
theorem tab_of_laid {W:World} (h:laidMetH Tryz.prog laid5 W):Tab W:=by
 have hL:laidMet Tryz.prog laid5 W:=h;exact Lib.tabIs_of_head gP10 (by kernel_rfl) Tryz.underlying268 Tryz.underlying184 (by kernel_rfl) (by kernel_rfl) hL.tail.tail
theorem globT_of_laid {W:World} (h:laidMetH Tryz.prog laid5 W) (hs:W.ShapedOpen Tryz.prog):GlobT W:=
 ⟨aNh h hs,tab_of_laid h⟩
theorem docs_cap {W:World} {H:Type} {enc:TypeId×Value->H} {v:Value} {d:DataW H} {p:List MemPlace} (h:DataW.Trod enc Tryz.prog W 0 (fun _=>true) true 22 v d p):∀a n c,v= .slice a n c->n<=c:=by
 obtain ⟨fuel,hf⟩:=h;intro a n c hv;rcases open_slice Tryz.underlying22 hf with ⟨hcs,_⟩|⟨a2,len,cap,m,nn,D,Pl,hcs,hb,hl,_⟩
 ·subst hv;have e:=(List.cons.inj (show [Value.slice a n c]=[Value.slice none 0 0] from hcs)).1;injection e with e1 e2 e3
  omega
 ·subst hv;have e:=(List.cons.inj (show [Value.slice a n c]=[Value.slice (some a2) len cap] from hcs)).1;injection e with e1 e2 e3
  omega
end Go.Proofs.YtfenoaeoedobmaaGreatDoor
namespace Go.Proofs.YtfenoaeoedobmaaGreatDoor.schemaAlone
open Go.ChangeShapes Go.WideShapes Go.ChangeAt Go.RowKit
theorem contract (H:Type) (enc:TypeId×Value->H) (W:World) (base:Nat) (args:Array Value) (ds gs:List (DataW H)) (before:List MemPlace)
 (hval:∀(j:Nat) t v,Tryz.f5.params[j]? =some t->args[j]? =some v->Value.okWide Tryz.prog W .any base t v)
 (hW:DataW.Whole enc Tryz.prog Tryz.f5.params.toList Rows.schemaAloneSpec.vars false W args.toList ds gs before) (hk:Rows.uptoSmall H (ds++gs)=true) (hL:laidMetH Tryz.prog laid5 W) (hsh:W.ShapedOpen Tryz.prog):
 Calls Tryz.prog 5 args W fun e W'=>∃v,e= .returned v/\Rows.schemaAloneSpec.post enc Tryz.prog Tryz.f5 false true false false W args v W':=by
 have hW':=hW;obtain ⟨p,q,hA0,hV,rfl,hfz,hnd⟩:=hW;have hA:DataW.TrodAll enc Tryz.prog W 0 (fun _=>true) true Tryz.f5.params.toList args.toList ds p:=hA0;rw[Tryz.params5]at hA hval;obtain ⟨v0,d0,rfl,rfl,h0⟩:=trodAll_one hA;obtain ⟨rfl,rfl⟩:=trodVars_none hV;have k0:=h0;have lt0:∀x∈p,x.block<W.heap.size:=by obtain ⟨m,hm⟩:=k0;exact DataW.trod_lt m _ _ _ hm
 clear hA0;simp only[List.append_nil]at hW';have hbulk:Rows.uptoBulk d0<=1048576:=by
  have h:Rows.uptoBulkAll ([d0]++([]:List (DataW H)))<=1048576:=of_decide_eq_true hk;simp only[List.append_nil,Rows.uptoBulkAll]at h;omega
 obtain ⟨docs,hd⟩:=aOz (hval 0 22 v0 rfl rfl) h0 hbulk;have hcap:∀a n c,v0= .slice a n c->n<=c:=docs_cap h0;refine (aLt W v0 docs hd hcap (globT_of_laid hL hsh)).mono fun e W' ⟨he,bel⟩=> ?_;subst he;exact ⟨_,rfl,_,_,_,[],_,[],hW',trodAll_mk1 (shut_bool Tryz.underlying4 _),(trodAll_mk1 (Below.trod a3h (by kernel_rfl) (of_decide_eq_true (by kernel_rfl)) k0 bel lt0)),rfl,bel.frame _,fun h=>by cases h⟩
theorem reads (os:Os) {H:Type} (enc:TypeId×Value->H):∃places,DataW.whole enc Tryz.prog ((aJj os).forCall (fun _ _=>0) ⟨#[],#[.slice none 0 0],[]⟩).memory Tryz.f5.params.toList Rows.schemaAloneSpec.vars false #[Value.slice none 0 0].toList 8=some ([.nil],[],places):=
 ⟨[],by kernel_rfl⟩
theorem lifted (os:Os) (started:os.Started) (H:Type) (enc:TypeId×Value->H) (F:Stop.Interp):
 ReturnsInHanded {} Tryz.checked os 5 .any ((Rows.OpenSpec.upto Rows.schemaAloneSpec).preRow enc Tryz.prog Tryz.f5 Rows.schemaAloneUptoRow.domain false Rows.schemaAloneUptoRow.laid) (((Rows.OpenSpec.upto Rows.schemaAloneSpec).at F).post enc Tryz.prog Tryz.f5 false true false false):=by
 obtain ⟨places,hx⟩:=reads os enc;refine returnsInHanded_of_row (C:= Tryz.checked) (s:=Rows.OpenSpec.upto Rows.schemaAloneSpec) own started (by kernel_rfl) Tryz.func5
  (witness_row_at (enc:=enc) (C:= Tryz.checked) false (aJj os) #[.slice none 0 0] rfl (by kernel_rfl) (by kernel_rfl) (by kernel_rfl)
   (OpenSpec.preRow_of_cond 8 hx (by kernel_rfl) (fun k hk=>by cases hk;kernel_rfl) (by kernel_rfl) (aZs os _))) ?_
 intro W base args ds gs before hval hW _ hcond _ hL hsh _;exact contract H enc W base args ds gs before hval hW (hcond _ rfl) hL hsh
theorem said:Rows.SchemaAloneUptoSaid:=
 OpenClaim.holds_of_cond 5 Tryz.f5 rfl rfl rfl rfl rfl rfl rfl ⟨rfl,rfl,rfl,rfl,rfl⟩ rfl rfl rfl rfl rfl (by kernel_rfl) Tryz.func5 (by kernel_rfl)
  (of_decide_eq_true (by kernel_rfl)) (by unfold Func.isWrapper;first|(rw[if_pos (by decide+kernel)];kernel_rfl)|(rw[if_neg (by decide+kernel)];exact ⟨rfl,rfl⟩))
  (fun os started H enc _ F=>by rw[OpenClaim.pre_eq_preRow];exact lifted os started H enc F)
theorem plainArgs (f:FuncId) (fn:Func) (hf: Tryz.pinned.checked.prog.funcNamed "turnpike/turnpikelaw12.SchemaAlone"=some f) (hfn: Tryz.pinned.checked.prog.funcs[f]? =some fn):
 true= Tryz.pinned.checked.prog.looks []/\∀(j:Nat) t,fn.params[j]? =some t-> Tryz.pinned.checked.prog.wantsStandIn t=false:=by
 obtain rfl:f= 5 :=a3p ((show Tryz.prog.funcNamed "turnpike/turnpikelaw12.SchemaAlone"=some 5 by kernel_rfl).symm.trans hf) |>.symm;obtain rfl:fn= Tryz.f5 :=(a3p (Tryz.func5.symm.trans hfn)).symm;refine ⟨by kernel_rfl,fun j t ht=> ?_⟩
 rw[Tryz.params5]at ht;have hm:t= 22 :=by simpa using Array.mem_of_getElem? ht
 rw[hm];exact (show Tryz.prog.wantsStandIn 22 =false by kernel_rfl)
theorem proved:Rows.SchemaAloneUptoCardSaid:=
 Claim7.holds_tied_plain_at .later [] _ _ _ _ said (fun _ h=>by cases h) (by kernel_rfl) (fun _ h=>by cases h) schemaAloneUpto_row_tie rfl ⟨rfl,rfl⟩ (by kernel_rfl) rfl plainArgs (by kernel_rfl)
#print axioms proved
end Go.Proofs.YtfenoaeoedobmaaGreatDoor.schemaAlone
