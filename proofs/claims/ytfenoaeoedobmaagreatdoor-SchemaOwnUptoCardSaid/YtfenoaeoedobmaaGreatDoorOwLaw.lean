/-
For every list of documents of bulk at most 1048576, SchemaOwn returns true, and its argument reads behind the call as it read before. Its conditions: that bound, and what the listed package variables hold (tied to the program's text by the card).
-/
import Derived.SevenTiedAt
import Derived.Test.YtfenoaeoedobmaaGreatDoorOw47
set_option linter.unusedVariables false
set_option linter.unusedSimpArgs false
set_option maxRecDepth 100000
namespace Go.Proofs.YtfenoaeoedobmaaGreatDoor
open Go.ChangeShapes Go.WideShapes Go.ChangeAt Go.RowKit Go.Deep
theorem gP10: Tryz.prog.globalNamed "internal/strconv.uint64pow10"=some 2 :=by kernel_rfl
theorem tab_of_laid {W:World} (h:laidMetH Tryz.prog oV W):Tab W:=by
 have hL:laidMet Tryz.prog oV W:=h;exact Lib.tabIs_of_head gP10 (by kernel_rfl) Tryz.underlying268 Tryz.underlying184 (by kernel_rfl) (by kernel_rfl) hL.tail.tail
theorem globT_of_laid {W:World} (h:laidMetH Tryz.prog oV W) (hs:W.ShapedOpen Tryz.prog):GlobT W:=
 ⟨rX h hs,tab_of_laid h⟩
end Go.Proofs.YtfenoaeoedobmaaGreatDoor
namespace Go.Proofs.YtfenoaeoedobmaaGreatDoor.schemaOwn
open Go.ChangeShapes Go.WideShapes Go.ChangeAt Go.RowKit
theorem contract (H:Type) (enc:TypeId×Value->H) (W:World) (base:Nat) (args:Array Value) (ds gs:List (DataW H)) (before:List MemPlace)
 (hval:∀(j:Nat) t v,Tryz.f7.params[j]? =some t->args[j]? =some v->Value.okWide Tryz.prog W .any base t v)
 (hW:DataW.Whole enc Tryz.prog Tryz.f7.params.toList Rows.schemaOwnSpec.vars false W args.toList ds gs before) (hk:Rows.uptoSmall H (ds++gs)=true) (hL:laidMetH Tryz.prog oV W) (hsh:W.ShapedOpen Tryz.prog):
 Calls Tryz.prog 7 args W fun e W'=>∃v,e= .returned v/\Rows.schemaOwnSpec.post enc Tryz.prog Tryz.f7 false true false false W args v W':=by
 have hW':=hW;obtain ⟨p,q,hA0,hV,rfl,hfz,hnd⟩:=hW;have hA:DataW.TrodAll enc Tryz.prog W 0 (fun _=>true) true Tryz.f7.params.toList args.toList ds p:=hA0;rw[Tryz.params7]at hA hval;obtain ⟨v0,d0,rfl,rfl,h0⟩:=trodAll_one hA;obtain ⟨rfl,rfl⟩:=trodVars_none hV;have k0:=h0;have lt0:∀x∈p,x.block<W.heap.size:=by obtain ⟨m,hm⟩:=k0;exact DataW.trod_lt m _ _ _ hm
 clear hA0;simp only[List.append_nil]at hW';have hbulk:Rows.uptoBulk d0<=1048576:=by
  have h:Rows.uptoBulkAll ([d0]++([]:List (DataW H)))<=1048576:=of_decide_eq_true hk;simp only[List.append_nil,Rows.uptoBulkAll]at h;omega
 obtain ⟨docs,hd⟩:=uE (hval 0 22 v0 rfl rfl) h0 hbulk;refine (sY W v0 docs hd (globT_of_laid hL hsh)).mono fun e W' ⟨he,bel⟩=> ?_;subst he;exact ⟨_,rfl,_,_,_,[],_,[],hW',trodAll_mk1 (shut_bool Tryz.underlying4 _),(trodAll_mk1 (Below.trod laidOut (by kernel_rfl) (of_decide_eq_true (by kernel_rfl)) k0 bel lt0)),rfl,bel.frame _,fun h=>by cases h⟩
theorem reads (os:Os) {H:Type} (enc:TypeId×Value->H):∃places,DataW.whole enc Tryz.prog ((mo os).forCall (fun _ _=>0) ⟨#[],#[.slice none 0 0],[]⟩).memory Tryz.f7.params.toList Rows.schemaOwnSpec.vars false #[Value.slice none 0 0].toList 8=some ([.nil],[],places):=
 ⟨[],by kernel_rfl⟩
theorem lifted (os:Os) (started:os.Started) (H:Type) (enc:TypeId×Value->H) (F:Stop.Interp):
 ReturnsInHanded {} Tryz.checked os 7 .any ((Rows.OpenSpec.upto Rows.schemaOwnSpec).preRow enc Tryz.prog Tryz.f7 Rows.schemaOwnUptoRow.domain false Rows.schemaOwnUptoRow.laid) (((Rows.OpenSpec.upto Rows.schemaOwnSpec).at F).post enc Tryz.prog Tryz.f7 false true false false):=by
 obtain ⟨places,hx⟩:=reads os enc;refine returnsInHanded_of_row (C:= Tryz.checked) (s:=Rows.OpenSpec.upto Rows.schemaOwnSpec) own started (by kernel_rfl) Tryz.func7
  (witness_row_at (enc:=enc) (C:= Tryz.checked) false (mo os) #[.slice none 0 0] rfl (by kernel_rfl) (by kernel_rfl) (by kernel_rfl)
   (OpenSpec.preRow_of_cond 8 hx (by kernel_rfl) (fun k hk=>by cases hk;kernel_rfl) (by kernel_rfl) (CI os _))) ?_
 intro W base args ds gs before hval hW _ hcond _ hL hsh _;exact contract H enc W base args ds gs before hval hW (hcond _ rfl) hL hsh
theorem said:Rows.SchemaOwnUptoSaid:=
 OpenClaim.holds_of_cond 7 Tryz.f7 rfl rfl rfl rfl rfl rfl rfl ⟨rfl,rfl,rfl,rfl,rfl⟩ rfl rfl rfl rfl rfl (by kernel_rfl) Tryz.func7 (by kernel_rfl)
  (of_decide_eq_true (by kernel_rfl)) (by unfold Func.isWrapper;first|(rw[if_pos (by decide+kernel)];kernel_rfl)|(rw[if_neg (by decide+kernel)];exact ⟨rfl,rfl⟩))
  (fun os started H enc _ F=>by rw[OpenClaim.pre_eq_preRow];exact lifted os started H enc F)
theorem plainArgs (f:FuncId) (fn:Func) (hf: Tryz.pinned.checked.prog.funcNamed "turnpike/turnpikelaw12.SchemaOwn"=some f) (hfn: Tryz.pinned.checked.prog.funcs[f]? =some fn):
 true= Tryz.pinned.checked.prog.looks []/\∀(j:Nat) t,fn.params[j]? =some t-> Tryz.pinned.checked.prog.wantsStandIn t=false:=by
 obtain rfl:f= 7 :=aAf ((show Tryz.prog.funcNamed "turnpike/turnpikelaw12.SchemaOwn"=some 7 by kernel_rfl).symm.trans hf) |>.symm;obtain rfl:fn= Tryz.f7 :=(aAf (Tryz.func7.symm.trans hfn)).symm;refine ⟨by kernel_rfl,fun j t ht=> ?_⟩;rw[Tryz.params7]at ht
 have hm:t= 22 :=by simpa using Array.mem_of_getElem? ht
 rw[hm];exact (show Tryz.prog.wantsStandIn 22 =false by kernel_rfl)
theorem proved:Rows.SchemaOwnUptoCardSaid:=
 Claim7.holds_tied_plain_at .later [] _ _ _ _ said (fun _ h=>by cases h) (by kernel_rfl) (fun _ h=>by cases h) schemaOwnUpto_row_tie rfl ⟨rfl,rfl⟩ (by kernel_rfl) rfl plainArgs (by kernel_rfl)
#print axioms proved
end Go.Proofs.YtfenoaeoedobmaaGreatDoor.schemaOwn
