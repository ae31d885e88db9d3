/-
For every list of resources of bulk at most 1048576, SchemaBack returns true, and its argument reads behind the call as it read before. Its conditions: that bound, and what the listed package variables hold (tied to the program's text by the card).
-/
import Derived.SevenTiedAt
import Derived.Test.YtfenoaeoedobmaaGreatDoorBk48
set_option maxRecDepth 100000
set_option linter.unusedVariables false
set_option linter.unusedSimpArgs false
namespace Go.Proofs.YtfenoaeoedobmaaGreatDoor.schemaBack
open Go.ChangeShapes Go.WideShapes Go.ChangeAt Go.RowKit
theorem contract (H:Type) (enc:TypeId×Value->H) (W:World) (base:Nat) (args:Array Value) (ds gs:List (DataW H)) (before:List MemPlace)
 (hval:∀(j:Nat) t v,Tryz.f4.params[j]? =some t->args[j]? =some v->Value.okWide Tryz.prog W .any base t v)
 (hW:DataW.Whole enc Tryz.prog Tryz.f4.params.toList Rows.schemaBackSpec.vars false W args.toList ds gs before) (hk:Rows.uptoSmall H (ds++gs)=true) (hL:laidMetH Tryz.prog laid5 W) (hsh:W.ShapedOpen Tryz.prog):
 Calls Tryz.prog 4 args W fun e W'=>∃v,e= .returned v/\Rows.schemaBackSpec.post enc Tryz.prog Tryz.f4 false true false false W args v W':=by
 have hW':=hW;obtain ⟨p,q,hA0,hV,rfl,hfz,hnd⟩:=hW;have hA:DataW.TrodAll enc Tryz.prog W 0 (fun _=>true) true Tryz.f4.params.toList args.toList ds p:=hA0;rw[Tryz.params4]at hA hval;obtain ⟨v0,d0,rfl,rfl,h0⟩:=trodAll_one hA;obtain ⟨rfl,rfl⟩:=trodVars_none hV;have k0:=h0;have lt0:∀x∈p,x.block<W.heap.size:=by obtain ⟨m,hm⟩:=k0;exact DataW.trod_lt m _ _ _ hm
 clear hA0;simp only[List.append_nil]at hW';have hbulk:Rows.uptoBulk d0<=1048576:=by
  have h:Rows.uptoBulkAll ([d0]++([]:List (DataW H)))<=1048576:=of_decide_eq_true hk;simp only[List.append_nil,Rows.uptoBulkAll]at h;omega
 obtain ⟨docs,hd,hz⟩:=aQt (hval 0 24 v0 rfl rfl) h0 hbulk;refine (aPa W v0 docs hd hz (aM6 hL hsh)).mono fun e W' ⟨he,bel⟩=> ?_;subst he;exact ⟨_,rfl,_,_,_,[],_,[],hW',trodAll_mk1 (shut_bool Tryz.underlying4 _),(trodAll_mk1 (Below.trod a69 (by kernel_rfl) (of_decide_eq_true (by kernel_rfl)) k0 bel lt0)),rfl,bel.frame _,fun h=>by cases h⟩
theorem reads (os:Os) {H:Type} (enc:TypeId×Value->H):∃places,DataW.whole enc Tryz.prog ((aKk os).forCall (fun _ _=>0) ⟨#[],#[.slice none 0 0],[]⟩).memory Tryz.f4.params.toList Rows.schemaBackSpec.vars false #[Value.slice none 0 0].toList 8=some ([.nil],[],places):=
 ⟨[],by kernel_rfl⟩
theorem lifted (os:Os) (started:os.Started) (H:Type) (enc:TypeId×Value->H) (F:Stop.Interp):
 ReturnsInHanded {} Tryz.checked os 4 .any ((Rows.OpenSpec.upto Rows.schemaBackSpec).preRow enc Tryz.prog Tryz.f4 Rows.schemaBackUptoRow.domain false Rows.schemaBackUptoRow.laid) (((Rows.OpenSpec.upto Rows.schemaBackSpec).at F).post enc Tryz.prog Tryz.f4 false true false false):=by
 obtain ⟨places,hx⟩:=reads os enc;refine returnsInHanded_of_row (C:= Tryz.checked) (s:=Rows.OpenSpec.upto Rows.schemaBackSpec) own started (by kernel_rfl) Tryz.func4
  (witness_row_at (enc:=enc) (C:= Tryz.checked) false (aKk os) #[.slice none 0 0] rfl (by kernel_rfl) (by kernel_rfl) (by kernel_rfl)
   (OpenSpec.preRow_of_cond 8 hx (by kernel_rfl) (fun k hk=>by cases hk;kernel_rfl) (by kernel_rfl) (a27 os _))) ?_
 intro W base args ds gs before hval hW _ hcond _ hL hsh _;exact contract H enc W base args ds gs before hval hW (hcond _ rfl) hL hsh
theorem said:Rows.SchemaBackUptoSaid:=
 OpenClaim.holds_of_cond 4 Tryz.f4 rfl rfl rfl rfl rfl rfl rfl ⟨rfl,rfl,rfl,rfl,rfl⟩ rfl rfl rfl rfl rfl (by kernel_rfl) Tryz.func4 (by kernel_rfl)
  (of_decide_eq_true (by kernel_rfl)) (by unfold Func.isWrapper;first|(rw[if_pos (by decide+kernel)];kernel_rfl)|(rw[if_neg (by decide+kernel)];exact ⟨rfl,rfl⟩))
  (fun os started H enc _ F=>by rw[OpenClaim.pre_eq_preRow];exact lifted os started H enc F)
theorem plainArgs (f:FuncId) (fn:Func) (hf: Tryz.pinned.checked.prog.funcNamed "turnpike/turnpikelaw12.SchemaBack"=some f) (hfn: Tryz.pinned.checked.prog.funcs[f]? =some fn):
 true= Tryz.pinned.checked.prog.looks []/\∀(j:Nat) t,fn.params[j]? =some t-> Tryz.pinned.checked.prog.wantsStandIn t=false:=by
 obtain rfl:f= 4 :=a7h ((show Tryz.prog.funcNamed "turnpike/turnpikelaw12.SchemaBack"=some 4 by kernel_rfl).symm.trans hf) |>.symm;obtain rfl:fn= Tryz.f4 :=(a7h (Tryz.func4.symm.trans hfn)).symm;refine ⟨by kernel_rfl,fun j t ht=> ?_⟩
 rw[Tryz.params4]at ht;have hm:t= 24 :=by simpa using Array.mem_of_getElem? ht
 rw[hm];exact (show Tryz.prog.wantsStandIn 24 =false by kernel_rfl)
theorem proved:Rows.SchemaBackUptoCardSaid:=
 Claim7.holds_tied_plain_at .later [] _ _ _ _ said (fun _ h=>by cases h) (by kernel_rfl) (fun _ h=>by cases h) schemaBackUpto_row_tie rfl ⟨rfl,rfl⟩ (by kernel_rfl) rfl plainArgs (by kernel_rfl)
#print axioms proved
