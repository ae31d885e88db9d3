/-
For every text of bulk at most 1048576, SchemaOne returns true, and its argument reads behind the call as it read before. Its conditions: that bound, and what the listed package variables hold (tied to the program's text by the card).
-/
import Derived.SevenTiedAt
import Derived.Test.YtfenoaeoedobmaaGreatDoorOn50
set_option linter.unusedVariables false
set_option linter.unusedSimpArgs false
set_option maxRecDepth 100000
namespace Go.Proofs.YtfenoaeoedobmaaGreatDoor
open Go.ChangeShapes Go.WideShapes Go.ChangeAt Go.RowKit Go.Deep
theorem byte_in {H:Type} {enc:TypeId×Value->H} {W:World} {sp:Nat->Bool} {held:Bool} {base:Nat} (n:Nat) (cs:List Value) (y:DataW H×List MemPlace) (h:DataW.trod enc Tryz.prog W base sp held n 5 cs=some y):∃c:UInt8,(∀(j:Nat) (u:Value),(dz c)[j]? =some u->cs[j]? =some u)/\True:=by
 obtain ⟨z,e,_,hw⟩:=DataW.trod_int Tryz.underlying5 h;have hz:0<=z/\z<=255:=by simpa[Lit.wf,IntKind.min,IntKind.max,IntKind.signed,IntKind.bits] using hw
 refine ⟨UInt8.ofNat z.toNat,fun j u hj=> ?_,trivial⟩;have e2:dz (UInt8.ofNat z.toNat)=[Value.int .u8 z]:=by
  unfold dz;rw[UInt8.toNat_ofNat',show z.toNat % 2 ^ 8=z.toNat by omega,Int.toNat_of_nonneg hz.1]
 rw[e,<-e2];exact hj
theorem cellsU8: Tryz.prog.cellsOf 5 =1:=by kernel_rfl
theorem bytes_opened {W:World} {H:Type} {enc:TypeId×Value->H} {b0:Nat} {v:Value} {d:DataW H} {p:List MemPlace} (hv:Value.okWide Tryz.prog W .any b0 42 v) (h:DataW.Trod enc Tryz.prog W 0 (fun _=>true) true 42 v d p) (hB:Rows.uptoBulk d<=1048576):
 ∃bs:List UInt8,SlR W v 1 bs dz:=by
 obtain ⟨a0,len0,cap0,rfl⟩:=okWide_slice Tryz.underlying42 hv;obtain ⟨fuel,hf⟩:=h;obtain ⟨ao,cap,bs,e1,bG,kZ,_⟩:=Vi dz (fun _ _=>True) Tryz.underlying42 cellsU8 (by decide) (fun _=>rfl) byte_in hf;have e1':[Value.slice a0 len0 cap0]=[Value.slice ao bs.length cap]:=e1;have hb1':bs.length<=Rows.uptoBulk d:=bG;rw[(List.cons.inj e1').1];exact ⟨bs,slrS (by omega) kZ⟩
end Go.Proofs.YtfenoaeoedobmaaGreatDoor
namespace Go.Proofs.YtfenoaeoedobmaaGreatDoor.schemaOne
open Go.ChangeShapes Go.WideShapes Go.ChangeAt Go.RowKit
theorem contract (H:Type) (enc:TypeId×Value->H) (W:World) (base:Nat) (args:Array Value) (ds gs:List (DataW H)) (before:List MemPlace)
 (FA:∀(j:Nat) t v,Tryz.f6.params[j]? =some t->args[j]? =some v->Value.okWide Tryz.prog W .any base t v)
 (hW:DataW.Whole enc Tryz.prog Tryz.f6.params.toList Rows.schemaOneSpec.vars false W args.toList ds gs before) (hk:Rows.uptoSmall H (ds++gs)=true) (hL:laidMetH Tryz.prog wU W) (hsh:W.ShapedOpen Tryz.prog):
 Calls Tryz.prog 6 args W fun e W'=>∃v,e= .returned v/\Rows.schemaOneSpec.post enc Tryz.prog Tryz.f6 false true false false W args v W':=by
 have hW':=hW;obtain ⟨p,q,hA0,hV,rfl,hfz,fh⟩:=hW;have hA:DataW.TrodAll enc Tryz.prog W 0 (fun _=>true) true Tryz.f6.params.toList args.toList ds p:=hA0;rw[Tryz.params6]at hA FA;obtain ⟨v0,d0,rfl,rfl,h0⟩:=trodAll_one hA;obtain ⟨rfl,rfl⟩:=trodVars_none hV;have k0:=h0;have lt0:∀x∈p,x.block<W.heap.size:=by obtain ⟨m,hm⟩:=k0;exact DataW.trod_lt m _ _ _ hm
 clear hA0;simp only[List.append_nil]at hW';have hbulk:Rows.uptoBulk d0<=1048576:=by
  have h:Rows.uptoBulkAll ([d0]++([]:List (DataW H)))<=1048576:=of_decide_eq_true hk;simp only[List.append_nil,Rows.uptoBulkAll]at h;omega
 obtain ⟨bs,hd⟩:=bytes_opened (FA 0 42 v0 rfl rfl) h0 hbulk;refine (B7 W v0 bs hd (yl hL hsh)).mono fun e W' ⟨he,bel⟩=> ?_;subst he;exact ⟨_,rfl,_,_,_,[],_,[],hW',trodAll_mk1 (shut_bool Tryz.underlying4 _),(trodAll_mk1 (Below.trod Sd (by kernel_rfl) (of_decide_eq_true (by kernel_rfl)) k0 bel lt0)),rfl,bel.frame _,fun h=>by cases h⟩
theorem reads (os:Os) {H:Type} (enc:TypeId×Value->H):∃places,DataW.whole enc Tryz.prog ((sB os).forCall (fun _ _=>0) ⟨#[],#[.slice none 0 0],[]⟩).memory Tryz.f6.params.toList Rows.schemaOneSpec.vars false #[Value.slice none 0 0].toList 8=some ([.nil],[],places):=
 ⟨[],by kernel_rfl⟩
theorem lifted (os:Os) (started:os.Started) (H:Type) (enc:TypeId×Value->H) (F:Stop.Interp):
 ReturnsInHanded {} Tryz.checked os 6 .any ((Rows.OpenSpec.upto Rows.schemaOneSpec).preRow enc Tryz.prog Tryz.f6 Rows.schemaOneUptoRow.domain false Rows.schemaOneUptoRow.laid) (((Rows.OpenSpec.upto Rows.schemaOneSpec).at F).post enc Tryz.prog Tryz.f6 false true false false):=by
 obtain ⟨places,hx⟩:=reads os enc;refine returnsInHanded_of_row (C:= Tryz.checked) (s:=Rows.OpenSpec.upto Rows.schemaOneSpec) own started (by kernel_rfl) Tryz.func6
  (witness_row_at (enc:=enc) (C:= Tryz.checked) false (sB os) #[.slice none 0 0] rfl (by kernel_rfl) (by kernel_rfl) (by kernel_rfl)
   (OpenSpec.preRow_of_cond 8 hx (by kernel_rfl) (fun k hk=>by cases hk;kernel_rfl) (by kernel_rfl) (N0 os _))) ?_
 intro W base args ds gs before FA hW _ Z9 _ hL hsh _;exact contract H enc W base args ds gs before FA hW (Z9 _ rfl) hL hsh
theorem said:Rows.SchemaOneUptoSaid:=
 OpenClaim.holds_of_cond 6 Tryz.f6 rfl rfl rfl rfl rfl rfl rfl ⟨rfl,rfl,rfl,rfl,rfl⟩ rfl rfl rfl rfl rfl (by kernel_rfl) Tryz.func6 (by kernel_rfl)
  (of_decide_eq_true (by kernel_rfl)) (by unfold Func.isWrapper;first|(rw[if_pos (by decide+kernel)];kernel_rfl)|(rw[if_neg (by decide+kernel)];exact ⟨rfl,rfl⟩))
  (fun os started H enc _ F=>by rw[OpenClaim.pre_eq_preRow];exact lifted os started H enc F)
theorem plainArgs (f:FuncId) (fn:Func) (hf: Tryz.pinned.checked.prog.funcNamed "turnpike/turnpikelaw12.SchemaOne"=some f) (eh: Tryz.pinned.checked.prog.funcs[f]? =some fn):
 true= Tryz.pinned.checked.prog.looks []/\∀(j:Nat) t,fn.params[j]? =some t-> Tryz.pinned.checked.prog.wantsStandIn t=false:=by
 obtain rfl:f= 6 :=aBm ((show Tryz.prog.funcNamed "turnpike/turnpikelaw12.SchemaOne"=some 6 by kernel_rfl).symm.trans hf) |>.symm;obtain rfl:fn= Tryz.f6 :=(aBm (Tryz.func6.symm.trans eh)).symm;refine ⟨by kernel_rfl,fun j t ht=> ?_⟩;rw[Tryz.params6]at ht
 have hm:t= 42 :=by simpa using Array.mem_of_getElem? ht
 rw[hm];exact (show Tryz.prog.wantsStandIn 42 =false by kernel_rfl)
theorem proved:Rows.SchemaOneUptoCardSaid:=
 Claim7.holds_tied_plain_at .later [] _ _ _ _ said (fun _ h=>by cases h) (by kernel_rfl) (fun _ h=>by cases h) schemaOneUpto_row_tie rfl ⟨rfl,rfl⟩ (by kernel_rfl) rfl plainArgs (by kernel_rfl)
#print axioms proved
end Go.Proofs.YtfenoaeoedobmaaGreatDoor.schemaOne
