/- SyntaxBack: for every input of bulk at most 1048576 the law returns true, and each argument reads behind the call as it read before; the listed tables -/
import Derived.Test.YtgbeechjghajcaaGreatDoorJoinG
set_option linter.unusedVariables false
set_option linter.unusedSimpArgs false
namespace Go.Proofs.YtgbeechjghajcaaGreatDoor
open Go Go.Fw Go.NatM Go.RatM Go.SrcM
section
variable {vU vI vP vM vO vF vR vS:Value}
theorem topF_of {h:Array Obj} {s:SrcV} (hs:Top h vU vI vP vM vO vF vR vS s):TopF (fun k=>k<h.size) h vU vI vP vM vO vF vR vS s:=
 ⟨Ro.rof hs.U,Ro.rof hs.I,Ro.rof hs.P,Ro.rof hs.M,Ro.rof hs.O,Ro.rof hs.F,Ro.rof hs.R,Ro.rof hs.S,hs.below⟩
theorem syntaxBack_law {h:Array Obj} (s:SrcV) (hs:Top h vU vI vP vM vO vF vR vS s) (hw:s.wf) (hB:SrcM.fewN s≤4000000000000000000) (hT:PowH h):FnV Tryz.prog 5 #[srcV vU vI vP vM vO vF vR vS] h fun r h'=>r=.bool true∧Keeps h.size h h':=
 lawG (synBack_fn s hB) ⟨topF_of hs,powT_of hT⟩ rfl
end
end Go.Proofs.YtgbeechjghajcaaGreatDoor

namespace Go.Proofs.YtgbeechjghajcaaGreatDoor.syntaxBack
open Go Go.Fw Go.ChangeShapes Go.ChangeMaps Go.WideShapes Go.ChangeAt Go.RowKit
set_option maxRecDepth 100000
theorem contract (H:Type) (enc:TypeId×Value→H) (W:World) (base:Nat) (args:Array Value) (ds gs:List (DataW H)) (before:List MemPlace)
  (hval:∀(j:Nat) t v,Tryz.f5.params[j]? = some t→args[j]? = some v→Value.okWide Tryz.prog W .any base t v)
  (hW:DataW.Whole enc Tryz.prog Tryz.f5.params.toList Rows.syntaxBackSpec.vars false W args.toList ds gs before) (hL:laidMetH Tryz.prog Rows.syntaxBackUptoRow.laid W) (hC:Rows.uptoSmall H (ds++gs)=true):
  Calls Tryz.prog 5 args W fun e W'=>∃v,e=.returned v∧Rows.syntaxBackSpec.post enc Tryz.prog Tryz.f5 false true false false W args v W':=by
 have hW':=hW
 obtain ⟨p,q,hA0,hV,rfl,hfz,hnd⟩:=hW
 have hA:DataW.TrodAll enc Tryz.prog W 0 (fun _=>true) true Tryz.f5.params.toList args.toList ds p:=hA0
 rw [Tryz.params5] at hA hval
 obtain ⟨v0,vs0,d0,ds0,p0,q0,hargs,rfl,rfl,h0,r0⟩:=trodAll_cons hA
 obtain ⟨rfl,rfl,rfl⟩:=trodAll_nil r0
 obtain rfl:args = #[v0]:=by cases args;simp_all
 obtain ⟨rfl,rfl⟩:=trodVars_none hV
 obtain ⟨z0U,z0I,z0P,z0M,z0O,z0F,z0R,z0S,s0,rfl,T0,X0,B0⟩:=bulk_src0 (hval 0 32 v0 rfl rfl) h0
 clear hA0
 simp only [List.append_nil] at hW'
 have hB:=of_decide_eq_true hC
 simp only [List.append_nil,Rows.uptoBulkAll] at hB
 have walk:=FnV.below (W:=W) (R:=fun r=>r=.bool true) (syntaxBack_law s0 T0 X0 (by omega) (table hL))
 refine walk.mono fun e W' ⟨v,he,hv,hg⟩=>?_
 subst he hv
 exact ⟨_,rfl,post_true laidOut (by kernel_rfl) Tryz.underlying4 rfl hW' rfl (fun _ _=>⟨rfl,rfl,rfl⟩) hg⟩
theorem laid_met (os:Os):laidMet Tryz.prog Rows.syntaxBackUptoRow.laid ((laidWorld os).forCall (fun _ _=>0) ⟨#[],#[.agg #[.slice none 0 0,.slice none 0 0,.slice none 0 0,.slice none 0 0,.slice none 0 0,.slice none 0 0,.slice none 0 0,.slice none 0 0]],[]⟩).memory:=
 laidMet_of_run' 8 (by kernel_rfl) (by kernel_rfl)
theorem reads (os:Os) {H:Type} (enc:TypeId×Value→H):∃places,DataW.whole enc Tryz.prog ((laidWorld os).forCall (fun _ _=>0) ⟨#[],#[.agg #[.slice none 0 0,.slice none 0 0,.slice none 0 0,.slice none 0 0,.slice none 0 0,.slice none 0 0,.slice none 0 0,.slice none 0 0]],[]⟩).memory Tryz.f5.params.toList Rows.syntaxBackSpec.vars false (#[.agg #[.slice none 0 0,.slice none 0 0,.slice none 0 0,.slice none 0 0,.slice none 0 0,.slice none 0 0,.slice none 0 0,.slice none 0 0]]:Array Value).toList 8=some ([.agg [.nil,.nil,.nil,.nil,.nil,.nil,.nil,.nil]],[],places):=
 ⟨[],by kernel_rfl⟩
theorem lifted (os:Os) (started:os.Started) (H:Type) (enc:TypeId×Value→H) (F:Stop.Interp):
  ReturnsInHanded {} Tryz.checked os 5 .any ((Rows.OpenSpec.upto Rows.syntaxBackSpec).preRow enc Tryz.prog Tryz.f5 Rows.syntaxBackUptoRow.domain false Rows.syntaxBackUptoRow.laid) (((Rows.OpenSpec.upto Rows.syntaxBackSpec).at F).post enc Tryz.prog Tryz.f5 false true false false):=by
 obtain ⟨places,hx⟩:=reads os enc
 refine returnsInHanded_of_row (C:=Tryz.checked) (s:=Rows.OpenSpec.upto Rows.syntaxBackSpec) own started (by kernel_rfl) Tryz.func5
  (witness_row_at (enc:=enc) (C:=Tryz.checked) false (laidWorld os) #[.agg #[.slice none 0 0,.slice none 0 0,.slice none 0 0,.slice none 0 0,.slice none 0 0,.slice none 0 0,.slice none 0 0,.slice none 0 0]] rfl (by kernel_rfl) (by kernel_rfl) (by kernel_rfl)
   (OpenSpec.preRow_of_cond 8 hx (by kernel_rfl) (fun k hk=>by cases hk;kernel_rfl) (by kernel_rfl) (laid_met os))) ?_
 intro W base args ds gs before hval hW _ hC hS hL _ _
 exact contract H enc W base args ds gs before hval hW hL (hC _ rfl)
theorem said:Rows.SyntaxBackUptoSaid:=
 OpenClaim.holds_of_cond 5 Tryz.f5 rfl rfl rfl rfl rfl rfl rfl ⟨rfl,rfl,rfl,rfl,rfl⟩ rfl rfl rfl rfl rfl (by kernel_rfl) Tryz.func5 (by kernel_rfl)
  (of_decide_eq_true (by kernel_rfl)) (by unfold Func.isWrapper;first|(rw [if_pos (by decide +kernel)];kernel_rfl)|(rw [if_neg (by decide +kernel)];exact ⟨rfl,rfl⟩))
  (fun os started H enc _ F=>by rw [OpenClaim.pre_eq_preRow];exact lifted os started H enc F)
theorem plain (f:FuncId) (fn:Func) (hf:Tryz.pinned.checked.prog.funcNamed "backflush/backflushlaw10.SyntaxBack" = some f) (hfn:Tryz.pinned.checked.prog.funcs[f]? = some fn):
  true=Tryz.pinned.checked.prog.looks [] ∧ ∀(j:Nat) t,fn.params[j]? = some t→Tryz.pinned.checked.prog.wantsStandIn t=false:=by
 obtain rfl:f=5:=Option.some.inj ((show Tryz.prog.funcNamed "backflush/backflushlaw10.SyntaxBack" = some 5 by kernel_rfl).symm.trans hf) |>.symm
 obtain rfl:fn=Tryz.f5:=(Option.some.inj (Tryz.func5.symm.trans hfn)).symm
 refine ⟨by kernel_rfl,fun j t ht=>?_⟩
 rw [Tryz.params5] at ht
 have hm:=Array.mem_of_getElem? ht
 simp only [List.mem_toArray,List.mem_cons,List.not_mem_nil,or_false] at hm
 rcases hm with rfl
 exact (show Tryz.prog.wantsStandIn 32=false by kernel_rfl)
theorem card:Rows.SyntaxBackUptoCardSaid:=
 Claim7.holds_tied_plain_at .later [] _ _ _ _ said (fun _ h=>by cases h) (by kernel_rfl) (fun _ h=>by cases h) syntaxBackUpto_row_tie rfl ⟨rfl,rfl⟩ (by kernel_rfl) rfl plain (by kernel_rfl)
end Go.Proofs.YtgbeechjghajcaaGreatDoor.syntaxBack
