/- RatiosArithSpec: for every input the law returns true, and each argument reads behind the call as it read before; the table math/bits.deBruijn64tab holds, when the call begins, what the program's text lays (the card ties it). The statement RatiosArithSpec. -/
import Derived.Test.YtccfjcmolfbjdaaDoorJoinE
namespace Go.Proofs.YtccfjcmolfbjdaaDoor
open Go Go.Fw Go.NatM Go.RatM
set_option maxRecDepth 100000
set_option maxHeartbeats 32000000

theorem arithSpec_fn {h : Array Obj} (a b : Rt) (hT : TabH h) : FnV Tryd.prog 3 #[a.v, b.v] h fun r h' => r = .bool true ∧ Keeps h.size h h' := by
  obtain ⟨s, n, d⟩ := a
  obtain ⟨t, m, e⟩ := b
  refine Fn.ofS (args := [.agg #[.bool s, .string n, .string d], .agg #[.bool t, .string m, .string e]]) Tryd.func3 (by kernel_rfl) rfl Tryd.ntmps3 rfl fun w0 cs => ?_
  conv => whnf
  refine goS_run tab 1000 _ _ _ _ ?_
  conv => whnf
  repeat (first | (refine And.intro (by omega) ?_; (try intro _); conv => whnf) | (refine And.intro ?_ (by omega); (try intro _); conv => whnf) | (refine ⟨_, RemV.nonneg (by omega) (by omega), ?_⟩; conv => whnf))
  refine RunsS.callV (fun Ez Hz Az Sz K => sane_fn (hT.keeps K.keeps)) ?_
  conv => whnf
  try refine goS_run tab 1000 _ _ _ _ ?_
  conv => whnf
  repeat (first | (refine And.intro (by omega) ?_; (try intro _); conv => whnf) | (refine And.intro ?_ (by omega); (try intro _); conv => whnf) | (refine ⟨_, RemV.nonneg (by omega) (by omega), ?_⟩; conv => whnf))
  by_cases hf : ∀ a ∈ [(⟨s, n, d⟩ : Rt), ⟨t, m, e⟩], (a.n.size : Int) ≤ 300 ∧ (a.d.size : Int) ≤ 300
  rotate_left
  · refine RunsS.callV (fun Ez Hz Az Sz K => few_fn 300 [⟨s, n, d⟩, ⟨t, m, e⟩] (Sz.ro (b := 2) rfl)) ?_
    conv => whnf
    rw [decide_eq_false hf]
    try dsimp only
    try refine goS_run tab 1000 _ _ _ _ ?_
    conv => whnf
    repeat (first | (refine And.intro (by omega) ?_; (try intro _); conv => whnf) | (refine And.intro ?_ (by omega); (try intro _); conv => whnf) | (refine ⟨_, RemV.nonneg (by omega) (by omega), ?_⟩; conv => whnf))
    refine RunsS.retU (UnwS.ret tab Tryd.func3 rfl fun Ez Hz Az Sz K => ⟨_, rfl, rfl, K.keeps⟩)
  · refine RunsS.callV (fun Ez Hz Az Sz K => few_fn 300 [⟨s, n, d⟩, ⟨t, m, e⟩] (Sz.ro (b := 2) rfl)) ?_
    conv => whnf
    rw [decide_eq_true hf]
    try dsimp only
    try refine goS_run tab 1000 _ _ _ _ ?_
    conv => whnf
    repeat (first | (refine And.intro (by omega) ?_; (try intro _); conv => whnf) | (refine And.intro ?_ (by omega); (try intro _); conv => whnf) | (refine ⟨_, RemV.nonneg (by omega) (by omega), ?_⟩; conv => whnf))
    refine RunsS.callV (fun Ez Hz Az Sz K => qAdd_fn ⟨s, n, d⟩ ⟨t, m, e⟩ (hT.keeps K.keeps)) ?_
    conv => whnf
    try refine goS_run tab 1000 _ _ _ _ ?_
    conv => whnf
    repeat (first | (refine And.intro (by omega) ?_; (try intro _); conv => whnf) | (refine And.intro ?_ (by omega); (try intro _); conv => whnf) | (refine ⟨_, RemV.nonneg (by omega) (by omega), ?_⟩; conv => whnf))
    refine RunsS.callV (fun Ez Hz Az Sz K => rqAdd_fn ⟨s, n, d⟩ ⟨t, m, e⟩) ?_
    conv => whnf
    try refine goS_run tab 1000 _ _ _ _ ?_
    conv => whnf
    repeat (first | (refine And.intro (by omega) ?_; (try intro _); conv => whnf) | (refine And.intro ?_ (by omega); (try intro _); conv => whnf) | (refine ⟨_, RemV.nonneg (by omega) (by omega), ?_⟩; conv => whnf))
    refine RunsS.callV (fun Ez Hz Az Sz K => qSub_fn ⟨s, n, d⟩ ⟨t, m, e⟩ (hT.keeps K.keeps)) ?_
    conv => whnf
    try refine goS_run tab 1000 _ _ _ _ ?_
    conv => whnf
    repeat (first | (refine And.intro (by omega) ?_; (try intro _); conv => whnf) | (refine And.intro ?_ (by omega); (try intro _); conv => whnf) | (refine ⟨_, RemV.nonneg (by omega) (by omega), ?_⟩; conv => whnf))
    refine RunsS.callV (fun Ez Hz Az Sz K => rqSub_fn ⟨s, n, d⟩ ⟨t, m, e⟩) ?_
    conv => whnf
    try refine goS_run tab 1000 _ _ _ _ ?_
    conv => whnf
    repeat (first | (refine And.intro (by omega) ?_; (try intro _); conv => whnf) | (refine And.intro ?_ (by omega); (try intro _); conv => whnf) | (refine ⟨_, RemV.nonneg (by omega) (by omega), ?_⟩; conv => whnf))
    refine And.intro (fun _ => ?_) (fun hn => absurd (⟨rfl, rfl, rfl⟩) hn)
    conv => whnf
    conv => whnf
    repeat (first | (refine And.intro (by omega) ?_; (try intro _); conv => whnf) | (refine And.intro ?_ (by omega); (try intro _); conv => whnf) | (refine ⟨_, RemV.nonneg (by omega) (by omega), ?_⟩; conv => whnf))
    refine And.intro (fun _ => ?_) (fun hn => absurd (⟨rfl, rfl, rfl⟩) hn)
    conv => whnf
    conv => whnf
    repeat (first | (refine And.intro (by omega) ?_; (try intro _); conv => whnf) | (refine And.intro ?_ (by omega); (try intro _); conv => whnf) | (refine ⟨_, RemV.nonneg (by omega) (by omega), ?_⟩; conv => whnf))
    refine RunsS.callV (fun Ez Hz Az Sz K => qMul_fn ⟨s, n, d⟩ ⟨t, m, e⟩ (hT.keeps K.keeps)) ?_
    conv => whnf
    try refine goS_run tab 1000 _ _ _ _ ?_
    conv => whnf
    repeat (first | (refine And.intro (by omega) ?_; (try intro _); conv => whnf) | (refine And.intro ?_ (by omega); (try intro _); conv => whnf) | (refine ⟨_, RemV.nonneg (by omega) (by omega), ?_⟩; conv => whnf))
    refine RunsS.callV (fun Ez Hz Az Sz K => rqMul_fn ⟨s, n, d⟩ ⟨t, m, e⟩) ?_
    conv => whnf
    try refine goS_run tab 1000 _ _ _ _ ?_
    conv => whnf
    repeat (first | (refine And.intro (by omega) ?_; (try intro _); conv => whnf) | (refine And.intro ?_ (by omega); (try intro _); conv => whnf) | (refine ⟨_, RemV.nonneg (by omega) (by omega), ?_⟩; conv => whnf))
    refine RunsS.callV (fun Ez Hz Az Sz K => qDiv_fn ⟨s, n, d⟩ ⟨t, m, e⟩ (hT.keeps K.keeps)) ?_
    conv => whnf
    try refine goS_run tab 1000 _ _ _ _ ?_
    conv => whnf
    repeat (first | (refine And.intro (by omega) ?_; (try intro _); conv => whnf) | (refine And.intro ?_ (by omega); (try intro _); conv => whnf) | (refine ⟨_, RemV.nonneg (by omega) (by omega), ?_⟩; conv => whnf))
    refine RunsS.callV (fun Ez Hz Az Sz K => rqDiv_fn ⟨s, n, d⟩ ⟨t, m, e⟩) ?_
    conv => whnf
    try refine goS_run tab 1000 _ _ _ _ ?_
    conv => whnf
    repeat (first | (refine And.intro (by omega) ?_; (try intro _); conv => whnf) | (refine And.intro ?_ (by omega); (try intro _); conv => whnf) | (refine ⟨_, RemV.nonneg (by omega) (by omega), ?_⟩; conv => whnf))
    refine RunsS.callV (fun Ez Hz Az Sz K => qCompare_fn ⟨s, n, d⟩ ⟨t, m, e⟩ (hT.keeps K.keeps)) ?_
    conv => whnf
    try refine goS_run tab 1000 _ _ _ _ ?_
    conv => whnf
    repeat (first | (refine And.intro (by omega) ?_; (try intro _); conv => whnf) | (refine And.intro ?_ (by omega); (try intro _); conv => whnf) | (refine ⟨_, RemV.nonneg (by omega) (by omega), ?_⟩; conv => whnf))
    refine RunsS.callV (fun Ez Hz Az Sz K => rqCompare_fn ⟨s, n, d⟩ ⟨t, m, e⟩) ?_
    conv => whnf
    try refine goS_run tab 1000 _ _ _ _ ?_
    conv => whnf
    repeat (first | (refine And.intro (by omega) ?_; (try intro _); conv => whnf) | (refine And.intro ?_ (by omega); (try intro _); conv => whnf) | (refine ⟨_, RemV.nonneg (by omega) (by omega), ?_⟩; conv => whnf))
    refine And.intro (fun _ => ?_) (fun hn => absurd (⟨rfl, rfl, rfl⟩) hn)
    conv => whnf
    conv => whnf
    repeat (first | (refine And.intro (by omega) ?_; (try intro _); conv => whnf) | (refine And.intro ?_ (by omega); (try intro _); conv => whnf) | (refine ⟨_, RemV.nonneg (by omega) (by omega), ?_⟩; conv => whnf))
    refine And.intro (fun _ => ?_) (fun hn => absurd (⟨rfl, rfl, rfl⟩) hn)
    conv => whnf
    conv => whnf
    repeat (first | (refine And.intro (by omega) ?_; (try intro _); conv => whnf) | (refine And.intro ?_ (by omega); (try intro _); conv => whnf) | (refine ⟨_, RemV.nonneg (by omega) (by omega), ?_⟩; conv => whnf))
    refine RunsS.retU (UnwS.ret tab Tryd.func3 rfl fun Ez Hz Az Sz K => ⟨_, rfl, ?_, K.keeps⟩)
    exact congrArg Value.bool (decide_eq_true rfl)
end Go.Proofs.YtccfjcmolfbjdaaDoor

namespace Go.Proofs.YtccfjcmolfbjdaaDoor.ratiosArithSpec
open Go Go.Fw Go.ChangeShapes Go.ChangeMaps Go.WideShapes Go.ChangeAt Go.RowKit
set_option maxRecDepth 100000

theorem int_wf {n : Int} (h : (Lit.int .i64 n).wf = true) : -9223372036854775808 ≤ n ∧ n ≤ 9223372036854775807 := by
  have h1 : IntKind.i64.min ≤ n ∧ n ≤ 9223372036854775807 := by simpa [Lit.wf] using h
  have e : IntKind.i64.min = -9223372036854775808 := rfl
  omega

/-- WHAT THE WALK GIVES, FOR EVERY ARGUMENT AND EVERY WORLD THAT HOLDS THE TABLE. -/
theorem contract (H : Type) (enc : TypeId × Value → H) (W : World) (base : Nat) (args : Array Value) (ds gs : List (DataW H)) (before : List MemPlace)
    (hval : ∀ (j : Nat) t v, Tryd.f3.params[j]? = some t → args[j]? = some v → Value.okWide Tryd.prog W .any base t v)
    (hW : DataW.Whole enc Tryd.prog Tryd.f3.params.toList Rows.ratiosArithSpecSpec.vars false W args.toList ds gs before) (hL : laidMetH Tryd.prog Rows.ratiosArithSpecRow.laid W) :
    Calls Tryd.prog 3 args W fun e W' => ∃ v, e = .returned v ∧ Rows.ratiosArithSpecSpec.post enc Tryd.prog Tryd.f3 false true false false W args v W' := by
  have hW' := hW
  obtain ⟨p, q, hA0, hV, rfl, hfz, hnd⟩ := hW
  have hA : DataW.TrodAll enc Tryd.prog W 0 (fun _ => true) true Tryd.f3.params.toList args.toList ds p := hA0
  rw [Tryd.params3] at hA hval
  obtain ⟨v0, vs0, d0, ds0, p0, q0, hargs, rfl, rfl, h0, r0⟩ := trodAll_cons hA
  obtain ⟨v1, vs1, d1, ds1, p1, q1, rfl, rfl, rfl, h1, r1⟩ := trodAll_cons r0
  obtain ⟨rfl, rfl, rfl⟩ := trodAll_nil r1
  obtain rfl : args = #[v0, v1] := by cases args; simp_all
  obtain ⟨rfl, rfl⟩ := trodVars_none hV
  obtain ⟨f0, f1, f2, B⟩ := ratioB
  obtain ⟨b0, s0, u0, rfl, rfl, rfl, m0, k0⟩ := open_bss B (hval 0 23 v0 rfl rfl) h0
  obtain ⟨b1, s1, u1, rfl, rfl, rfl, m1, k1⟩ := open_bss B (hval 1 23 v1 rfl rfl) h1
  clear hA0
  simp only [List.append_nil] at hW'
  have walk := FnV.below (W := W) (R := fun r => r = .bool true) (arithSpec_fn ⟨b0, s0, u0⟩ ⟨b1, s1, u1⟩ (table hL))
  refine walk.mono fun e W' ⟨v, he, hv, hg⟩ => ?_
  subst he hv
  exact ⟨_, rfl, post_of_below (pa := []) (pv := []) hW' (fun _ _ _ => trodAll_cons_mk (shut_bool Tryd.underlying4 _) trodAll_mk0) (fun _ _ => trodAll_cons_mk (shut_bss B b0 m0 k0) (trodAll_cons_mk (shut_bss B b1 m1 k1) trodAll_mk0)) (fun _ _ => rfl) rfl
    hg (ok_one (by kernel_rfl) rfl (okWide_bool_mk Tryd.underlying4 _))⟩

theorem laid_met (os : Os) : laidMet Tryd.prog Rows.ratiosArithSpecRow.laid ((laidWorld os).forCall (fun _ _ => 0) ⟨#[], #[.agg #[.bool false, .string ⟨#[]⟩, .string ⟨#[]⟩], .agg #[.bool false, .string ⟨#[]⟩, .string ⟨#[]⟩]], []⟩).memory :=
  laidMet_of_run' 8 (by kernel_rfl) (by kernel_rfl)
theorem reads (os : Os) {H : Type} (enc : TypeId × Value → H) : ∃ places, DataW.whole enc Tryd.prog ((laidWorld os).forCall (fun _ _ => 0) ⟨#[], #[.agg #[.bool false, .string ⟨#[]⟩, .string ⟨#[]⟩], .agg #[.bool false, .string ⟨#[]⟩, .string ⟨#[]⟩]], []⟩).memory Tryd.f3.params.toList Rows.ratiosArithSpecSpec.vars false (#[.agg #[.bool false, .string ⟨#[]⟩, .string ⟨#[]⟩], .agg #[.bool false, .string ⟨#[]⟩, .string ⟨#[]⟩]] : Array Value).toList 8 = some ([.agg [.lit (.bool false), .lit (.string []), .lit (.string [])], .agg [.lit (.bool false), .lit (.string []), .lit (.string [])]], [], places) :=
  ⟨[], by kernel_rfl⟩

theorem lifted (os : Os) (started : os.Started) (H : Type) (enc : TypeId × Value → H) (F : Stop.Interp) :
    ReturnsInHanded {} Tryd.checked os 3 .any ((OpenSpec.ofChange Rows.ratiosArithSpecSpec).preRow enc Tryd.prog Tryd.f3 Rows.ratiosArithSpecRow.domain false Rows.ratiosArithSpecRow.laid) (((OpenSpec.ofChange Rows.ratiosArithSpecSpec).at F).post enc Tryd.prog Tryd.f3 false true false false) := by
  obtain ⟨places, hx⟩ := reads os enc
  refine returnsInHanded_of_row (C := Tryd.checked) (s := OpenSpec.ofChange Rows.ratiosArithSpecSpec) own started (by kernel_rfl) Tryd.func3
    (witness_row_at (enc := enc) (C := Tryd.checked) false (laidWorld os) #[.agg #[.bool false, .string ⟨#[]⟩, .string ⟨#[]⟩], .agg #[.bool false, .string ⟨#[]⟩, .string ⟨#[]⟩]] rfl (by kernel_rfl) (by kernel_rfl) (by kernel_rfl)
      (OpenSpec.preRow_of_cond 8 hx (by kernel_rfl) (fun k hk => by cases hk) (by kernel_rfl) (laid_met os))) ?_
  intro W base args ds gs before hval hW _ _ _ hL _ _
  exact contract H enc W base args ds gs before hval hW hL

theorem said : Rows.RatiosArithSpecSaid :=
  OpenClaim.holds_of_cond 3 Tryd.f3 rfl rfl rfl rfl rfl rfl rfl ⟨rfl, rfl, rfl, rfl, rfl⟩ rfl rfl rfl rfl rfl (by kernel_rfl) Tryd.func3 (by kernel_rfl)
    (of_decide_eq_true (by kernel_rfl)) (by unfold Func.isWrapper; first | (rw [if_pos (by decide +kernel)]; kernel_rfl) | (rw [if_neg (by decide +kernel)]; exact ⟨rfl, rfl⟩))
    (fun os started H enc _ F => by rw [OpenClaim.pre_eq_preRow]; exact lifted os started H enc F)

/-- No parameter wants a stand-in; the program's own looks are off. -/
theorem plain (f : FuncId) (fn : Func) (hf : Tryd.pinned.checked.prog.funcNamed "backflush/backflushlaw07.RatiosArithSpec" = some f) (hfn : Tryd.pinned.checked.prog.funcs[f]? = some fn) :
    true = Tryd.pinned.checked.prog.looks [] ∧ ∀ (j : Nat) t, fn.params[j]? = some t → Tryd.pinned.checked.prog.wantsStandIn t = false := by
  obtain rfl : f = 3 := Option.some.inj ((show Tryd.prog.funcNamed "backflush/backflushlaw07.RatiosArithSpec" = some 3 by kernel_rfl).symm.trans hf) |>.symm
  obtain rfl : fn = Tryd.f3 := (Option.some.inj (Tryd.func3.symm.trans hfn)).symm
  refine ⟨by kernel_rfl, fun j t ht => ?_⟩
  rw [Tryd.params3] at ht
  have hm := Array.mem_of_getElem? ht
  simp only [List.mem_toArray, List.mem_cons, List.not_mem_nil, or_false] at hm
  rcases hm with rfl | rfl
  · exact (show Tryd.prog.wantsStandIn 23 = false by kernel_rfl)
  · exact (show Tryd.prog.wantsStandIn 23 = false by kernel_rfl)

/-- THE CARD -/
theorem card : Rows.RatiosArithSpecCardSaid :=
  Claim7.holds_tied_plain_at .later [] _ _ _ _ said (fun _ h => by cases h) (by kernel_rfl) (fun _ h => by cases h) ratiosArithSpec_row_tie rfl ⟨rfl, rfl⟩ (by kernel_rfl) rfl plain (by kernel_rfl)
end Go.Proofs.YtccfjcmolfbjdaaDoor.ratiosArithSpec
