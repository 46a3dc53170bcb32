/- NaturalsSumSpec: for every input the law returns true, and each argument reads behind the call as it read before; the table math/bits.deBruijn64tab holds, when the call begins, what the program's text lays (the card ties it). NaturalsBasicSpec, NaturalsSumSpec: the walks. -/
import Derived.Test.YtehlghcpbmbfkaaDoorJoinC
namespace Go.Proofs.YtehlghcpbmbfkaaDoor
open Go Go.Fw Go.NatM
set_option maxRecDepth 100000
set_option maxHeartbeats 8000000

theorem basic_fn {h : Array Obj} (a b : ByteArray) (n : Int) (hn : -9223372036854775808 ≤ n ∧ n ≤ 9223372036854775807) (hT : TabH h) :
    FnV Tryd.prog 3 #[.string a, .string b, .int .i64 n] h fun r h' => r = .bool true ∧ Keeps h.size h h' := by
  refine Fn.of (args := [.string a, .string b, .int .i64 n]) Tryd.func3 (by kernel_rfl) rfl Tryd.ntmps3 rfl fun w0 cs => ?_
  refine go_run tab 1000 _ _ ?_
  conv => whnf
  refine Runs.callV (sane_fn hT) ?_
  rintro _ h1 ⟨rfl, k1⟩
  try refine go_run tab 1000 _ _ ?_
  conv => whnf
  refine ⟨fun q1 => ?_, fun q1 => ?_⟩ <;> conv => whnf
  · refine Runs.ret Tryd.func3 rfl rfl ⟨_, rfl, ?_⟩
    exact ⟨rfl, k1⟩
  · refine ⟨fun q2 => ?_, fun q2 => ?_⟩ <;> conv => whnf
    · refine Runs.ret Tryd.func3 rfl rfl ⟨_, rfl, ?_⟩
      exact ⟨rfl, k1⟩
    · refine Runs.callV (Of_fn n hn.2) ?_
      rintro _ h2 ⟨rfl, k2⟩
      have s2 := k1.size
      have kk := k1.trans (k2.mono s2)
      try refine go_run tab 1000 _ _ ?_
      conv => whnf
      refine Runs.callV (rOf_fn n hn.2) ?_
      rintro _ h3 ⟨rfl, k3⟩
      have s3 := kk.size
      have kk := kk.trans (k3.mono s3)
      try refine go_run tab 1000 _ _ ?_
      conv => whnf
      refine Runs.callV (Int_fn a) ?_
      rintro _ h4 ⟨rfl, k4⟩
      have s4 := kk.size
      have kk := kk.trans (k4.mono s4)
      try refine go_run tab 1000 _ _ ?_
      conv => whnf
      refine Runs.callV (rInt_fn a) ?_
      rintro _ h4 ⟨rfl, rfl⟩
      try refine go_run tab 1000 _ _ ?_
      conv => whnf
      refine Runs.callV (Compare_fn a b) ?_
      rintro _ h5 ⟨rfl, k5⟩
      have s5 := kk.size
      have kk := kk.trans (k5.mono s5)
      try refine go_run tab 1000 _ _ ?_
      conv => whnf
      refine Runs.callV (rCompare_fn a b) ?_
      rintro _ h5 ⟨rfl, rfl⟩
      try refine go_run tab 1000 _ _ ?_
      conv => whnf
      repeat (refine And.intro (fun _ => ?_) (fun hn => absurd rfl hn); conv => whnf)
      rw [show ((intS a).2 == (intS a).2) = true from beq_self_eq_true _]
      conv => whnf
      repeat (refine And.intro (fun _ => ?_) (fun hn => absurd rfl hn); conv => whnf)
      refine Runs.callV (Check_fn a) ?_
      rintro _ h6 ⟨rfl, k6⟩
      have s6 := kk.size
      have kk := kk.trans (k6.mono s6)
      try refine go_run tab 1000 _ _ ?_
      conv => whnf
      refine Runs.callV (rCheck_fn a) ?_
      rintro _ h6 ⟨rfl, rfl⟩
      try refine go_run tab 1000 _ _ ?_
      conv => whnf
      repeat (refine And.intro (fun _ => ?_) (fun hn => absurd rfl hn); conv => whnf)
      refine Runs.ret Tryd.func3 rfl rfl ⟨_, rfl, ?_⟩
      exact ⟨by simp [tup], kk⟩

theorem sum_fn {h : Array Obj} (a b : ByteArray) (hT : TabH h) :
    FnV Tryd.prog 4 #[.string a, .string b] h fun r h' => r = .bool true ∧ Keeps h.size h h' := by
  refine Fn.of (args := [.string a, .string b]) Tryd.func4 (by kernel_rfl) rfl Tryd.ntmps4 rfl fun w0 cs => ?_
  refine go_run tab 1000 _ _ ?_
  conv => whnf
  refine Runs.callV (sane_fn hT) ?_
  rintro _ h1 ⟨rfl, k1⟩
  try refine go_run tab 1000 _ _ ?_
  conv => whnf
  refine ⟨fun q1 => ?_, fun q1 => ?_⟩ <;> conv => whnf
  · refine Runs.ret Tryd.func4 rfl rfl ⟨_, rfl, ?_⟩
    exact ⟨rfl, k1⟩
  · refine ⟨fun q2 => ?_, fun q2 => ?_⟩ <;> conv => whnf
    · refine Runs.ret Tryd.func4 rfl rfl ⟨_, rfl, ?_⟩
      exact ⟨rfl, k1⟩
    · have kk := k1
      refine Runs.callV (Add_fn a b) ?_
      rintro _ h2 ⟨rfl, k2⟩
      have s2 := kk.size
      have kk := kk.trans (k2.mono s2)
      try refine go_run tab 1000 _ _ ?_
      conv => whnf
      refine Runs.callV (rAdd_fn a b) ?_
      rintro _ h3 ⟨rfl, k3⟩
      have s3 := kk.size
      have kk := kk.trans (k3.mono s3)
      try refine go_run tab 1000 _ _ ?_
      conv => whnf
      refine Runs.callV (Sub_fn a b) ?_
      rintro _ h4 ⟨rfl, k4⟩
      have s4 := kk.size
      have kk := kk.trans (k4.mono s4)
      try refine go_run tab 1000 _ _ ?_
      conv => whnf
      refine Runs.callV (rSub_fn a b) ?_
      rintro _ h5 ⟨rfl, k5⟩
      have s5 := kk.size
      have kk := kk.trans (k5.mono s5)
      try refine go_run tab 1000 _ _ ?_
      conv => whnf
      refine Runs.callV (Mul_fn a b) ?_
      rintro _ h6 ⟨rfl, k6⟩
      have s6 := kk.size
      have kk := kk.trans (k6.mono s6)
      try refine go_run tab 1000 _ _ ?_
      conv => whnf
      refine Runs.callV (rMul_fn a b) ?_
      rintro _ h7 ⟨rfl, k7⟩
      have s7 := kk.size
      have kk := kk.trans (k7.mono s7)
      try refine go_run tab 1000 _ _ ?_
      conv => whnf
      repeat (refine And.intro (fun _ => ?_) (fun hn => absurd rfl hn); conv => whnf)
      refine Runs.ret Tryd.func4 rfl rfl ⟨_, rfl, ?_⟩
      exact ⟨by simp [tup], kk⟩
end Go.Proofs.YtehlghcpbmbfkaaDoor

namespace Go.Proofs.YtehlghcpbmbfkaaDoor.naturalsSumSpec
open Go Go.Fw Go.ChangeShapes Go.ChangeMaps Go.WideShapes Go.ChangeAt Go.RowKit
set_option maxRecDepth 100000

theorem int_wf {n : Int} (h : (Lit.int .i64 n).wf = true) : -9223372036854775808 ≤ n ∧ n ≤ 9223372036854775807 := by
  have h1 : IntKind.i64.min ≤ n ∧ n ≤ 9223372036854775807 := by simpa [Lit.wf] using h
  have e : IntKind.i64.min = -9223372036854775808 := rfl
  omega

/-- WHAT THE WALK GIVES, FOR EVERY ARGUMENT AND EVERY WORLD THAT HOLDS THE TABLE. -/
theorem contract (H : Type) (enc : TypeId × Value → H) (W : World) (base : Nat) (args : Array Value) (ds gs : List (DataW H)) (before : List MemPlace)
    (hval : ∀ (j : Nat) t v, Tryd.f4.params[j]? = some t → args[j]? = some v → Value.okWide Tryd.prog W .any base t v)
    (hW : DataW.Whole enc Tryd.prog Tryd.f4.params.toList Rows.naturalsSumSpecSpec.vars false W args.toList ds gs before) (hL : laidMetH Tryd.prog Rows.naturalsSumSpecRow.laid W) :
    Calls Tryd.prog 4 args W fun e W' => ∃ v, e = .returned v ∧ Rows.naturalsSumSpecSpec.post enc Tryd.prog Tryd.f4 false true false false W args v W' := by
  have hW' := hW
  obtain ⟨p, q, hA0, hV, rfl, hfz, hnd⟩ := hW
  have hA : DataW.TrodAll enc Tryd.prog W 0 (fun _ => true) true Tryd.f4.params.toList args.toList ds p := hA0
  rw [Tryd.params4] at hA hval
  obtain ⟨v0, vs0, d0, ds0, p0, q0, hargs, rfl, rfl, h0, r0⟩ := trodAll_cons hA
  obtain ⟨v1, vs1, d1, ds1, p1, q1, rfl, rfl, rfl, h1, r1⟩ := trodAll_cons r0
  obtain ⟨rfl, rfl, rfl⟩ := trodAll_nil r1
  obtain rfl : args = #[v0, v1] := by cases args; simp_all
  obtain ⟨rfl, rfl⟩ := trodVars_none hV
  obtain ⟨x0, rfl, rfl, rfl, m0⟩ := open_string Tryd.underlying9 (hval 0 9 v0 rfl rfl) h0
  obtain ⟨x1, rfl, rfl, rfl, m1⟩ := open_string Tryd.underlying9 (hval 1 9 v1 rfl rfl) h1
  clear hA0
  simp only [List.append_nil, List.nil_append] at hW'
  have walk := FnV.below (W := W) (R := fun r => r = .bool true) (sum_fn x0 x1 (table hL))
  refine walk.mono fun e W' ⟨v, he, hv, hg⟩ => ?_
  subst he hv
  exact ⟨_, rfl, post_of_below (pa := []) (pv := []) hW' (fun _ _ _ => trodAll_cons_mk (shut_bool Tryd.underlying4 _) trodAll_mk0) (fun _ _ => trodAll_cons_mk (shut_string Tryd.underlying9 m0) (trodAll_cons_mk (shut_string Tryd.underlying9 m1) trodAll_mk0)) (fun _ _ => rfl) rfl
    hg (ok_one (by kernel_rfl) rfl (okWide_bool_mk Tryd.underlying4 _))⟩

theorem laid_met (os : Os) : laidMet Tryd.prog Rows.naturalsSumSpecRow.laid ((laidWorld os).forCall (fun _ _ => 0) ⟨#[], #[.string ⟨#[]⟩, .string ⟨#[]⟩], []⟩).memory :=
  laidMet_of_run' 8 (by kernel_rfl) (by kernel_rfl)
theorem reads (os : Os) {H : Type} (enc : TypeId × Value → H) : ∃ places, DataW.whole enc Tryd.prog ((laidWorld os).forCall (fun _ _ => 0) ⟨#[], #[.string ⟨#[]⟩, .string ⟨#[]⟩], []⟩).memory Tryd.f4.params.toList Rows.naturalsSumSpecSpec.vars false (#[.string ⟨#[]⟩, .string ⟨#[]⟩] : Array Value).toList 8 = some ([.lit (.string []), .lit (.string [])], [], places) :=
  ⟨[], by kernel_rfl⟩

theorem lifted (os : Os) (started : os.Started) (H : Type) (enc : TypeId × Value → H) (F : Stop.Interp) :
    ReturnsInHanded {} Tryd.checked os 4 .any ((OpenSpec.ofChange Rows.naturalsSumSpecSpec).preRow enc Tryd.prog Tryd.f4 Rows.naturalsSumSpecRow.domain false Rows.naturalsSumSpecRow.laid) (((OpenSpec.ofChange Rows.naturalsSumSpecSpec).at F).post enc Tryd.prog Tryd.f4 false true false false) := by
  obtain ⟨places, hx⟩ := reads os enc
  refine returnsInHanded_of_row (C := Tryd.checked) (s := OpenSpec.ofChange Rows.naturalsSumSpecSpec) own started (by kernel_rfl) Tryd.func4
    (witness_row_at (enc := enc) (C := Tryd.checked) false (laidWorld os) #[.string ⟨#[]⟩, .string ⟨#[]⟩] rfl (by kernel_rfl) (by kernel_rfl) (by kernel_rfl)
      (OpenSpec.preRow_of_cond 8 hx (by kernel_rfl) (fun k hk => by cases hk) (by kernel_rfl) (laid_met os))) ?_
  intro W base args ds gs before hval hW _ _ _ hL _ _
  exact contract H enc W base args ds gs before hval hW hL

theorem said : Rows.NaturalsSumSpecSaid :=
  OpenClaim.holds_of_cond 4 Tryd.f4 rfl rfl rfl rfl rfl rfl rfl ⟨rfl, rfl, rfl, rfl, rfl⟩ rfl rfl rfl rfl rfl (by kernel_rfl) Tryd.func4 (by kernel_rfl)
    (of_decide_eq_true (by kernel_rfl)) (by unfold Func.isWrapper; first | (rw [if_pos (by decide +kernel)]; kernel_rfl) | (rw [if_neg (by decide +kernel)]; exact ⟨rfl, rfl⟩))
    (fun os started H enc _ F => by rw [OpenClaim.pre_eq_preRow]; exact lifted os started H enc F)

/-- No parameter wants a stand-in; the program's own looks are off. -/
theorem plain (f : FuncId) (fn : Func) (hf : Tryd.pinned.checked.prog.funcNamed "backflush/backflushlaw06.NaturalsSumSpec" = some f) (hfn : Tryd.pinned.checked.prog.funcs[f]? = some fn) :
    false = Tryd.pinned.checked.prog.looks [] ∧ ∀ (j : Nat) t, fn.params[j]? = some t → Tryd.pinned.checked.prog.wantsStandIn t = false := by
  obtain rfl : f = 4 := Option.some.inj ((show Tryd.prog.funcNamed "backflush/backflushlaw06.NaturalsSumSpec" = some 4 by kernel_rfl).symm.trans hf) |>.symm
  obtain rfl : fn = Tryd.f4 := (Option.some.inj (Tryd.func4.symm.trans hfn)).symm
  refine ⟨by kernel_rfl, fun j t ht => ?_⟩
  rw [Tryd.params4] at ht
  have hm := Array.mem_of_getElem? ht
  simp only [List.mem_toArray, List.mem_cons, List.not_mem_nil, or_false] at hm
  rcases hm with rfl | rfl
  · exact (show Tryd.prog.wantsStandIn 9 = false by kernel_rfl)
  · exact (show Tryd.prog.wantsStandIn 9 = false by kernel_rfl)

/-- THE CARD -/
theorem card : Rows.NaturalsSumSpecCardSaid :=
  Claim7.holds_tied_plain_at .later [] _ _ _ _ said (fun _ h => by cases h) (by kernel_rfl) (fun _ h => by cases h) naturalsSumSpec_row_tie rfl ⟨rfl, rfl⟩ (by kernel_rfl) rfl plain (by kernel_rfl)
end Go.Proofs.YtehlghcpbmbfkaaDoor.naturalsSumSpec
