/- LexTextSpec: for every input the law returns true, and each argument reads behind the call as it read before; the listed tables hold, when the call begins, what the program's text lays (the card ties it). The statements about layer 5: LexSpec, LexTextSpec. -/
import Derived.Test.YtlminkahdlcikaaDoorJoinD
set_option linter.unusedVariables false
set_option linter.unusedSimpArgs false
namespace Go.Proofs.YtlminkahdlcikaaDoor
open Go Go.Fw
set_option maxRecDepth 100000
set_option maxHeartbeats 64000000

theorem lexSpec_fn {h : Array Obj} (src : ByteArray) (hT : PowH h) : FnV Tryd.prog 3 #[.string src] h fun r h' => r = .bool true ∧ Keeps h.size h h' := by
  refine Fn.ofS (args := [.string src]) Tryd.func3 (by kernel_rfl) rfl Tryd.ntmps3 rfl fun w0 cs => ?_
  conv => whnf
  refine goS_run tab 1000 _ _ _ _ ?_
  conv => whnf
  repeat (first | (refine And.intro (by omega) ?_; (try intro _); conv => whnf) | (refine And.intro ?_ (by omega); (try intro _); conv => whnf) | (refine ⟨_, RemV.nonneg (by omega) (by omega), ?_⟩; conv => whnf))
  refine RunsS.callV (fun Ez Hz Az Sz K => sane_fn (hT.keeps ⟨K.size, K.same⟩)) ?_
  conv => whnf
  try refine goS_run tab 1000 _ _ _ _ ?_
  conv => whnf
  repeat (first | (refine And.intro (by omega) ?_; (try intro _); conv => whnf) | (refine And.intro ?_ (by omega); (try intro _); conv => whnf) | (refine ⟨_, RemV.nonneg (by omega) (by omega), ?_⟩; conv => whnf))
  refine ⟨fun h1 => ?_, fun h1 => ?_⟩ <;> conv => whnf
  · conv => whnf
    repeat (first | (refine And.intro (by omega) ?_; (try intro _); conv => whnf) | (refine And.intro ?_ (by omega); (try intro _); conv => whnf) | (refine ⟨_, RemV.nonneg (by omega) (by omega), ?_⟩; conv => whnf))
    refine RunsS.retU (UnwS.ret tab Tryd.func3 rfl fun Ez Hz Az Sz K => ⟨_, rfl, rfl, K.keeps⟩)
  · conv => whnf
    repeat (first | (refine And.intro (by omega) ?_; (try intro _); conv => whnf) | (refine And.intro ?_ (by omega); (try intro _); conv => whnf) | (refine ⟨_, RemV.nonneg (by omega) (by omega), ?_⟩; conv => whnf))
    by_cases hs : src.size ≤ 65536
    · cases hx : lexS (bs src) 0 with
      | inl l =>
        refine RunsS.callN (lexOk_fn hs hx) [] ?CNr1 (by repeat (first | exact trivial | refine ⟨by rfl, ?_⟩)) ?CNa1
        case CNa1 => rfl
        intro _ _
        conv => whnf
        try refine goS_run tab 1000 _ _ _ _ ?_
        conv => whnf
        repeat (first | (refine And.intro (by omega) ?_; (try intro _); conv => whnf) | (refine And.intro ?_ (by omega); (try intro _); conv => whnf) | (refine ⟨_, RemV.nonneg (by omega) (by omega), ?_⟩; conv => whnf))
        refine RunsS.callN (rlexOk_fn hs hx) [] ?CNr2 (by repeat (first | exact trivial | refine ⟨by rfl, ?_⟩)) ?CNa2
        case CNa2 => rfl
        intro _ _
        conv => whnf
        try refine goS_run tab 1000 _ _ _ _ ?_
        conv => whnf
        repeat (first | (refine And.intro (by omega) ?_; (try intro _); conv => whnf) | (refine And.intro ?_ (by omega); (try intro _); conv => whnf) | (refine ⟨_, RemV.nonneg (by omega) (by omega), ?_⟩; conv => whnf))
        refine RunsS.callV (fun Ez Hz Az Sz K => rEqual_fn (toksP l) (toksP l) (Sz.ro (b := 0) rfl) (Sz.ro (b := 1) rfl)) ?_
        conv => whnf
        rw [decide_eq_true (⟨rfl, rfl⟩ : EqualP (toksP l) (toksP l))]
        try dsimp only
        try refine goS_run tab 1000 _ _ _ _ ?_
        conv => whnf
        repeat (first | (refine And.intro (by omega) ?_; (try intro _); conv => whnf) | (refine And.intro ?_ (by omega); (try intro _); conv => whnf) | (refine ⟨_, RemV.nonneg (by omega) (by omega), ?_⟩; conv => whnf))
        refine RunsS.retU (UnwS.ret tab Tryd.func3 rfl fun Ez Hz Az Sz K => ⟨_, rfl, rfl, K.keeps⟩)
      | inr q =>
        refine RunsS.callN (lexErr_fn hs hx) [] ?CNr3 (by repeat (first | exact trivial | refine ⟨by rfl, ?_⟩)) ?CNa3
        case CNa3 => rfl
        intro _ _
        conv => whnf
        try refine goS_run tab 1000 _ _ _ _ ?_
        conv => whnf
        repeat (first | (refine And.intro (by omega) ?_; (try intro _); conv => whnf) | (refine And.intro ?_ (by omega); (try intro _); conv => whnf) | (refine ⟨_, RemV.nonneg (by omega) (by omega), ?_⟩; conv => whnf))
        refine RunsS.callN (rlexErr_fn hs hx) [] ?CNr4 (by repeat (first | exact trivial | refine ⟨by rfl, ?_⟩)) ?CNa4
        case CNa4 => rfl
        intro _ _
        conv => whnf
        try refine goS_run tab 1000 _ _ _ _ ?_
        conv => whnf
        repeat (first | (refine And.intro (by omega) ?_; (try intro _); conv => whnf) | (refine And.intro ?_ (by omega); (try intro _); conv => whnf) | (refine ⟨_, RemV.nonneg (by omega) (by omega), ?_⟩; conv => whnf))
        refine RunsS.callV (fun Ez Hz Az Sz K => rEqual_fn [] [] Ro.nil Ro.nil) ?_
        conv => whnf
        rw [decide_eq_true (⟨rfl, rfl⟩ : EqualP [] [])]
        try dsimp only
        try refine goS_run tab 1000 _ _ _ _ ?_
        conv => whnf
        repeat (first | (refine And.intro (by omega) ?_; (try intro _); conv => whnf) | (refine And.intro ?_ (by omega); (try intro _); conv => whnf) | (refine ⟨_, RemV.nonneg (by omega) (by omega), ?_⟩; conv => whnf))
        refine RunsS.retU (UnwS.ret tab Tryd.func3 rfl fun Ez Hz Az Sz K => ⟨_, rfl, rfl, K.keeps⟩)
    · refine RunsS.callV (fun Ez Hz Az Sz K => big_fn src (by omega)) ?_
      conv => whnf
      try refine goS_run tab 1000 _ _ _ _ ?_
      conv => whnf
      repeat (first | (refine And.intro (by omega) ?_; (try intro _); conv => whnf) | (refine And.intro ?_ (by omega); (try intro _); conv => whnf) | (refine ⟨_, RemV.nonneg (by omega) (by omega), ?_⟩; conv => whnf))
      refine RunsS.callV (fun Ez Hz Az Sz K => rbig_fn src (by omega)) ?_
      conv => whnf
      try refine goS_run tab 1000 _ _ _ _ ?_
      conv => whnf
      repeat (first | (refine And.intro (by omega) ?_; (try intro _); conv => whnf) | (refine And.intro ?_ (by omega); (try intro _); conv => whnf) | (refine ⟨_, RemV.nonneg (by omega) (by omega), ?_⟩; conv => whnf))
      refine RunsS.callV (fun Ez Hz Az Sz K => rEqual_fn [] [] Ro.nil Ro.nil) ?_
      conv => whnf
      rw [decide_eq_true (⟨rfl, rfl⟩ : EqualP [] [])]
      try dsimp only
      try refine goS_run tab 1000 _ _ _ _ ?_
      conv => whnf
      repeat (first | (refine And.intro (by omega) ?_; (try intro _); conv => whnf) | (refine And.intro ?_ (by omega); (try intro _); conv => whnf) | (refine ⟨_, RemV.nonneg (by omega) (by omega), ?_⟩; conv => whnf))
      refine RunsS.retU (UnwS.ret tab Tryd.func3 rfl fun Ez Hz Az Sz K => ⟨_, rfl, rfl, K.keeps⟩)
theorem lexTextSpec_fn {h : Array Obj} (a b : List Tok) (s : ByteArray) {v w : Value} (hv : Ro h v 4 (rowsT a)) (hw : Ro h w 4 (rowsT b)) (hT : PowH h) : FnV Tryd.prog 4 #[v, w, .string s] h fun r h' => r = .bool true ∧ Keeps h.size h h' := by
  have hl := rowsT_len a
  have hm := hv.len
  have hl2 := rowsT_len b
  have hm2 := hw.len
  refine Fn.ofG (envL [v, w]) 2 [.buf 0, .buf 1, .v (.string s)] [(0, .ro (4) (rowsT a)), (1, .ro (4) (rowsT b))] (fun k => k < _) Tryd.func4 (by kernel_rfl) rfl Tryd.ntmps4 rfl (fun _ hk => hk) (Sat.ros (vs := [v, w]) (l := [(4, rowsT a), (4, rowsT b)]) ⟨hv, hw, trivial⟩) fun w0 cs => ?_
  conv => whnf
  refine goS_run tab 1000 _ _ _ _ ?_
  conv => whnf
  repeat (first | (refine And.intro (by omega) ?_; (try intro _); conv => whnf) | (refine And.intro ?_ (by omega); (try intro _); conv => whnf) | (refine ⟨_, RemV.nonneg (by omega) (by omega), ?_⟩; conv => whnf))
  refine RunsS.callV (fun Ez Hz Az Sz K => sane_fn (hT.keeps ⟨K.size, K.same⟩)) ?_
  conv => whnf
  try refine goS_run tab 1000 _ _ _ _ ?_
  conv => whnf
  repeat (first | (refine And.intro (by omega) ?_; (try intro _); conv => whnf) | (refine And.intro ?_ (by omega); (try intro _); conv => whnf) | (refine ⟨_, RemV.nonneg (by omega) (by omega), ?_⟩; conv => whnf))
  cases ha : fewB a with
  | false =>
    refine RunsS.callV (fun Ez Hz Az Sz K => rFew_fn a (Sz.ro (b := 0) rfl)) ?_
    conv => whnf
    rw [ha]
    try dsimp only
    try refine goS_run tab 1000 _ _ _ _ ?_
    conv => whnf
    repeat (first | (refine And.intro (by omega) ?_; (try intro _); conv => whnf) | (refine And.intro ?_ (by omega); (try intro _); conv => whnf) | (refine ⟨_, RemV.nonneg (by omega) (by omega), ?_⟩; conv => whnf))
    refine RunsS.retU (UnwS.ret tab Tryd.func4 rfl fun Ez Hz Az Sz K => ⟨_, rfl, rfl, K.keeps⟩)
  | true =>
    have ha' := fewB_len ha
    refine RunsS.callV (fun Ez Hz Az Sz K => rFew_fn a (Sz.ro (b := 0) rfl)) ?_
    conv => whnf
    rw [ha]
    try dsimp only
    try refine goS_run tab 1000 _ _ _ _ ?_
    conv => whnf
    repeat (first | (refine And.intro (by omega) ?_; (try intro _); conv => whnf) | (refine And.intro ?_ (by omega); (try intro _); conv => whnf) | (refine ⟨_, RemV.nonneg (by omega) (by omega), ?_⟩; conv => whnf))
    cases hb : fewB b with
    | false =>
      refine RunsS.callV (fun Ez Hz Az Sz K => rFew_fn b (Sz.ro (b := 1) rfl)) ?_
      conv => whnf
      rw [hb]
      try dsimp only
      try refine goS_run tab 1000 _ _ _ _ ?_
      conv => whnf
      repeat (first | (refine And.intro (by omega) ?_; (try intro _); conv => whnf) | (refine And.intro ?_ (by omega); (try intro _); conv => whnf) | (refine ⟨_, RemV.nonneg (by omega) (by omega), ?_⟩; conv => whnf))
      refine RunsS.retU (UnwS.ret tab Tryd.func4 rfl fun Ez Hz Az Sz K => ⟨_, rfl, rfl, K.keeps⟩)
    | true =>
      refine RunsS.callV (fun Ez Hz Az Sz K => rFew_fn b (Sz.ro (b := 1) rfl)) ?_
      conv => whnf
      rw [hb]
      try dsimp only
      try refine goS_run tab 1000 _ _ _ _ ?_
      conv => whnf
      repeat (first | (refine And.intro (by omega) ?_; (try intro _); conv => whnf) | (refine And.intro ?_ (by omega); (try intro _); conv => whnf) | (refine ⟨_, RemV.nonneg (by omega) (by omega), ?_⟩; conv => whnf))
      refine ⟨fun h1 => ?_, fun h1 => ?_⟩ <;> conv => whnf
      · conv => whnf
        repeat (first | (refine And.intro (by omega) ?_; (try intro _); conv => whnf) | (refine And.intro ?_ (by omega); (try intro _); conv => whnf) | (refine ⟨_, RemV.nonneg (by omega) (by omega), ?_⟩; conv => whnf))
        refine RunsS.retU (UnwS.ret tab Tryd.func4 rfl fun Ez Hz Az Sz K => ⟨_, rfl, rfl, K.keeps⟩)
      · conv => whnf
        repeat (first | (refine And.intro (by omega) ?_; (try intro _); conv => whnf) | (refine And.intro ?_ (by omega); (try intro _); conv => whnf) | (refine ⟨_, RemV.nonneg (by omega) (by omega), ?_⟩; conv => whnf))
        obtain ⟨x, e, hx⟩ : ∃ x e, textV a = .tuple #[.string x, .int .i64 e] := by
          unfold textV
          split <;> exact ⟨_, _, rfl⟩
        refine RunsS.callV (fun Ez Hz Az Sz K => Text_fn a ha' (Sz.ro (b := 0) rfl) (hT.keeps ⟨K.size, K.same⟩)) ?_
        conv => whnf
        rw [hx]
        try dsimp only
        try refine goS_run tab 1000 _ _ _ _ ?_
        conv => whnf
        repeat (first | (refine And.intro (by omega) ?_; (try intro _); conv => whnf) | (refine And.intro ?_ (by omega); (try intro _); conv => whnf) | (refine ⟨_, RemV.nonneg (by omega) (by omega), ?_⟩; conv => whnf))
        refine RunsS.callV (fun Ez Hz Az Sz K => rText_fn a ha' (Sz.ro (b := 0) rfl)) ?_
        conv => whnf
        rw [hx]
        try dsimp only
        try refine goS_run tab 1000 _ _ _ _ ?_
        conv => whnf
        repeat (first | (refine And.intro (by omega) ?_; (try intro _); conv => whnf) | (refine And.intro ?_ (by omega); (try intro _); conv => whnf) | (refine ⟨_, RemV.nonneg (by omega) (by omega), ?_⟩; conv => whnf))
        refine And.intro (fun _ => ?_) (fun hn => absurd (rfl) hn)
        conv => whnf
        refine And.intro (fun _ => ?_) (fun hn => absurd (rfl) hn)
        conv => whnf
        cases hy : decide (SameP a b)
        all_goals (
          refine RunsS.callV (fun Ez Hz Az Sz K => Same_fn a b (Sz.ro (b := 0) rfl) (Sz.ro (b := 1) rfl)) ?_
          conv => whnf
          rw [hy]
          try dsimp only
          try refine goS_run tab 1000 _ _ _ _ ?_
          conv => whnf
          repeat (first | (refine And.intro (by omega) ?_; (try intro _); conv => whnf) | (refine And.intro ?_ (by omega); (try intro _); conv => whnf) | (refine ⟨_, RemV.nonneg (by omega) (by omega), ?_⟩; conv => whnf))
          refine RunsS.callV (fun Ez Hz Az Sz K => rSame_fn a b (Sz.ro (b := 0) rfl) (Sz.ro (b := 1) rfl)) ?_
          conv => whnf
          rw [hy]
          try dsimp only
          try refine goS_run tab 1000 _ _ _ _ ?_
          conv => whnf
          repeat (first | (refine And.intro (by omega) ?_; (try intro _); conv => whnf) | (refine And.intro ?_ (by omega); (try intro _); conv => whnf) | (refine ⟨_, RemV.nonneg (by omega) (by omega), ?_⟩; conv => whnf))
          refine RunsS.callV (fun Ez Hz Az Sz K => Same_fn a a (Sz.ro (b := 0) rfl) (Sz.ro (b := 0) rfl)) ?_
          conv => whnf
          rw [decide_eq_true (rfl : SameP a a)]
          try dsimp only
          try refine goS_run tab 1000 _ _ _ _ ?_
          conv => whnf
          repeat (first | (refine And.intro (by omega) ?_; (try intro _); conv => whnf) | (refine And.intro ?_ (by omega); (try intro _); conv => whnf) | (refine ⟨_, RemV.nonneg (by omega) (by omega), ?_⟩; conv => whnf))
          cases hz : decide (NameP s)
          all_goals (
            refine RunsS.callV (fun Ez Hz Az Sz K => Name_fn s) ?_
            conv => whnf
            rw [hz]
            try dsimp only
            try refine goS_run tab 1000 _ _ _ _ ?_
            conv => whnf
            repeat (first | (refine And.intro (by omega) ?_; (try intro _); conv => whnf) | (refine And.intro ?_ (by omega); (try intro _); conv => whnf) | (refine ⟨_, RemV.nonneg (by omega) (by omega), ?_⟩; conv => whnf))
            refine RunsS.callV (fun Ez Hz Az Sz K => rName_fn s) ?_
            conv => whnf
            rw [hz]
            try dsimp only
            try refine goS_run tab 1000 _ _ _ _ ?_
            conv => whnf
            repeat (first | (refine And.intro (by omega) ?_; (try intro _); conv => whnf) | (refine And.intro ?_ (by omega); (try intro _); conv => whnf) | (refine ⟨_, RemV.nonneg (by omega) (by omega), ?_⟩; conv => whnf))
            refine RunsS.retU (UnwS.ret tab Tryd.func4 rfl fun Ez Hz Az Sz K => ⟨_, rfl, rfl, K.keeps⟩)
          )
        )
end Go.Proofs.YtlminkahdlcikaaDoor

namespace Go.Proofs.YtlminkahdlcikaaDoor.lexTextSpec
open Go Go.Fw Go.ChangeShapes Go.ChangeMaps Go.WideShapes Go.ChangeAt Go.RowKit
set_option maxRecDepth 100000

theorem int_wf {n : Int} (h : (Lit.int .i64 n).wf = true) : -9223372036854775808 ≤ n ∧ n ≤ 9223372036854775807 := by
  have h1 : IntKind.i64.min ≤ n ∧ n ≤ 9223372036854775807 := by simpa [Lit.wf] using h
  have e : IntKind.i64.min = -9223372036854775808 := rfl
  omega

/-- WHAT THE WALK GIVES, FOR EVERY ARGUMENT AND EVERY WORLD THAT HOLDS THE TABLE. -/
theorem contract (H : Type) (enc : TypeId × Value → H) (W : World) (base : Nat) (args : Array Value) (ds gs : List (DataW H)) (before : List MemPlace)
    (hval : ∀ (j : Nat) t v, Tryd.f4.params[j]? = some t → args[j]? = some v → Value.okWide Tryd.prog W .any base t v)
    (hW : DataW.Whole enc Tryd.prog Tryd.f4.params.toList Rows.lexTextSpecSpec.vars false W args.toList ds gs before) (hL : laidMetH Tryd.prog Rows.lexTextSpecRow.laid W) :
    Calls Tryd.prog 4 args W fun e W' => ∃ v, e = .returned v ∧ Rows.lexTextSpecSpec.post enc Tryd.prog Tryd.f4 false true false false W args v W' := by
  have hW' := hW
  obtain ⟨p, q, hA0, hV, rfl, hfz, hnd⟩ := hW
  have hA : DataW.TrodAll enc Tryd.prog W 0 (fun _ => true) true Tryd.f4.params.toList args.toList ds p := hA0
  rw [Tryd.params4] at hA hval
  obtain ⟨v0, vs0, d0, ds0, p0, q0, hargs, rfl, rfl, h0, r0⟩ := trodAll_cons hA
  obtain ⟨v1, vs1, d1, ds1, p1, q1, rfl, rfl, rfl, h1, r1⟩ := trodAll_cons r0
  obtain ⟨v2, vs2, d2, ds2, p2, q2, rfl, rfl, rfl, h2, r2⟩ := trodAll_cons r1
  obtain ⟨rfl, rfl, rfl⟩ := trodAll_nil r2
  obtain rfl : args = #[v0, v1, v2] := by cases args; simp_all
  obtain ⟨rfl, rfl⟩ := trodVars_none hV
  obtain ⟨l0, R0⟩ := open_toks (hval 0 23 v0 rfl rfl) h0
  obtain ⟨l1, R1⟩ := open_toks (hval 1 23 v1 rfl rfl) h1
  obtain ⟨x2, rfl, rfl, rfl, m2⟩ := open_string Tryd.underlying9 (hval 2 9 v2 rfl rfl) h2
  clear hA0
  simp only [List.append_nil] at hW'
  have walk := FnV.below (W := W) (R := fun r => r = .bool true) (lexTextSpec_fn l0 l1 x2 R0 R1 (table hL))
  refine walk.mono fun e W' ⟨v, he, hv, hg⟩ => ?_
  subst he hv
  exact ⟨_, rfl, post_true laidOut (by kernel_rfl) Tryd.underlying4 rfl hW' rfl (fun _ _ => ⟨rfl, rfl, rfl⟩) hg⟩

theorem laid_met (os : Os) : laidMet Tryd.prog Rows.lexTextSpecRow.laid ((laidWorld os).forCall (fun _ _ => 0) ⟨#[], #[.slice none 0 0, .slice none 0 0, .string ⟨#[]⟩], []⟩).memory :=
  laidMet_of_run' 8 (by kernel_rfl) (by kernel_rfl)
theorem reads (os : Os) {H : Type} (enc : TypeId × Value → H) : ∃ places, DataW.whole enc Tryd.prog ((laidWorld os).forCall (fun _ _ => 0) ⟨#[], #[.slice none 0 0, .slice none 0 0, .string ⟨#[]⟩], []⟩).memory Tryd.f4.params.toList Rows.lexTextSpecSpec.vars false (#[.slice none 0 0, .slice none 0 0, .string ⟨#[]⟩] : Array Value).toList 8 = some ([.nil, .nil, .lit (.string [])], [], places) :=
  ⟨[], by kernel_rfl⟩

theorem lifted (os : Os) (started : os.Started) (H : Type) (enc : TypeId × Value → H) (F : Stop.Interp) :
    ReturnsInHanded {} Tryd.checked os 4 .any ((OpenSpec.ofChange Rows.lexTextSpecSpec).preRow enc Tryd.prog Tryd.f4 Rows.lexTextSpecRow.domain false Rows.lexTextSpecRow.laid) (((OpenSpec.ofChange Rows.lexTextSpecSpec).at F).post enc Tryd.prog Tryd.f4 false true false false) := by
  obtain ⟨places, hx⟩ := reads os enc
  refine returnsInHanded_of_row (C := Tryd.checked) (s := OpenSpec.ofChange Rows.lexTextSpecSpec) own started (by kernel_rfl) Tryd.func4
    (witness_row_at (enc := enc) (C := Tryd.checked) false (laidWorld os) #[.slice none 0 0, .slice none 0 0, .string ⟨#[]⟩] rfl (by kernel_rfl) (by kernel_rfl) (by kernel_rfl)
      (OpenSpec.preRow_of_cond 8 hx (by kernel_rfl) (fun k hk => by cases hk) (by kernel_rfl) (laid_met os))) ?_
  intro W base args ds gs before hval hW _ _ _ hL _ _
  exact contract H enc W base args ds gs before hval hW hL

theorem said : Rows.LexTextSpecSaid :=
  OpenClaim.holds_of_cond 4 Tryd.f4 rfl rfl rfl rfl rfl rfl rfl ⟨rfl, rfl, rfl, rfl, rfl⟩ rfl rfl rfl rfl rfl (by kernel_rfl) Tryd.func4 (by kernel_rfl)
    (of_decide_eq_true (by kernel_rfl)) (by unfold Func.isWrapper; first | (rw [if_pos (by decide +kernel)]; kernel_rfl) | (rw [if_neg (by decide +kernel)]; exact ⟨rfl, rfl⟩))
    (fun os started H enc _ F => by rw [OpenClaim.pre_eq_preRow]; exact lifted os started H enc F)

/-- No parameter wants a stand-in; the program's own looks are off. -/
theorem plain (f : FuncId) (fn : Func) (hf : Tryd.pinned.checked.prog.funcNamed "backflush/backflushlaw05.LexTextSpec" = some f) (hfn : Tryd.pinned.checked.prog.funcs[f]? = some fn) :
    true = Tryd.pinned.checked.prog.looks [] ∧ ∀ (j : Nat) t, fn.params[j]? = some t → Tryd.pinned.checked.prog.wantsStandIn t = false := by
  obtain rfl : f = 4 := Option.some.inj ((show Tryd.prog.funcNamed "backflush/backflushlaw05.LexTextSpec" = some 4 by kernel_rfl).symm.trans hf) |>.symm
  obtain rfl : fn = Tryd.f4 := (Option.some.inj (Tryd.func4.symm.trans hfn)).symm
  refine ⟨by kernel_rfl, fun j t ht => ?_⟩
  rw [Tryd.params4] at ht
  have hm := Array.mem_of_getElem? ht
  simp only [List.mem_toArray, List.mem_cons, List.not_mem_nil, or_false] at hm
  rcases hm with rfl | rfl | rfl
  · exact (show Tryd.prog.wantsStandIn 23 = false by kernel_rfl)
  · exact (show Tryd.prog.wantsStandIn 23 = false by kernel_rfl)
  · exact (show Tryd.prog.wantsStandIn 9 = false by kernel_rfl)

/-- THE CARD -/
theorem card : Rows.LexTextSpecCardSaid :=
  Claim7.holds_tied_plain_at .later [] _ _ _ _ said (fun _ h => by cases h) (by kernel_rfl) (fun _ h => by cases h) lexTextSpec_row_tie rfl ⟨rfl, rfl⟩ (by kernel_rfl) rfl plain (by kernel_rfl)
end Go.Proofs.YtlminkahdlcikaaDoor.lexTextSpec
