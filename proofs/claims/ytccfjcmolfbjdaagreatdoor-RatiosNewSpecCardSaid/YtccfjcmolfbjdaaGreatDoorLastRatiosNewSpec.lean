/- RatiosNewSpec: for every input the law returns true, and each argument reads behind the call as it read before; the table math/bits.deBruijn64tab holds, when the call begins, what the program's text lays (the card ties it). The statement RatiosNewSpec. The reference of package ratios: Ceil, Sum; the statement RatiosNewSpec. The reference of package ratios: amount, New, whole, Floor, Ceil, Sum. -/
import Derived.Test.YtccfjcmolfbjdaaGreatDoorJoinE
set_option linter.unusedVariables false
set_option linter.unusedSimpArgs false
namespace Go.Proofs.YtccfjcmolfbjdaaGreatDoor
open Go Go.Fw Go.NatM Go.RatM
set_option maxRecDepth 100000
set_option maxHeartbeats 16000000

theorem p8 : (256 : Nat) ^ 8 = 18446744073709551616 := by decide
theorem p9 : (256 : Nat) ^ 9 = 4722366482869645213696 := by decide
theorem rqamount_fn {h : Array Obj} (n : Int) (hn : -9223372036854775808 ≤ n ∧ n ≤ 9223372036854775807) : FnV Tryz.prog 27 #[.int .i64 n] h fun r h' => r = .string (enc n.natAbs) ∧ Keeps h.size h h' := by
  have fit1 : ∀ V : Nat, V ≤ 9223372036854775808 → nb V ≤ 8 := fun V hV => nb_le (by rw [p8]; omega)
  have f1 := fit1 (n.natAbs - 1) (by omega)
  have f2 := fit1 1 (by omega)
  have f3 := fit1 (n.natAbs - 1 + 1) (by omega)
  refine Fn.ofS (args := [.int .i64 n]) Tryz.func27 (by kernel_rfl) rfl Tryz.ntmps27 rfl fun w0 cs => ?_
  conv => whnf
  refine goS_run tab 1000 _ _ _ _ ?_
  conv => whnf
  repeat (first | (refine And.intro (by omega) ?_; (try intro _); conv => whnf) | (refine And.intro ?_ (by omega); (try intro _); conv => whnf) | (refine ⟨_, RemV.nonneg (by omega) (by omega), ?_⟩; conv => whnf))
  refine ⟨fun h0 => ?_, fun h0 => ?_⟩ <;> conv => whnf
  · conv => whnf
    repeat (first | (refine And.intro (by omega) ?_; (try intro _); conv => whnf) | (refine And.intro ?_ (by omega); (try intro _); conv => whnf) | (refine ⟨_, RemV.nonneg (by omega) (by omega), ?_⟩; conv => whnf))
    have e1 : ofS n = (enc n.natAbs, 0) := by unfold ofS; rw [if_neg (by omega), show n.toNat = n.natAbs by omega]
    refine RunsS.callV (fun Ez Hz Az Sz K => rOf_fn n hn.2) ?_
    conv => whnf
    rw [e1]
    try dsimp only
    try refine goS_run tab 1000 _ _ _ _ ?_
    conv => whnf
    repeat (first | (refine And.intro (by omega) ?_; (try intro _); conv => whnf) | (refine And.intro ?_ (by omega); (try intro _); conv => whnf) | (refine ⟨_, RemV.nonneg (by omega) (by omega), ?_⟩; conv => whnf))
    refine RunsS.retU (UnwS.ret tab Tryz.func27 rfl fun Ez Hz Az Sz K => ⟨_, rfl, rfl, K.keeps⟩)
  · conv => whnf
    repeat (first | (refine And.intro (by omega) ?_; (try intro _); conv => whnf) | (refine And.intro ?_ (by omega); (try intro _); conv => whnf) | (refine ⟨_, RemV.nonneg (by omega) (by omega), ?_⟩; conv => whnf))
    have e1 : ofS (0 - (n + 1)) = (enc (n.natAbs - 1), 0) := by unfold ofS; rw [if_neg (by omega), show (0 - (n + 1)).toNat = n.natAbs - 1 by omega]
    have e2 : addS (enc (n.natAbs - 1)) ⟨#[1]⟩ = (enc n.natAbs, 0) := by
      rw [← enc_one, add_e (by omega) (by omega), short_e (by omega), show n.natAbs - 1 + 1 = n.natAbs by omega]
    refine RunsS.callV (fun Ez Hz Az Sz K => rOf_fn (0 - (n + 1)) (by omega)) ?_
    conv => whnf
    rw [e1]
    try dsimp only
    try refine goS_run tab 1000 _ _ _ _ ?_
    conv => whnf
    repeat (first | (refine And.intro (by omega) ?_; (try intro _); conv => whnf) | (refine And.intro ?_ (by omega); (try intro _); conv => whnf) | (refine ⟨_, RemV.nonneg (by omega) (by omega), ?_⟩; conv => whnf))
    refine RunsS.callV (fun Ez Hz Az Sz K => rAdd_fn (enc (n.natAbs - 1)) ⟨#[1]⟩) ?_
    conv => whnf
    rw [e2]
    try dsimp only
    try refine goS_run tab 1000 _ _ _ _ ?_
    conv => whnf
    repeat (first | (refine And.intro (by omega) ?_; (try intro _); conv => whnf) | (refine And.intro ?_ (by omega); (try intro _); conv => whnf) | (refine ⟨_, RemV.nonneg (by omega) (by omega), ?_⟩; conv => whnf))
    refine RunsS.retU (UnwS.ret tab Tryz.func27 rfl fun Ez Hz Az Sz K => ⟨_, rfl, rfl, K.keeps⟩)

theorem rqNew_fn {h : Array Obj} (n d : Int) (hn : -9223372036854775808 ≤ n ∧ n ≤ 9223372036854775807) (hd : -9223372036854775808 ≤ d ∧ d ≤ 9223372036854775807) :
    FnV Tryz.prog 7 #[.int .i64 n, .int .i64 d] h fun r h' => r = rev (newR n d) ∧ Keeps h.size h h' := by
  have fit1 : ∀ V : Nat, V ≤ 9223372036854775808 → nb V ≤ 256 := fun V hV => Nat.le_trans (nb_le (m := 8) (by rw [p8]; omega)) (by omega)
  have f1 := fit1 n.natAbs (by omega)
  have f2 := fit1 d.natAbs (by omega)
  obtain ⟨r, hr⟩ : ∃ r, r = newR n d := ⟨_, rfl⟩
  rw [← hr]
  unfold newR at hr
  refine Fn.ofS (args := [.int .i64 n, .int .i64 d]) Tryz.func7 (by kernel_rfl) rfl Tryz.ntmps7 rfl fun w0 cs => ?_
  conv => whnf
  refine goS_run tab 1000 _ _ _ _ ?_
  conv => whnf
  repeat (first | (refine And.intro (by omega) ?_; (try intro _); conv => whnf) | (refine And.intro ?_ (by omega); (try intro _); conv => whnf) | (refine ⟨_, RemV.nonneg (by omega) (by omega), ?_⟩; conv => whnf))
  refine ⟨fun hz => ?_, fun hz => ?_⟩ <;> conv => whnf
  · conv => whnf
    repeat (first | (refine And.intro (by omega) ?_; (try intro _); conv => whnf) | (refine And.intro ?_ (by omega); (try intro _); conv => whnf) | (refine ⟨_, RemV.nonneg (by omega) (by omega), ?_⟩; conv => whnf))
    rw [if_pos hz] at hr
    subst hr
    refine RunsS.retU (UnwS.ret tab Tryz.func7 rfl fun Ez Hz Az Sz K => ⟨_, rfl, rfl, K.keeps⟩)
  · rw [if_neg hz] at hr
    conv => whnf
    repeat (first | (refine And.intro (by omega) ?_; (try intro _); conv => whnf) | (refine And.intro ?_ (by omega); (try intro _); conv => whnf) | (refine ⟨_, RemV.nonneg (by omega) (by omega), ?_⟩; conv => whnf))
    refine RunsS.callV (fun Ez Hz Az Sz K => rqamount_fn n hn) ?_
    conv => whnf
    try refine goS_run tab 1000 _ _ _ _ ?_
    conv => whnf
    repeat (first | (refine And.intro (by omega) ?_; (try intro _); conv => whnf) | (refine And.intro ?_ (by omega); (try intro _); conv => whnf) | (refine ⟨_, RemV.nonneg (by omega) (by omega), ?_⟩; conv => whnf))
    refine RunsS.callV (fun Ez Hz Az Sz K => rqamount_fn d hd) ?_
    conv => whnf
    try refine goS_run tab 1000 _ _ _ _ ?_
    conv => whnf
    repeat (first | (refine And.intro (by omega) ?_; (try intro _); conv => whnf) | (refine And.intro ?_ (by omega); (try intro _); conv => whnf) | (refine ⟨_, RemV.nonneg (by omega) (by omega), ?_⟩; conv => whnf))
    subst hr
    refine RunsS.callV (fun Ez Hz Az Sz K => rqlowest_fn (n := n.natAbs) (d := d.natAbs) (decide (n < 0) != decide (d < 0)) (by omega) f1 f2) ?_
    conv => whnf
    try refine goS_run tab 1000 _ _ _ _ ?_
    conv => whnf
    repeat (first | (refine And.intro (by omega) ?_; (try intro _); conv => whnf) | (refine And.intro ?_ (by omega); (try intro _); conv => whnf) | (refine ⟨_, RemV.nonneg (by omega) (by omega), ?_⟩; conv => whnf))
    refine RunsS.retU (UnwS.ret tab Tryz.func7 rfl fun Ez Hz Az Sz K => ⟨_, rfl, rfl, K.keeps⟩)

theorem rqwhole_fn {h : Array Obj} (s : Bool) (Z : Nat) : FnV Tryz.prog 31 #[.bool s, .string (enc Z)] h fun r h' => r = iev2 (if Z ≤ 4611686018427387904 then (sg s Z, 0) else (0, 2)) ∧ Keeps h.size h h' := by
  have ei : intS (enc Z) = if Z ≤ 9223372036854775807 then (((Z : Nat) : Int), true) else (0, false) := by
    unfold intS
    rw [natv_enc]
    have := canonB_iff.2 (canon_enc Z)
    by_cases hk : Z ≤ 9223372036854775807
    · rw [if_pos ⟨this, hk⟩, if_pos hk]
    · rw [if_neg (fun o => hk o.2), if_neg hk]
  obtain ⟨r, hr⟩ : ∃ r, r = if Z ≤ 4611686018427387904 then (sg s Z, 0) else ((0 : Int), (2 : Int)) := ⟨_, rfl⟩
  rw [← hr]
  refine Fn.ofS (args := [.bool s, .string (enc Z)]) Tryz.func31 (by kernel_rfl) rfl Tryz.ntmps31 rfl fun w0 cs => ?_
  conv => whnf
  refine goS_run tab 1000 _ _ _ _ ?_
  conv => whnf
  repeat (first | (refine And.intro (by omega) ?_; (try intro _); conv => whnf) | (refine And.intro ?_ (by omega); (try intro _); conv => whnf) | (refine ⟨_, RemV.nonneg (by omega) (by omega), ?_⟩; conv => whnf))
  by_cases hk : Z ≤ 9223372036854775807
  rotate_left
  · rw [if_neg hk] at ei
    rw [if_neg (by omega)] at hr
    subst hr
    refine RunsS.callV (fun Ez Hz Az Sz K => kp (rInt_fn (enc Z))) ?_
    conv => whnf
    rw [ei]
    try dsimp only
    try refine goS_run tab 1000 _ _ _ _ ?_
    conv => whnf
    repeat (first | (refine And.intro (by omega) ?_; (try intro _); conv => whnf) | (refine And.intro ?_ (by omega); (try intro _); conv => whnf) | (refine ⟨_, RemV.nonneg (by omega) (by omega), ?_⟩; conv => whnf))
    refine RunsS.retU (UnwS.ret tab Tryz.func31 rfl fun Ez Hz Az Sz K => ⟨_, rfl, rfl, K.keeps⟩)
  · rw [if_pos hk] at ei
    refine RunsS.callV (fun Ez Hz Az Sz K => kp (rInt_fn (enc Z))) ?_
    conv => whnf
    rw [ei]
    try dsimp only
    try refine goS_run tab 1000 _ _ _ _ ?_
    conv => whnf
    repeat (first | (refine And.intro (by omega) ?_; (try intro _); conv => whnf) | (refine And.intro ?_ (by omega); (try intro _); conv => whnf) | (refine ⟨_, RemV.nonneg (by omega) (by omega), ?_⟩; conv => whnf))
    refine ⟨fun g => ?_, fun g => ?_⟩ <;> conv => whnf
    · rw [if_neg (by omega)] at hr
      subst hr
      conv => whnf
      repeat (first | (refine And.intro (by omega) ?_; (try intro _); conv => whnf) | (refine And.intro ?_ (by omega); (try intro _); conv => whnf) | (refine ⟨_, RemV.nonneg (by omega) (by omega), ?_⟩; conv => whnf))
      refine RunsS.retU (UnwS.ret tab Tryz.func31 rfl fun Ez Hz Az Sz K => ⟨_, rfl, rfl, K.keeps⟩)
    · rw [if_pos (by omega)] at hr
      subst hr
      conv => whnf
      repeat (first | (refine And.intro (by omega) ?_; (try intro _); conv => whnf) | (refine And.intro ?_ (by omega); (try intro _); conv => whnf) | (refine ⟨_, RemV.nonneg (by omega) (by omega), ?_⟩; conv => whnf))
      cases s
      · conv => whnf
        repeat (first | (refine And.intro (by omega) ?_; (try intro _); conv => whnf) | (refine And.intro ?_ (by omega); (try intro _); conv => whnf) | (refine ⟨_, RemV.nonneg (by omega) (by omega), ?_⟩; conv => whnf))
        refine RunsS.retU (UnwS.ret tab Tryz.func31 rfl fun Ez Hz Az Sz K => ⟨_, rfl, rfl, K.keeps⟩)
      · conv => whnf
        repeat (first | (refine And.intro (by omega) ?_; (try intro _); conv => whnf) | (refine And.intro ?_ (by omega); (try intro _); conv => whnf) | (refine ⟨_, RemV.nonneg (by omega) (by omega), ?_⟩; conv => whnf))
        refine RunsS.retU (UnwS.ret tab Tryz.func31 rfl fun Ez Hz Az Sz K => ⟨_, rfl, ?_, K.keeps⟩)
        show Value.tuple #[.int .i64 (0 - ((Z : Nat) : Int)), .int .i64 0] = Value.tuple #[.int .i64 (sg true (Z)), .int .i64 0]
        rw [show sg true (Z) = 0 - ((Z : Nat) : Int) by simp only [sg, if_true]; omega]

theorem rqFloor_fn {h : Array Obj} (a : Rt) : FnV Tryz.prog 9 #[a.v] h fun r h' => r = iev2 (wholeR a false) ∧ Keeps h.size h h' := by
  obtain ⟨r, hr⟩ : ∃ r, r = wholeR a false := ⟨_, rfl⟩
  rw [← hr]
  obtain ⟨s, n, d⟩ := a
  unfold wholeR at hr
  refine Fn.ofS (args := [.agg #[.bool s, .string n, .string d]]) Tryz.func9 (by kernel_rfl) rfl Tryz.ntmps9 rfl fun w0 cs => ?_
  conv => whnf
  refine goS_run tab 1000 _ _ _ _ ?_
  conv => whnf
  repeat (first | (refine And.intro (by omega) ?_; (try intro _); conv => whnf) | (refine And.intro ?_ (by omega); (try intro _); conv => whnf) | (refine ⟨_, RemV.nonneg (by omega) (by omega), ?_⟩; conv => whnf))
  refine RunsS.callV (fun Ez Hz Az Sz K => rqCheck_fn ⟨s, n, d⟩) ?_
  conv => whnf
  try refine goS_run tab 1000 _ _ _ _ ?_
  conv => whnf
  repeat (first | (refine And.intro (by omega) ?_; (try intro _); conv => whnf) | (refine And.intro ?_ (by omega); (try intro _); conv => whnf) | (refine ⟨_, RemV.nonneg (by omega) (by omega), ?_⟩; conv => whnf))
  refine ⟨fun o1 => ?_, fun o1 => ?_⟩ <;> conv => whnf
  rotate_left
  · conv => whnf
    repeat (first | (refine And.intro (by omega) ?_; (try intro _); conv => whnf) | (refine And.intro ?_ (by omega); (try intro _); conv => whnf) | (refine ⟨_, RemV.nonneg (by omega) (by omega), ?_⟩; conv => whnf))
    rw [if_neg (fun o => o1 (chkR_zero.2 o))] at hr
    subst hr
    refine RunsS.retU (UnwS.ret tab Tryz.func9 rfl fun Ez Hz Az Sz K => ⟨_, rfl, rfl, K.keeps⟩)
  · have o1 := chkR_zero.1 o1
    rw [if_pos o1] at hr
    obtain ⟨N, hN⟩ : ∃ N, N = natv n := ⟨_, rfl⟩
    obtain ⟨D, hD⟩ : ∃ D, D = natv d := ⟨_, rfl⟩
    have qa := okR_q o1
    have en : n = enc N := by have := congrArg Rt.n qa.1; rw [hN]; exact this
    have ed : d = enc D := by have := congrArg Rt.d qa.1; rw [hD]; exact this
    have hD0 : D ≠ 0 := by rw [hD]; exact o1.2.2.1
    have fN : nb N ≤ 256 := by rw [hN]; exact qa.2.2.1
    have fD : nb D ≤ 256 := by rw [hD]; exact qa.2.2.2
    have edq : decQ ⟨s, n, d⟩ = ⟨s, N, D⟩ := by rw [hN, hD]; rfl
    rw [edq] at hr
    unfold upQ at hr
    dsimp only at hr
    have ediv : divS n d = (enc (N / D), enc (N % D), 0) := by rw [en, ed, div_e fN fD, if_neg hD0]
    obtain ⟨Z, hZ⟩ : ∃ Z, Z = N / D := ⟨_, rfl⟩
    obtain ⟨M, hM⟩ : ∃ M, M = N % D := ⟨_, rfl⟩
    rw [← hZ, ← hM] at ediv hr
    have hsz := enc_size Z
    have big : ¬ nb Z ≤ 8 → ¬ Z ≤ 4611686018427387904 := fun h1 h2 => h1 (nb_le (by rw [p8]; omega))
    conv => whnf
    repeat (first | (refine And.intro (by omega) ?_; (try intro _); conv => whnf) | (refine And.intro ?_ (by omega); (try intro _); conv => whnf) | (refine ⟨_, RemV.nonneg (by omega) (by omega), ?_⟩; conv => whnf))
    refine RunsS.callV (fun Ez Hz Az Sz K => rDiv_fn n d) ?_
    conv => whnf
    rw [ediv]
    try dsimp only
    try refine goS_run tab 1000 _ _ _ _ ?_
    conv => whnf
    repeat (first | (refine And.intro (by omega) ?_; (try intro _); conv => whnf) | (refine And.intro ?_ (by omega); (try intro _); conv => whnf) | (refine ⟨_, RemV.nonneg (by omega) (by omega), ?_⟩; conv => whnf))
    refine ⟨fun g1 => ?_, fun g1 => ?_⟩ <;> conv => whnf
    · conv => whnf
      repeat (first | (refine And.intro (by omega) ?_; (try intro _); conv => whnf) | (refine And.intro ?_ (by omega); (try intro _); conv => whnf) | (refine ⟨_, RemV.nonneg (by omega) (by omega), ?_⟩; conv => whnf))
      rw [if_neg (fun o => big (by omega) o.1)] at hr
      subst hr
      refine RunsS.retU (UnwS.ret tab Tryz.func9 rfl fun Ez Hz Az Sz K => ⟨_, rfl, rfl, K.keeps⟩)
    · conv => whnf
      repeat (first | (refine And.intro (by omega) ?_; (try intro _); conv => whnf) | (refine And.intro ?_ (by omega); (try intro _); conv => whnf) | (refine ⟨_, RemV.nonneg (by omega) (by omega), ?_⟩; conv => whnf))
      have g1 : nb Z ≤ 8 := by omega
      have hz : (enc M = ⟨#[]⟩) ↔ M = 0 := enc_mt
      cases s
      · conv => whnf
        repeat (first | (refine And.intro (by omega) ?_; (try intro _); conv => whnf) | (refine And.intro ?_ (by omega); (try intro _); conv => whnf) | (refine ⟨_, RemV.nonneg (by omega) (by omega), ?_⟩; conv => whnf))
        refine RunsS.callV (fun Ez Hz Az Sz K => rqwhole_fn false Z) ?_
        conv => whnf
        try refine goS_run tab 1000 _ _ _ _ ?_
        conv => whnf
        repeat (first | (refine And.intro (by omega) ?_; (try intro _); conv => whnf) | (refine And.intro ?_ (by omega); (try intro _); conv => whnf) | (refine ⟨_, RemV.nonneg (by omega) (by omega), ?_⟩; conv => whnf))
        rw [show (if M ≠ 0 ∧ false ≠ false then Z + 1 else Z) = Z from if_neg (fun o => o.2 rfl)] at hr
        refine RunsS.retU (UnwS.ret tab Tryz.func9 rfl fun Ez Hz Az Sz K => ⟨_, rfl, ?_, K.keeps⟩)
        rw [hr]
        by_cases hl : Z ≤ 4611686018427387904
        · rw [if_pos hl, if_pos ⟨hl, hl⟩]; rfl
        · rw [if_neg hl, if_neg (fun o => hl o.1)]; rfl
      · conv => whnf
        repeat (first | (refine And.intro (by omega) ?_; (try intro _); conv => whnf) | (refine And.intro ?_ (by omega); (try intro _); conv => whnf) | (refine ⟨_, RemV.nonneg (by omega) (by omega), ?_⟩; conv => whnf))
        refine ⟨fun g2 => ?_, fun g2 => ?_⟩ <;> conv => whnf
        · have g2 := hz.1 g2
          rw [show (if M ≠ 0 ∧ false ≠ true then Z + 1 else Z) = Z from if_neg (fun o => o.1 g2)] at hr
          conv => whnf
          repeat (first | (refine And.intro (by omega) ?_; (try intro _); conv => whnf) | (refine And.intro ?_ (by omega); (try intro _); conv => whnf) | (refine ⟨_, RemV.nonneg (by omega) (by omega), ?_⟩; conv => whnf))
          refine RunsS.callV (fun Ez Hz Az Sz K => rqwhole_fn true Z) ?_
          conv => whnf
          try refine goS_run tab 1000 _ _ _ _ ?_
          conv => whnf
          repeat (first | (refine And.intro (by omega) ?_; (try intro _); conv => whnf) | (refine And.intro ?_ (by omega); (try intro _); conv => whnf) | (refine ⟨_, RemV.nonneg (by omega) (by omega), ?_⟩; conv => whnf))
          refine RunsS.retU (UnwS.ret tab Tryz.func9 rfl fun Ez Hz Az Sz K => ⟨_, rfl, ?_, K.keeps⟩)
          rw [hr]
          by_cases hl : Z ≤ 4611686018427387904
          · rw [if_pos hl, if_pos ⟨hl, hl⟩]; rfl
          · rw [if_neg hl, if_neg (fun o => hl o.1)]; rfl
        · have g2 : M ≠ 0 := fun e => g2 (hz.2 e)
          rw [show (if M ≠ 0 ∧ false ≠ true then Z + 1 else Z) = Z + 1 from if_pos ⟨g2, by simp⟩] at hr
          have z9 : nb (Z + 1) ≤ 9 := nb_le (by
            have h1 := nb_lt Z
            have h2 : 256 ^ nb Z ≤ 256 ^ 8 := Nat.pow_le_pow_right (by decide) g1
            rw [p8] at h2
            rw [p9]
            omega)
          have e2 : addS (enc Z) ⟨#[1]⟩ = (enc (Z + 1), 0) := by
            rw [← enc_one, add_e (by omega) (by decide), short_e (by omega)]
          conv => whnf
          repeat (first | (refine And.intro (by omega) ?_; (try intro _); conv => whnf) | (refine And.intro ?_ (by omega); (try intro _); conv => whnf) | (refine ⟨_, RemV.nonneg (by omega) (by omega), ?_⟩; conv => whnf))
          refine RunsS.callV (fun Ez Hz Az Sz K => rAdd_fn (enc Z) ⟨#[1]⟩) ?_
          conv => whnf
          rw [e2]
          try dsimp only
          try refine goS_run tab 1000 _ _ _ _ ?_
          conv => whnf
          repeat (first | (refine And.intro (by omega) ?_; (try intro _); conv => whnf) | (refine And.intro ?_ (by omega); (try intro _); conv => whnf) | (refine ⟨_, RemV.nonneg (by omega) (by omega), ?_⟩; conv => whnf))
          refine RunsS.callV (fun Ez Hz Az Sz K => rqwhole_fn true (Z + 1)) ?_
          conv => whnf
          try refine goS_run tab 1000 _ _ _ _ ?_
          conv => whnf
          repeat (first | (refine And.intro (by omega) ?_; (try intro _); conv => whnf) | (refine And.intro ?_ (by omega); (try intro _); conv => whnf) | (refine ⟨_, RemV.nonneg (by omega) (by omega), ?_⟩; conv => whnf))
          refine RunsS.retU (UnwS.ret tab Tryz.func9 rfl fun Ez Hz Az Sz K => ⟨_, rfl, ?_, K.keeps⟩)
          rw [hr]
          by_cases hl : Z + 1 ≤ 4611686018427387904
          · rw [if_pos hl, if_pos ⟨by omega, hl⟩]; rfl
          · rw [if_neg hl, if_neg (fun o => hl o.2)]; rfl
end Go.Proofs.YtccfjcmolfbjdaaGreatDoor

namespace Go.Proofs.YtccfjcmolfbjdaaGreatDoor
open Go Go.Fw Go.NatM Go.RatM
set_option maxRecDepth 100000
set_option maxHeartbeats 32000000

theorem floor_neg {a : Q} (ha : a.Ok) (la : a.le 256) : wholeR (encQ (negQ a)) false = (-(wholeR (encQ a) true).1, (wholeR (encQ a) true).2) := by
  rw [whole_ok ha la, whole_ok (negQ_ok ha) (negQ_le la), negQ_up.2, negQ_sg]
  by_cases h : a.n / a.d ≤ 4611686018427387904 ∧ upQ a true ≤ 4611686018427387904
  · rw [if_pos h]
    exact if_pos h
  · rw [if_neg h]
    exact if_neg h
theorem whole_small (a : Rt) (up : Bool) : -4611686018427387904 ≤ (wholeR a up).1 ∧ (wholeR a up).1 ≤ 4611686018427387904 := by
  unfold wholeR
  split
  · split
    · next h => dsimp only; unfold sg; split <;> omega
    · decide
  · decide

theorem rqCeil_fn {h : Array Obj} (a : Rt) : FnV Tryz.prog 11 #[a.v] h fun r h' => r = iev2 (wholeR a true) ∧ Keeps h.size h h' := by
  by_cases o1 : okR a
  rotate_left
  · have hr : wholeR a true = (0, 70) := by unfold wholeR; rw [if_neg o1]
    rw [hr]
    obtain ⟨s, n, d⟩ := a
    refine Fn.ofS (args := [.agg #[.bool s, .string n, .string d]]) Tryz.func11 (by kernel_rfl) rfl Tryz.ntmps11 rfl fun w0 cs => ?_
    conv => whnf
    refine goS_run tab 1000 _ _ _ _ ?_
    conv => whnf
    repeat (first | (refine And.intro (by omega) ?_; (try intro _); conv => whnf) | (refine And.intro ?_ (by omega); (try intro _); conv => whnf) | (refine ⟨_, RemV.nonneg (by omega) (by omega), ?_⟩; conv => whnf))
    have hc : chkR ⟨s, n, d⟩ = 70 := by unfold chkR; rw [if_neg o1]
    refine RunsS.callV (fun Ez Hz Az Sz K => rqCheck_fn ⟨s, n, d⟩) ?_
    conv => whnf
    rw [hc]
    try dsimp only
    try refine goS_run tab 1000 _ _ _ _ ?_
    conv => whnf
    repeat (first | (refine And.intro (by omega) ?_; (try intro _); conv => whnf) | (refine And.intro ?_ (by omega); (try intro _); conv => whnf) | (refine ⟨_, RemV.nonneg (by omega) (by omega), ?_⟩; conv => whnf))
    refine RunsS.retU (UnwS.ret tab Tryz.func11 rfl fun Ez Hz Az Sz K => ⟨_, rfl, rfl, K.keeps⟩)
  · obtain ⟨A, rfl, oA, lA⟩ := okR_of o1
    have hf := floor_neg oA lA
    have hb := whole_small (encQ A) true
    have hc : chkR (encQ A) = 0 := chkR_zero.2 o1
    obtain ⟨⟨x, e⟩, hx⟩ : ∃ x, x = wholeR (encQ A) true := ⟨_, rfl⟩
    rw [← hx] at hf hb ⊢
    dsimp only at hf hb
    refine Fn.ofS (args := [.agg #[.bool A.neg, .string (enc A.n), .string (enc A.d)]]) Tryz.func11 (by kernel_rfl) rfl Tryz.ntmps11 rfl fun w0 cs => ?_
    conv => whnf
    refine goS_run tab 1000 _ _ _ _ ?_
    conv => whnf
    repeat (first | (refine And.intro (by omega) ?_; (try intro _); conv => whnf) | (refine And.intro ?_ (by omega); (try intro _); conv => whnf) | (refine ⟨_, RemV.nonneg (by omega) (by omega), ?_⟩; conv => whnf))
    refine RunsS.callV (fun Ez Hz Az Sz K => rqCheck_fn (encQ A)) ?_
    conv => whnf
    rw [hc]
    try dsimp only
    try refine goS_run tab 1000 _ _ _ _ ?_
    conv => whnf
    repeat (first | (refine And.intro (by omega) ?_; (try intro _); conv => whnf) | (refine And.intro ?_ (by omega); (try intro _); conv => whnf) | (refine ⟨_, RemV.nonneg (by omega) (by omega), ?_⟩; conv => whnf))
    refine RunsS.callV (fun Ez Hz Az Sz K => rqopposite_fn A) ?_
    conv => whnf
    try refine goS_run tab 1000 _ _ _ _ ?_
    conv => whnf
    repeat (first | (refine And.intro (by omega) ?_; (try intro _); conv => whnf) | (refine And.intro ?_ (by omega); (try intro _); conv => whnf) | (refine ⟨_, RemV.nonneg (by omega) (by omega), ?_⟩; conv => whnf))
    refine RunsS.callV (fun Ez Hz Az Sz K => rqFloor_fn (encQ (negQ A))) ?_
    conv => whnf
    rw [hf]
    try dsimp only
    try refine goS_run tab 1000 _ _ _ _ ?_
    conv => whnf
    repeat (first | (refine And.intro (by omega) ?_; (try intro _); conv => whnf) | (refine And.intro ?_ (by omega); (try intro _); conv => whnf) | (refine ⟨_, RemV.nonneg (by omega) (by omega), ?_⟩; conv => whnf))
    refine RunsS.retU (UnwS.ret tab Tryz.func11 rfl fun Ez Hz Az Sz K => ⟨_, rfl, ?_, K.keeps⟩)
    show Value.tuple #[.int .i64 (0 - -x), .int .i64 e] = Value.tuple #[.int .i64 x, .int .i64 e]
    rw [show 0 - -x = x by omega]

theorem rqSum_fn {h : Array Obj} (l : List Rt) {v : Value} (hv : Ro h v 3 (rowsR l)) : FnV Tryz.prog 13 #[v] h fun r h' => r = rev (sumR l) ∧ Keeps h.size h h' := by
  have hl := rowsR_len l
  have hm := hv.len
  obtain ⟨r, hr⟩ : ∃ r, r = sumR l := ⟨_, rfl⟩
  rw [← hr]
  unfold sumR at hr
  refine Fn.ofG (envL [v]) 1 [.buf 0] [(0, .ro (3) (rowsR l))] (fun k => k < _) Tryz.func13 (by kernel_rfl) rfl Tryz.ntmps13 rfl (fun _ hk => hk) (Sat.ros (vs := [v]) (l := [(3, rowsR l)]) ⟨hv, trivial⟩) fun w0 cs => ?_
  conv => whnf
  refine goS_run tab 1000 _ _ _ _ ?_
  conv => whnf
  repeat (first | (refine And.intro (by omega) ?_; (try intro _); conv => whnf) | (refine And.intro ?_ (by omega); (try intro _); conv => whnf) | (refine ⟨_, RemV.nonneg (by omega) (by omega), ?_⟩; conv => whnf))
  refine RunsS.subR [] (RunsS.loop (fun (k : Nat) => [(4, .v (.int .i64 k)), (2, .ptr 1 0), (0, .buf 0)]) (fun (k : Nat) => [(1, .cells 23 [.v (.bool false), .v (.string ⟨#[]⟩), .v (.string ⟨#[]⟩)]), (0, .ro 3 (rowsR l))]) 2 (fun (k : Nat) => k ≤ l.length ∧ ∀ a ∈ l.take k, okR a) (fun (k : Nat) => l.length - k) ?round1 (0) ?J01) ?SS1 ?HH1
  case J01 => exact (⟨by omega, by simp⟩)
  case SS1 => repeat (first | exact trivial | refine ⟨by rfl, ?_⟩)
  case HH1 => repeat (first | exact trivial | refine ⟨by rfl, ?_⟩)
  rintro k hJ back
  try dsimp only at hJ back
  conv => whnf
  try dsimp only
  refine goS_run tab 1000 _ _ _ _ ?_
  conv => whnf
  repeat (first | (refine And.intro (by omega) ?_; (try intro _); conv => whnf) | (refine And.intro ?_ (by omega); (try intro _); conv => whnf) | (refine ⟨_, RemV.nonneg (by omega) (by omega), ?_⟩; conv => whnf))
  refine ⟨fun hk => ?_, fun hk => ?_⟩ <;> conv => whnf
  · have hk : k < l.length := by omega
    conv => whnf
    repeat (first | (refine And.intro (by omega) ?_; (try intro _); conv => whnf) | (refine And.intro ?_ (by omega); (try intro _); conv => whnf) | (refine ⟨_, RemV.nonneg (by omega) (by omega), ?_⟩; conv => whnf))
    refine ⟨_, rowsR_get hk, ?_⟩
    conv => whnf
    try (refine And.intro (by first | omega | exact Nat.le_of_ble_eq_true rfl) ?_; conv => whnf)
    repeat (first | (refine And.intro (by omega) ?_; (try intro _); conv => whnf) | (refine And.intro ?_ (by omega); (try intro _); conv => whnf) | (refine ⟨_, RemV.nonneg (by omega) (by omega), ?_⟩; conv => whnf))
    refine RunsS.callV (fun Ez Hz Az Sz K => rqCheck_fn l[k]) ?_
    conv => whnf
    try refine goS_run tab 1000 _ _ _ _ ?_
    conv => whnf
    repeat (first | (refine And.intro (by omega) ?_; (try intro _); conv => whnf) | (refine And.intro ?_ (by omega); (try intro _); conv => whnf) | (refine ⟨_, RemV.nonneg (by omega) (by omega), ?_⟩; conv => whnf))
    refine ⟨fun o1 => ?_, fun o1 => ?_⟩ <;> conv => whnf
    · conv => whnf
      repeat (first | (refine And.intro (by omega) ?_; (try intro _); conv => whnf) | (refine And.intro ?_ (by omega); (try intro _); conv => whnf) | (refine ⟨_, RemV.nonneg (by omega) (by omega), ?_⟩; conv => whnf))
      have o1 := chkR_zero.1 o1
      refine RunsS.subR [] (back (k + 1) ?BJ2 ?BM2) ?SS2 ?HH2
      case BJ2 => exact (⟨by omega, all_take hk hJ.2 o1⟩)
      case BM2 => (try dsimp only); omega
      case SS2 => repeat (first | exact trivial | refine ⟨by rfl, ?_⟩)
      case HH2 => repeat (first | exact trivial | refine ⟨by rfl, ?_⟩)
    · conv => whnf
      repeat (first | (refine And.intro (by omega) ?_; (try intro _); conv => whnf) | (refine And.intro ?_ (by omega); (try intro _); conv => whnf) | (refine ⟨_, RemV.nonneg (by omega) (by omega), ?_⟩; conv => whnf))
      rw [if_neg (fun o => o1 (chkR_zero.2 (o _ (List.getElem_mem hk))))] at hr
      subst hr
      refine RunsS.retU (UnwS.ret tab Tryz.func13 rfl fun Ez Hz Az Sz K => ⟨_, rfl, rfl, K.keeps⟩)
  · have hk : k = l.length := by omega
    have hall : ∀ a ∈ l, okR a := by have := hJ.2; rw [hk, List.take_length] at this; exact this
    rw [if_pos hall] at hr
    conv => whnf
    repeat (first | (refine And.intro (by omega) ?_; (try intro _); conv => whnf) | (refine And.intro ?_ (by omega); (try intro _); conv => whnf) | (refine ⟨_, RemV.nonneg (by omega) (by omega), ?_⟩; conv => whnf))
    refine RunsS.subR [] (RunsS.loop (fun (⟨k, acc⟩ : Nat × Rt) => [(7, .v (.int .i64 k)), (5, .ptr 2 0), (2, .ptr 1 0), (0, .buf 0)]) (fun (⟨k, acc⟩ : Nat × Rt) => [(2, .cells 23 [.v (.bool acc.neg), .v (.string acc.n), .v (.string acc.d)]), (1, .cells 23 [.v (.bool false), .v (.string ⟨#[]⟩), .v (.string ⟨#[]⟩)]), (0, .ro 3 (rowsR l))]) 3 (fun (⟨k, acc⟩ : Nat × Rt) => k ≤ l.length ∧ r = sumF (l.drop k) acc) (fun (⟨k, acc⟩ : Nat × Rt) => l.length - k) ?round3 ((0, oneR)) ?J03) ?SS3 ?HH3
    case J03 => exact (⟨by omega, hr⟩)
    case SS3 => repeat (first | exact trivial | refine ⟨by rfl, ?_⟩)
    case HH3 => repeat (first | exact trivial | refine ⟨by rfl, ?_⟩)
    rintro ⟨k, acc⟩ hJ back
    try dsimp only at hJ back
    conv => whnf
    try dsimp only
    refine goS_run tab 1000 _ _ _ _ ?_
    conv => whnf
    repeat (first | (refine And.intro (by omega) ?_; (try intro _); conv => whnf) | (refine And.intro ?_ (by omega); (try intro _); conv => whnf) | (refine ⟨_, RemV.nonneg (by omega) (by omega), ?_⟩; conv => whnf))
    refine ⟨fun hk => ?_, fun hk => ?_⟩ <;> conv => whnf
    · have hk : k < l.length := by omega
      have hd : l.drop k = l[k] :: l.drop (k + 1) := List.drop_eq_getElem_cons hk
      rw [hd] at hJ
      unfold sumF at hJ
      conv => whnf
      repeat (first | (refine And.intro (by omega) ?_; (try intro _); conv => whnf) | (refine And.intro ?_ (by omega); (try intro _); conv => whnf) | (refine ⟨_, RemV.nonneg (by omega) (by omega), ?_⟩; conv => whnf))
      refine RunsS.held tab (.fl 0 (.fl 1 (.fl 2 (.fl 3 (.fl 4 (.e1 5 [] (.fl 6 (.fl 7 (.fl 8 (.e1 9 [] (.fl 10 .done))))))))))) (by kernel_rfl) ?_
      conv => whnf
      try refine goR_run tab _ _ _ _ _ _ ?_
      conv => whnf
      repeat (first | (refine And.intro (by omega) ?_; (try intro _); conv => whnf) | (refine And.intro ?_ (by omega); (try intro _); conv => whnf) | (refine And.intro (by (conv => whnf); (repeat (refine And.intro (by (conv => whnf); first | rfl | exact trivial) ?_; conv => whnf)); exact trivial) ?_; conv => whnf) | (refine ⟨_, RemV.nonneg (by omega) (by omega), ?_⟩; conv => whnf))
      try refine goS_run tab 1000 _ _ _ _ ?_
      conv => whnf
      repeat (first | (refine And.intro (by omega) ?_; (try intro _); conv => whnf) | (refine And.intro ?_ (by omega); (try intro _); conv => whnf) | (refine ⟨_, RemV.nonneg (by omega) (by omega), ?_⟩; conv => whnf))
      refine ⟨_, rowsR_get hk, ?_⟩
      conv => whnf
      try (refine And.intro (by first | omega | exact Nat.le_of_ble_eq_true rfl) ?_; conv => whnf)
      repeat (first | (refine And.intro (by omega) ?_; (try intro _); conv => whnf) | (refine And.intro ?_ (by omega); (try intro _); conv => whnf) | (refine ⟨_, RemV.nonneg (by omega) (by omega), ?_⟩; conv => whnf))
      refine EffR.callV (fun Ez Hz Az Sz K => rqAdd_fn acc l[k]) (by (conv => whnf); (repeat (refine And.intro (by (conv => whnf); first | rfl | exact trivial) ?_; conv => whnf)); exact trivial) ?_
      conv => whnf
      try refine goR_run tab _ _ _ _ _ _ ?_
      conv => whnf
      repeat (first | (refine And.intro (by omega) ?_; (try intro _); conv => whnf) | (refine And.intro ?_ (by omega); (try intro _); conv => whnf) | (refine And.intro (by (conv => whnf); (repeat (refine And.intro (by (conv => whnf); first | rfl | exact trivial) ?_; conv => whnf)); exact trivial) ?_; conv => whnf) | (refine ⟨_, RemV.nonneg (by omega) (by omega), ?_⟩; conv => whnf))
      try refine goS_run tab 1000 _ _ _ _ ?_
      conv => whnf
      repeat (first | (refine And.intro (by omega) ?_; (try intro _); conv => whnf) | (refine And.intro ?_ (by omega); (try intro _); conv => whnf) | (refine ⟨_, RemV.nonneg (by omega) (by omega), ?_⟩; conv => whnf))
      refine ⟨fun o1 => ?_, fun o1 => ?_⟩ <;> conv => whnf
      · conv => whnf
        repeat (first | (refine And.intro (by omega) ?_; (try intro _); conv => whnf) | (refine And.intro ?_ (by omega); (try intro _); conv => whnf) | (refine ⟨_, RemV.nonneg (by omega) (by omega), ?_⟩; conv => whnf))
        rw [if_pos o1] at hJ
        refine RunsS.subR [] (back ((k + 1, (addR acc l[k]).1)) ?BJ4 ?BM4) ?SS4 ?HH4
        case BJ4 => exact (⟨by omega, hJ.2⟩)
        case BM4 => (try dsimp only); omega
        case SS4 => repeat (first | exact trivial | refine ⟨by rfl, ?_⟩)
        case HH4 => repeat (first | exact trivial | refine ⟨by rfl, ?_⟩)
      · conv => whnf
        repeat (first | (refine And.intro (by omega) ?_; (try intro _); conv => whnf) | (refine And.intro ?_ (by omega); (try intro _); conv => whnf) | (refine ⟨_, RemV.nonneg (by omega) (by omega), ?_⟩; conv => whnf))
        rw [if_neg o1] at hJ
        rw [hJ.2]
        refine RunsS.retU (UnwS.ret tab Tryz.func13 rfl fun Ez Hz Az Sz K => ⟨_, rfl, rfl, K.keeps⟩)
    · have hk : k = l.length := by omega
      rw [hk, List.drop_length] at hJ
      conv => whnf
      repeat (first | (refine And.intro (by omega) ?_; (try intro _); conv => whnf) | (refine And.intro ?_ (by omega); (try intro _); conv => whnf) | (refine ⟨_, RemV.nonneg (by omega) (by omega), ?_⟩; conv => whnf))
      rw [hJ.2]
      refine RunsS.retU (UnwS.ret tab Tryz.func13 rfl fun Ez Hz Az Sz K => ⟨_, rfl, rfl, K.keeps⟩)
end Go.Proofs.YtccfjcmolfbjdaaGreatDoor

namespace Go.Proofs.YtccfjcmolfbjdaaGreatDoor
open Go Go.Fw Go.NatM Go.RatM
set_option maxRecDepth 100000
set_option maxHeartbeats 32000000

theorem newSpec_fn {h : Array Obj} (M N : Int) (a : Rt) (l : List Rt) {v : Value} (hM : -9223372036854775808 ≤ M ∧ M ≤ 9223372036854775807) (hN : -9223372036854775808 ≤ N ∧ N ≤ 9223372036854775807) (hv : Ro h v 3 (rowsR l)) (hT : TabH h) :
    FnV Tryz.prog 3 #[.int .i64 M, .int .i64 N, a.v, v] h fun r h' => r = .bool true ∧ Keeps h.size h h' := by
  have hl := rowsR_len l
  have hm := hv.len
  obtain ⟨s, n, d⟩ := a
  refine Fn.ofG (envL [v]) 1 [.v (.int .i64 M), .v (.int .i64 N), .v (.agg #[.bool s, .string n, .string d]), .buf 0] [(0, .ro (3) (rowsR l))] (fun k => k < _) Tryz.func3 (by kernel_rfl) rfl Tryz.ntmps3 rfl (fun _ hk => hk) (Sat.ros (vs := [v]) (l := [(3, rowsR l)]) ⟨hv, trivial⟩) fun w0 cs => ?_
  conv => whnf
  refine goS_run tab 1000 _ _ _ _ ?_
  conv => whnf
  repeat (first | (refine And.intro (by omega) ?_; (try intro _); conv => whnf) | (refine And.intro ?_ (by omega); (try intro _); conv => whnf) | (refine ⟨_, RemV.nonneg (by omega) (by omega), ?_⟩; conv => whnf))
  refine RunsS.callV (fun Ez Hz Az Sz K => sane_fn (hT.keeps ⟨K.size, K.same⟩)) ?_
  conv => whnf
  try refine goS_run tab 1000 _ _ _ _ ?_
  conv => whnf
  repeat (first | (refine And.intro (by omega) ?_; (try intro _); conv => whnf) | (refine And.intro ?_ (by omega); (try intro _); conv => whnf) | (refine ⟨_, RemV.nonneg (by omega) (by omega), ?_⟩; conv => whnf))
  by_cases hf : ∀ a ∈ [(⟨s, n, d⟩ : Rt)], (a.n.size : Int) ≤ 300 ∧ (a.d.size : Int) ≤ 300
  rotate_left
  · refine RunsS.callV (fun Ez Hz Az Sz K => few_fn 300 [⟨s, n, d⟩] (Sz.ro (b := 2) rfl)) ?_
    conv => whnf
    rw [decide_eq_false hf]
    try dsimp only
    try refine goS_run tab 1000 _ _ _ _ ?_
    conv => whnf
    repeat (first | (refine And.intro (by omega) ?_; (try intro _); conv => whnf) | (refine And.intro ?_ (by omega); (try intro _); conv => whnf) | (refine ⟨_, RemV.nonneg (by omega) (by omega), ?_⟩; conv => whnf))
    refine RunsS.retU (UnwS.ret tab Tryz.func3 rfl fun Ez Hz Az Sz K => ⟨_, rfl, rfl, K.keeps⟩)
  refine RunsS.callV (fun Ez Hz Az Sz K => few_fn 300 [⟨s, n, d⟩] (Sz.ro (b := 2) rfl)) ?_
  conv => whnf
  rw [decide_eq_true hf]
  try dsimp only
  try refine goS_run tab 1000 _ _ _ _ ?_
  conv => whnf
  repeat (first | (refine And.intro (by omega) ?_; (try intro _); conv => whnf) | (refine And.intro ?_ (by omega); (try intro _); conv => whnf) | (refine ⟨_, RemV.nonneg (by omega) (by omega), ?_⟩; conv => whnf))
  by_cases hg : ∀ a ∈ l, (a.n.size : Int) ≤ 60 ∧ (a.d.size : Int) ≤ 60
  rotate_left
  · refine RunsS.callV (fun Ez Hz Az Sz K => few_fn 60 l (Sz.ro (b := 0) rfl)) ?_
    conv => whnf
    rw [decide_eq_false hg]
    try dsimp only
    try refine goS_run tab 1000 _ _ _ _ ?_
    conv => whnf
    repeat (first | (refine And.intro (by omega) ?_; (try intro _); conv => whnf) | (refine And.intro ?_ (by omega); (try intro _); conv => whnf) | (refine ⟨_, RemV.nonneg (by omega) (by omega), ?_⟩; conv => whnf))
    refine RunsS.retU (UnwS.ret tab Tryz.func3 rfl fun Ez Hz Az Sz K => ⟨_, rfl, rfl, K.keeps⟩)
  refine RunsS.callV (fun Ez Hz Az Sz K => few_fn 60 l (Sz.ro (b := 0) rfl)) ?_
  conv => whnf
  rw [decide_eq_true hg]
  try dsimp only
  try refine goS_run tab 1000 _ _ _ _ ?_
  conv => whnf
  repeat (first | (refine And.intro (by omega) ?_; (try intro _); conv => whnf) | (refine And.intro ?_ (by omega); (try intro _); conv => whnf) | (refine ⟨_, RemV.nonneg (by omega) (by omega), ?_⟩; conv => whnf))
  refine ⟨fun h6 => ?_, fun h6 => ?_⟩ <;> conv => whnf
  · conv => whnf
    repeat (first | (refine And.intro (by omega) ?_; (try intro _); conv => whnf) | (refine And.intro ?_ (by omega); (try intro _); conv => whnf) | (refine ⟨_, RemV.nonneg (by omega) (by omega), ?_⟩; conv => whnf))
    refine RunsS.retU (UnwS.ret tab Tryz.func3 rfl fun Ez Hz Az Sz K => ⟨_, rfl, rfl, K.keeps⟩)
  · conv => whnf
    repeat (first | (refine And.intro (by omega) ?_; (try intro _); conv => whnf) | (refine And.intro ?_ (by omega); (try intro _); conv => whnf) | (refine ⟨_, RemV.nonneg (by omega) (by omega), ?_⟩; conv => whnf))
    refine RunsS.callV (fun Ez Hz Az Sz K => qNew_fn M N hM hN (hT.keeps ⟨K.size, K.same⟩)) ?_
    conv => whnf
    try refine goS_run tab 1000 _ _ _ _ ?_
    conv => whnf
    repeat (first | (refine And.intro (by omega) ?_; (try intro _); conv => whnf) | (refine And.intro ?_ (by omega); (try intro _); conv => whnf) | (refine ⟨_, RemV.nonneg (by omega) (by omega), ?_⟩; conv => whnf))
    refine RunsS.callV (fun Ez Hz Az Sz K => rqNew_fn M N hM hN) ?_
    conv => whnf
    try refine goS_run tab 1000 _ _ _ _ ?_
    conv => whnf
    repeat (first | (refine And.intro (by omega) ?_; (try intro _); conv => whnf) | (refine And.intro ?_ (by omega); (try intro _); conv => whnf) | (refine ⟨_, RemV.nonneg (by omega) (by omega), ?_⟩; conv => whnf))
    refine RunsS.callV (fun Ez Hz Az Sz K => Floor_fn ⟨s, n, d⟩ (hT.keeps ⟨K.size, K.same⟩)) ?_
    conv => whnf
    try refine goS_run tab 1000 _ _ _ _ ?_
    conv => whnf
    repeat (first | (refine And.intro (by omega) ?_; (try intro _); conv => whnf) | (refine And.intro ?_ (by omega); (try intro _); conv => whnf) | (refine ⟨_, RemV.nonneg (by omega) (by omega), ?_⟩; conv => whnf))
    refine RunsS.callV (fun Ez Hz Az Sz K => rqFloor_fn ⟨s, n, d⟩) ?_
    conv => whnf
    try refine goS_run tab 1000 _ _ _ _ ?_
    conv => whnf
    repeat (first | (refine And.intro (by omega) ?_; (try intro _); conv => whnf) | (refine And.intro ?_ (by omega); (try intro _); conv => whnf) | (refine ⟨_, RemV.nonneg (by omega) (by omega), ?_⟩; conv => whnf))
    refine RunsS.callV (fun Ez Hz Az Sz K => Ceil_fn ⟨s, n, d⟩ (hT.keeps ⟨K.size, K.same⟩)) ?_
    conv => whnf
    try refine goS_run tab 1000 _ _ _ _ ?_
    conv => whnf
    repeat (first | (refine And.intro (by omega) ?_; (try intro _); conv => whnf) | (refine And.intro ?_ (by omega); (try intro _); conv => whnf) | (refine ⟨_, RemV.nonneg (by omega) (by omega), ?_⟩; conv => whnf))
    refine RunsS.callV (fun Ez Hz Az Sz K => rqCeil_fn ⟨s, n, d⟩) ?_
    conv => whnf
    try refine goS_run tab 1000 _ _ _ _ ?_
    conv => whnf
    repeat (first | (refine And.intro (by omega) ?_; (try intro _); conv => whnf) | (refine And.intro ?_ (by omega); (try intro _); conv => whnf) | (refine ⟨_, RemV.nonneg (by omega) (by omega), ?_⟩; conv => whnf))
    refine RunsS.callV (fun Ez Hz Az Sz K => Sum_fn l (Sz.ro (b := 0) rfl) (hT.keeps ⟨K.size, K.same⟩)) ?_
    conv => whnf
    try refine goS_run tab 1000 _ _ _ _ ?_
    conv => whnf
    repeat (first | (refine And.intro (by omega) ?_; (try intro _); conv => whnf) | (refine And.intro ?_ (by omega); (try intro _); conv => whnf) | (refine ⟨_, RemV.nonneg (by omega) (by omega), ?_⟩; conv => whnf))
    refine RunsS.callV (fun Ez Hz Az Sz K => rqSum_fn l (Sz.ro (b := 0) rfl)) ?_
    conv => whnf
    try refine goS_run tab 1000 _ _ _ _ ?_
    conv => whnf
    repeat (first | (refine And.intro (by omega) ?_; (try intro _); conv => whnf) | (refine And.intro ?_ (by omega); (try intro _); conv => whnf) | (refine ⟨_, RemV.nonneg (by omega) (by omega), ?_⟩; conv => whnf))
    refine RunsS.held tab (.fl 0 (.fl 1 (.fl 2 (.fl 3 (.fl 4 (.fl 5 (.fl 6 (.fl 7 (.fl 8 (.fl 9 (.fl 11 (.e1 10 [11] (.e1 12 [] (.fl 13 (.fl 14 (.fl 15 (.fl 16 (.fl 17 (.fl 18 (.fl 19 (.fl 20 (.fl 21 (.fl 22 (.fl 23 (.fl 24 (.fl 25 (.fl 26 (.fl 27 (.fl 28 (.fl 29 (.fl 30 (.fl 31 (.fl 32 (.fl 33 (.fl 34 (.fl 35 (.fl 36 (.fl 37 (.fl 38 (.fl 39 (.fl 40 (.fl 41 (.fl 42 (.fl 43 (.fl 44 (.fl 45 .done)))))))))))))))))))))))))))))))))))))))))))))) (by kernel_rfl) ?_
    conv => whnf
    try refine goR_run tab _ _ _ _ _ _ ?_
    conv => whnf
    repeat (first | (refine And.intro (by omega) ?_; (try intro _); conv => whnf) | (refine And.intro ?_ (by omega); (try intro _); conv => whnf) | (refine And.intro (by (conv => whnf); (repeat (refine And.intro (by (conv => whnf); first | rfl | exact trivial) ?_; conv => whnf)); exact trivial) ?_; conv => whnf) | (refine ⟨_, RemV.nonneg (by omega) (by omega), ?_⟩; conv => whnf))
    try refine goS_run tab 1000 _ _ _ _ ?_
    conv => whnf
    repeat (first | (refine And.intro (by omega) ?_; (try intro _); conv => whnf) | (refine And.intro ?_ (by omega); (try intro _); conv => whnf) | (refine ⟨_, RemV.nonneg (by omega) (by omega), ?_⟩; conv => whnf))
    refine And.intro (fun _ => ?_) (fun hn => absurd (⟨rfl, rfl, rfl⟩) hn)
    conv => whnf
    try refine goR_run tab _ _ _ _ _ _ ?_
    conv => whnf
    repeat (first | (refine And.intro (by omega) ?_; (try intro _); conv => whnf) | (refine And.intro ?_ (by omega); (try intro _); conv => whnf) | (refine And.intro (by (conv => whnf); (repeat (refine And.intro (by (conv => whnf); first | rfl | exact trivial) ?_; conv => whnf)); exact trivial) ?_; conv => whnf) | (refine ⟨_, RemV.nonneg (by omega) (by omega), ?_⟩; conv => whnf))
    try refine goS_run tab 1000 _ _ _ _ ?_
    conv => whnf
    repeat (first | (refine And.intro (by omega) ?_; (try intro _); conv => whnf) | (refine And.intro ?_ (by omega); (try intro _); conv => whnf) | (refine ⟨_, RemV.nonneg (by omega) (by omega), ?_⟩; conv => whnf))
    refine EffR.callV (fun Ez Hz Az Sz K => rtCheck_fn ⟨s, n, d⟩ (hT.keeps ⟨K.size, K.same⟩)) (by (conv => whnf); (repeat (refine And.intro (by (conv => whnf); first | rfl | exact trivial) ?_; conv => whnf)); exact trivial) ?_
    conv => whnf
    try refine goR_run tab _ _ _ _ _ _ ?_
    conv => whnf
    repeat (first | (refine And.intro (by omega) ?_; (try intro _); conv => whnf) | (refine And.intro ?_ (by omega); (try intro _); conv => whnf) | (refine And.intro (by (conv => whnf); (repeat (refine And.intro (by (conv => whnf); first | rfl | exact trivial) ?_; conv => whnf)); exact trivial) ?_; conv => whnf) | (refine ⟨_, RemV.nonneg (by omega) (by omega), ?_⟩; conv => whnf))
    try refine goS_run tab 1000 _ _ _ _ ?_
    conv => whnf
    repeat (first | (refine And.intro (by omega) ?_; (try intro _); conv => whnf) | (refine And.intro ?_ (by omega); (try intro _); conv => whnf) | (refine ⟨_, RemV.nonneg (by omega) (by omega), ?_⟩; conv => whnf))
    refine EffR.callV (fun Ez Hz Az Sz K => rqCheck_fn ⟨s, n, d⟩) (by (conv => whnf); (repeat (refine And.intro (by (conv => whnf); first | rfl | exact trivial) ?_; conv => whnf)); exact trivial) ?_
    conv => whnf
    try refine goR_run tab _ _ _ _ _ _ ?_
    conv => whnf
    repeat (first | (refine And.intro (by omega) ?_; (try intro _); conv => whnf) | (refine And.intro ?_ (by omega); (try intro _); conv => whnf) | (refine And.intro (by (conv => whnf); (repeat (refine And.intro (by (conv => whnf); first | rfl | exact trivial) ?_; conv => whnf)); exact trivial) ?_; conv => whnf) | (refine ⟨_, RemV.nonneg (by omega) (by omega), ?_⟩; conv => whnf))
    try refine goS_run tab 1000 _ _ _ _ ?_
    conv => whnf
    repeat (first | (refine And.intro (by omega) ?_; (try intro _); conv => whnf) | (refine And.intro ?_ (by omega); (try intro _); conv => whnf) | (refine ⟨_, RemV.nonneg (by omega) (by omega), ?_⟩; conv => whnf))
    refine And.intro (fun _ => ?_) (fun hn => absurd (⟨rfl, rfl, rfl⟩) hn)
    conv => whnf
    try refine goR_run tab _ _ _ _ _ _ ?_
    conv => whnf
    repeat (first | (refine And.intro (by omega) ?_; (try intro _); conv => whnf) | (refine And.intro ?_ (by omega); (try intro _); conv => whnf) | (refine And.intro (by (conv => whnf); (repeat (refine And.intro (by (conv => whnf); first | rfl | exact trivial) ?_; conv => whnf)); exact trivial) ?_; conv => whnf) | (refine ⟨_, RemV.nonneg (by omega) (by omega), ?_⟩; conv => whnf))
    try refine goS_run tab 1000 _ _ _ _ ?_
    conv => whnf
    repeat (first | (refine And.intro (by omega) ?_; (try intro _); conv => whnf) | (refine And.intro ?_ (by omega); (try intro _); conv => whnf) | (refine ⟨_, RemV.nonneg (by omega) (by omega), ?_⟩; conv => whnf))
    refine RunsS.retU (UnwS.ret tab Tryz.func3 rfl fun Ez Hz Az Sz K => ⟨_, rfl, ?_, K.keeps⟩)
    exact congrArg Value.bool (decide_eq_true rfl)
end Go.Proofs.YtccfjcmolfbjdaaGreatDoor

namespace Go.Proofs.YtccfjcmolfbjdaaGreatDoor.ratiosNewSpec
open Go Go.Fw Go.ChangeShapes Go.ChangeMaps Go.WideShapes Go.ChangeAt Go.RowKit
set_option maxRecDepth 100000

theorem int_wf {n : Int} (h : (Lit.int .i64 n).wf = true) : -9223372036854775808 ≤ n ∧ n ≤ 9223372036854775807 := by
  have h1 : IntKind.i64.min ≤ n ∧ n ≤ 9223372036854775807 := by simpa [Lit.wf] using h
  have e : IntKind.i64.min = -9223372036854775808 := rfl
  omega

/-- WHAT THE WALK GIVES, FOR EVERY ARGUMENT AND EVERY WORLD THAT HOLDS THE TABLE. -/
theorem contract (H : Type) (enc : TypeId × Value → H) (W : World) (base : Nat) (args : Array Value) (ds gs : List (DataW H)) (before : List MemPlace)
    (hval : ∀ (j : Nat) t v, Tryz.f3.params[j]? = some t → args[j]? = some v → Value.okWide Tryz.prog W .any base t v)
    (hW : DataW.Whole enc Tryz.prog Tryz.f3.params.toList Rows.ratiosNewSpecSpec.vars false W args.toList ds gs before) (hL : laidMetH Tryz.prog Rows.ratiosNewSpecRow.laid W) :
    Calls Tryz.prog 3 args W fun e W' => ∃ v, e = .returned v ∧ Rows.ratiosNewSpecSpec.post enc Tryz.prog Tryz.f3 false true false false W args v W' := by
  have hW' := hW
  obtain ⟨p, q, hA0, hV, rfl, hfz, hnd⟩ := hW
  have hA : DataW.TrodAll enc Tryz.prog W 0 (fun _ => true) true Tryz.f3.params.toList args.toList ds p := hA0
  rw [Tryz.params3] at hA hval
  obtain ⟨v0, vs0, d0, ds0, p0, q0, hargs, rfl, rfl, h0, r0⟩ := trodAll_cons hA
  obtain ⟨v1, vs1, d1, ds1, p1, q1, rfl, rfl, rfl, h1, r1⟩ := trodAll_cons r0
  obtain ⟨v2, vs2, d2, ds2, p2, q2, rfl, rfl, rfl, h2, r2⟩ := trodAll_cons r1
  obtain ⟨v3, vs3, d3, ds3, p3, q3, rfl, rfl, rfl, h3, r3⟩ := trodAll_cons r2
  obtain ⟨rfl, rfl, rfl⟩ := trodAll_nil r3
  obtain rfl : args = #[v0, v1, v2, v3] := by cases args; simp_all
  obtain ⟨rfl, rfl⟩ := trodVars_none hV
  obtain ⟨x0, rfl, rfl, rfl, m0⟩ := open_int Tryz.underlying3 (hval 0 3 v0 rfl rfl) h0
  obtain ⟨x1, rfl, rfl, rfl, m1⟩ := open_int Tryz.underlying3 (hval 1 3 v1 rfl rfl) h1
  obtain ⟨f0, f1, f2, B⟩ := ratioB
  obtain ⟨b2, s2, u2, rfl, rfl, rfl, m2, k2⟩ := open_bss B (hval 2 23 v2 rfl rfl) h2
  obtain ⟨l3, R3⟩ := open_ratios (hval 3 24 v3 rfl rfl) h3
  clear hA0
  simp only [List.append_nil] at hW'
  have walk := FnV.below (W := W) (R := fun r => r = .bool true) (newSpec_fn x0 x1 ⟨b2, s2, u2⟩ l3 (int_wf m0) (int_wf m1) R3 (table hL))
  refine walk.mono fun e W' ⟨v, he, hv, hg⟩ => ?_
  subst he hv
  exact ⟨_, rfl, post_true laidOut (by kernel_rfl) Tryz.underlying4 rfl hW' rfl (fun _ _ => ⟨rfl, rfl, rfl⟩) hg⟩

theorem laid_met (os : Os) : laidMet Tryz.prog Rows.ratiosNewSpecRow.laid ((laidWorld os).forCall (fun _ _ => 0) ⟨#[], #[.int .i64 0, .int .i64 0, .agg #[.bool false, .string ⟨#[]⟩, .string ⟨#[]⟩], .slice none 0 0], []⟩).memory :=
  laidMet_of_run' 8 (by kernel_rfl) (by kernel_rfl)
theorem reads (os : Os) {H : Type} (enc : TypeId × Value → H) : ∃ places, DataW.whole enc Tryz.prog ((laidWorld os).forCall (fun _ _ => 0) ⟨#[], #[.int .i64 0, .int .i64 0, .agg #[.bool false, .string ⟨#[]⟩, .string ⟨#[]⟩], .slice none 0 0], []⟩).memory Tryz.f3.params.toList Rows.ratiosNewSpecSpec.vars false (#[.int .i64 0, .int .i64 0, .agg #[.bool false, .string ⟨#[]⟩, .string ⟨#[]⟩], .slice none 0 0] : Array Value).toList 8 = some ([.lit (.int .i64 0), .lit (.int .i64 0), .agg [.lit (.bool false), .lit (.string []), .lit (.string [])], .nil], [], places) :=
  ⟨[], by kernel_rfl⟩

theorem lifted (os : Os) (started : os.Started) (H : Type) (enc : TypeId × Value → H) (F : Stop.Interp) :
    ReturnsInHanded {} Tryz.checked os 3 .any ((OpenSpec.ofChange Rows.ratiosNewSpecSpec).preRow enc Tryz.prog Tryz.f3 Rows.ratiosNewSpecRow.domain false Rows.ratiosNewSpecRow.laid) (((OpenSpec.ofChange Rows.ratiosNewSpecSpec).at F).post enc Tryz.prog Tryz.f3 false true false false) := by
  obtain ⟨places, hx⟩ := reads os enc
  refine returnsInHanded_of_row (C := Tryz.checked) (s := OpenSpec.ofChange Rows.ratiosNewSpecSpec) own started (by kernel_rfl) Tryz.func3
    (witness_row_at (enc := enc) (C := Tryz.checked) false (laidWorld os) #[.int .i64 0, .int .i64 0, .agg #[.bool false, .string ⟨#[]⟩, .string ⟨#[]⟩], .slice none 0 0] rfl (by kernel_rfl) (by kernel_rfl) (by kernel_rfl)
      (OpenSpec.preRow_of_cond 8 hx (by kernel_rfl) (fun k hk => by cases hk) (by kernel_rfl) (laid_met os))) ?_
  intro W base args ds gs before hval hW _ _ _ hL _ _
  exact contract H enc W base args ds gs before hval hW hL

theorem said : Rows.RatiosNewSpecSaid :=
  OpenClaim.holds_of_cond 3 Tryz.f3 rfl rfl rfl rfl rfl rfl rfl ⟨rfl, rfl, rfl, rfl, rfl⟩ rfl rfl rfl rfl rfl (by kernel_rfl) Tryz.func3 (by kernel_rfl)
    (of_decide_eq_true (by kernel_rfl)) (by unfold Func.isWrapper; first | (rw [if_pos (by decide +kernel)]; kernel_rfl) | (rw [if_neg (by decide +kernel)]; exact ⟨rfl, rfl⟩))
    (fun os started H enc _ F => by rw [OpenClaim.pre_eq_preRow]; exact lifted os started H enc F)

/-- No parameter wants a stand-in; the program's own looks are off. -/
theorem plain (f : FuncId) (fn : Func) (hf : Tryz.pinned.checked.prog.funcNamed "backflush/backflushlaw07.RatiosNewSpec" = some f) (hfn : Tryz.pinned.checked.prog.funcs[f]? = some fn) :
    true = Tryz.pinned.checked.prog.looks [] ∧ ∀ (j : Nat) t, fn.params[j]? = some t → Tryz.pinned.checked.prog.wantsStandIn t = false := by
  obtain rfl : f = 3 := Option.some.inj ((show Tryz.prog.funcNamed "backflush/backflushlaw07.RatiosNewSpec" = some 3 by kernel_rfl).symm.trans hf) |>.symm
  obtain rfl : fn = Tryz.f3 := (Option.some.inj (Tryz.func3.symm.trans hfn)).symm
  refine ⟨by kernel_rfl, fun j t ht => ?_⟩
  rw [Tryz.params3] at ht
  have hm := Array.mem_of_getElem? ht
  simp only [List.mem_toArray, List.mem_cons, List.not_mem_nil, or_false] at hm
  rcases hm with rfl | rfl | rfl | rfl
  · exact (show Tryz.prog.wantsStandIn 3 = false by kernel_rfl)
  · exact (show Tryz.prog.wantsStandIn 3 = false by kernel_rfl)
  · exact (show Tryz.prog.wantsStandIn 23 = false by kernel_rfl)
  · exact (show Tryz.prog.wantsStandIn 24 = false by kernel_rfl)

/-- THE CARD -/
theorem card : Rows.RatiosNewSpecCardSaid :=
  Claim7.holds_tied_plain_at .later [] _ _ _ _ said (fun _ h => by cases h) (by kernel_rfl) (fun _ h => by cases h) ratiosNewSpec_row_tie rfl ⟨rfl, rfl⟩ (by kernel_rfl) rfl plain (by kernel_rfl)
end Go.Proofs.YtccfjcmolfbjdaaGreatDoor.ratiosNewSpec
