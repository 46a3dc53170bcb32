/- Texts of this seat, joined: The reference of package ratios. The statements about layer 7: their helpers. The statements about layer 7: the chapter's examples. What the rows of this seat have in common: the table of package math/bits at the call's beginning; a world for the witness. Arguments that are structs of a bool and two strings. What the rows of the ratios have in common. -/
import Derived.Test.YtccfjcmolfbjdaaDoorJoinD
import Derived.Test.YtccfjcmolfbjdaaDoorCards
import Derived.Test.YtccfjcmolfbjdaaDoorTie
import Derived.WalkKit
import Derived.ProofKit
import Derived.OpenShut
import Derived.Deep.DeepHandedRow
import Derived.Lib.LaidTab
import Derived.WideShapes
import Derived.ChangeArms
import Derived.RowKit
set_option linter.unusedVariables false
set_option linter.unusedSimpArgs false
namespace Go.Proofs.YtccfjcmolfbjdaaDoor
open Go Go.Fw Go.NatM Go.RatM
set_option maxRecDepth 100000
set_option maxHeartbeats 16000000

theorem kp {P : Program} {f : FuncId} {args : Array Value} {h : Array Obj} {X : Value} (H : FnV P f args h fun r h' => r = X ∧ h' = h) : FnV P f args h fun r h' => r = X ∧ Keeps h.size h h' :=
  H.mono fun _ _ ⟨e, hk⟩ => ⟨e, hk ▸ Keeps.refl _ _⟩

theorem okR_parts {s : Bool} {n d : ByteArray} (e1 : chk [n] = 0) (e2 : chk [d] = 0) : (natv d = 0 ↔ d = ⟨#[]⟩) ∧ (natv n = 0 ↔ n = ⟨#[]⟩) ∧ gcdS n d = (enc (Nat.gcd (natv n) (natv d)), 0) := by
  have c1 := chk_zero e1 (s := n) (by simp)
  have c2 := chk_zero e2 (s := d) (by simp)
  have z : ∀ {x : ByteArray}, Canon x → (natv x = 0 ↔ x = ⟨#[]⟩) := fun {x} hx => ⟨fun e => Classical.byContradiction fun hne => natv_ne hx (fun e => hne (size_mt.2 e)) e, fun e => by rw [e]; rfl⟩
  refine ⟨z c2.1, z c1.1, ?_⟩
  have := gcd_e (A := natv n) (C := natv d) (by rw [nb_natv c1.1]; exact c1.2) (by rw [nb_natv c2.1]; exact c2.2)
  rw [enc_natv c1.1, enc_natv c2.1] at this
  exact this
theorem enc_one_iff {k : Nat} : (enc k = ⟨#[1]⟩) ↔ k = 1 := by rw [← enc_one, enc_eq]

theorem rqCheck_fn {h : Array Obj} (a : Rt) : FnV Tryd.prog 30 #[a.v] h fun r h' => r = .int .i64 (chkR a) ∧ Keeps h.size h h' := by
  obtain ⟨s, n, d⟩ := a
  obtain ⟨r, hr⟩ : ∃ r, r = chkR ⟨s, n, d⟩ := ⟨_, rfl⟩
  rw [← hr]
  unfold chkR at hr
  refine Fn.ofS (args := [.agg #[.bool s, .string n, .string d]]) Tryd.func30 (by kernel_rfl) rfl Tryd.ntmps30 rfl fun w0 cs => ?_
  conv => whnf
  refine goS_run tab 1000 _ _ _ _ ?_
  conv => whnf
  repeat (first | (refine And.intro (by omega) ?_; (try intro _); conv => whnf) | (refine And.intro ?_ (by omega); (try intro _); conv => whnf) | (refine ⟨_, RemV.nonneg (by omega) (by omega), ?_⟩; conv => whnf))
  refine RunsS.callV (fun Ez Hz Az Sz K => kp (rCheck_fn n)) ?_
  conv => whnf
  try refine goS_run tab 1000 _ _ _ _ ?_
  conv => whnf
  repeat (first | (refine And.intro (by omega) ?_; (try intro _); conv => whnf) | (refine And.intro ?_ (by omega); (try intro _); conv => whnf) | (refine ⟨_, RemV.nonneg (by omega) (by omega), ?_⟩; conv => whnf))
  refine ⟨fun e1 => ?_, fun e1 => ?_⟩ <;> conv => whnf
  rotate_left
  · conv => whnf
    repeat (first | (refine And.intro (by omega) ?_; (try intro _); conv => whnf) | (refine And.intro ?_ (by omega); (try intro _); conv => whnf) | (refine ⟨_, RemV.nonneg (by omega) (by omega), ?_⟩; conv => whnf))
    rw [if_neg (fun o => e1 o.1)] at hr
    subst hr
    refine RunsS.retU (UnwS.ret tab Tryd.func30 rfl fun Ez Hz Az Sz K => ⟨_, rfl, rfl, K.keeps⟩)
  · conv => whnf
    repeat (first | (refine And.intro (by omega) ?_; (try intro _); conv => whnf) | (refine And.intro ?_ (by omega); (try intro _); conv => whnf) | (refine ⟨_, RemV.nonneg (by omega) (by omega), ?_⟩; conv => whnf))
    refine RunsS.callV (fun Ez Hz Az Sz K => kp (rCheck_fn d)) ?_
    conv => whnf
    try refine goS_run tab 1000 _ _ _ _ ?_
    conv => whnf
    repeat (first | (refine And.intro (by omega) ?_; (try intro _); conv => whnf) | (refine And.intro ?_ (by omega); (try intro _); conv => whnf) | (refine ⟨_, RemV.nonneg (by omega) (by omega), ?_⟩; conv => whnf))
    refine ⟨fun e2 => ?_, fun e2 => ?_⟩ <;> conv => whnf
    rotate_left
    · conv => whnf
      repeat (first | (refine And.intro (by omega) ?_; (try intro _); conv => whnf) | (refine And.intro ?_ (by omega); (try intro _); conv => whnf) | (refine ⟨_, RemV.nonneg (by omega) (by omega), ?_⟩; conv => whnf))
      rw [if_neg (fun o => e2 o.2.1)] at hr
      subst hr
      refine RunsS.retU (UnwS.ret tab Tryd.func30 rfl fun Ez Hz Az Sz K => ⟨_, rfl, rfl, K.keeps⟩)
    · conv => whnf
      repeat (first | (refine And.intro (by omega) ?_; (try intro _); conv => whnf) | (refine And.intro ?_ (by omega); (try intro _); conv => whnf) | (refine ⟨_, RemV.nonneg (by omega) (by omega), ?_⟩; conv => whnf))
      obtain ⟨zd, zn, eg⟩ := okR_parts (s := s) e1 e2
      refine ⟨fun e3 => ?_, fun e3 => ?_⟩ <;> conv => whnf
      · conv => whnf
        repeat (first | (refine And.intro (by omega) ?_; (try intro _); conv => whnf) | (refine And.intro ?_ (by omega); (try intro _); conv => whnf) | (refine ⟨_, RemV.nonneg (by omega) (by omega), ?_⟩; conv => whnf))
        rw [if_neg (fun o => o.2.2.1 (zd.2 e3))] at hr
        subst hr
        refine RunsS.retU (UnwS.ret tab Tryd.func30 rfl fun Ez Hz Az Sz K => ⟨_, rfl, rfl, K.keeps⟩)
      · cases s
        · conv => whnf
          repeat (first | (refine And.intro (by omega) ?_; (try intro _); conv => whnf) | (refine And.intro ?_ (by omega); (try intro _); conv => whnf) | (refine ⟨_, RemV.nonneg (by omega) (by omega), ?_⟩; conv => whnf))
          refine RunsS.callV (fun Ez Hz Az Sz K => rGcd_fn n d) ?_
          conv => whnf
          rw [eg]
          try dsimp only
          try refine goS_run tab 1000 _ _ _ _ ?_
          conv => whnf
          repeat (first | (refine And.intro (by omega) ?_; (try intro _); conv => whnf) | (refine And.intro ?_ (by omega); (try intro _); conv => whnf) | (refine ⟨_, RemV.nonneg (by omega) (by omega), ?_⟩; conv => whnf))
          refine ⟨fun e4 => ?_, fun e4 => ?_⟩ <;> conv => whnf
          rotate_left
          · conv => whnf
            repeat (first | (refine And.intro (by omega) ?_; (try intro _); conv => whnf) | (refine And.intro ?_ (by omega); (try intro _); conv => whnf) | (refine ⟨_, RemV.nonneg (by omega) (by omega), ?_⟩; conv => whnf))
            rw [if_neg (fun o => e4 (enc_one_iff.2 o.2.2.2.1))] at hr
            subst hr
            refine RunsS.retU (UnwS.ret tab Tryd.func30 rfl fun Ez Hz Az Sz K => ⟨_, rfl, rfl, K.keeps⟩)
          · conv => whnf
            repeat (first | (refine And.intro (by omega) ?_; (try intro _); conv => whnf) | (refine And.intro ?_ (by omega); (try intro _); conv => whnf) | (refine ⟨_, RemV.nonneg (by omega) (by omega), ?_⟩; conv => whnf))
            rw [if_pos ⟨e1, e2, fun e => e3 (zd.1 e), enc_one_iff.1 e4, fun o => by cases o.1⟩] at hr
            subst hr
            refine RunsS.retU (UnwS.ret tab Tryd.func30 rfl fun Ez Hz Az Sz K => ⟨_, rfl, rfl, K.keeps⟩)
        · conv => whnf
          repeat (first | (refine And.intro (by omega) ?_; (try intro _); conv => whnf) | (refine And.intro ?_ (by omega); (try intro _); conv => whnf) | (refine ⟨_, RemV.nonneg (by omega) (by omega), ?_⟩; conv => whnf))
          refine ⟨fun e5 => ?_, fun e5 => ?_⟩ <;> conv => whnf
          · conv => whnf
            repeat (first | (refine And.intro (by omega) ?_; (try intro _); conv => whnf) | (refine And.intro ?_ (by omega); (try intro _); conv => whnf) | (refine ⟨_, RemV.nonneg (by omega) (by omega), ?_⟩; conv => whnf))
            rw [if_neg (fun o => o.2.2.2.2 ⟨rfl, zn.2 e5⟩)] at hr
            subst hr
            refine RunsS.retU (UnwS.ret tab Tryd.func30 rfl fun Ez Hz Az Sz K => ⟨_, rfl, rfl, K.keeps⟩)
          · conv => whnf
            repeat (first | (refine And.intro (by omega) ?_; (try intro _); conv => whnf) | (refine And.intro ?_ (by omega); (try intro _); conv => whnf) | (refine ⟨_, RemV.nonneg (by omega) (by omega), ?_⟩; conv => whnf))
            refine RunsS.callV (fun Ez Hz Az Sz K => rGcd_fn n d) ?_
            conv => whnf
            rw [eg]
            try dsimp only
            try refine goS_run tab 1000 _ _ _ _ ?_
            conv => whnf
            repeat (first | (refine And.intro (by omega) ?_; (try intro _); conv => whnf) | (refine And.intro ?_ (by omega); (try intro _); conv => whnf) | (refine ⟨_, RemV.nonneg (by omega) (by omega), ?_⟩; conv => whnf))
            refine ⟨fun e4 => ?_, fun e4 => ?_⟩ <;> conv => whnf
            rotate_left
            · conv => whnf
              repeat (first | (refine And.intro (by omega) ?_; (try intro _); conv => whnf) | (refine And.intro ?_ (by omega); (try intro _); conv => whnf) | (refine ⟨_, RemV.nonneg (by omega) (by omega), ?_⟩; conv => whnf))
              rw [if_neg (fun o => e4 (enc_one_iff.2 o.2.2.2.1))] at hr
              subst hr
              refine RunsS.retU (UnwS.ret tab Tryd.func30 rfl fun Ez Hz Az Sz K => ⟨_, rfl, rfl, K.keeps⟩)
            · conv => whnf
              repeat (first | (refine And.intro (by omega) ?_; (try intro _); conv => whnf) | (refine And.intro ?_ (by omega); (try intro _); conv => whnf) | (refine ⟨_, RemV.nonneg (by omega) (by omega), ?_⟩; conv => whnf))
              rw [if_pos ⟨e1, e2, fun e => e3 (zd.1 e), enc_one_iff.1 e4, fun o => e5 (zn.1 o.2)⟩] at hr
              subst hr
              refine RunsS.retU (UnwS.ret tab Tryd.func30 rfl fun Ez Hz Az Sz K => ⟨_, rfl, rfl, K.keeps⟩)

theorem rqlowest_fn {h : Array Obj} (s : Bool) {n d : Nat} (hd : d ≠ 0) (fn : nb n ≤ 256) (fd : nb d ≤ 256) : FnV Tryd.prog 33 #[.bool s, .string (enc n), .string (enc d)] h fun r h' => r = (encQ (low s n d)).v ∧ Keeps h.size h h' := by
  refine Fn.ofS (args := [.bool s, .string (enc n), .string (enc d)]) Tryd.func33 (by kernel_rfl) rfl Tryd.ntmps33 rfl fun w0 cs => ?_
  conv => whnf
  refine goS_run tab 1000 _ _ _ _ ?_
  conv => whnf
  repeat (first | (refine And.intro (by omega) ?_; (try intro _); conv => whnf) | (refine And.intro ?_ (by omega); (try intro _); conv => whnf) | (refine ⟨_, RemV.nonneg (by omega) (by omega), ?_⟩; conv => whnf))
  have hg : 0 < Nat.gcd n d := Nat.gcd_pos_of_pos_right _ (Nat.pos_of_ne_zero hd)
  have fg : nb (Nat.gcd n d) ≤ 256 := Nat.le_trans (nb_mono (Nat.gcd_le_right _ (Nat.pos_of_ne_zero hd))) fd
  refine ⟨fun e1 => ?_, fun e1 => ?_⟩ <;> conv => whnf
  · have e1 : n = 0 := enc_mt.1 e1
    subst e1
    conv => whnf
    repeat (first | (refine And.intro (by omega) ?_; (try intro _); conv => whnf) | (refine And.intro ?_ (by omega); (try intro _); conv => whnf) | (refine ⟨_, RemV.nonneg (by omega) (by omega), ?_⟩; conv => whnf))
    refine RunsS.retU (UnwS.ret tab Tryd.func33 rfl fun Ez Hz Az Sz K => ⟨_, rfl, ?_, K.keeps⟩)
    have : low s 0 d = ⟨false, 0, 1⟩ := by simp [low, Nat.div_self (Nat.pos_of_ne_zero hd)]
    rw [this]
    show Value.agg #[.bool false, .string ⟨#[]⟩, .string ⟨#[1]⟩] = (encQ ⟨false, 0, 1⟩).v
    rw [← enc_one]; rfl
  · have e1 : n ≠ 0 := fun e => e1 (by rw [e]; rfl)
    conv => whnf
    repeat (first | (refine And.intro (by omega) ?_; (try intro _); conv => whnf) | (refine And.intro ?_ (by omega); (try intro _); conv => whnf) | (refine ⟨_, RemV.nonneg (by omega) (by omega), ?_⟩; conv => whnf))
    refine RunsS.callV (fun Ez Hz Az Sz K => rGcd_fn (enc n) (enc d)) ?_
    conv => whnf
    rw [gcd_e fn fd]
    try dsimp only
    try refine goS_run tab 1000 _ _ _ _ ?_
    conv => whnf
    repeat (first | (refine And.intro (by omega) ?_; (try intro _); conv => whnf) | (refine And.intro ?_ (by omega); (try intro _); conv => whnf) | (refine ⟨_, RemV.nonneg (by omega) (by omega), ?_⟩; conv => whnf))
    refine RunsS.callV (fun Ez Hz Az Sz K => rDiv_fn (enc n) (enc (Nat.gcd n d))) ?_
    conv => whnf
    rw [div_e fn fg, if_neg (Nat.ne_of_gt hg)]
    try dsimp only
    try refine goS_run tab 1000 _ _ _ _ ?_
    conv => whnf
    repeat (first | (refine And.intro (by omega) ?_; (try intro _); conv => whnf) | (refine And.intro ?_ (by omega); (try intro _); conv => whnf) | (refine ⟨_, RemV.nonneg (by omega) (by omega), ?_⟩; conv => whnf))
    refine RunsS.callV (fun Ez Hz Az Sz K => rDiv_fn (enc d) (enc (Nat.gcd n d))) ?_
    conv => whnf
    rw [div_e fd fg, if_neg (Nat.ne_of_gt hg)]
    try dsimp only
    try refine goS_run tab 1000 _ _ _ _ ?_
    conv => whnf
    repeat (first | (refine And.intro (by omega) ?_; (try intro _); conv => whnf) | (refine And.intro ?_ (by omega); (try intro _); conv => whnf) | (refine ⟨_, RemV.nonneg (by omega) (by omega), ?_⟩; conv => whnf))
    refine RunsS.retU (UnwS.ret tab Tryd.func33 rfl fun Ez Hz Az Sz K => ⟨_, rfl, ?_, K.keeps⟩)
    show Value.agg #[.bool s, .string (enc (n / Nat.gcd n d)), .string (enc (d / Nat.gcd n d))] = (encQ ⟨s && !Nat.beq n 0, n / Nat.gcd n d, d / Nat.gcd n d⟩).v
    rw [beq0 e1, Bool.not_false, Bool.and_true]; rfl

theorem rqAdd_fn {h : Array Obj} (a b : Rt) : FnV Tryd.prog 12 #[a.v, b.v] h fun r h' => r = rev (addR a b) ∧ Keeps h.size h h' := by
  obtain ⟨r, hr⟩ : ∃ r, r = addR a b := ⟨_, rfl⟩
  rw [← hr]
  obtain ⟨s, n, d⟩ := a
  obtain ⟨t, m, e⟩ := b
  unfold addR opR at hr
  refine Fn.ofS (args := [.agg #[.bool s, .string n, .string d], .agg #[.bool t, .string m, .string e]]) Tryd.func12 (by kernel_rfl) rfl Tryd.ntmps12 rfl fun w0 cs => ?_
  conv => whnf
  refine goS_run tab 1000 _ _ _ _ ?_
  conv => whnf
  repeat (first | (refine And.intro (by omega) ?_; (try intro _); conv => whnf) | (refine And.intro ?_ (by omega); (try intro _); conv => whnf) | (refine ⟨_, RemV.nonneg (by omega) (by omega), ?_⟩; conv => whnf))
  refine RunsS.callV (fun Ez Hz Az Sz K => rqCheck_fn ⟨s, n, d⟩) ?_
  conv => whnf
  try refine goS_run tab 1000 _ _ _ _ ?_
  conv => whnf
  repeat (first | (refine And.intro (by omega) ?_; (try intro _); conv => whnf) | (refine And.intro ?_ (by omega); (try intro _); conv => whnf) | (refine ⟨_, RemV.nonneg (by omega) (by omega), ?_⟩; conv => whnf))
  refine ⟨fun o1 => ?_, fun o1 => ?_⟩ <;> conv => whnf
  rotate_left
  · conv => whnf
    repeat (first | (refine And.intro (by omega) ?_; (try intro _); conv => whnf) | (refine And.intro ?_ (by omega); (try intro _); conv => whnf) | (refine ⟨_, RemV.nonneg (by omega) (by omega), ?_⟩; conv => whnf))
    rw [if_neg (fun o => o1 (chkR_zero.2 o.1))] at hr
    subst hr
    refine RunsS.retU (UnwS.ret tab Tryd.func12 rfl fun Ez Hz Az Sz K => ⟨_, rfl, rfl, K.keeps⟩)
  · conv => whnf
    repeat (first | (refine And.intro (by omega) ?_; (try intro _); conv => whnf) | (refine And.intro ?_ (by omega); (try intro _); conv => whnf) | (refine ⟨_, RemV.nonneg (by omega) (by omega), ?_⟩; conv => whnf))
    refine RunsS.callV (fun Ez Hz Az Sz K => rqCheck_fn ⟨t, m, e⟩) ?_
    conv => whnf
    try refine goS_run tab 1000 _ _ _ _ ?_
    conv => whnf
    repeat (first | (refine And.intro (by omega) ?_; (try intro _); conv => whnf) | (refine And.intro ?_ (by omega); (try intro _); conv => whnf) | (refine ⟨_, RemV.nonneg (by omega) (by omega), ?_⟩; conv => whnf))
    refine ⟨fun o2 => ?_, fun o2 => ?_⟩ <;> conv => whnf
    rotate_left
    · conv => whnf
      repeat (first | (refine And.intro (by omega) ?_; (try intro _); conv => whnf) | (refine And.intro ?_ (by omega); (try intro _); conv => whnf) | (refine ⟨_, RemV.nonneg (by omega) (by omega), ?_⟩; conv => whnf))
      rw [if_neg (fun o => o2 (chkR_zero.2 o.2))] at hr
      subst hr
      refine RunsS.retU (UnwS.ret tab Tryd.func12 rfl fun Ez Hz Az Sz K => ⟨_, rfl, rfl, K.keeps⟩)
    · rw [if_pos ⟨chkR_zero.1 o1, chkR_zero.1 o2⟩] at hr
      obtain ⟨⟨s, N, D⟩, ea, oka, la⟩ := okR_of (chkR_zero.1 o1)
      obtain ⟨⟨t, M, E⟩, eb, okb, lb⟩ := okR_of (chkR_zero.1 o2)
      rw [ea, eb, dec_enc, dec_enc] at hr
      cases ea
      cases eb
      unfold addL at hr
      dsimp only at hr
      have ln : nb N ≤ 256 := la.1
      have ld : nb D ≤ 256 := la.2
      have lm : nb M ≤ 256 := lb.1
      have le : nb E ≤ 256 := lb.2
      have hde : D * E ≠ 0 := Nat.mul_ne_zero oka.1 okb.1
      by_cases f1 : fits (N * E)
      rotate_left
      · by_cases f2 : fits (M * D) <;> by_cases f3 : fits (D * E)
        · conv => whnf
          repeat (first | (refine And.intro (by omega) ?_; (try intro _); conv => whnf) | (refine And.intro ?_ (by omega); (try intro _); conv => whnf) | (refine ⟨_, RemV.nonneg (by omega) (by omega), ?_⟩; conv => whnf))
          refine RunsS.callV (fun Ez Hz Az Sz K => rMul_fn (enc N) (enc E)) ?_
          conv => whnf
          rw [mul_e ln le, short_big f1]
          try dsimp only
          try refine goS_run tab 1000 _ _ _ _ ?_
          conv => whnf
          repeat (first | (refine And.intro (by omega) ?_; (try intro _); conv => whnf) | (refine And.intro ?_ (by omega); (try intro _); conv => whnf) | (refine ⟨_, RemV.nonneg (by omega) (by omega), ?_⟩; conv => whnf))
          refine RunsS.callV (fun Ez Hz Az Sz K => rMul_fn (enc M) (enc D)) ?_
          conv => whnf
          rw [mul_e lm ld, short_e f2]
          try dsimp only
          try refine goS_run tab 1000 _ _ _ _ ?_
          conv => whnf
          repeat (first | (refine And.intro (by omega) ?_; (try intro _); conv => whnf) | (refine And.intro ?_ (by omega); (try intro _); conv => whnf) | (refine ⟨_, RemV.nonneg (by omega) (by omega), ?_⟩; conv => whnf))
          refine RunsS.callV (fun Ez Hz Az Sz K => rMul_fn (enc D) (enc E)) ?_
          conv => whnf
          rw [mul_e ld le, short_e f3]
          try dsimp only
          try refine goS_run tab 1000 _ _ _ _ ?_
          conv => whnf
          repeat (first | (refine And.intro (by omega) ?_; (try intro _); conv => whnf) | (refine And.intro ?_ (by omega); (try intro _); conv => whnf) | (refine ⟨_, RemV.nonneg (by omega) (by omega), ?_⟩; conv => whnf))
          rw [if_neg (fun o => f1 o.1)] at hr
          subst hr
          refine RunsS.retU (UnwS.ret tab Tryd.func12 rfl fun Ez Hz Az Sz K => ⟨_, rfl, rfl, K.keeps⟩)
        · conv => whnf
          repeat (first | (refine And.intro (by omega) ?_; (try intro _); conv => whnf) | (refine And.intro ?_ (by omega); (try intro _); conv => whnf) | (refine ⟨_, RemV.nonneg (by omega) (by omega), ?_⟩; conv => whnf))
          refine RunsS.callV (fun Ez Hz Az Sz K => rMul_fn (enc N) (enc E)) ?_
          conv => whnf
          rw [mul_e ln le, short_big f1]
          try dsimp only
          try refine goS_run tab 1000 _ _ _ _ ?_
          conv => whnf
          repeat (first | (refine And.intro (by omega) ?_; (try intro _); conv => whnf) | (refine And.intro ?_ (by omega); (try intro _); conv => whnf) | (refine ⟨_, RemV.nonneg (by omega) (by omega), ?_⟩; conv => whnf))
          refine RunsS.callV (fun Ez Hz Az Sz K => rMul_fn (enc M) (enc D)) ?_
          conv => whnf
          rw [mul_e lm ld, short_e f2]
          try dsimp only
          try refine goS_run tab 1000 _ _ _ _ ?_
          conv => whnf
          repeat (first | (refine And.intro (by omega) ?_; (try intro _); conv => whnf) | (refine And.intro ?_ (by omega); (try intro _); conv => whnf) | (refine ⟨_, RemV.nonneg (by omega) (by omega), ?_⟩; conv => whnf))
          refine RunsS.callV (fun Ez Hz Az Sz K => rMul_fn (enc D) (enc E)) ?_
          conv => whnf
          rw [mul_e ld le, short_big f3]
          try dsimp only
          try refine goS_run tab 1000 _ _ _ _ ?_
          conv => whnf
          repeat (first | (refine And.intro (by omega) ?_; (try intro _); conv => whnf) | (refine And.intro ?_ (by omega); (try intro _); conv => whnf) | (refine ⟨_, RemV.nonneg (by omega) (by omega), ?_⟩; conv => whnf))
          rw [if_neg (fun o => f1 o.1)] at hr
          subst hr
          refine RunsS.retU (UnwS.ret tab Tryd.func12 rfl fun Ez Hz Az Sz K => ⟨_, rfl, rfl, K.keeps⟩)
        · conv => whnf
          repeat (first | (refine And.intro (by omega) ?_; (try intro _); conv => whnf) | (refine And.intro ?_ (by omega); (try intro _); conv => whnf) | (refine ⟨_, RemV.nonneg (by omega) (by omega), ?_⟩; conv => whnf))
          refine RunsS.callV (fun Ez Hz Az Sz K => rMul_fn (enc N) (enc E)) ?_
          conv => whnf
          rw [mul_e ln le, short_big f1]
          try dsimp only
          try refine goS_run tab 1000 _ _ _ _ ?_
          conv => whnf
          repeat (first | (refine And.intro (by omega) ?_; (try intro _); conv => whnf) | (refine And.intro ?_ (by omega); (try intro _); conv => whnf) | (refine ⟨_, RemV.nonneg (by omega) (by omega), ?_⟩; conv => whnf))
          refine RunsS.callV (fun Ez Hz Az Sz K => rMul_fn (enc M) (enc D)) ?_
          conv => whnf
          rw [mul_e lm ld, short_big f2]
          try dsimp only
          try refine goS_run tab 1000 _ _ _ _ ?_
          conv => whnf
          repeat (first | (refine And.intro (by omega) ?_; (try intro _); conv => whnf) | (refine And.intro ?_ (by omega); (try intro _); conv => whnf) | (refine ⟨_, RemV.nonneg (by omega) (by omega), ?_⟩; conv => whnf))
          refine RunsS.callV (fun Ez Hz Az Sz K => rMul_fn (enc D) (enc E)) ?_
          conv => whnf
          rw [mul_e ld le, short_e f3]
          try dsimp only
          try refine goS_run tab 1000 _ _ _ _ ?_
          conv => whnf
          repeat (first | (refine And.intro (by omega) ?_; (try intro _); conv => whnf) | (refine And.intro ?_ (by omega); (try intro _); conv => whnf) | (refine ⟨_, RemV.nonneg (by omega) (by omega), ?_⟩; conv => whnf))
          rw [if_neg (fun o => f1 o.1)] at hr
          subst hr
          refine RunsS.retU (UnwS.ret tab Tryd.func12 rfl fun Ez Hz Az Sz K => ⟨_, rfl, rfl, K.keeps⟩)
        · conv => whnf
          repeat (first | (refine And.intro (by omega) ?_; (try intro _); conv => whnf) | (refine And.intro ?_ (by omega); (try intro _); conv => whnf) | (refine ⟨_, RemV.nonneg (by omega) (by omega), ?_⟩; conv => whnf))
          refine RunsS.callV (fun Ez Hz Az Sz K => rMul_fn (enc N) (enc E)) ?_
          conv => whnf
          rw [mul_e ln le, short_big f1]
          try dsimp only
          try refine goS_run tab 1000 _ _ _ _ ?_
          conv => whnf
          repeat (first | (refine And.intro (by omega) ?_; (try intro _); conv => whnf) | (refine And.intro ?_ (by omega); (try intro _); conv => whnf) | (refine ⟨_, RemV.nonneg (by omega) (by omega), ?_⟩; conv => whnf))
          refine RunsS.callV (fun Ez Hz Az Sz K => rMul_fn (enc M) (enc D)) ?_
          conv => whnf
          rw [mul_e lm ld, short_big f2]
          try dsimp only
          try refine goS_run tab 1000 _ _ _ _ ?_
          conv => whnf
          repeat (first | (refine And.intro (by omega) ?_; (try intro _); conv => whnf) | (refine And.intro ?_ (by omega); (try intro _); conv => whnf) | (refine ⟨_, RemV.nonneg (by omega) (by omega), ?_⟩; conv => whnf))
          refine RunsS.callV (fun Ez Hz Az Sz K => rMul_fn (enc D) (enc E)) ?_
          conv => whnf
          rw [mul_e ld le, short_big f3]
          try dsimp only
          try refine goS_run tab 1000 _ _ _ _ ?_
          conv => whnf
          repeat (first | (refine And.intro (by omega) ?_; (try intro _); conv => whnf) | (refine And.intro ?_ (by omega); (try intro _); conv => whnf) | (refine ⟨_, RemV.nonneg (by omega) (by omega), ?_⟩; conv => whnf))
          rw [if_neg (fun o => f1 o.1)] at hr
          subst hr
          refine RunsS.retU (UnwS.ret tab Tryd.func12 rfl fun Ez Hz Az Sz K => ⟨_, rfl, rfl, K.keeps⟩)
      · by_cases f2 : fits (M * D)
        rotate_left
        · by_cases f3 : fits (D * E)
          · conv => whnf
            repeat (first | (refine And.intro (by omega) ?_; (try intro _); conv => whnf) | (refine And.intro ?_ (by omega); (try intro _); conv => whnf) | (refine ⟨_, RemV.nonneg (by omega) (by omega), ?_⟩; conv => whnf))
            refine RunsS.callV (fun Ez Hz Az Sz K => rMul_fn (enc N) (enc E)) ?_
            conv => whnf
            rw [mul_e ln le, short_e f1]
            try dsimp only
            try refine goS_run tab 1000 _ _ _ _ ?_
            conv => whnf
            repeat (first | (refine And.intro (by omega) ?_; (try intro _); conv => whnf) | (refine And.intro ?_ (by omega); (try intro _); conv => whnf) | (refine ⟨_, RemV.nonneg (by omega) (by omega), ?_⟩; conv => whnf))
            refine RunsS.callV (fun Ez Hz Az Sz K => rMul_fn (enc M) (enc D)) ?_
            conv => whnf
            rw [mul_e lm ld, short_big f2]
            try dsimp only
            try refine goS_run tab 1000 _ _ _ _ ?_
            conv => whnf
            repeat (first | (refine And.intro (by omega) ?_; (try intro _); conv => whnf) | (refine And.intro ?_ (by omega); (try intro _); conv => whnf) | (refine ⟨_, RemV.nonneg (by omega) (by omega), ?_⟩; conv => whnf))
            refine RunsS.callV (fun Ez Hz Az Sz K => rMul_fn (enc D) (enc E)) ?_
            conv => whnf
            rw [mul_e ld le, short_e f3]
            try dsimp only
            try refine goS_run tab 1000 _ _ _ _ ?_
            conv => whnf
            repeat (first | (refine And.intro (by omega) ?_; (try intro _); conv => whnf) | (refine And.intro ?_ (by omega); (try intro _); conv => whnf) | (refine ⟨_, RemV.nonneg (by omega) (by omega), ?_⟩; conv => whnf))
            rw [if_neg (fun o => f2 o.2.1)] at hr
            subst hr
            refine RunsS.retU (UnwS.ret tab Tryd.func12 rfl fun Ez Hz Az Sz K => ⟨_, rfl, rfl, K.keeps⟩)
          · conv => whnf
            repeat (first | (refine And.intro (by omega) ?_; (try intro _); conv => whnf) | (refine And.intro ?_ (by omega); (try intro _); conv => whnf) | (refine ⟨_, RemV.nonneg (by omega) (by omega), ?_⟩; conv => whnf))
            refine RunsS.callV (fun Ez Hz Az Sz K => rMul_fn (enc N) (enc E)) ?_
            conv => whnf
            rw [mul_e ln le, short_e f1]
            try dsimp only
            try refine goS_run tab 1000 _ _ _ _ ?_
            conv => whnf
            repeat (first | (refine And.intro (by omega) ?_; (try intro _); conv => whnf) | (refine And.intro ?_ (by omega); (try intro _); conv => whnf) | (refine ⟨_, RemV.nonneg (by omega) (by omega), ?_⟩; conv => whnf))
            refine RunsS.callV (fun Ez Hz Az Sz K => rMul_fn (enc M) (enc D)) ?_
            conv => whnf
            rw [mul_e lm ld, short_big f2]
            try dsimp only
            try refine goS_run tab 1000 _ _ _ _ ?_
            conv => whnf
            repeat (first | (refine And.intro (by omega) ?_; (try intro _); conv => whnf) | (refine And.intro ?_ (by omega); (try intro _); conv => whnf) | (refine ⟨_, RemV.nonneg (by omega) (by omega), ?_⟩; conv => whnf))
            refine RunsS.callV (fun Ez Hz Az Sz K => rMul_fn (enc D) (enc E)) ?_
            conv => whnf
            rw [mul_e ld le, short_big f3]
            try dsimp only
            try refine goS_run tab 1000 _ _ _ _ ?_
            conv => whnf
            repeat (first | (refine And.intro (by omega) ?_; (try intro _); conv => whnf) | (refine And.intro ?_ (by omega); (try intro _); conv => whnf) | (refine ⟨_, RemV.nonneg (by omega) (by omega), ?_⟩; conv => whnf))
            rw [if_neg (fun o => f2 o.2.1)] at hr
            subst hr
            refine RunsS.retU (UnwS.ret tab Tryd.func12 rfl fun Ez Hz Az Sz K => ⟨_, rfl, rfl, K.keeps⟩)
        · by_cases f3 : fits (D * E)
          rotate_left
          · conv => whnf
            repeat (first | (refine And.intro (by omega) ?_; (try intro _); conv => whnf) | (refine And.intro ?_ (by omega); (try intro _); conv => whnf) | (refine ⟨_, RemV.nonneg (by omega) (by omega), ?_⟩; conv => whnf))
            refine RunsS.callV (fun Ez Hz Az Sz K => rMul_fn (enc N) (enc E)) ?_
            conv => whnf
            rw [mul_e ln le, short_e f1]
            try dsimp only
            try refine goS_run tab 1000 _ _ _ _ ?_
            conv => whnf
            repeat (first | (refine And.intro (by omega) ?_; (try intro _); conv => whnf) | (refine And.intro ?_ (by omega); (try intro _); conv => whnf) | (refine ⟨_, RemV.nonneg (by omega) (by omega), ?_⟩; conv => whnf))
            refine RunsS.callV (fun Ez Hz Az Sz K => rMul_fn (enc M) (enc D)) ?_
            conv => whnf
            rw [mul_e lm ld, short_e f2]
            try dsimp only
            try refine goS_run tab 1000 _ _ _ _ ?_
            conv => whnf
            repeat (first | (refine And.intro (by omega) ?_; (try intro _); conv => whnf) | (refine And.intro ?_ (by omega); (try intro _); conv => whnf) | (refine ⟨_, RemV.nonneg (by omega) (by omega), ?_⟩; conv => whnf))
            refine RunsS.callV (fun Ez Hz Az Sz K => rMul_fn (enc D) (enc E)) ?_
            conv => whnf
            rw [mul_e ld le, short_big f3]
            try dsimp only
            try refine goS_run tab 1000 _ _ _ _ ?_
            conv => whnf
            repeat (first | (refine And.intro (by omega) ?_; (try intro _); conv => whnf) | (refine And.intro ?_ (by omega); (try intro _); conv => whnf) | (refine ⟨_, RemV.nonneg (by omega) (by omega), ?_⟩; conv => whnf))
            rw [if_neg (fun o => f3 o.2.2)] at hr
            subst hr
            refine RunsS.retU (UnwS.ret tab Tryd.func12 rfl fun Ez Hz Az Sz K => ⟨_, rfl, rfl, K.keeps⟩)
          · rw [if_pos ⟨f1, f2, f3⟩] at hr
            conv => whnf
            repeat (first | (refine And.intro (by omega) ?_; (try intro _); conv => whnf) | (refine And.intro ?_ (by omega); (try intro _); conv => whnf) | (refine ⟨_, RemV.nonneg (by omega) (by omega), ?_⟩; conv => whnf))
            refine RunsS.callV (fun Ez Hz Az Sz K => rMul_fn (enc N) (enc E)) ?_
            conv => whnf
            rw [mul_e ln le, short_e f1]
            try dsimp only
            try refine goS_run tab 1000 _ _ _ _ ?_
            conv => whnf
            repeat (first | (refine And.intro (by omega) ?_; (try intro _); conv => whnf) | (refine And.intro ?_ (by omega); (try intro _); conv => whnf) | (refine ⟨_, RemV.nonneg (by omega) (by omega), ?_⟩; conv => whnf))
            refine RunsS.callV (fun Ez Hz Az Sz K => rMul_fn (enc M) (enc D)) ?_
            conv => whnf
            rw [mul_e lm ld, short_e f2]
            try dsimp only
            try refine goS_run tab 1000 _ _ _ _ ?_
            conv => whnf
            repeat (first | (refine And.intro (by omega) ?_; (try intro _); conv => whnf) | (refine And.intro ?_ (by omega); (try intro _); conv => whnf) | (refine ⟨_, RemV.nonneg (by omega) (by omega), ?_⟩; conv => whnf))
            refine RunsS.callV (fun Ez Hz Az Sz K => rMul_fn (enc D) (enc E)) ?_
            conv => whnf
            rw [mul_e ld le, short_e f3]
            try dsimp only
            try refine goS_run tab 1000 _ _ _ _ ?_
            conv => whnf
            repeat (first | (refine And.intro (by omega) ?_; (try intro _); conv => whnf) | (refine And.intro ?_ (by omega); (try intro _); conv => whnf) | (refine ⟨_, RemV.nonneg (by omega) (by omega), ?_⟩; conv => whnf))
            cases s <;> cases t
            · rw [if_pos rfl] at hr
              conv => whnf
              repeat (first | (refine And.intro (by omega) ?_; (try intro _); conv => whnf) | (refine And.intro ?_ (by omega); (try intro _); conv => whnf) | (refine ⟨_, RemV.nonneg (by omega) (by omega), ?_⟩; conv => whnf))
              by_cases f4 : fits (N * E + M * D)
              · rw [if_pos f4] at hr
                subst hr
                refine RunsS.callV (fun Ez Hz Az Sz K => rAdd_fn (enc (N * E)) (enc (M * D))) ?_
                conv => whnf
                rw [add_e f1 f2, short_e f4]
                try dsimp only
                try refine goS_run tab 1000 _ _ _ _ ?_
                conv => whnf
                repeat (first | (refine And.intro (by omega) ?_; (try intro _); conv => whnf) | (refine And.intro ?_ (by omega); (try intro _); conv => whnf) | (refine ⟨_, RemV.nonneg (by omega) (by omega), ?_⟩; conv => whnf))
                refine RunsS.callV (fun Ez Hz Az Sz K => rqlowest_fn _ hde f4 f3) ?_
                conv => whnf
                try refine goS_run tab 1000 _ _ _ _ ?_
                conv => whnf
                repeat (first | (refine And.intro (by omega) ?_; (try intro _); conv => whnf) | (refine And.intro ?_ (by omega); (try intro _); conv => whnf) | (refine ⟨_, RemV.nonneg (by omega) (by omega), ?_⟩; conv => whnf))
                refine RunsS.retU (UnwS.ret tab Tryd.func12 rfl fun Ez Hz Az Sz K => ⟨_, rfl, rfl, K.keeps⟩)
              · rw [if_neg f4] at hr
                subst hr
                refine RunsS.callV (fun Ez Hz Az Sz K => rAdd_fn (enc (N * E)) (enc (M * D))) ?_
                conv => whnf
                rw [add_e f1 f2, short_big f4]
                try dsimp only
                try refine goS_run tab 1000 _ _ _ _ ?_
                conv => whnf
                repeat (first | (refine And.intro (by omega) ?_; (try intro _); conv => whnf) | (refine And.intro ?_ (by omega); (try intro _); conv => whnf) | (refine ⟨_, RemV.nonneg (by omega) (by omega), ?_⟩; conv => whnf))
                refine RunsS.retU (UnwS.ret tab Tryd.func12 rfl fun Ez Hz Az Sz K => ⟨_, rfl, rfl, K.keeps⟩)
            · rw [if_neg (by decide)] at hr
              conv => whnf
              repeat (first | (refine And.intro (by omega) ?_; (try intro _); conv => whnf) | (refine And.intro ?_ (by omega); (try intro _); conv => whnf) | (refine ⟨_, RemV.nonneg (by omega) (by omega), ?_⟩; conv => whnf))
              refine RunsS.callV (fun Ez Hz Az Sz K => kp (rCompare_fn (enc (N * E)) (enc (M * D)))) ?_
              conv => whnf
              rw [cmp_e f1 f2]
              try dsimp only
              try refine goS_run tab 1000 _ _ _ _ ?_
              conv => whnf
              repeat (first | (refine And.intro (by omega) ?_; (try intro _); conv => whnf) | (refine And.intro ?_ (by omega); (try intro _); conv => whnf) | (refine ⟨_, RemV.nonneg (by omega) (by omega), ?_⟩; conv => whnf))
              refine ⟨fun hc => ?_, fun hc => ?_⟩ <;> conv => whnf
              · have hc := cmpN_nonneg.1 hc
                rw [if_neg (by omega)] at hr
                subst hr
                conv => whnf
                repeat (first | (refine And.intro (by omega) ?_; (try intro _); conv => whnf) | (refine And.intro ?_ (by omega); (try intro _); conv => whnf) | (refine ⟨_, RemV.nonneg (by omega) (by omega), ?_⟩; conv => whnf))
                refine RunsS.callV (fun Ez Hz Az Sz K => rSub_fn (enc (N * E)) (enc (M * D))) ?_
                conv => whnf
                rw [sub_e f1 f2, if_neg (show ¬ N * E < M * D by omega)]
                try dsimp only
                try refine goS_run tab 1000 _ _ _ _ ?_
                conv => whnf
                repeat (first | (refine And.intro (by omega) ?_; (try intro _); conv => whnf) | (refine And.intro ?_ (by omega); (try intro _); conv => whnf) | (refine ⟨_, RemV.nonneg (by omega) (by omega), ?_⟩; conv => whnf))
                refine RunsS.callV (fun Ez Hz Az Sz K => rqlowest_fn _ hde (Nat.le_trans (nb_mono (Nat.sub_le _ _)) f1) f3) ?_
                conv => whnf
                try refine goS_run tab 1000 _ _ _ _ ?_
                conv => whnf
                repeat (first | (refine And.intro (by omega) ?_; (try intro _); conv => whnf) | (refine And.intro ?_ (by omega); (try intro _); conv => whnf) | (refine ⟨_, RemV.nonneg (by omega) (by omega), ?_⟩; conv => whnf))
                refine RunsS.retU (UnwS.ret tab Tryd.func12 rfl fun Ez Hz Az Sz K => ⟨_, rfl, rfl, K.keeps⟩)
              · have hc : N * E < M * D := Nat.lt_of_not_le fun h => hc (cmpN_nonneg.2 h)
                rw [if_pos hc] at hr
                subst hr
                conv => whnf
                repeat (first | (refine And.intro (by omega) ?_; (try intro _); conv => whnf) | (refine And.intro ?_ (by omega); (try intro _); conv => whnf) | (refine ⟨_, RemV.nonneg (by omega) (by omega), ?_⟩; conv => whnf))
                refine RunsS.callV (fun Ez Hz Az Sz K => rSub_fn (enc (M * D)) (enc (N * E))) ?_
                conv => whnf
                rw [sub_e f2 f1, if_neg (show ¬ M * D < N * E by omega)]
                try dsimp only
                try refine goS_run tab 1000 _ _ _ _ ?_
                conv => whnf
                repeat (first | (refine And.intro (by omega) ?_; (try intro _); conv => whnf) | (refine And.intro ?_ (by omega); (try intro _); conv => whnf) | (refine ⟨_, RemV.nonneg (by omega) (by omega), ?_⟩; conv => whnf))
                refine RunsS.callV (fun Ez Hz Az Sz K => rqlowest_fn _ hde (Nat.le_trans (nb_mono (Nat.sub_le _ _)) f2) f3) ?_
                conv => whnf
                try refine goS_run tab 1000 _ _ _ _ ?_
                conv => whnf
                repeat (first | (refine And.intro (by omega) ?_; (try intro _); conv => whnf) | (refine And.intro ?_ (by omega); (try intro _); conv => whnf) | (refine ⟨_, RemV.nonneg (by omega) (by omega), ?_⟩; conv => whnf))
                refine RunsS.retU (UnwS.ret tab Tryd.func12 rfl fun Ez Hz Az Sz K => ⟨_, rfl, rfl, K.keeps⟩)
            · rw [if_neg (by decide)] at hr
              conv => whnf
              repeat (first | (refine And.intro (by omega) ?_; (try intro _); conv => whnf) | (refine And.intro ?_ (by omega); (try intro _); conv => whnf) | (refine ⟨_, RemV.nonneg (by omega) (by omega), ?_⟩; conv => whnf))
              refine RunsS.callV (fun Ez Hz Az Sz K => kp (rCompare_fn (enc (N * E)) (enc (M * D)))) ?_
              conv => whnf
              rw [cmp_e f1 f2]
              try dsimp only
              try refine goS_run tab 1000 _ _ _ _ ?_
              conv => whnf
              repeat (first | (refine And.intro (by omega) ?_; (try intro _); conv => whnf) | (refine And.intro ?_ (by omega); (try intro _); conv => whnf) | (refine ⟨_, RemV.nonneg (by omega) (by omega), ?_⟩; conv => whnf))
              refine ⟨fun hc => ?_, fun hc => ?_⟩ <;> conv => whnf
              · have hc := cmpN_nonneg.1 hc
                rw [if_neg (by omega)] at hr
                subst hr
                conv => whnf
                repeat (first | (refine And.intro (by omega) ?_; (try intro _); conv => whnf) | (refine And.intro ?_ (by omega); (try intro _); conv => whnf) | (refine ⟨_, RemV.nonneg (by omega) (by omega), ?_⟩; conv => whnf))
                refine RunsS.callV (fun Ez Hz Az Sz K => rSub_fn (enc (N * E)) (enc (M * D))) ?_
                conv => whnf
                rw [sub_e f1 f2, if_neg (show ¬ N * E < M * D by omega)]
                try dsimp only
                try refine goS_run tab 1000 _ _ _ _ ?_
                conv => whnf
                repeat (first | (refine And.intro (by omega) ?_; (try intro _); conv => whnf) | (refine And.intro ?_ (by omega); (try intro _); conv => whnf) | (refine ⟨_, RemV.nonneg (by omega) (by omega), ?_⟩; conv => whnf))
                refine RunsS.callV (fun Ez Hz Az Sz K => rqlowest_fn _ hde (Nat.le_trans (nb_mono (Nat.sub_le _ _)) f1) f3) ?_
                conv => whnf
                try refine goS_run tab 1000 _ _ _ _ ?_
                conv => whnf
                repeat (first | (refine And.intro (by omega) ?_; (try intro _); conv => whnf) | (refine And.intro ?_ (by omega); (try intro _); conv => whnf) | (refine ⟨_, RemV.nonneg (by omega) (by omega), ?_⟩; conv => whnf))
                refine RunsS.retU (UnwS.ret tab Tryd.func12 rfl fun Ez Hz Az Sz K => ⟨_, rfl, rfl, K.keeps⟩)
              · have hc : N * E < M * D := Nat.lt_of_not_le fun h => hc (cmpN_nonneg.2 h)
                rw [if_pos hc] at hr
                subst hr
                conv => whnf
                repeat (first | (refine And.intro (by omega) ?_; (try intro _); conv => whnf) | (refine And.intro ?_ (by omega); (try intro _); conv => whnf) | (refine ⟨_, RemV.nonneg (by omega) (by omega), ?_⟩; conv => whnf))
                refine RunsS.callV (fun Ez Hz Az Sz K => rSub_fn (enc (M * D)) (enc (N * E))) ?_
                conv => whnf
                rw [sub_e f2 f1, if_neg (show ¬ M * D < N * E by omega)]
                try dsimp only
                try refine goS_run tab 1000 _ _ _ _ ?_
                conv => whnf
                repeat (first | (refine And.intro (by omega) ?_; (try intro _); conv => whnf) | (refine And.intro ?_ (by omega); (try intro _); conv => whnf) | (refine ⟨_, RemV.nonneg (by omega) (by omega), ?_⟩; conv => whnf))
                refine RunsS.callV (fun Ez Hz Az Sz K => rqlowest_fn _ hde (Nat.le_trans (nb_mono (Nat.sub_le _ _)) f2) f3) ?_
                conv => whnf
                try refine goS_run tab 1000 _ _ _ _ ?_
                conv => whnf
                repeat (first | (refine And.intro (by omega) ?_; (try intro _); conv => whnf) | (refine And.intro ?_ (by omega); (try intro _); conv => whnf) | (refine ⟨_, RemV.nonneg (by omega) (by omega), ?_⟩; conv => whnf))
                refine RunsS.retU (UnwS.ret tab Tryd.func12 rfl fun Ez Hz Az Sz K => ⟨_, rfl, rfl, K.keeps⟩)
            · rw [if_pos rfl] at hr
              conv => whnf
              repeat (first | (refine And.intro (by omega) ?_; (try intro _); conv => whnf) | (refine And.intro ?_ (by omega); (try intro _); conv => whnf) | (refine ⟨_, RemV.nonneg (by omega) (by omega), ?_⟩; conv => whnf))
              by_cases f4 : fits (N * E + M * D)
              · rw [if_pos f4] at hr
                subst hr
                refine RunsS.callV (fun Ez Hz Az Sz K => rAdd_fn (enc (N * E)) (enc (M * D))) ?_
                conv => whnf
                rw [add_e f1 f2, short_e f4]
                try dsimp only
                try refine goS_run tab 1000 _ _ _ _ ?_
                conv => whnf
                repeat (first | (refine And.intro (by omega) ?_; (try intro _); conv => whnf) | (refine And.intro ?_ (by omega); (try intro _); conv => whnf) | (refine ⟨_, RemV.nonneg (by omega) (by omega), ?_⟩; conv => whnf))
                refine RunsS.callV (fun Ez Hz Az Sz K => rqlowest_fn _ hde f4 f3) ?_
                conv => whnf
                try refine goS_run tab 1000 _ _ _ _ ?_
                conv => whnf
                repeat (first | (refine And.intro (by omega) ?_; (try intro _); conv => whnf) | (refine And.intro ?_ (by omega); (try intro _); conv => whnf) | (refine ⟨_, RemV.nonneg (by omega) (by omega), ?_⟩; conv => whnf))
                refine RunsS.retU (UnwS.ret tab Tryd.func12 rfl fun Ez Hz Az Sz K => ⟨_, rfl, rfl, K.keeps⟩)
              · rw [if_neg f4] at hr
                subst hr
                refine RunsS.callV (fun Ez Hz Az Sz K => rAdd_fn (enc (N * E)) (enc (M * D))) ?_
                conv => whnf
                rw [add_e f1 f2, short_big f4]
                try dsimp only
                try refine goS_run tab 1000 _ _ _ _ ?_
                conv => whnf
                repeat (first | (refine And.intro (by omega) ?_; (try intro _); conv => whnf) | (refine And.intro ?_ (by omega); (try intro _); conv => whnf) | (refine ⟨_, RemV.nonneg (by omega) (by omega), ?_⟩; conv => whnf))
                refine RunsS.retU (UnwS.ret tab Tryd.func12 rfl fun Ez Hz Az Sz K => ⟨_, rfl, rfl, K.keeps⟩)

theorem rqopposite_fn {h : Array Obj} (q : Q) : FnV Tryd.prog 36 #[(encQ q).v] h fun r h' => r = (encQ (negQ q)).v ∧ Keeps h.size h h' := by
  obtain ⟨s, n, d⟩ := q
  have key : ∀ b : Bool, b = (!s && !Nat.beq n 0) → Value.agg #[.bool b, .string (enc n), .string (enc d)] = (encQ (negQ ⟨s, n, d⟩)).v := fun b hb => by rw [hb]; rfl
  have hz : (!decide (enc n = ⟨#[]⟩)) = !Nat.beq n 0 := by
    by_cases hn : n = 0
    · subst hn; rfl
    · rw [beq0 hn, decide_eq_false (fun e => hn (enc_mt.1 e))]
  refine Fn.ofS (args := [.agg #[.bool s, .string (enc n), .string (enc d)]]) Tryd.func36 (by kernel_rfl) rfl Tryd.ntmps36 rfl fun w0 cs => ?_
  conv => whnf
  refine goS_run tab 1000 _ _ _ _ ?_
  conv => whnf
  repeat (first | (refine And.intro (by omega) ?_; (try intro _); conv => whnf) | (refine And.intro ?_ (by omega); (try intro _); conv => whnf) | (refine ⟨_, RemV.nonneg (by omega) (by omega), ?_⟩; conv => whnf))
  cases s
  · conv => whnf
    repeat (first | (refine And.intro (by omega) ?_; (try intro _); conv => whnf) | (refine And.intro ?_ (by omega); (try intro _); conv => whnf) | (refine ⟨_, RemV.nonneg (by omega) (by omega), ?_⟩; conv => whnf))
    refine RunsS.retU (UnwS.ret tab Tryd.func36 rfl fun Ez Hz Az Sz K => ⟨_, rfl, ?_, K.keeps⟩)
    exact key _ hz
  · conv => whnf
    repeat (first | (refine And.intro (by omega) ?_; (try intro _); conv => whnf) | (refine And.intro ?_ (by omega); (try intro _); conv => whnf) | (refine ⟨_, RemV.nonneg (by omega) (by omega), ?_⟩; conv => whnf))
    refine RunsS.retU (UnwS.ret tab Tryd.func36 rfl fun Ez Hz Az Sz K => ⟨_, rfl, ?_, K.keeps⟩)
    exact key _ rfl

/-- the references' first tests -/
theorem rqSub_fn {h : Array Obj} (a b : Rt) : FnV Tryd.prog 14 #[a.v, b.v] h fun r h' => r = rev (subR a b) ∧ Keeps h.size h h' := by
  obtain ⟨r, hr⟩ : ∃ r, r = subR a b := ⟨_, rfl⟩
  rw [← hr]
  obtain ⟨s, n, d⟩ := a
  obtain ⟨t, m, e⟩ := b
  unfold subR opR at hr
  refine Fn.ofS (args := [.agg #[.bool s, .string n, .string d], .agg #[.bool t, .string m, .string e]]) Tryd.func14 (by kernel_rfl) rfl Tryd.ntmps14 rfl fun w0 cs => ?_
  conv => whnf
  refine goS_run tab 1000 _ _ _ _ ?_
  conv => whnf
  repeat (first | (refine And.intro (by omega) ?_; (try intro _); conv => whnf) | (refine And.intro ?_ (by omega); (try intro _); conv => whnf) | (refine ⟨_, RemV.nonneg (by omega) (by omega), ?_⟩; conv => whnf))
  refine RunsS.callV (fun Ez Hz Az Sz K => rqCheck_fn ⟨s, n, d⟩) ?_
  conv => whnf
  try refine goS_run tab 1000 _ _ _ _ ?_
  conv => whnf
  repeat (first | (refine And.intro (by omega) ?_; (try intro _); conv => whnf) | (refine And.intro ?_ (by omega); (try intro _); conv => whnf) | (refine ⟨_, RemV.nonneg (by omega) (by omega), ?_⟩; conv => whnf))
  refine ⟨fun o1 => ?_, fun o1 => ?_⟩ <;> conv => whnf
  rotate_left
  · conv => whnf
    repeat (first | (refine And.intro (by omega) ?_; (try intro _); conv => whnf) | (refine And.intro ?_ (by omega); (try intro _); conv => whnf) | (refine ⟨_, RemV.nonneg (by omega) (by omega), ?_⟩; conv => whnf))
    rw [if_neg (fun o => o1 (chkR_zero.2 o.1))] at hr
    subst hr
    refine RunsS.retU (UnwS.ret tab Tryd.func14 rfl fun Ez Hz Az Sz K => ⟨_, rfl, rfl, K.keeps⟩)
  · conv => whnf
    repeat (first | (refine And.intro (by omega) ?_; (try intro _); conv => whnf) | (refine And.intro ?_ (by omega); (try intro _); conv => whnf) | (refine ⟨_, RemV.nonneg (by omega) (by omega), ?_⟩; conv => whnf))
    refine RunsS.callV (fun Ez Hz Az Sz K => rqCheck_fn ⟨t, m, e⟩) ?_
    conv => whnf
    try refine goS_run tab 1000 _ _ _ _ ?_
    conv => whnf
    repeat (first | (refine And.intro (by omega) ?_; (try intro _); conv => whnf) | (refine And.intro ?_ (by omega); (try intro _); conv => whnf) | (refine ⟨_, RemV.nonneg (by omega) (by omega), ?_⟩; conv => whnf))
    refine ⟨fun o2 => ?_, fun o2 => ?_⟩ <;> conv => whnf
    rotate_left
    · conv => whnf
      repeat (first | (refine And.intro (by omega) ?_; (try intro _); conv => whnf) | (refine And.intro ?_ (by omega); (try intro _); conv => whnf) | (refine ⟨_, RemV.nonneg (by omega) (by omega), ?_⟩; conv => whnf))
      rw [if_neg (fun o => o2 (chkR_zero.2 o.2))] at hr
      subst hr
      refine RunsS.retU (UnwS.ret tab Tryd.func14 rfl fun Ez Hz Az Sz K => ⟨_, rfl, rfl, K.keeps⟩)
    · rw [if_pos ⟨chkR_zero.1 o1, chkR_zero.1 o2⟩] at hr
      obtain ⟨⟨s, N, D⟩, ea, oka, la⟩ := okR_of (chkR_zero.1 o1)
      obtain ⟨⟨t, M, E⟩, eb, okb, lb⟩ := okR_of (chkR_zero.1 o2)
      rw [ea, eb, dec_enc, dec_enc] at hr
      cases ea
      cases eb
      unfold subL at hr
      conv => whnf
      repeat (first | (refine And.intro (by omega) ?_; (try intro _); conv => whnf) | (refine And.intro ?_ (by omega); (try intro _); conv => whnf) | (refine ⟨_, RemV.nonneg (by omega) (by omega), ?_⟩; conv => whnf))
      refine RunsS.held tab (.fl 0 (.fl 1 (.e1 2 [0] (.e1 3 [] (.fl 4 (.fl 5 (.e1 6 [] (.fl 7 .done)))))))) (by kernel_rfl) ?_
      conv => whnf
      try refine goR_run tab _ _ _ _ _ _ ?_
      conv => whnf
      repeat (first | (refine And.intro (by omega) ?_; (try intro _); conv => whnf) | (refine And.intro ?_ (by omega); (try intro _); conv => whnf) | (refine And.intro (by (conv => whnf); (repeat (refine And.intro (by (conv => whnf); first | rfl | exact trivial) ?_; conv => whnf)); exact trivial) ?_; conv => whnf) | (refine ⟨_, RemV.nonneg (by omega) (by omega), ?_⟩; conv => whnf))
      try refine goS_run tab 1000 _ _ _ _ ?_
      conv => whnf
      repeat (first | (refine And.intro (by omega) ?_; (try intro _); conv => whnf) | (refine And.intro ?_ (by omega); (try intro _); conv => whnf) | (refine ⟨_, RemV.nonneg (by omega) (by omega), ?_⟩; conv => whnf))
      refine EffR.callV (fun Ez Hz Az Sz K => rqopposite_fn ⟨t, M, E⟩) (by (conv => whnf); (repeat (refine And.intro (by (conv => whnf); first | rfl | exact trivial) ?_; conv => whnf)); exact trivial) ?_
      conv => whnf
      try refine goR_run tab _ _ _ _ _ _ ?_
      conv => whnf
      repeat (first | (refine And.intro (by omega) ?_; (try intro _); conv => whnf) | (refine And.intro ?_ (by omega); (try intro _); conv => whnf) | (refine And.intro (by (conv => whnf); (repeat (refine And.intro (by (conv => whnf); first | rfl | exact trivial) ?_; conv => whnf)); exact trivial) ?_; conv => whnf) | (refine ⟨_, RemV.nonneg (by omega) (by omega), ?_⟩; conv => whnf))
      try refine goS_run tab 1000 _ _ _ _ ?_
      conv => whnf
      repeat (first | (refine And.intro (by omega) ?_; (try intro _); conv => whnf) | (refine And.intro ?_ (by omega); (try intro _); conv => whnf) | (refine ⟨_, RemV.nonneg (by omega) (by omega), ?_⟩; conv => whnf))
      refine EffR.callV (fun Ez Hz Az Sz K => rqAdd_fn (encQ ⟨s, N, D⟩) (encQ (negQ ⟨t, M, E⟩))) (by (conv => whnf); (repeat (refine And.intro (by (conv => whnf); first | rfl | exact trivial) ?_; conv => whnf)); exact trivial) ?_
      conv => whnf
      rw [show addR (encQ ⟨s, N, D⟩) (encQ (negQ ⟨t, M, E⟩)) = _ from opR_e oka (negQ_ok okb) la (negQ_le lb) addL, ← hr]
      try dsimp only
      try refine goR_run tab _ _ _ _ _ _ ?_
      conv => whnf
      repeat (first | (refine And.intro (by omega) ?_; (try intro _); conv => whnf) | (refine And.intro ?_ (by omega); (try intro _); conv => whnf) | (refine And.intro (by (conv => whnf); (repeat (refine And.intro (by (conv => whnf); first | rfl | exact trivial) ?_; conv => whnf)); exact trivial) ?_; conv => whnf) | (refine ⟨_, RemV.nonneg (by omega) (by omega), ?_⟩; conv => whnf))
      try refine goS_run tab 1000 _ _ _ _ ?_
      conv => whnf
      repeat (first | (refine And.intro (by omega) ?_; (try intro _); conv => whnf) | (refine And.intro ?_ (by omega); (try intro _); conv => whnf) | (refine ⟨_, RemV.nonneg (by omega) (by omega), ?_⟩; conv => whnf))
      refine RunsS.retU (UnwS.ret tab Tryd.func14 rfl fun Ez Hz Az Sz K => ⟨_, rfl, rfl, K.keeps⟩)

theorem rqMul_fn {h : Array Obj} (a b : Rt) : FnV Tryd.prog 16 #[a.v, b.v] h fun r h' => r = rev (mulR a b) ∧ Keeps h.size h h' := by
  obtain ⟨r, hr⟩ : ∃ r, r = mulR a b := ⟨_, rfl⟩
  rw [← hr]
  obtain ⟨s, n, d⟩ := a
  obtain ⟨t, m, e⟩ := b
  unfold mulR opR at hr
  refine Fn.ofS (args := [.agg #[.bool s, .string n, .string d], .agg #[.bool t, .string m, .string e]]) Tryd.func16 (by kernel_rfl) rfl Tryd.ntmps16 rfl fun w0 cs => ?_
  conv => whnf
  refine goS_run tab 1000 _ _ _ _ ?_
  conv => whnf
  repeat (first | (refine And.intro (by omega) ?_; (try intro _); conv => whnf) | (refine And.intro ?_ (by omega); (try intro _); conv => whnf) | (refine ⟨_, RemV.nonneg (by omega) (by omega), ?_⟩; conv => whnf))
  refine RunsS.callV (fun Ez Hz Az Sz K => rqCheck_fn ⟨s, n, d⟩) ?_
  conv => whnf
  try refine goS_run tab 1000 _ _ _ _ ?_
  conv => whnf
  repeat (first | (refine And.intro (by omega) ?_; (try intro _); conv => whnf) | (refine And.intro ?_ (by omega); (try intro _); conv => whnf) | (refine ⟨_, RemV.nonneg (by omega) (by omega), ?_⟩; conv => whnf))
  refine ⟨fun o1 => ?_, fun o1 => ?_⟩ <;> conv => whnf
  rotate_left
  · conv => whnf
    repeat (first | (refine And.intro (by omega) ?_; (try intro _); conv => whnf) | (refine And.intro ?_ (by omega); (try intro _); conv => whnf) | (refine ⟨_, RemV.nonneg (by omega) (by omega), ?_⟩; conv => whnf))
    rw [if_neg (fun o => o1 (chkR_zero.2 o.1))] at hr
    subst hr
    refine RunsS.retU (UnwS.ret tab Tryd.func16 rfl fun Ez Hz Az Sz K => ⟨_, rfl, rfl, K.keeps⟩)
  · conv => whnf
    repeat (first | (refine And.intro (by omega) ?_; (try intro _); conv => whnf) | (refine And.intro ?_ (by omega); (try intro _); conv => whnf) | (refine ⟨_, RemV.nonneg (by omega) (by omega), ?_⟩; conv => whnf))
    refine RunsS.callV (fun Ez Hz Az Sz K => rqCheck_fn ⟨t, m, e⟩) ?_
    conv => whnf
    try refine goS_run tab 1000 _ _ _ _ ?_
    conv => whnf
    repeat (first | (refine And.intro (by omega) ?_; (try intro _); conv => whnf) | (refine And.intro ?_ (by omega); (try intro _); conv => whnf) | (refine ⟨_, RemV.nonneg (by omega) (by omega), ?_⟩; conv => whnf))
    refine ⟨fun o2 => ?_, fun o2 => ?_⟩ <;> conv => whnf
    rotate_left
    · conv => whnf
      repeat (first | (refine And.intro (by omega) ?_; (try intro _); conv => whnf) | (refine And.intro ?_ (by omega); (try intro _); conv => whnf) | (refine ⟨_, RemV.nonneg (by omega) (by omega), ?_⟩; conv => whnf))
      rw [if_neg (fun o => o2 (chkR_zero.2 o.2))] at hr
      subst hr
      refine RunsS.retU (UnwS.ret tab Tryd.func16 rfl fun Ez Hz Az Sz K => ⟨_, rfl, rfl, K.keeps⟩)
    · rw [if_pos ⟨chkR_zero.1 o1, chkR_zero.1 o2⟩] at hr
      obtain ⟨⟨s, N, D⟩, ea, oka, la⟩ := okR_of (chkR_zero.1 o1)
      obtain ⟨⟨t, M, E⟩, eb, okb, lb⟩ := okR_of (chkR_zero.1 o2)
      rw [ea, eb, dec_enc, dec_enc] at hr
      cases ea
      cases eb
      unfold mulL at hr
      dsimp only at hr
      have hde : D * E ≠ 0 := Nat.mul_ne_zero oka.1 okb.1
      by_cases f1 : fits (N * M) <;> by_cases f2 : fits (D * E)
      · rw [if_pos ⟨f1, f2⟩] at hr
        subst hr
        conv => whnf
        repeat (first | (refine And.intro (by omega) ?_; (try intro _); conv => whnf) | (refine And.intro ?_ (by omega); (try intro _); conv => whnf) | (refine ⟨_, RemV.nonneg (by omega) (by omega), ?_⟩; conv => whnf))
        refine RunsS.callV (fun Ez Hz Az Sz K => rMul_fn (enc N) (enc M)) ?_
        conv => whnf
        rw [mul_e la.1 lb.1, short_e f1]
        try dsimp only
        try refine goS_run tab 1000 _ _ _ _ ?_
        conv => whnf
        repeat (first | (refine And.intro (by omega) ?_; (try intro _); conv => whnf) | (refine And.intro ?_ (by omega); (try intro _); conv => whnf) | (refine ⟨_, RemV.nonneg (by omega) (by omega), ?_⟩; conv => whnf))
        refine RunsS.callV (fun Ez Hz Az Sz K => rMul_fn (enc D) (enc E)) ?_
        conv => whnf
        rw [mul_e la.2 lb.2, short_e f2]
        try dsimp only
        try refine goS_run tab 1000 _ _ _ _ ?_
        conv => whnf
        repeat (first | (refine And.intro (by omega) ?_; (try intro _); conv => whnf) | (refine And.intro ?_ (by omega); (try intro _); conv => whnf) | (refine ⟨_, RemV.nonneg (by omega) (by omega), ?_⟩; conv => whnf))
        cases s <;> cases t
        all_goals
          conv => whnf
          repeat (first | (refine And.intro (by omega) ?_; (try intro _); conv => whnf) | (refine And.intro ?_ (by omega); (try intro _); conv => whnf) | (refine ⟨_, RemV.nonneg (by omega) (by omega), ?_⟩; conv => whnf))
          refine RunsS.callV (fun Ez Hz Az Sz K => rqlowest_fn _ hde f1 f2) ?_
          conv => whnf
          try refine goS_run tab 1000 _ _ _ _ ?_
          conv => whnf
          repeat (first | (refine And.intro (by omega) ?_; (try intro _); conv => whnf) | (refine And.intro ?_ (by omega); (try intro _); conv => whnf) | (refine ⟨_, RemV.nonneg (by omega) (by omega), ?_⟩; conv => whnf))
          refine RunsS.retU (UnwS.ret tab Tryd.func16 rfl fun Ez Hz Az Sz K => ⟨_, rfl, rfl, K.keeps⟩)
      · rw [if_neg (fun o => f2 o.2)] at hr
        subst hr
        conv => whnf
        repeat (first | (refine And.intro (by omega) ?_; (try intro _); conv => whnf) | (refine And.intro ?_ (by omega); (try intro _); conv => whnf) | (refine ⟨_, RemV.nonneg (by omega) (by omega), ?_⟩; conv => whnf))
        refine RunsS.callV (fun Ez Hz Az Sz K => rMul_fn (enc N) (enc M)) ?_
        conv => whnf
        rw [mul_e la.1 lb.1, short_e f1]
        try dsimp only
        try refine goS_run tab 1000 _ _ _ _ ?_
        conv => whnf
        repeat (first | (refine And.intro (by omega) ?_; (try intro _); conv => whnf) | (refine And.intro ?_ (by omega); (try intro _); conv => whnf) | (refine ⟨_, RemV.nonneg (by omega) (by omega), ?_⟩; conv => whnf))
        refine RunsS.callV (fun Ez Hz Az Sz K => rMul_fn (enc D) (enc E)) ?_
        conv => whnf
        rw [mul_e la.2 lb.2, short_big f2]
        try dsimp only
        try refine goS_run tab 1000 _ _ _ _ ?_
        conv => whnf
        repeat (first | (refine And.intro (by omega) ?_; (try intro _); conv => whnf) | (refine And.intro ?_ (by omega); (try intro _); conv => whnf) | (refine ⟨_, RemV.nonneg (by omega) (by omega), ?_⟩; conv => whnf))
        refine RunsS.retU (UnwS.ret tab Tryd.func16 rfl fun Ez Hz Az Sz K => ⟨_, rfl, rfl, K.keeps⟩)
      · rw [if_neg (fun o => f1 o.1)] at hr
        subst hr
        conv => whnf
        repeat (first | (refine And.intro (by omega) ?_; (try intro _); conv => whnf) | (refine And.intro ?_ (by omega); (try intro _); conv => whnf) | (refine ⟨_, RemV.nonneg (by omega) (by omega), ?_⟩; conv => whnf))
        refine RunsS.callV (fun Ez Hz Az Sz K => rMul_fn (enc N) (enc M)) ?_
        conv => whnf
        rw [mul_e la.1 lb.1, short_big f1]
        try dsimp only
        try refine goS_run tab 1000 _ _ _ _ ?_
        conv => whnf
        repeat (first | (refine And.intro (by omega) ?_; (try intro _); conv => whnf) | (refine And.intro ?_ (by omega); (try intro _); conv => whnf) | (refine ⟨_, RemV.nonneg (by omega) (by omega), ?_⟩; conv => whnf))
        refine RunsS.callV (fun Ez Hz Az Sz K => rMul_fn (enc D) (enc E)) ?_
        conv => whnf
        rw [mul_e la.2 lb.2, short_e f2]
        try dsimp only
        try refine goS_run tab 1000 _ _ _ _ ?_
        conv => whnf
        repeat (first | (refine And.intro (by omega) ?_; (try intro _); conv => whnf) | (refine And.intro ?_ (by omega); (try intro _); conv => whnf) | (refine ⟨_, RemV.nonneg (by omega) (by omega), ?_⟩; conv => whnf))
        refine RunsS.retU (UnwS.ret tab Tryd.func16 rfl fun Ez Hz Az Sz K => ⟨_, rfl, rfl, K.keeps⟩)
      · rw [if_neg (fun o => f1 o.1)] at hr
        subst hr
        conv => whnf
        repeat (first | (refine And.intro (by omega) ?_; (try intro _); conv => whnf) | (refine And.intro ?_ (by omega); (try intro _); conv => whnf) | (refine ⟨_, RemV.nonneg (by omega) (by omega), ?_⟩; conv => whnf))
        refine RunsS.callV (fun Ez Hz Az Sz K => rMul_fn (enc N) (enc M)) ?_
        conv => whnf
        rw [mul_e la.1 lb.1, short_big f1]
        try dsimp only
        try refine goS_run tab 1000 _ _ _ _ ?_
        conv => whnf
        repeat (first | (refine And.intro (by omega) ?_; (try intro _); conv => whnf) | (refine And.intro ?_ (by omega); (try intro _); conv => whnf) | (refine ⟨_, RemV.nonneg (by omega) (by omega), ?_⟩; conv => whnf))
        refine RunsS.callV (fun Ez Hz Az Sz K => rMul_fn (enc D) (enc E)) ?_
        conv => whnf
        rw [mul_e la.2 lb.2, short_big f2]
        try dsimp only
        try refine goS_run tab 1000 _ _ _ _ ?_
        conv => whnf
        repeat (first | (refine And.intro (by omega) ?_; (try intro _); conv => whnf) | (refine And.intro ?_ (by omega); (try intro _); conv => whnf) | (refine ⟨_, RemV.nonneg (by omega) (by omega), ?_⟩; conv => whnf))
        refine RunsS.retU (UnwS.ret tab Tryd.func16 rfl fun Ez Hz Az Sz K => ⟨_, rfl, rfl, K.keeps⟩)

theorem rqDiv_fn {h : Array Obj} (a b : Rt) : FnV Tryd.prog 18 #[a.v, b.v] h fun r h' => r = rev (divR a b) ∧ Keeps h.size h h' := by
  obtain ⟨r, hr⟩ : ∃ r, r = divR a b := ⟨_, rfl⟩
  rw [← hr]
  obtain ⟨s, n, d⟩ := a
  obtain ⟨t, m, e⟩ := b
  unfold divR at hr
  refine Fn.ofS (args := [.agg #[.bool s, .string n, .string d], .agg #[.bool t, .string m, .string e]]) Tryd.func18 (by kernel_rfl) rfl Tryd.ntmps18 rfl fun w0 cs => ?_
  conv => whnf
  refine goS_run tab 1000 _ _ _ _ ?_
  conv => whnf
  repeat (first | (refine And.intro (by omega) ?_; (try intro _); conv => whnf) | (refine And.intro ?_ (by omega); (try intro _); conv => whnf) | (refine ⟨_, RemV.nonneg (by omega) (by omega), ?_⟩; conv => whnf))
  refine RunsS.callV (fun Ez Hz Az Sz K => rqCheck_fn ⟨s, n, d⟩) ?_
  conv => whnf
  try refine goS_run tab 1000 _ _ _ _ ?_
  conv => whnf
  repeat (first | (refine And.intro (by omega) ?_; (try intro _); conv => whnf) | (refine And.intro ?_ (by omega); (try intro _); conv => whnf) | (refine ⟨_, RemV.nonneg (by omega) (by omega), ?_⟩; conv => whnf))
  refine ⟨fun o1 => ?_, fun o1 => ?_⟩ <;> conv => whnf
  rotate_left
  · conv => whnf
    repeat (first | (refine And.intro (by omega) ?_; (try intro _); conv => whnf) | (refine And.intro ?_ (by omega); (try intro _); conv => whnf) | (refine ⟨_, RemV.nonneg (by omega) (by omega), ?_⟩; conv => whnf))
    rw [if_neg (fun o => o1 (chkR_zero.2 o.1))] at hr
    subst hr
    refine RunsS.retU (UnwS.ret tab Tryd.func18 rfl fun Ez Hz Az Sz K => ⟨_, rfl, rfl, K.keeps⟩)
  · conv => whnf
    repeat (first | (refine And.intro (by omega) ?_; (try intro _); conv => whnf) | (refine And.intro ?_ (by omega); (try intro _); conv => whnf) | (refine ⟨_, RemV.nonneg (by omega) (by omega), ?_⟩; conv => whnf))
    refine RunsS.callV (fun Ez Hz Az Sz K => rqCheck_fn ⟨t, m, e⟩) ?_
    conv => whnf
    try refine goS_run tab 1000 _ _ _ _ ?_
    conv => whnf
    repeat (first | (refine And.intro (by omega) ?_; (try intro _); conv => whnf) | (refine And.intro ?_ (by omega); (try intro _); conv => whnf) | (refine ⟨_, RemV.nonneg (by omega) (by omega), ?_⟩; conv => whnf))
    refine ⟨fun o2 => ?_, fun o2 => ?_⟩ <;> conv => whnf
    rotate_left
    · conv => whnf
      repeat (first | (refine And.intro (by omega) ?_; (try intro _); conv => whnf) | (refine And.intro ?_ (by omega); (try intro _); conv => whnf) | (refine ⟨_, RemV.nonneg (by omega) (by omega), ?_⟩; conv => whnf))
      rw [if_neg (fun o => o2 (chkR_zero.2 o.2))] at hr
      subst hr
      refine RunsS.retU (UnwS.ret tab Tryd.func18 rfl fun Ez Hz Az Sz K => ⟨_, rfl, rfl, K.keeps⟩)
    · rw [if_pos ⟨chkR_zero.1 o1, chkR_zero.1 o2⟩] at hr
      obtain ⟨⟨s, N, D⟩, ea, oka, la⟩ := okR_of (chkR_zero.1 o1)
      obtain ⟨⟨t, M, E⟩, eb, okb, lb⟩ := okR_of (chkR_zero.1 o2)
      rw [ea, eb, dec_enc, dec_enc] at hr
      cases ea
      cases eb
      unfold mulL invQ at hr
      simp only [encQ, natv_enc] at hr
      conv => whnf
      repeat (first | (refine And.intro (by omega) ?_; (try intro _); conv => whnf) | (refine And.intro ?_ (by omega); (try intro _); conv => whnf) | (refine ⟨_, RemV.nonneg (by omega) (by omega), ?_⟩; conv => whnf))
      refine ⟨fun hm => ?_, fun hm => ?_⟩ <;> conv => whnf
      · rw [if_pos (enc_mt.1 hm)] at hr
        subst hr
        conv => whnf
        repeat (first | (refine And.intro (by omega) ?_; (try intro _); conv => whnf) | (refine And.intro ?_ (by omega); (try intro _); conv => whnf) | (refine ⟨_, RemV.nonneg (by omega) (by omega), ?_⟩; conv => whnf))
        refine RunsS.retU (UnwS.ret tab Tryd.func18 rfl fun Ez Hz Az Sz K => ⟨_, rfl, rfl, K.keeps⟩)
      · have hM : M ≠ 0 := fun e => hm (enc_mt.2 e)
        rw [if_neg hM] at hr
        have hde : D * M ≠ 0 := Nat.mul_ne_zero oka.1 hM
        by_cases f1 : fits (N * E) <;> by_cases f2 : fits (D * M)
        · rw [if_pos ⟨f1, f2⟩] at hr
          subst hr
          conv => whnf
          repeat (first | (refine And.intro (by omega) ?_; (try intro _); conv => whnf) | (refine And.intro ?_ (by omega); (try intro _); conv => whnf) | (refine ⟨_, RemV.nonneg (by omega) (by omega), ?_⟩; conv => whnf))
          refine RunsS.callV (fun Ez Hz Az Sz K => rMul_fn (enc N) (enc E)) ?_
          conv => whnf
          rw [mul_e la.1 lb.2, short_e f1]
          try dsimp only
          try refine goS_run tab 1000 _ _ _ _ ?_
          conv => whnf
          repeat (first | (refine And.intro (by omega) ?_; (try intro _); conv => whnf) | (refine And.intro ?_ (by omega); (try intro _); conv => whnf) | (refine ⟨_, RemV.nonneg (by omega) (by omega), ?_⟩; conv => whnf))
          refine RunsS.callV (fun Ez Hz Az Sz K => rMul_fn (enc D) (enc M)) ?_
          conv => whnf
          rw [mul_e la.2 lb.1, short_e f2]
          try dsimp only
          try refine goS_run tab 1000 _ _ _ _ ?_
          conv => whnf
          repeat (first | (refine And.intro (by omega) ?_; (try intro _); conv => whnf) | (refine And.intro ?_ (by omega); (try intro _); conv => whnf) | (refine ⟨_, RemV.nonneg (by omega) (by omega), ?_⟩; conv => whnf))
          cases s <;> cases t
          all_goals
            conv => whnf
            repeat (first | (refine And.intro (by omega) ?_; (try intro _); conv => whnf) | (refine And.intro ?_ (by omega); (try intro _); conv => whnf) | (refine ⟨_, RemV.nonneg (by omega) (by omega), ?_⟩; conv => whnf))
            refine RunsS.callV (fun Ez Hz Az Sz K => rqlowest_fn _ hde f1 f2) ?_
            conv => whnf
            try refine goS_run tab 1000 _ _ _ _ ?_
            conv => whnf
            repeat (first | (refine And.intro (by omega) ?_; (try intro _); conv => whnf) | (refine And.intro ?_ (by omega); (try intro _); conv => whnf) | (refine ⟨_, RemV.nonneg (by omega) (by omega), ?_⟩; conv => whnf))
            refine RunsS.retU (UnwS.ret tab Tryd.func18 rfl fun Ez Hz Az Sz K => ⟨_, rfl, rfl, K.keeps⟩)
        · rw [if_neg (fun o => f2 o.2)] at hr
          subst hr
          conv => whnf
          repeat (first | (refine And.intro (by omega) ?_; (try intro _); conv => whnf) | (refine And.intro ?_ (by omega); (try intro _); conv => whnf) | (refine ⟨_, RemV.nonneg (by omega) (by omega), ?_⟩; conv => whnf))
          refine RunsS.callV (fun Ez Hz Az Sz K => rMul_fn (enc N) (enc E)) ?_
          conv => whnf
          rw [mul_e la.1 lb.2, short_e f1]
          try dsimp only
          try refine goS_run tab 1000 _ _ _ _ ?_
          conv => whnf
          repeat (first | (refine And.intro (by omega) ?_; (try intro _); conv => whnf) | (refine And.intro ?_ (by omega); (try intro _); conv => whnf) | (refine ⟨_, RemV.nonneg (by omega) (by omega), ?_⟩; conv => whnf))
          refine RunsS.callV (fun Ez Hz Az Sz K => rMul_fn (enc D) (enc M)) ?_
          conv => whnf
          rw [mul_e la.2 lb.1, short_big f2]
          try dsimp only
          try refine goS_run tab 1000 _ _ _ _ ?_
          conv => whnf
          repeat (first | (refine And.intro (by omega) ?_; (try intro _); conv => whnf) | (refine And.intro ?_ (by omega); (try intro _); conv => whnf) | (refine ⟨_, RemV.nonneg (by omega) (by omega), ?_⟩; conv => whnf))
          refine RunsS.retU (UnwS.ret tab Tryd.func18 rfl fun Ez Hz Az Sz K => ⟨_, rfl, rfl, K.keeps⟩)
        · rw [if_neg (fun o => f1 o.1)] at hr
          subst hr
          conv => whnf
          repeat (first | (refine And.intro (by omega) ?_; (try intro _); conv => whnf) | (refine And.intro ?_ (by omega); (try intro _); conv => whnf) | (refine ⟨_, RemV.nonneg (by omega) (by omega), ?_⟩; conv => whnf))
          refine RunsS.callV (fun Ez Hz Az Sz K => rMul_fn (enc N) (enc E)) ?_
          conv => whnf
          rw [mul_e la.1 lb.2, short_big f1]
          try dsimp only
          try refine goS_run tab 1000 _ _ _ _ ?_
          conv => whnf
          repeat (first | (refine And.intro (by omega) ?_; (try intro _); conv => whnf) | (refine And.intro ?_ (by omega); (try intro _); conv => whnf) | (refine ⟨_, RemV.nonneg (by omega) (by omega), ?_⟩; conv => whnf))
          refine RunsS.callV (fun Ez Hz Az Sz K => rMul_fn (enc D) (enc M)) ?_
          conv => whnf
          rw [mul_e la.2 lb.1, short_e f2]
          try dsimp only
          try refine goS_run tab 1000 _ _ _ _ ?_
          conv => whnf
          repeat (first | (refine And.intro (by omega) ?_; (try intro _); conv => whnf) | (refine And.intro ?_ (by omega); (try intro _); conv => whnf) | (refine ⟨_, RemV.nonneg (by omega) (by omega), ?_⟩; conv => whnf))
          refine RunsS.retU (UnwS.ret tab Tryd.func18 rfl fun Ez Hz Az Sz K => ⟨_, rfl, rfl, K.keeps⟩)
        · rw [if_neg (fun o => f1 o.1)] at hr
          subst hr
          conv => whnf
          repeat (first | (refine And.intro (by omega) ?_; (try intro _); conv => whnf) | (refine And.intro ?_ (by omega); (try intro _); conv => whnf) | (refine ⟨_, RemV.nonneg (by omega) (by omega), ?_⟩; conv => whnf))
          refine RunsS.callV (fun Ez Hz Az Sz K => rMul_fn (enc N) (enc E)) ?_
          conv => whnf
          rw [mul_e la.1 lb.2, short_big f1]
          try dsimp only
          try refine goS_run tab 1000 _ _ _ _ ?_
          conv => whnf
          repeat (first | (refine And.intro (by omega) ?_; (try intro _); conv => whnf) | (refine And.intro ?_ (by omega); (try intro _); conv => whnf) | (refine ⟨_, RemV.nonneg (by omega) (by omega), ?_⟩; conv => whnf))
          refine RunsS.callV (fun Ez Hz Az Sz K => rMul_fn (enc D) (enc M)) ?_
          conv => whnf
          rw [mul_e la.2 lb.1, short_big f2]
          try dsimp only
          try refine goS_run tab 1000 _ _ _ _ ?_
          conv => whnf
          repeat (first | (refine And.intro (by omega) ?_; (try intro _); conv => whnf) | (refine And.intro ?_ (by omega); (try intro _); conv => whnf) | (refine ⟨_, RemV.nonneg (by omega) (by omega), ?_⟩; conv => whnf))
          refine RunsS.retU (UnwS.ret tab Tryd.func18 rfl fun Ez Hz Az Sz K => ⟨_, rfl, rfl, K.keeps⟩)

theorem rqCompare_fn {h : Array Obj} (a b : Rt) : FnV Tryd.prog 20 #[a.v, b.v] h fun r h' => r = iev2 (cmpR a b) ∧ Keeps h.size h h' := by
  obtain ⟨r, hr⟩ : ∃ r, r = cmpR a b := ⟨_, rfl⟩
  rw [← hr]
  obtain ⟨s, n, d⟩ := a
  obtain ⟨t, m, e⟩ := b
  unfold cmpR at hr
  refine Fn.ofS (args := [.agg #[.bool s, .string n, .string d], .agg #[.bool t, .string m, .string e]]) Tryd.func20 (by kernel_rfl) rfl Tryd.ntmps20 rfl fun w0 cs => ?_
  conv => whnf
  refine goS_run tab 1000 _ _ _ _ ?_
  conv => whnf
  repeat (first | (refine And.intro (by omega) ?_; (try intro _); conv => whnf) | (refine And.intro ?_ (by omega); (try intro _); conv => whnf) | (refine ⟨_, RemV.nonneg (by omega) (by omega), ?_⟩; conv => whnf))
  refine RunsS.callV (fun Ez Hz Az Sz K => rqCheck_fn ⟨s, n, d⟩) ?_
  conv => whnf
  try refine goS_run tab 1000 _ _ _ _ ?_
  conv => whnf
  repeat (first | (refine And.intro (by omega) ?_; (try intro _); conv => whnf) | (refine And.intro ?_ (by omega); (try intro _); conv => whnf) | (refine ⟨_, RemV.nonneg (by omega) (by omega), ?_⟩; conv => whnf))
  refine ⟨fun o1 => ?_, fun o1 => ?_⟩ <;> conv => whnf
  rotate_left
  · conv => whnf
    repeat (first | (refine And.intro (by omega) ?_; (try intro _); conv => whnf) | (refine And.intro ?_ (by omega); (try intro _); conv => whnf) | (refine ⟨_, RemV.nonneg (by omega) (by omega), ?_⟩; conv => whnf))
    rw [if_neg (fun o => o1 (chkR_zero.2 o.1))] at hr
    subst hr
    refine RunsS.retU (UnwS.ret tab Tryd.func20 rfl fun Ez Hz Az Sz K => ⟨_, rfl, rfl, K.keeps⟩)
  · conv => whnf
    repeat (first | (refine And.intro (by omega) ?_; (try intro _); conv => whnf) | (refine And.intro ?_ (by omega); (try intro _); conv => whnf) | (refine ⟨_, RemV.nonneg (by omega) (by omega), ?_⟩; conv => whnf))
    refine RunsS.callV (fun Ez Hz Az Sz K => rqCheck_fn ⟨t, m, e⟩) ?_
    conv => whnf
    try refine goS_run tab 1000 _ _ _ _ ?_
    conv => whnf
    repeat (first | (refine And.intro (by omega) ?_; (try intro _); conv => whnf) | (refine And.intro ?_ (by omega); (try intro _); conv => whnf) | (refine ⟨_, RemV.nonneg (by omega) (by omega), ?_⟩; conv => whnf))
    refine ⟨fun o2 => ?_, fun o2 => ?_⟩ <;> conv => whnf
    rotate_left
    · conv => whnf
      repeat (first | (refine And.intro (by omega) ?_; (try intro _); conv => whnf) | (refine And.intro ?_ (by omega); (try intro _); conv => whnf) | (refine ⟨_, RemV.nonneg (by omega) (by omega), ?_⟩; conv => whnf))
      rw [if_neg (fun o => o2 (chkR_zero.2 o.2))] at hr
      subst hr
      refine RunsS.retU (UnwS.ret tab Tryd.func20 rfl fun Ez Hz Az Sz K => ⟨_, rfl, rfl, K.keeps⟩)
    · rw [if_pos ⟨chkR_zero.1 o1, chkR_zero.1 o2⟩] at hr
      obtain ⟨⟨s, N, D⟩, ea, oka, la⟩ := okR_of (chkR_zero.1 o1)
      obtain ⟨⟨t, M, E⟩, eb, okb, lb⟩ := okR_of (chkR_zero.1 o2)
      rw [ea, eb, dec_enc, dec_enc] at hr
      cases ea
      cases eb
      unfold cmpQ at hr
      dsimp only at hr
      by_cases f1 : fits (N * E) <;> by_cases f2 : fits (M * D)
      · rw [if_pos ⟨f1, f2⟩] at hr
        conv => whnf
        repeat (first | (refine And.intro (by omega) ?_; (try intro _); conv => whnf) | (refine And.intro ?_ (by omega); (try intro _); conv => whnf) | (refine ⟨_, RemV.nonneg (by omega) (by omega), ?_⟩; conv => whnf))
        refine RunsS.callV (fun Ez Hz Az Sz K => rMul_fn (enc N) (enc E)) ?_
        conv => whnf
        rw [mul_e la.1 lb.2, short_e f1]
        try dsimp only
        try refine goS_run tab 1000 _ _ _ _ ?_
        conv => whnf
        repeat (first | (refine And.intro (by omega) ?_; (try intro _); conv => whnf) | (refine And.intro ?_ (by omega); (try intro _); conv => whnf) | (refine ⟨_, RemV.nonneg (by omega) (by omega), ?_⟩; conv => whnf))
        refine RunsS.callV (fun Ez Hz Az Sz K => rMul_fn (enc M) (enc D)) ?_
        conv => whnf
        rw [mul_e lb.1 la.2, short_e f2]
        try dsimp only
        try refine goS_run tab 1000 _ _ _ _ ?_
        conv => whnf
        repeat (first | (refine And.intro (by omega) ?_; (try intro _); conv => whnf) | (refine And.intro ?_ (by omega); (try intro _); conv => whnf) | (refine ⟨_, RemV.nonneg (by omega) (by omega), ?_⟩; conv => whnf))
        cases s <;> cases t
        · conv => whnf
          repeat (first | (refine And.intro (by omega) ?_; (try intro _); conv => whnf) | (refine And.intro ?_ (by omega); (try intro _); conv => whnf) | (refine ⟨_, RemV.nonneg (by omega) (by omega), ?_⟩; conv => whnf))
          refine RunsS.callV (fun Ez Hz Az Sz K => kp (rCompare_fn (enc (N * E)) (enc (M * D)))) ?_
          conv => whnf
          rw [cmp_e f1 f2]
          try dsimp only
          try refine goS_run tab 1000 _ _ _ _ ?_
          conv => whnf
          repeat (first | (refine And.intro (by omega) ?_; (try intro _); conv => whnf) | (refine And.intro ?_ (by omega); (try intro _); conv => whnf) | (refine ⟨_, RemV.nonneg (by omega) (by omega), ?_⟩; conv => whnf))
          subst hr
          refine RunsS.retU (UnwS.ret tab Tryd.func20 rfl fun Ez Hz Az Sz K => ⟨_, rfl, rfl, K.keeps⟩)
        · conv => whnf
          repeat (first | (refine And.intro (by omega) ?_; (try intro _); conv => whnf) | (refine And.intro ?_ (by omega); (try intro _); conv => whnf) | (refine ⟨_, RemV.nonneg (by omega) (by omega), ?_⟩; conv => whnf))
          subst hr
          refine RunsS.retU (UnwS.ret tab Tryd.func20 rfl fun Ez Hz Az Sz K => ⟨_, rfl, rfl, K.keeps⟩)
        · conv => whnf
          repeat (first | (refine And.intro (by omega) ?_; (try intro _); conv => whnf) | (refine And.intro ?_ (by omega); (try intro _); conv => whnf) | (refine ⟨_, RemV.nonneg (by omega) (by omega), ?_⟩; conv => whnf))
          subst hr
          refine RunsS.retU (UnwS.ret tab Tryd.func20 rfl fun Ez Hz Az Sz K => ⟨_, rfl, rfl, K.keeps⟩)
        · conv => whnf
          repeat (first | (refine And.intro (by omega) ?_; (try intro _); conv => whnf) | (refine And.intro ?_ (by omega); (try intro _); conv => whnf) | (refine ⟨_, RemV.nonneg (by omega) (by omega), ?_⟩; conv => whnf))
          refine RunsS.callV (fun Ez Hz Az Sz K => kp (rCompare_fn (enc (N * E)) (enc (M * D)))) ?_
          conv => whnf
          rw [cmp_e f1 f2]
          try dsimp only
          try refine goS_run tab 1000 _ _ _ _ ?_
          conv => whnf
          repeat (first | (refine And.intro (by omega) ?_; (try intro _); conv => whnf) | (refine And.intro ?_ (by omega); (try intro _); conv => whnf) | (refine ⟨_, RemV.nonneg (by omega) (by omega), ?_⟩; conv => whnf))
          have hcb : cmpN (N * E) (M * D) = 0 - cmpN (M * D) (N * E) ∧ -1 ≤ cmpN (N * E) (M * D) ∧ cmpN (N * E) (M * D) ≤ 1 := by unfold cmpN; split <;> split <;> omega
          conv => whnf
          repeat (first | (refine And.intro (by omega) ?_; (try intro _); conv => whnf) | (refine And.intro ?_ (by omega); (try intro _); conv => whnf) | (refine ⟨_, RemV.nonneg (by omega) (by omega), ?_⟩; conv => whnf))
          subst hr
          refine RunsS.retU (UnwS.ret tab Tryd.func20 rfl fun Ez Hz Az Sz K => ⟨_, rfl, ?_, K.keeps⟩)
          show Value.tuple #[.int .i64 (0 - cmpN (N * E) (M * D)), .int .i64 0] = Value.tuple #[.int .i64 (cmpN (M * D) (N * E)), .int .i64 0]
          rw [show 0 - cmpN (N * E) (M * D) = cmpN (M * D) (N * E) by omega]
      · rw [if_neg (fun o => f2 o.2)] at hr
        subst hr
        conv => whnf
        repeat (first | (refine And.intro (by omega) ?_; (try intro _); conv => whnf) | (refine And.intro ?_ (by omega); (try intro _); conv => whnf) | (refine ⟨_, RemV.nonneg (by omega) (by omega), ?_⟩; conv => whnf))
        refine RunsS.callV (fun Ez Hz Az Sz K => rMul_fn (enc N) (enc E)) ?_
        conv => whnf
        rw [mul_e la.1 lb.2, short_e f1]
        try dsimp only
        try refine goS_run tab 1000 _ _ _ _ ?_
        conv => whnf
        repeat (first | (refine And.intro (by omega) ?_; (try intro _); conv => whnf) | (refine And.intro ?_ (by omega); (try intro _); conv => whnf) | (refine ⟨_, RemV.nonneg (by omega) (by omega), ?_⟩; conv => whnf))
        refine RunsS.callV (fun Ez Hz Az Sz K => rMul_fn (enc M) (enc D)) ?_
        conv => whnf
        rw [mul_e lb.1 la.2, short_big f2]
        try dsimp only
        try refine goS_run tab 1000 _ _ _ _ ?_
        conv => whnf
        repeat (first | (refine And.intro (by omega) ?_; (try intro _); conv => whnf) | (refine And.intro ?_ (by omega); (try intro _); conv => whnf) | (refine ⟨_, RemV.nonneg (by omega) (by omega), ?_⟩; conv => whnf))
        refine RunsS.retU (UnwS.ret tab Tryd.func20 rfl fun Ez Hz Az Sz K => ⟨_, rfl, rfl, K.keeps⟩)
      · rw [if_neg (fun o => f1 o.1)] at hr
        subst hr
        conv => whnf
        repeat (first | (refine And.intro (by omega) ?_; (try intro _); conv => whnf) | (refine And.intro ?_ (by omega); (try intro _); conv => whnf) | (refine ⟨_, RemV.nonneg (by omega) (by omega), ?_⟩; conv => whnf))
        refine RunsS.callV (fun Ez Hz Az Sz K => rMul_fn (enc N) (enc E)) ?_
        conv => whnf
        rw [mul_e la.1 lb.2, short_big f1]
        try dsimp only
        try refine goS_run tab 1000 _ _ _ _ ?_
        conv => whnf
        repeat (first | (refine And.intro (by omega) ?_; (try intro _); conv => whnf) | (refine And.intro ?_ (by omega); (try intro _); conv => whnf) | (refine ⟨_, RemV.nonneg (by omega) (by omega), ?_⟩; conv => whnf))
        refine RunsS.callV (fun Ez Hz Az Sz K => rMul_fn (enc M) (enc D)) ?_
        conv => whnf
        rw [mul_e lb.1 la.2, short_e f2]
        try dsimp only
        try refine goS_run tab 1000 _ _ _ _ ?_
        conv => whnf
        repeat (first | (refine And.intro (by omega) ?_; (try intro _); conv => whnf) | (refine And.intro ?_ (by omega); (try intro _); conv => whnf) | (refine ⟨_, RemV.nonneg (by omega) (by omega), ?_⟩; conv => whnf))
        refine RunsS.retU (UnwS.ret tab Tryd.func20 rfl fun Ez Hz Az Sz K => ⟨_, rfl, rfl, K.keeps⟩)
      · rw [if_neg (fun o => f1 o.1)] at hr
        subst hr
        conv => whnf
        repeat (first | (refine And.intro (by omega) ?_; (try intro _); conv => whnf) | (refine And.intro ?_ (by omega); (try intro _); conv => whnf) | (refine ⟨_, RemV.nonneg (by omega) (by omega), ?_⟩; conv => whnf))
        refine RunsS.callV (fun Ez Hz Az Sz K => rMul_fn (enc N) (enc E)) ?_
        conv => whnf
        rw [mul_e la.1 lb.2, short_big f1]
        try dsimp only
        try refine goS_run tab 1000 _ _ _ _ ?_
        conv => whnf
        repeat (first | (refine And.intro (by omega) ?_; (try intro _); conv => whnf) | (refine And.intro ?_ (by omega); (try intro _); conv => whnf) | (refine ⟨_, RemV.nonneg (by omega) (by omega), ?_⟩; conv => whnf))
        refine RunsS.callV (fun Ez Hz Az Sz K => rMul_fn (enc M) (enc D)) ?_
        conv => whnf
        rw [mul_e lb.1 la.2, short_big f2]
        try dsimp only
        try refine goS_run tab 1000 _ _ _ _ ?_
        conv => whnf
        repeat (first | (refine And.intro (by omega) ?_; (try intro _); conv => whnf) | (refine And.intro ?_ (by omega); (try intro _); conv => whnf) | (refine ⟨_, RemV.nonneg (by omega) (by omega), ?_⟩; conv => whnf))
        refine RunsS.retU (UnwS.ret tab Tryd.func20 rfl fun Ez Hz Az Sz K => ⟨_, rfl, rfl, K.keeps⟩)

theorem rqFew_fn {h : Array Obj} (a : Rt) (m : Int) : FnV Tryd.prog 28 #[a.v, .int .i64 m] h fun r h' => r = .bool (decide ((a.n.size : Int) ≤ m ∧ (a.d.size : Int) ≤ m)) ∧ Keeps h.size h h' := by
  obtain ⟨s, n, d⟩ := a
  refine Fn.ofS (args := [.agg #[.bool s, .string n, .string d], .int .i64 m]) Tryd.func28 (by kernel_rfl) rfl Tryd.ntmps28 rfl fun w0 cs => ?_
  conv => whnf
  refine goS_run tab 1000 _ _ _ _ ?_
  conv => whnf
  repeat (first | (refine And.intro (by omega) ?_; (try intro _); conv => whnf) | (refine And.intro ?_ (by omega); (try intro _); conv => whnf) | (refine ⟨_, RemV.nonneg (by omega) (by omega), ?_⟩; conv => whnf))
  refine ⟨fun h1 => ?_, fun h1 => ?_⟩ <;> conv => whnf
  · conv => whnf
    repeat (first | (refine And.intro (by omega) ?_; (try intro _); conv => whnf) | (refine And.intro ?_ (by omega); (try intro _); conv => whnf) | (refine ⟨_, RemV.nonneg (by omega) (by omega), ?_⟩; conv => whnf))
    refine RunsS.retU (UnwS.ret tab Tryd.func28 rfl fun Ez Hz Az Sz K => ⟨_, rfl, ?_, K.keeps⟩)
    show Value.bool (decide ((d.size : Int) ≤ m)) = _
    simp [h1]
  · conv => whnf
    repeat (first | (refine And.intro (by omega) ?_; (try intro _); conv => whnf) | (refine And.intro ?_ (by omega); (try intro _); conv => whnf) | (refine ⟨_, RemV.nonneg (by omega) (by omega), ?_⟩; conv => whnf))
    refine RunsS.retU (UnwS.ret tab Tryd.func28 rfl fun Ez Hz Az Sz K => ⟨_, rfl, ?_, K.keeps⟩)
    show Value.bool false = _
    simp [h1]
end Go.Proofs.YtccfjcmolfbjdaaDoor

namespace Go.Proofs.YtccfjcmolfbjdaaDoor
open Go Go.Fw Go.NatM Go.RatM
set_option maxRecDepth 100000
set_option maxHeartbeats 16000000

def ratioV (neg : Bool) (n d : Int) : Rt := ⟨neg, if 0 < n then strI [n] else NatM.mt, strI [d]⟩
theorem ratio_fn {h : Array Obj} (neg : Bool) (n d : Int) : FnV Tryd.prog 22 #[.bool neg, .int .u8 n, .int .u8 d] h fun r h' => r = (ratioV neg n d).v ∧ Keeps h.size h h' := by
  refine Fn.ofS (args := [.bool neg, .int .u8 n, .int .u8 d]) Tryd.func22 (by kernel_rfl) rfl Tryd.ntmps22 rfl fun w0 cs => ?_
  conv => whnf
  refine goS_run tab 1000 _ _ _ _ ?_
  conv => whnf
  repeat (first | (refine And.intro (by omega) ?_; (try intro _); conv => whnf) | (refine And.intro ?_ (by omega); (try intro _); conv => whnf) | (refine ⟨_, RemV.nonneg (by omega) (by omega), ?_⟩; conv => whnf))
  refine ⟨[d], by rfl, ?_⟩
  conv => whnf
  repeat (first | (refine And.intro (by omega) ?_; (try intro _); conv => whnf) | (refine And.intro ?_ (by omega); (try intro _); conv => whnf) | (refine ⟨_, RemV.nonneg (by omega) (by omega), ?_⟩; conv => whnf))
  refine ⟨fun hn => ?_, fun hn => ?_⟩ <;> conv => whnf
  · conv => whnf
    repeat (first | (refine And.intro (by omega) ?_; (try intro _); conv => whnf) | (refine And.intro ?_ (by omega); (try intro _); conv => whnf) | (refine ⟨_, RemV.nonneg (by omega) (by omega), ?_⟩; conv => whnf))
    refine ⟨[n], by rfl, ?_⟩
    conv => whnf
    repeat (first | (refine And.intro (by omega) ?_; (try intro _); conv => whnf) | (refine And.intro ?_ (by omega); (try intro _); conv => whnf) | (refine ⟨_, RemV.nonneg (by omega) (by omega), ?_⟩; conv => whnf))
    refine RunsS.retU (UnwS.ret tab Tryd.func22 rfl fun Ez Hz Az Sz K => ⟨_, rfl, ?_, K.keeps⟩)
    show Value.agg #[.bool neg, .string (strI [n]), .string (strI [d])] = _
    rw [ratioV, if_pos hn]; rfl
  · conv => whnf
    repeat (first | (refine And.intro (by omega) ?_; (try intro _); conv => whnf) | (refine And.intro ?_ (by omega); (try intro _); conv => whnf) | (refine ⟨_, RemV.nonneg (by omega) (by omega), ?_⟩; conv => whnf))
    refine RunsS.retU (UnwS.ret tab Tryd.func22 rfl fun Ez Hz Az Sz K => ⟨_, rfl, ?_, K.keeps⟩)
    show Value.agg #[.bool neg, .string ⟨#[]⟩, .string (strI [d])] = _
    rw [ratioV, if_neg hn]; rfl

theorem few_fn {h : Array Obj} (m : Int) (l : List Rt) {v : Value} (hv : Ro h v 3 (rowsR l)) : FnV Tryd.prog 10 #[.int .i64 m, v] h fun r h' => r = .bool (decide (∀ a ∈ l, (a.n.size : Int) ≤ m ∧ (a.d.size : Int) ≤ m)) ∧ Keeps h.size h h' := by
  have hl := rowsR_len l
  have hm := hv.len
  refine Fn.ofG (envL [v]) 1 [.v (.int .i64 m), .buf 0] [(0, .ro (3) (rowsR l))] (fun k => k < _) Tryd.func10 (by kernel_rfl) rfl Tryd.ntmps10 rfl (fun _ hk => hk) (Sat.ros (vs := [v]) (l := [(3, rowsR l)]) ⟨hv, trivial⟩) fun w0 cs => ?_
  conv => whnf
  refine goS_run tab 1000 _ _ _ _ ?_
  conv => whnf
  repeat (first | (refine And.intro (by omega) ?_; (try intro _); conv => whnf) | (refine And.intro ?_ (by omega); (try intro _); conv => whnf) | (refine ⟨_, RemV.nonneg (by omega) (by omega), ?_⟩; conv => whnf))
  refine RunsS.subR [] (RunsS.loop (fun (k : Nat) => [(5, .v (.int .i64 k)), (0, .v (.int .i64 m)), (1, .buf 0)]) (fun (k : Nat) => [(0, .ro 3 (rowsR l))]) 1 (fun (k : Nat) => k ≤ l.length ∧ ∀ a ∈ l.take k, (a.n.size : Int) ≤ m ∧ (a.d.size : Int) ≤ m) (fun (k : Nat) => l.length - k) ?round1 (0) ?J01) ?SS1 ?HH1
  case J01 => exact (⟨by omega, by simp⟩)
  case SS1 => repeat (first | exact trivial | refine ⟨by rfl, ?_⟩)
  case HH1 => repeat (first | exact trivial | refine ⟨by rfl, ?_⟩)
  rintro k hJ back
  try dsimp only at hJ back
  conv => whnf
  try dsimp only
  refine goS_run tab 1000 _ _ _ _ ?_
  conv => whnf
  repeat (first | (refine And.intro (by omega) ?_; (try intro _); conv => whnf) | (refine And.intro ?_ (by omega); (try intro _); conv => whnf) | (refine ⟨_, RemV.nonneg (by omega) (by omega), ?_⟩; conv => whnf))
  refine ⟨fun hk => ?_, fun hk => ?_⟩ <;> conv => whnf
  · have hk : k < l.length := by omega
    conv => whnf
    repeat (first | (refine And.intro (by omega) ?_; (try intro _); conv => whnf) | (refine And.intro ?_ (by omega); (try intro _); conv => whnf) | (refine ⟨_, RemV.nonneg (by omega) (by omega), ?_⟩; conv => whnf))
    refine ⟨_, rowsR_get hk, ?_⟩
    conv => whnf
    try (refine And.intro (by first | omega | exact Nat.le_of_ble_eq_true rfl) ?_; conv => whnf)
    repeat (first | (refine And.intro (by omega) ?_; (try intro _); conv => whnf) | (refine And.intro ?_ (by omega); (try intro _); conv => whnf) | (refine ⟨_, RemV.nonneg (by omega) (by omega), ?_⟩; conv => whnf))
    by_cases hf : (l[k].n.size : Int) ≤ m ∧ (l[k].d.size : Int) ≤ m
    · refine RunsS.callV (fun Ez Hz Az Sz K => rqFew_fn l[k] m) ?_
      conv => whnf
      rw [decide_eq_true hf]
      try dsimp only
      try refine goS_run tab 1000 _ _ _ _ ?_
      conv => whnf
      repeat (first | (refine And.intro (by omega) ?_; (try intro _); conv => whnf) | (refine And.intro ?_ (by omega); (try intro _); conv => whnf) | (refine ⟨_, RemV.nonneg (by omega) (by omega), ?_⟩; conv => whnf))
      refine RunsS.subR [] (back (k + 1) ?BJ2 ?BM2) ?SS2 ?HH2
      case BJ2 => exact (⟨by omega, all_take hk hJ.2 hf⟩)
      case BM2 => (try dsimp only); omega
      case SS2 => repeat (first | exact trivial | refine ⟨by rfl, ?_⟩)
      case HH2 => repeat (first | exact trivial | refine ⟨by rfl, ?_⟩)
    · refine RunsS.callV (fun Ez Hz Az Sz K => rqFew_fn l[k] m) ?_
      conv => whnf
      rw [decide_eq_false hf]
      try dsimp only
      try refine goS_run tab 1000 _ _ _ _ ?_
      conv => whnf
      repeat (first | (refine And.intro (by omega) ?_; (try intro _); conv => whnf) | (refine And.intro ?_ (by omega); (try intro _); conv => whnf) | (refine ⟨_, RemV.nonneg (by omega) (by omega), ?_⟩; conv => whnf))
      refine RunsS.retU (UnwS.ret tab Tryd.func10 rfl fun Ez Hz Az Sz K => ⟨_, rfl, ?_, K.keeps⟩)
      rw [decide_eq_false (fun o => hf (o _ (List.getElem_mem hk)))]; rfl
  · have hk : k = l.length := by omega
    conv => whnf
    repeat (first | (refine And.intro (by omega) ?_; (try intro _); conv => whnf) | (refine And.intro ?_ (by omega); (try intro _); conv => whnf) | (refine ⟨_, RemV.nonneg (by omega) (by omega), ?_⟩; conv => whnf))
    refine RunsS.retU (UnwS.ret tab Tryd.func10 rfl fun Ez Hz Az Sz K => ⟨_, rfl, ?_, K.keeps⟩)
    have := hJ.2
    rw [hk, List.take_length] at this
    rw [decide_eq_true this]; rfl

theorem valid_fn {h : Array Obj} (l : List Rt) {v : Value} (hv : Ro h v 3 (rowsR l)) (hT : TabH h) :
    FnV Tryd.prog 21 #[v] h fun r h' => r = .bool (decide (∀ a ∈ l, okR a ∧ (a.n.size : Int) ≤ 20 ∧ (a.d.size : Int) ≤ 20)) ∧ Keeps h.size h h' := by
  have hl := rowsR_len l
  have hm := hv.len
  refine Fn.ofG (envL [v]) 1 [.buf 0] [(0, .ro (3) (rowsR l))] (fun k => k < _) Tryd.func21 (by kernel_rfl) rfl Tryd.ntmps21 rfl (fun _ hk => hk) (Sat.ros (vs := [v]) (l := [(3, rowsR l)]) ⟨hv, trivial⟩) fun w0 cs => ?_
  conv => whnf
  refine goS_run tab 1000 _ _ _ _ ?_
  conv => whnf
  repeat (first | (refine And.intro (by omega) ?_; (try intro _); conv => whnf) | (refine And.intro ?_ (by omega); (try intro _); conv => whnf) | (refine ⟨_, RemV.nonneg (by omega) (by omega), ?_⟩; conv => whnf))
  refine RunsS.subR [] (RunsS.loop (fun (k : Nat) => [(3, .v (.int .i64 k)), (0, .buf 0)]) (fun (k : Nat) => [(0, .ro 3 (rowsR l))]) 1 (fun (k : Nat) => k ≤ l.length ∧ ∀ a ∈ l.take k, okR a) (fun (k : Nat) => l.length - k) ?round3 (0) ?J03) ?SS3 ?HH3
  case J03 => exact (⟨by omega, by simp⟩)
  case SS3 => repeat (first | exact trivial | refine ⟨by rfl, ?_⟩)
  case HH3 => repeat (first | exact trivial | refine ⟨by rfl, ?_⟩)
  rintro k hJ back
  try dsimp only at hJ back
  conv => whnf
  try dsimp only
  refine goS_run tab 1000 _ _ _ _ ?_
  conv => whnf
  repeat (first | (refine And.intro (by omega) ?_; (try intro _); conv => whnf) | (refine And.intro ?_ (by omega); (try intro _); conv => whnf) | (refine ⟨_, RemV.nonneg (by omega) (by omega), ?_⟩; conv => whnf))
  refine ⟨fun hk => ?_, fun hk => ?_⟩ <;> conv => whnf
  · have hk : k < l.length := by omega
    conv => whnf
    repeat (first | (refine And.intro (by omega) ?_; (try intro _); conv => whnf) | (refine And.intro ?_ (by omega); (try intro _); conv => whnf) | (refine ⟨_, RemV.nonneg (by omega) (by omega), ?_⟩; conv => whnf))
    refine ⟨_, rowsR_get hk, ?_⟩
    conv => whnf
    try (refine And.intro (by first | omega | exact Nat.le_of_ble_eq_true rfl) ?_; conv => whnf)
    repeat (first | (refine And.intro (by omega) ?_; (try intro _); conv => whnf) | (refine And.intro ?_ (by omega); (try intro _); conv => whnf) | (refine ⟨_, RemV.nonneg (by omega) (by omega), ?_⟩; conv => whnf))
    refine RunsS.callV (fun Ez Hz Az Sz K => rtCheck_fn l[k] (hT.keeps ⟨K.size, K.same⟩)) ?_
    conv => whnf
    try refine goS_run tab 1000 _ _ _ _ ?_
    conv => whnf
    repeat (first | (refine And.intro (by omega) ?_; (try intro _); conv => whnf) | (refine And.intro ?_ (by omega); (try intro _); conv => whnf) | (refine ⟨_, RemV.nonneg (by omega) (by omega), ?_⟩; conv => whnf))
    refine ⟨fun o1 => ?_, fun o1 => ?_⟩ <;> conv => whnf
    · conv => whnf
      repeat (first | (refine And.intro (by omega) ?_; (try intro _); conv => whnf) | (refine And.intro ?_ (by omega); (try intro _); conv => whnf) | (refine ⟨_, RemV.nonneg (by omega) (by omega), ?_⟩; conv => whnf))
      have o1 := chkR_zero.1 o1
      refine RunsS.subR [] (back (k + 1) ?BJ4 ?BM4) ?SS4 ?HH4
      case BJ4 => exact (⟨by omega, all_take hk hJ.2 o1⟩)
      case BM4 => (try dsimp only); omega
      case SS4 => repeat (first | exact trivial | refine ⟨by rfl, ?_⟩)
      case HH4 => repeat (first | exact trivial | refine ⟨by rfl, ?_⟩)
    · conv => whnf
      repeat (first | (refine And.intro (by omega) ?_; (try intro _); conv => whnf) | (refine And.intro ?_ (by omega); (try intro _); conv => whnf) | (refine ⟨_, RemV.nonneg (by omega) (by omega), ?_⟩; conv => whnf))
      refine RunsS.retU (UnwS.ret tab Tryd.func21 rfl fun Ez Hz Az Sz K => ⟨_, rfl, ?_, K.keeps⟩)
      rw [decide_eq_false (fun o => o1 (chkR_zero.2 (o _ (List.getElem_mem hk)).1))]; rfl
  · have hk : k = l.length := by omega
    have hall := hJ.2
    rw [hk, List.take_length] at hall
    conv => whnf
    repeat (first | (refine And.intro (by omega) ?_; (try intro _); conv => whnf) | (refine And.intro ?_ (by omega); (try intro _); conv => whnf) | (refine ⟨_, RemV.nonneg (by omega) (by omega), ?_⟩; conv => whnf))
    refine RunsS.callV (fun Ez Hz Az Sz K => few_fn 20 l (Sz.ro (b := 0) rfl)) ?_
    conv => whnf
    try refine goS_run tab 1000 _ _ _ _ ?_
    conv => whnf
    repeat (first | (refine And.intro (by omega) ?_; (try intro _); conv => whnf) | (refine And.intro ?_ (by omega); (try intro _); conv => whnf) | (refine ⟨_, RemV.nonneg (by omega) (by omega), ?_⟩; conv => whnf))
    refine RunsS.retU (UnwS.ret tab Tryd.func21 rfl fun Ez Hz Az Sz K => ⟨_, rfl, ?_, K.keeps⟩)
    have : (∀ a ∈ l, (a.n.size : Int) ≤ 20 ∧ (a.d.size : Int) ≤ 20) ↔ (∀ a ∈ l, okR a ∧ (a.n.size : Int) ≤ 20 ∧ (a.d.size : Int) ≤ 20) := ⟨fun h a ha => ⟨hall a ha, h a ha⟩, fun h a ha => (h a ha).2⟩
    rw [← decide_eq_decide.2 this]; rfl
end Go.Proofs.YtccfjcmolfbjdaaDoor

namespace Go.Proofs.YtccfjcmolfbjdaaDoor
open Go Go.Fw Go.NatM Go.RatM
set_option maxRecDepth 100000
set_option maxHeartbeats 16000000
deriving instance DecidableEq for Go.RatM.Rt
theorem sf1 : newR 4 (-6) = (ratioV true 2 3, 0) := by decide +kernel
theorem sf2 : newR 0 (-5) = (ratioV false 0 1, 0) := by decide +kernel
theorem sf0 : newR 5 0 = (zr, 71) := by decide +kernel
theorem sf3 : addR (ratioV false 1 6) (ratioV false 1 10) = (ratioV false 4 15, 0) := by decide +kernel
theorem sf4 : mulR (ratioV true 2 3) (ratioV false 3 4) = (ratioV true 1 2, 0) := by decide +kernel
theorem sf5 : divR (ratioV false 1 2) (ratioV true 2 3) = (ratioV true 3 4, 0) := by decide +kernel
theorem sf6 : divR (ratioV true 2 3) (ratioV false 0 1) = (zr, 71) := by decide +kernel
theorem sf7 : cmpR (ratioV true 1 2) (ratioV false 0 1) = (-1, 0) := by decide +kernel
theorem sf8 : wholeR (ratioV true 1 2) false = (-1, 0) := by decide +kernel
theorem sf9 : wholeR (ratioV true 1 2) true = (0, 0) := by decide +kernel
theorem sf10 : wholeR (ratioV false 7 2) false = (3, 0) := by decide +kernel
theorem sf11 : wholeR (ratioV false 7 2) true = (4, 0) := by decide +kernel
theorem sf12 : sumR [] = (ratioV false 0 1, 0) := by decide +kernel
theorem sf13 : chkR zr = 70 := by decide +kernel
theorem sf14 : chkR (ratioV false 2 4) = 70 := by decide +kernel

def rc (a : Rt) : List SV := [.v (.bool a.neg), .v (.string a.n), .v (.string a.d)]
theorem sane_fn {h : Array Obj} (hT : TabH h) : FnV Tryd.prog 9 #[] h fun r h' => r = .bool true ∧ Keeps h.size h h' := by
  refine Fn.ofS (args := []) Tryd.func9 (by kernel_rfl) rfl Tryd.ntmps9 rfl fun w0 cs => ?_
  conv => whnf
  refine goS_run tab 1000 _ _ _ _ ?_
  conv => whnf
  repeat (first | (refine And.intro (by omega) ?_; (try intro _); conv => whnf) | (refine And.intro ?_ (by omega); (try intro _); conv => whnf) | (refine ⟨_, RemV.nonneg (by omega) (by omega), ?_⟩; conv => whnf))
  refine RunsS.callV (fun Ez Hz Az Sz K => qNew_fn 4 (-6) (by omega) (by omega) (hT.keeps K.keeps)) ?_
  conv => whnf
  rw [sf1]
  try dsimp only
  try refine goS_run tab 1000 _ _ _ _ ?_
  conv => whnf
  repeat (first | (refine And.intro (by omega) ?_; (try intro _); conv => whnf) | (refine And.intro ?_ (by omega); (try intro _); conv => whnf) | (refine ⟨_, RemV.nonneg (by omega) (by omega), ?_⟩; conv => whnf))
  refine RunsS.callV (fun Ez Hz Az Sz K => qNew_fn 0 (-5) (by omega) (by omega) (hT.keeps K.keeps)) ?_
  conv => whnf
  rw [sf2]
  try dsimp only
  try refine goS_run tab 1000 _ _ _ _ ?_
  conv => whnf
  repeat (first | (refine And.intro (by omega) ?_; (try intro _); conv => whnf) | (refine And.intro ?_ (by omega); (try intro _); conv => whnf) | (refine ⟨_, RemV.nonneg (by omega) (by omega), ?_⟩; conv => whnf))
  refine RunsS.callV (fun Ez Hz Az Sz K => qNew_fn 5 0 (by omega) (by omega) (hT.keeps K.keeps)) ?_
  conv => whnf
  rw [sf0]
  try dsimp only
  try refine goS_run tab 1000 _ _ _ _ ?_
  conv => whnf
  repeat (first | (refine And.intro (by omega) ?_; (try intro _); conv => whnf) | (refine And.intro ?_ (by omega); (try intro _); conv => whnf) | (refine ⟨_, RemV.nonneg (by omega) (by omega), ?_⟩; conv => whnf))
  refine RunsS.callV (fun Ez Hz Az Sz K => ratio_fn false 1 6) ?_
  conv => whnf
  try refine goS_run tab 1000 _ _ _ _ ?_
  conv => whnf
  repeat (first | (refine And.intro (by omega) ?_; (try intro _); conv => whnf) | (refine And.intro ?_ (by omega); (try intro _); conv => whnf) | (refine ⟨_, RemV.nonneg (by omega) (by omega), ?_⟩; conv => whnf))
  refine RunsS.callV (fun Ez Hz Az Sz K => ratio_fn false 1 10) ?_
  conv => whnf
  try refine goS_run tab 1000 _ _ _ _ ?_
  conv => whnf
  repeat (first | (refine And.intro (by omega) ?_; (try intro _); conv => whnf) | (refine And.intro ?_ (by omega); (try intro _); conv => whnf) | (refine ⟨_, RemV.nonneg (by omega) (by omega), ?_⟩; conv => whnf))
  refine RunsS.callV (fun Ez Hz Az Sz K => qAdd_fn (ratioV false 1 6) (ratioV false 1 10) (hT.keeps K.keeps)) ?_
  conv => whnf
  rw [sf3]
  try dsimp only
  try refine goS_run tab 1000 _ _ _ _ ?_
  conv => whnf
  repeat (first | (refine And.intro (by omega) ?_; (try intro _); conv => whnf) | (refine And.intro ?_ (by omega); (try intro _); conv => whnf) | (refine ⟨_, RemV.nonneg (by omega) (by omega), ?_⟩; conv => whnf))
  refine RunsS.join (fun (_ : Unit) => [(10, .v (.int .i64 0)), (9, .ptr 4 0), (8, .v (.int .i64 0)), (7, .ptr 3 0), (6, .v (.int .i64 71)), (4, .v (.int .i64 0)), (3, .ptr 1 0), (2, .v (.int .i64 0)), (1, .ptr 0 0), (0, .v (.bool false))]) (fun (_ : Unit) => [(4, .cells 23 (rc (ratioV true 1 2))), (3, .cells 23 (rc (ratioV false 4 15))), (1, .cells 23 (rc (ratioV false 0 1))), (0, .cells 23 (rc (ratioV true 2 3)))]) 5 (fun (_ : Unit) => True) ?_ (fun meet => ?_)
  rotate_left
  · refine RunsS.held tab (.fl 0 (.e2 1 [0] (.e2 2 [] (.fl 3 (.fl 4 (.fl 5 (.e1 6 [0] (.e1 7 [] (.fl 8 .done)))))) 6 [0] (.e1 2 [] (.fl 3 (.fl 4 (.fl 5 (.e1 7 [] (.fl 8 .done))))))) 6 [0] (.e1 1 [0] (.e1 2 [] (.fl 3 (.fl 4 (.fl 5 (.e1 7 [] (.fl 8 .done))))))))) (by kernel_rfl) ?_
    conv => whnf
    try refine goR_run tab _ _ _ _ _ _ ?_
    conv => whnf
    repeat (first | (refine And.intro (by omega) ?_; (try intro _); conv => whnf) | (refine And.intro ?_ (by omega); (try intro _); conv => whnf) | (refine And.intro (by (conv => whnf); (repeat (refine And.intro (by (conv => whnf); first | rfl | exact trivial) ?_; conv => whnf)); exact trivial) ?_; conv => whnf) | (refine ⟨_, RemV.nonneg (by omega) (by omega), ?_⟩; conv => whnf))
    try refine goS_run tab 1000 _ _ _ _ ?_
    conv => whnf
    repeat (first | (refine And.intro (by omega) ?_; (try intro _); conv => whnf) | (refine And.intro ?_ (by omega); (try intro _); conv => whnf) | (refine ⟨_, RemV.nonneg (by omega) (by omega), ?_⟩; conv => whnf))
    refine ⟨?_, ?_⟩
    · try refine goR_run tab _ _ _ _ _ _ ?_
      conv => whnf
      repeat (first | (refine And.intro (by omega) ?_; (try intro _); conv => whnf) | (refine And.intro ?_ (by omega); (try intro _); conv => whnf) | (refine And.intro (by (conv => whnf); (repeat (refine And.intro (by (conv => whnf); first | rfl | exact trivial) ?_; conv => whnf)); exact trivial) ?_; conv => whnf) | (refine ⟨_, RemV.nonneg (by omega) (by omega), ?_⟩; conv => whnf))
      try refine goS_run tab 1000 _ _ _ _ ?_
      conv => whnf
      repeat (first | (refine And.intro (by omega) ?_; (try intro _); conv => whnf) | (refine And.intro ?_ (by omega); (try intro _); conv => whnf) | (refine ⟨_, RemV.nonneg (by omega) (by omega), ?_⟩; conv => whnf))
      refine EffR.callV (fun Ez Hz Az Sz K => ratio_fn false 3 4) (by (conv => whnf); (repeat (refine And.intro (by (conv => whnf); first | rfl | exact trivial) ?_; conv => whnf)); exact trivial) ?_
      conv => whnf
      try refine goR_run tab _ _ _ _ _ _ ?_
      conv => whnf
      repeat (first | (refine And.intro (by omega) ?_; (try intro _); conv => whnf) | (refine And.intro ?_ (by omega); (try intro _); conv => whnf) | (refine And.intro (by (conv => whnf); (repeat (refine And.intro (by (conv => whnf); first | rfl | exact trivial) ?_; conv => whnf)); exact trivial) ?_; conv => whnf) | (refine ⟨_, RemV.nonneg (by omega) (by omega), ?_⟩; conv => whnf))
      try refine goS_run tab 1000 _ _ _ _ ?_
      conv => whnf
      repeat (first | (refine And.intro (by omega) ?_; (try intro _); conv => whnf) | (refine And.intro ?_ (by omega); (try intro _); conv => whnf) | (refine ⟨_, RemV.nonneg (by omega) (by omega), ?_⟩; conv => whnf))
      refine ⟨?_, ?_⟩
      · try refine goR_run tab _ _ _ _ _ _ ?_
        conv => whnf
        repeat (first | (refine And.intro (by omega) ?_; (try intro _); conv => whnf) | (refine And.intro ?_ (by omega); (try intro _); conv => whnf) | (refine And.intro (by (conv => whnf); (repeat (refine And.intro (by (conv => whnf); first | rfl | exact trivial) ?_; conv => whnf)); exact trivial) ?_; conv => whnf) | (refine ⟨_, RemV.nonneg (by omega) (by omega), ?_⟩; conv => whnf))
        try refine goS_run tab 1000 _ _ _ _ ?_
        conv => whnf
        repeat (first | (refine And.intro (by omega) ?_; (try intro _); conv => whnf) | (refine And.intro ?_ (by omega); (try intro _); conv => whnf) | (refine ⟨_, RemV.nonneg (by omega) (by omega), ?_⟩; conv => whnf))
        refine EffR.callV (fun Ez Hz Az Sz K => qMul_fn (ratioV true 2 3) (ratioV false 3 4) (hT.keeps K.keeps)) (by (conv => whnf); (repeat (refine And.intro (by (conv => whnf); first | rfl | exact trivial) ?_; conv => whnf)); exact trivial) ?_
        conv => whnf
        rw [sf4]
        try dsimp only
        try refine goR_run tab _ _ _ _ _ _ ?_
        conv => whnf
        repeat (first | (refine And.intro (by omega) ?_; (try intro _); conv => whnf) | (refine And.intro ?_ (by omega); (try intro _); conv => whnf) | (refine And.intro (by (conv => whnf); (repeat (refine And.intro (by (conv => whnf); first | rfl | exact trivial) ?_; conv => whnf)); exact trivial) ?_; conv => whnf) | (refine ⟨_, RemV.nonneg (by omega) (by omega), ?_⟩; conv => whnf))
        try refine goS_run tab 1000 _ _ _ _ ?_
        conv => whnf
        repeat (first | (refine And.intro (by omega) ?_; (try intro _); conv => whnf) | (refine And.intro ?_ (by omega); (try intro _); conv => whnf) | (refine ⟨_, RemV.nonneg (by omega) (by omega), ?_⟩; conv => whnf))
        refine RunsS.subR [] (meet (()) ?BJ1) ?SS1 ?HH1
        case BJ1 => first | trivial | omega | ((try dsimp only); omega)
        case SS1 => repeat (first | exact trivial | refine ⟨by rfl, ?_⟩)
        case HH1 => repeat (first | exact trivial | refine ⟨by rfl, ?_⟩)
      · try refine goR_run tab _ _ _ _ _ _ ?_
        conv => whnf
        repeat (first | (refine And.intro (by omega) ?_; (try intro _); conv => whnf) | (refine And.intro ?_ (by omega); (try intro _); conv => whnf) | (refine And.intro (by (conv => whnf); (repeat (refine And.intro (by (conv => whnf); first | rfl | exact trivial) ?_; conv => whnf)); exact trivial) ?_; conv => whnf) | (refine ⟨_, RemV.nonneg (by omega) (by omega), ?_⟩; conv => whnf))
        try refine goS_run tab 1000 _ _ _ _ ?_
        conv => whnf
        repeat (first | (refine And.intro (by omega) ?_; (try intro _); conv => whnf) | (refine And.intro ?_ (by omega); (try intro _); conv => whnf) | (refine ⟨_, RemV.nonneg (by omega) (by omega), ?_⟩; conv => whnf))
        refine EffR.callV (fun Ez Hz Az Sz K => qMul_fn (ratioV true 2 3) (ratioV false 3 4) (hT.keeps K.keeps)) (by (conv => whnf); (repeat (refine And.intro (by (conv => whnf); first | rfl | exact trivial) ?_; conv => whnf)); exact trivial) ?_
        conv => whnf
        rw [sf4]
        try dsimp only
        try refine goR_run tab _ _ _ _ _ _ ?_
        conv => whnf
        repeat (first | (refine And.intro (by omega) ?_; (try intro _); conv => whnf) | (refine And.intro ?_ (by omega); (try intro _); conv => whnf) | (refine And.intro (by (conv => whnf); (repeat (refine And.intro (by (conv => whnf); first | rfl | exact trivial) ?_; conv => whnf)); exact trivial) ?_; conv => whnf) | (refine ⟨_, RemV.nonneg (by omega) (by omega), ?_⟩; conv => whnf))
        try refine goS_run tab 1000 _ _ _ _ ?_
        conv => whnf
        repeat (first | (refine And.intro (by omega) ?_; (try intro _); conv => whnf) | (refine And.intro ?_ (by omega); (try intro _); conv => whnf) | (refine ⟨_, RemV.nonneg (by omega) (by omega), ?_⟩; conv => whnf))
        refine RunsS.subR [] (meet (()) ?BJ2) ?SS2 ?HH2
        case BJ2 => first | trivial | omega | ((try dsimp only); omega)
        case SS2 => repeat (first | exact trivial | refine ⟨by rfl, ?_⟩)
        case HH2 => repeat (first | exact trivial | refine ⟨by rfl, ?_⟩)
    · try refine goR_run tab _ _ _ _ _ _ ?_
      conv => whnf
      repeat (first | (refine And.intro (by omega) ?_; (try intro _); conv => whnf) | (refine And.intro ?_ (by omega); (try intro _); conv => whnf) | (refine And.intro (by (conv => whnf); (repeat (refine And.intro (by (conv => whnf); first | rfl | exact trivial) ?_; conv => whnf)); exact trivial) ?_; conv => whnf) | (refine ⟨_, RemV.nonneg (by omega) (by omega), ?_⟩; conv => whnf))
      try refine goS_run tab 1000 _ _ _ _ ?_
      conv => whnf
      repeat (first | (refine And.intro (by omega) ?_; (try intro _); conv => whnf) | (refine And.intro ?_ (by omega); (try intro _); conv => whnf) | (refine ⟨_, RemV.nonneg (by omega) (by omega), ?_⟩; conv => whnf))
      refine EffR.callV (fun Ez Hz Az Sz K => ratio_fn false 3 4) (by (conv => whnf); (repeat (refine And.intro (by (conv => whnf); first | rfl | exact trivial) ?_; conv => whnf)); exact trivial) ?_
      conv => whnf
      try refine goR_run tab _ _ _ _ _ _ ?_
      conv => whnf
      repeat (first | (refine And.intro (by omega) ?_; (try intro _); conv => whnf) | (refine And.intro ?_ (by omega); (try intro _); conv => whnf) | (refine And.intro (by (conv => whnf); (repeat (refine And.intro (by (conv => whnf); first | rfl | exact trivial) ?_; conv => whnf)); exact trivial) ?_; conv => whnf) | (refine ⟨_, RemV.nonneg (by omega) (by omega), ?_⟩; conv => whnf))
      try refine goS_run tab 1000 _ _ _ _ ?_
      conv => whnf
      repeat (first | (refine And.intro (by omega) ?_; (try intro _); conv => whnf) | (refine And.intro ?_ (by omega); (try intro _); conv => whnf) | (refine ⟨_, RemV.nonneg (by omega) (by omega), ?_⟩; conv => whnf))
      refine EffR.callV (fun Ez Hz Az Sz K => qMul_fn (ratioV true 2 3) (ratioV false 3 4) (hT.keeps K.keeps)) (by (conv => whnf); (repeat (refine And.intro (by (conv => whnf); first | rfl | exact trivial) ?_; conv => whnf)); exact trivial) ?_
      conv => whnf
      rw [sf4]
      try dsimp only
      try refine goR_run tab _ _ _ _ _ _ ?_
      conv => whnf
      repeat (first | (refine And.intro (by omega) ?_; (try intro _); conv => whnf) | (refine And.intro ?_ (by omega); (try intro _); conv => whnf) | (refine And.intro (by (conv => whnf); (repeat (refine And.intro (by (conv => whnf); first | rfl | exact trivial) ?_; conv => whnf)); exact trivial) ?_; conv => whnf) | (refine ⟨_, RemV.nonneg (by omega) (by omega), ?_⟩; conv => whnf))
      try refine goS_run tab 1000 _ _ _ _ ?_
      conv => whnf
      repeat (first | (refine And.intro (by omega) ?_; (try intro _); conv => whnf) | (refine And.intro ?_ (by omega); (try intro _); conv => whnf) | (refine ⟨_, RemV.nonneg (by omega) (by omega), ?_⟩; conv => whnf))
      refine RunsS.subR [] (meet (()) ?BJ3) ?SS3 ?HH3
      case BJ3 => first | trivial | omega | ((try dsimp only); omega)
      case SS3 => repeat (first | exact trivial | refine ⟨by rfl, ?_⟩)
      case HH3 => repeat (first | exact trivial | refine ⟨by rfl, ?_⟩)
  · intro _ _
    try refine goS_run tab 1000 _ _ _ _ ?_
    conv => whnf
    repeat (first | (refine And.intro (by omega) ?_; (try intro _); conv => whnf) | (refine And.intro ?_ (by omega); (try intro _); conv => whnf) | (refine ⟨_, RemV.nonneg (by omega) (by omega), ?_⟩; conv => whnf))
    refine RunsS.join (fun (_ : Unit) => [(12, .v (.int .i64 0)), (11, .ptr 5 0), (10, .v (.int .i64 0)), (9, .ptr 4 0), (8, .v (.int .i64 0)), (7, .ptr 3 0), (6, .v (.int .i64 71)), (4, .v (.int .i64 0)), (3, .ptr 1 0), (2, .v (.int .i64 0)), (1, .ptr 0 0), (0, .v (.bool false))]) (fun (_ : Unit) => [(5, .cells 23 (rc (ratioV true 3 4))), (4, .cells 23 (rc (ratioV true 1 2))), (3, .cells 23 (rc (ratioV false 4 15))), (1, .cells 23 (rc (ratioV false 0 1))), (0, .cells 23 (rc (ratioV true 2 3)))]) 6 (fun (_ : Unit) => True) ?_ (fun meet => ?_)
    rotate_left
    · refine RunsS.held tab (.fl 1 (.e2 0 [1] (.e2 2 [] (.fl 3 (.fl 4 (.fl 5 (.e1 6 [1] (.e1 7 [] (.fl 8 .done)))))) 6 [1] (.e1 2 [] (.fl 3 (.fl 4 (.fl 5 (.e1 7 [] (.fl 8 .done))))))) 6 [1] (.e1 0 [1] (.e1 2 [] (.fl 3 (.fl 4 (.fl 5 (.e1 7 [] (.fl 8 .done))))))))) (by kernel_rfl) ?_
      conv => whnf
      try refine goR_run tab _ _ _ _ _ _ ?_
      conv => whnf
      repeat (first | (refine And.intro (by omega) ?_; (try intro _); conv => whnf) | (refine And.intro ?_ (by omega); (try intro _); conv => whnf) | (refine And.intro (by (conv => whnf); (repeat (refine And.intro (by (conv => whnf); first | rfl | exact trivial) ?_; conv => whnf)); exact trivial) ?_; conv => whnf) | (refine ⟨_, RemV.nonneg (by omega) (by omega), ?_⟩; conv => whnf))
      try refine goS_run tab 1000 _ _ _ _ ?_
      conv => whnf
      repeat (first | (refine And.intro (by omega) ?_; (try intro _); conv => whnf) | (refine And.intro ?_ (by omega); (try intro _); conv => whnf) | (refine ⟨_, RemV.nonneg (by omega) (by omega), ?_⟩; conv => whnf))
      refine ⟨?_, ?_⟩
      · try refine goR_run tab _ _ _ _ _ _ ?_
        conv => whnf
        repeat (first | (refine And.intro (by omega) ?_; (try intro _); conv => whnf) | (refine And.intro ?_ (by omega); (try intro _); conv => whnf) | (refine And.intro (by (conv => whnf); (repeat (refine And.intro (by (conv => whnf); first | rfl | exact trivial) ?_; conv => whnf)); exact trivial) ?_; conv => whnf) | (refine ⟨_, RemV.nonneg (by omega) (by omega), ?_⟩; conv => whnf))
        try refine goS_run tab 1000 _ _ _ _ ?_
        conv => whnf
        repeat (first | (refine And.intro (by omega) ?_; (try intro _); conv => whnf) | (refine And.intro ?_ (by omega); (try intro _); conv => whnf) | (refine ⟨_, RemV.nonneg (by omega) (by omega), ?_⟩; conv => whnf))
        refine EffR.callV (fun Ez Hz Az Sz K => ratio_fn false 1 2) (by (conv => whnf); (repeat (refine And.intro (by (conv => whnf); first | rfl | exact trivial) ?_; conv => whnf)); exact trivial) ?_
        conv => whnf
        try refine goR_run tab _ _ _ _ _ _ ?_
        conv => whnf
        repeat (first | (refine And.intro (by omega) ?_; (try intro _); conv => whnf) | (refine And.intro ?_ (by omega); (try intro _); conv => whnf) | (refine And.intro (by (conv => whnf); (repeat (refine And.intro (by (conv => whnf); first | rfl | exact trivial) ?_; conv => whnf)); exact trivial) ?_; conv => whnf) | (refine ⟨_, RemV.nonneg (by omega) (by omega), ?_⟩; conv => whnf))
        try refine goS_run tab 1000 _ _ _ _ ?_
        conv => whnf
        repeat (first | (refine And.intro (by omega) ?_; (try intro _); conv => whnf) | (refine And.intro ?_ (by omega); (try intro _); conv => whnf) | (refine ⟨_, RemV.nonneg (by omega) (by omega), ?_⟩; conv => whnf))
        refine ⟨?_, ?_⟩
        · try refine goR_run tab _ _ _ _ _ _ ?_
          conv => whnf
          repeat (first | (refine And.intro (by omega) ?_; (try intro _); conv => whnf) | (refine And.intro ?_ (by omega); (try intro _); conv => whnf) | (refine And.intro (by (conv => whnf); (repeat (refine And.intro (by (conv => whnf); first | rfl | exact trivial) ?_; conv => whnf)); exact trivial) ?_; conv => whnf) | (refine ⟨_, RemV.nonneg (by omega) (by omega), ?_⟩; conv => whnf))
          try refine goS_run tab 1000 _ _ _ _ ?_
          conv => whnf
          repeat (first | (refine And.intro (by omega) ?_; (try intro _); conv => whnf) | (refine And.intro ?_ (by omega); (try intro _); conv => whnf) | (refine ⟨_, RemV.nonneg (by omega) (by omega), ?_⟩; conv => whnf))
          refine EffR.callV (fun Ez Hz Az Sz K => qDiv_fn (ratioV false 1 2) (ratioV true 2 3) (hT.keeps K.keeps)) (by (conv => whnf); (repeat (refine And.intro (by (conv => whnf); first | rfl | exact trivial) ?_; conv => whnf)); exact trivial) ?_
          conv => whnf
          rw [sf5]
          try dsimp only
          try refine goR_run tab _ _ _ _ _ _ ?_
          conv => whnf
          repeat (first | (refine And.intro (by omega) ?_; (try intro _); conv => whnf) | (refine And.intro ?_ (by omega); (try intro _); conv => whnf) | (refine And.intro (by (conv => whnf); (repeat (refine And.intro (by (conv => whnf); first | rfl | exact trivial) ?_; conv => whnf)); exact trivial) ?_; conv => whnf) | (refine ⟨_, RemV.nonneg (by omega) (by omega), ?_⟩; conv => whnf))
          try refine goS_run tab 1000 _ _ _ _ ?_
          conv => whnf
          repeat (first | (refine And.intro (by omega) ?_; (try intro _); conv => whnf) | (refine And.intro ?_ (by omega); (try intro _); conv => whnf) | (refine ⟨_, RemV.nonneg (by omega) (by omega), ?_⟩; conv => whnf))
          refine RunsS.subR [] (meet (()) ?BJ4) ?SS4 ?HH4
          case BJ4 => first | trivial | omega | ((try dsimp only); omega)
          case SS4 => repeat (first | exact trivial | refine ⟨by rfl, ?_⟩)
          case HH4 => repeat (first | exact trivial | refine ⟨by rfl, ?_⟩)
        · try refine goR_run tab _ _ _ _ _ _ ?_
          conv => whnf
          repeat (first | (refine And.intro (by omega) ?_; (try intro _); conv => whnf) | (refine And.intro ?_ (by omega); (try intro _); conv => whnf) | (refine And.intro (by (conv => whnf); (repeat (refine And.intro (by (conv => whnf); first | rfl | exact trivial) ?_; conv => whnf)); exact trivial) ?_; conv => whnf) | (refine ⟨_, RemV.nonneg (by omega) (by omega), ?_⟩; conv => whnf))
          try refine goS_run tab 1000 _ _ _ _ ?_
          conv => whnf
          repeat (first | (refine And.intro (by omega) ?_; (try intro _); conv => whnf) | (refine And.intro ?_ (by omega); (try intro _); conv => whnf) | (refine ⟨_, RemV.nonneg (by omega) (by omega), ?_⟩; conv => whnf))
          refine EffR.callV (fun Ez Hz Az Sz K => qDiv_fn (ratioV false 1 2) (ratioV true 2 3) (hT.keeps K.keeps)) (by (conv => whnf); (repeat (refine And.intro (by (conv => whnf); first | rfl | exact trivial) ?_; conv => whnf)); exact trivial) ?_
          conv => whnf
          rw [sf5]
          try dsimp only
          try refine goR_run tab _ _ _ _ _ _ ?_
          conv => whnf
          repeat (first | (refine And.intro (by omega) ?_; (try intro _); conv => whnf) | (refine And.intro ?_ (by omega); (try intro _); conv => whnf) | (refine And.intro (by (conv => whnf); (repeat (refine And.intro (by (conv => whnf); first | rfl | exact trivial) ?_; conv => whnf)); exact trivial) ?_; conv => whnf) | (refine ⟨_, RemV.nonneg (by omega) (by omega), ?_⟩; conv => whnf))
          try refine goS_run tab 1000 _ _ _ _ ?_
          conv => whnf
          repeat (first | (refine And.intro (by omega) ?_; (try intro _); conv => whnf) | (refine And.intro ?_ (by omega); (try intro _); conv => whnf) | (refine ⟨_, RemV.nonneg (by omega) (by omega), ?_⟩; conv => whnf))
          refine RunsS.subR [] (meet (()) ?BJ5) ?SS5 ?HH5
          case BJ5 => first | trivial | omega | ((try dsimp only); omega)
          case SS5 => repeat (first | exact trivial | refine ⟨by rfl, ?_⟩)
          case HH5 => repeat (first | exact trivial | refine ⟨by rfl, ?_⟩)
      · try refine goR_run tab _ _ _ _ _ _ ?_
        conv => whnf
        repeat (first | (refine And.intro (by omega) ?_; (try intro _); conv => whnf) | (refine And.intro ?_ (by omega); (try intro _); conv => whnf) | (refine And.intro (by (conv => whnf); (repeat (refine And.intro (by (conv => whnf); first | rfl | exact trivial) ?_; conv => whnf)); exact trivial) ?_; conv => whnf) | (refine ⟨_, RemV.nonneg (by omega) (by omega), ?_⟩; conv => whnf))
        try refine goS_run tab 1000 _ _ _ _ ?_
        conv => whnf
        repeat (first | (refine And.intro (by omega) ?_; (try intro _); conv => whnf) | (refine And.intro ?_ (by omega); (try intro _); conv => whnf) | (refine ⟨_, RemV.nonneg (by omega) (by omega), ?_⟩; conv => whnf))
        refine EffR.callV (fun Ez Hz Az Sz K => ratio_fn false 1 2) (by (conv => whnf); (repeat (refine And.intro (by (conv => whnf); first | rfl | exact trivial) ?_; conv => whnf)); exact trivial) ?_
        conv => whnf
        try refine goR_run tab _ _ _ _ _ _ ?_
        conv => whnf
        repeat (first | (refine And.intro (by omega) ?_; (try intro _); conv => whnf) | (refine And.intro ?_ (by omega); (try intro _); conv => whnf) | (refine And.intro (by (conv => whnf); (repeat (refine And.intro (by (conv => whnf); first | rfl | exact trivial) ?_; conv => whnf)); exact trivial) ?_; conv => whnf) | (refine ⟨_, RemV.nonneg (by omega) (by omega), ?_⟩; conv => whnf))
        try refine goS_run tab 1000 _ _ _ _ ?_
        conv => whnf
        repeat (first | (refine And.intro (by omega) ?_; (try intro _); conv => whnf) | (refine And.intro ?_ (by omega); (try intro _); conv => whnf) | (refine ⟨_, RemV.nonneg (by omega) (by omega), ?_⟩; conv => whnf))
        refine EffR.callV (fun Ez Hz Az Sz K => qDiv_fn (ratioV false 1 2) (ratioV true 2 3) (hT.keeps K.keeps)) (by (conv => whnf); (repeat (refine And.intro (by (conv => whnf); first | rfl | exact trivial) ?_; conv => whnf)); exact trivial) ?_
        conv => whnf
        rw [sf5]
        try dsimp only
        try refine goR_run tab _ _ _ _ _ _ ?_
        conv => whnf
        repeat (first | (refine And.intro (by omega) ?_; (try intro _); conv => whnf) | (refine And.intro ?_ (by omega); (try intro _); conv => whnf) | (refine And.intro (by (conv => whnf); (repeat (refine And.intro (by (conv => whnf); first | rfl | exact trivial) ?_; conv => whnf)); exact trivial) ?_; conv => whnf) | (refine ⟨_, RemV.nonneg (by omega) (by omega), ?_⟩; conv => whnf))
        try refine goS_run tab 1000 _ _ _ _ ?_
        conv => whnf
        repeat (first | (refine And.intro (by omega) ?_; (try intro _); conv => whnf) | (refine And.intro ?_ (by omega); (try intro _); conv => whnf) | (refine ⟨_, RemV.nonneg (by omega) (by omega), ?_⟩; conv => whnf))
        refine RunsS.subR [] (meet (()) ?BJ6) ?SS6 ?HH6
        case BJ6 => first | trivial | omega | ((try dsimp only); omega)
        case SS6 => repeat (first | exact trivial | refine ⟨by rfl, ?_⟩)
        case HH6 => repeat (first | exact trivial | refine ⟨by rfl, ?_⟩)
    · intro _ _
      try refine goS_run tab 1000 _ _ _ _ ?_
      conv => whnf
      repeat (first | (refine And.intro (by omega) ?_; (try intro _); conv => whnf) | (refine And.intro ?_ (by omega); (try intro _); conv => whnf) | (refine ⟨_, RemV.nonneg (by omega) (by omega), ?_⟩; conv => whnf))
      refine RunsS.callV (fun Ez Hz Az Sz K => qDiv_fn (ratioV true 2 3) (ratioV false 0 1) (hT.keeps K.keeps)) ?_
      conv => whnf
      rw [sf6]
      try dsimp only
      try refine goS_run tab 1000 _ _ _ _ ?_
      conv => whnf
      repeat (first | (refine And.intro (by omega) ?_; (try intro _); conv => whnf) | (refine And.intro ?_ (by omega); (try intro _); conv => whnf) | (refine ⟨_, RemV.nonneg (by omega) (by omega), ?_⟩; conv => whnf))
      refine RunsS.held tab (.fl 1 (.e1 0 [1] (.e1 2 [] (.fl 3 (.fl 4 (.fl 5 (.fl 6 (.fl 7 .done)))))))) (by kernel_rfl) ?_
      conv => whnf
      try refine goR_run tab _ _ _ _ _ _ ?_
      conv => whnf
      repeat (first | (refine And.intro (by omega) ?_; (try intro _); conv => whnf) | (refine And.intro ?_ (by omega); (try intro _); conv => whnf) | (refine And.intro (by (conv => whnf); (repeat (refine And.intro (by (conv => whnf); first | rfl | exact trivial) ?_; conv => whnf)); exact trivial) ?_; conv => whnf) | (refine ⟨_, RemV.nonneg (by omega) (by omega), ?_⟩; conv => whnf))
      try refine goS_run tab 1000 _ _ _ _ ?_
      conv => whnf
      repeat (first | (refine And.intro (by omega) ?_; (try intro _); conv => whnf) | (refine And.intro ?_ (by omega); (try intro _); conv => whnf) | (refine ⟨_, RemV.nonneg (by omega) (by omega), ?_⟩; conv => whnf))
      refine EffR.callV (fun Ez Hz Az Sz K => ratio_fn true 1 2) (by (conv => whnf); (repeat (refine And.intro (by (conv => whnf); first | rfl | exact trivial) ?_; conv => whnf)); exact trivial) ?_
      conv => whnf
      try refine goR_run tab _ _ _ _ _ _ ?_
      conv => whnf
      repeat (first | (refine And.intro (by omega) ?_; (try intro _); conv => whnf) | (refine And.intro ?_ (by omega); (try intro _); conv => whnf) | (refine And.intro (by (conv => whnf); (repeat (refine And.intro (by (conv => whnf); first | rfl | exact trivial) ?_; conv => whnf)); exact trivial) ?_; conv => whnf) | (refine ⟨_, RemV.nonneg (by omega) (by omega), ?_⟩; conv => whnf))
      try refine goS_run tab 1000 _ _ _ _ ?_
      conv => whnf
      repeat (first | (refine And.intro (by omega) ?_; (try intro _); conv => whnf) | (refine And.intro ?_ (by omega); (try intro _); conv => whnf) | (refine ⟨_, RemV.nonneg (by omega) (by omega), ?_⟩; conv => whnf))
      refine EffR.callV (fun Ez Hz Az Sz K => qCompare_fn (ratioV true 1 2) (ratioV false 0 1) (hT.keeps K.keeps)) (by (conv => whnf); (repeat (refine And.intro (by (conv => whnf); first | rfl | exact trivial) ?_; conv => whnf)); exact trivial) ?_
      conv => whnf
      rw [sf7]
      try dsimp only
      try refine goR_run tab _ _ _ _ _ _ ?_
      conv => whnf
      repeat (first | (refine And.intro (by omega) ?_; (try intro _); conv => whnf) | (refine And.intro ?_ (by omega); (try intro _); conv => whnf) | (refine And.intro (by (conv => whnf); (repeat (refine And.intro (by (conv => whnf); first | rfl | exact trivial) ?_; conv => whnf)); exact trivial) ?_; conv => whnf) | (refine ⟨_, RemV.nonneg (by omega) (by omega), ?_⟩; conv => whnf))
      try refine goS_run tab 1000 _ _ _ _ ?_
      conv => whnf
      repeat (first | (refine And.intro (by omega) ?_; (try intro _); conv => whnf) | (refine And.intro ?_ (by omega); (try intro _); conv => whnf) | (refine ⟨_, RemV.nonneg (by omega) (by omega), ?_⟩; conv => whnf))
      refine RunsS.callV (fun Ez Hz Az Sz K => ratio_fn true 1 2) ?_
      conv => whnf
      try refine goS_run tab 1000 _ _ _ _ ?_
      conv => whnf
      repeat (first | (refine And.intro (by omega) ?_; (try intro _); conv => whnf) | (refine And.intro ?_ (by omega); (try intro _); conv => whnf) | (refine ⟨_, RemV.nonneg (by omega) (by omega), ?_⟩; conv => whnf))
      refine RunsS.callV (fun Ez Hz Az Sz K => Floor_fn (ratioV true 1 2) (hT.keeps K.keeps)) ?_
      conv => whnf
      rw [sf8]
      try dsimp only
      try refine goS_run tab 1000 _ _ _ _ ?_
      conv => whnf
      repeat (first | (refine And.intro (by omega) ?_; (try intro _); conv => whnf) | (refine And.intro ?_ (by omega); (try intro _); conv => whnf) | (refine ⟨_, RemV.nonneg (by omega) (by omega), ?_⟩; conv => whnf))
      refine RunsS.callV (fun Ez Hz Az Sz K => ratio_fn true 1 2) ?_
      conv => whnf
      try refine goS_run tab 1000 _ _ _ _ ?_
      conv => whnf
      repeat (first | (refine And.intro (by omega) ?_; (try intro _); conv => whnf) | (refine And.intro ?_ (by omega); (try intro _); conv => whnf) | (refine ⟨_, RemV.nonneg (by omega) (by omega), ?_⟩; conv => whnf))
      refine RunsS.callV (fun Ez Hz Az Sz K => Ceil_fn (ratioV true 1 2) (hT.keeps K.keeps)) ?_
      conv => whnf
      rw [sf9]
      try dsimp only
      try refine goS_run tab 1000 _ _ _ _ ?_
      conv => whnf
      repeat (first | (refine And.intro (by omega) ?_; (try intro _); conv => whnf) | (refine And.intro ?_ (by omega); (try intro _); conv => whnf) | (refine ⟨_, RemV.nonneg (by omega) (by omega), ?_⟩; conv => whnf))
      refine RunsS.callV (fun Ez Hz Az Sz K => ratio_fn false 7 2) ?_
      conv => whnf
      try refine goS_run tab 1000 _ _ _ _ ?_
      conv => whnf
      repeat (first | (refine And.intro (by omega) ?_; (try intro _); conv => whnf) | (refine And.intro ?_ (by omega); (try intro _); conv => whnf) | (refine ⟨_, RemV.nonneg (by omega) (by omega), ?_⟩; conv => whnf))
      refine RunsS.callV (fun Ez Hz Az Sz K => Floor_fn (ratioV false 7 2) (hT.keeps K.keeps)) ?_
      conv => whnf
      rw [sf10]
      try dsimp only
      try refine goS_run tab 1000 _ _ _ _ ?_
      conv => whnf
      repeat (first | (refine And.intro (by omega) ?_; (try intro _); conv => whnf) | (refine And.intro ?_ (by omega); (try intro _); conv => whnf) | (refine ⟨_, RemV.nonneg (by omega) (by omega), ?_⟩; conv => whnf))
      refine RunsS.callV (fun Ez Hz Az Sz K => ratio_fn false 7 2) ?_
      conv => whnf
      try refine goS_run tab 1000 _ _ _ _ ?_
      conv => whnf
      repeat (first | (refine And.intro (by omega) ?_; (try intro _); conv => whnf) | (refine And.intro ?_ (by omega); (try intro _); conv => whnf) | (refine ⟨_, RemV.nonneg (by omega) (by omega), ?_⟩; conv => whnf))
      refine RunsS.callV (fun Ez Hz Az Sz K => Ceil_fn (ratioV false 7 2) (hT.keeps K.keeps)) ?_
      conv => whnf
      rw [sf11]
      try dsimp only
      try refine goS_run tab 1000 _ _ _ _ ?_
      conv => whnf
      repeat (first | (refine And.intro (by omega) ?_; (try intro _); conv => whnf) | (refine And.intro ?_ (by omega); (try intro _); conv => whnf) | (refine ⟨_, RemV.nonneg (by omega) (by omega), ?_⟩; conv => whnf))
      refine RunsS.callV (fun Ez Hz Az Sz K => Sum_fn [] Ro.nil (hT.keeps K.keeps)) ?_
      conv => whnf
      rw [sf12]
      try dsimp only
      try refine goS_run tab 1000 _ _ _ _ ?_
      conv => whnf
      repeat (first | (refine And.intro (by omega) ?_; (try intro _); conv => whnf) | (refine And.intro ?_ (by omega); (try intro _); conv => whnf) | (refine ⟨_, RemV.nonneg (by omega) (by omega), ?_⟩; conv => whnf))
      refine RunsS.callV (fun Ez Hz Az Sz K => rtCheck_fn zr (hT.keeps K.keeps)) ?_
      conv => whnf
      rw [sf13]
      try dsimp only
      try refine goS_run tab 1000 _ _ _ _ ?_
      conv => whnf
      repeat (first | (refine And.intro (by omega) ?_; (try intro _); conv => whnf) | (refine And.intro ?_ (by omega); (try intro _); conv => whnf) | (refine ⟨_, RemV.nonneg (by omega) (by omega), ?_⟩; conv => whnf))
      refine RunsS.callV (fun Ez Hz Az Sz K => ratio_fn false 2 4) ?_
      conv => whnf
      try refine goS_run tab 1000 _ _ _ _ ?_
      conv => whnf
      repeat (first | (refine And.intro (by omega) ?_; (try intro _); conv => whnf) | (refine And.intro ?_ (by omega); (try intro _); conv => whnf) | (refine ⟨_, RemV.nonneg (by omega) (by omega), ?_⟩; conv => whnf))
      refine RunsS.callV (fun Ez Hz Az Sz K => rtCheck_fn (ratioV false 2 4) (hT.keeps K.keeps)) ?_
      conv => whnf
      rw [sf14]
      try dsimp only
      try refine goS_run tab 1000 _ _ _ _ ?_
      conv => whnf
      repeat (first | (refine And.intro (by omega) ?_; (try intro _); conv => whnf) | (refine And.intro ?_ (by omega); (try intro _); conv => whnf) | (refine ⟨_, RemV.nonneg (by omega) (by omega), ?_⟩; conv => whnf))
      refine RunsS.held tab (.fl 0 (.e1 1 [0] (.fl 2 (.fl 3 (.fl 4 (.e1 5 [4] (.fl 6 (.fl 7 (.fl 8 (.fl 9 (.e1 10 [9] (.fl 11 (.fl 12 (.fl 13 (.fl 14 (.e1 15 [14] (.fl 16 (.fl 17 (.fl 18 (.fl 19 (.e1 20 [19] (.fl 21 (.fl 22 (.fl 23 (.fl 24 (.fl 25 (.fl 26 (.fl 27 (.fl 28 (.fl 29 (.fl 30 (.fl 31 (.fl 32 (.fl 33 (.fl 34 (.fl 35 (.fl 36 (.fl 37 (.fl 38 (.fl 39 (.fl 40 (.fl 41 (.fl 42 (.fl 43 (.fl 44 (.fl 45 (.fl 46 (.fl 47 (.fl 48 .done))))))))))))))))))))))))))))))))))))))))))))))))) (by kernel_rfl) ?_
      conv => whnf
      try refine goR_run tab _ _ _ _ _ _ ?_
      conv => whnf
      repeat (first | (refine And.intro (by omega) ?_; (try intro _); conv => whnf) | (refine And.intro ?_ (by omega); (try intro _); conv => whnf) | (refine And.intro (by (conv => whnf); (repeat (refine And.intro (by (conv => whnf); first | rfl | exact trivial) ?_; conv => whnf)); exact trivial) ?_; conv => whnf) | (refine ⟨_, RemV.nonneg (by omega) (by omega), ?_⟩; conv => whnf))
      try refine goS_run tab 1000 _ _ _ _ ?_
      conv => whnf
      repeat (first | (refine And.intro (by omega) ?_; (try intro _); conv => whnf) | (refine And.intro ?_ (by omega); (try intro _); conv => whnf) | (refine ⟨_, RemV.nonneg (by omega) (by omega), ?_⟩; conv => whnf))
      refine EffR.callV (fun Ez Hz Az Sz K => ratio_fn true 2 3) (by (conv => whnf); (repeat (refine And.intro (by (conv => whnf); first | rfl | exact trivial) ?_; conv => whnf)); exact trivial) ?_
      conv => whnf
      try refine goR_run tab _ _ _ _ _ _ ?_
      conv => whnf
      repeat (first | (refine And.intro (by omega) ?_; (try intro _); conv => whnf) | (refine And.intro ?_ (by omega); (try intro _); conv => whnf) | (refine And.intro (by (conv => whnf); (repeat (refine And.intro (by (conv => whnf); first | rfl | exact trivial) ?_; conv => whnf)); exact trivial) ?_; conv => whnf) | (refine ⟨_, RemV.nonneg (by omega) (by omega), ?_⟩; conv => whnf))
      try refine goS_run tab 1000 _ _ _ _ ?_
      conv => whnf
      repeat (first | (refine And.intro (by omega) ?_; (try intro _); conv => whnf) | (refine And.intro ?_ (by omega); (try intro _); conv => whnf) | (refine ⟨_, RemV.nonneg (by omega) (by omega), ?_⟩; conv => whnf))
      refine And.intro (fun _ => ?_) (fun hn => absurd (⟨rfl, rfl, rfl⟩) hn)
      conv => whnf
      try refine goR_run tab _ _ _ _ _ _ ?_
      conv => whnf
      repeat (first | (refine And.intro (by omega) ?_; (try intro _); conv => whnf) | (refine And.intro ?_ (by omega); (try intro _); conv => whnf) | (refine And.intro (by (conv => whnf); (repeat (refine And.intro (by (conv => whnf); first | rfl | exact trivial) ?_; conv => whnf)); exact trivial) ?_; conv => whnf) | (refine ⟨_, RemV.nonneg (by omega) (by omega), ?_⟩; conv => whnf))
      try refine goS_run tab 1000 _ _ _ _ ?_
      conv => whnf
      repeat (first | (refine And.intro (by omega) ?_; (try intro _); conv => whnf) | (refine And.intro ?_ (by omega); (try intro _); conv => whnf) | (refine ⟨_, RemV.nonneg (by omega) (by omega), ?_⟩; conv => whnf))
      refine EffR.callV (fun Ez Hz Az Sz K => ratio_fn false 0 1) (by (conv => whnf); (repeat (refine And.intro (by (conv => whnf); first | rfl | exact trivial) ?_; conv => whnf)); exact trivial) ?_
      conv => whnf
      try refine goR_run tab _ _ _ _ _ _ ?_
      conv => whnf
      repeat (first | (refine And.intro (by omega) ?_; (try intro _); conv => whnf) | (refine And.intro ?_ (by omega); (try intro _); conv => whnf) | (refine And.intro (by (conv => whnf); (repeat (refine And.intro (by (conv => whnf); first | rfl | exact trivial) ?_; conv => whnf)); exact trivial) ?_; conv => whnf) | (refine ⟨_, RemV.nonneg (by omega) (by omega), ?_⟩; conv => whnf))
      try refine goS_run tab 1000 _ _ _ _ ?_
      conv => whnf
      repeat (first | (refine And.intro (by omega) ?_; (try intro _); conv => whnf) | (refine And.intro ?_ (by omega); (try intro _); conv => whnf) | (refine ⟨_, RemV.nonneg (by omega) (by omega), ?_⟩; conv => whnf))
      refine And.intro (fun _ => ?_) (fun hn => absurd (⟨rfl, rfl, rfl⟩) hn)
      conv => whnf
      try refine goR_run tab _ _ _ _ _ _ ?_
      conv => whnf
      repeat (first | (refine And.intro (by omega) ?_; (try intro _); conv => whnf) | (refine And.intro ?_ (by omega); (try intro _); conv => whnf) | (refine And.intro (by (conv => whnf); (repeat (refine And.intro (by (conv => whnf); first | rfl | exact trivial) ?_; conv => whnf)); exact trivial) ?_; conv => whnf) | (refine ⟨_, RemV.nonneg (by omega) (by omega), ?_⟩; conv => whnf))
      try refine goS_run tab 1000 _ _ _ _ ?_
      conv => whnf
      repeat (first | (refine And.intro (by omega) ?_; (try intro _); conv => whnf) | (refine And.intro ?_ (by omega); (try intro _); conv => whnf) | (refine ⟨_, RemV.nonneg (by omega) (by omega), ?_⟩; conv => whnf))
      refine EffR.callV (fun Ez Hz Az Sz K => ratio_fn false 4 15) (by (conv => whnf); (repeat (refine And.intro (by (conv => whnf); first | rfl | exact trivial) ?_; conv => whnf)); exact trivial) ?_
      conv => whnf
      try refine goR_run tab _ _ _ _ _ _ ?_
      conv => whnf
      repeat (first | (refine And.intro (by omega) ?_; (try intro _); conv => whnf) | (refine And.intro ?_ (by omega); (try intro _); conv => whnf) | (refine And.intro (by (conv => whnf); (repeat (refine And.intro (by (conv => whnf); first | rfl | exact trivial) ?_; conv => whnf)); exact trivial) ?_; conv => whnf) | (refine ⟨_, RemV.nonneg (by omega) (by omega), ?_⟩; conv => whnf))
      try refine goS_run tab 1000 _ _ _ _ ?_
      conv => whnf
      repeat (first | (refine And.intro (by omega) ?_; (try intro _); conv => whnf) | (refine And.intro ?_ (by omega); (try intro _); conv => whnf) | (refine ⟨_, RemV.nonneg (by omega) (by omega), ?_⟩; conv => whnf))
      refine And.intro (fun _ => ?_) (fun hn => absurd (⟨rfl, rfl, rfl⟩) hn)
      conv => whnf
      try refine goR_run tab _ _ _ _ _ _ ?_
      conv => whnf
      repeat (first | (refine And.intro (by omega) ?_; (try intro _); conv => whnf) | (refine And.intro ?_ (by omega); (try intro _); conv => whnf) | (refine And.intro (by (conv => whnf); (repeat (refine And.intro (by (conv => whnf); first | rfl | exact trivial) ?_; conv => whnf)); exact trivial) ?_; conv => whnf) | (refine ⟨_, RemV.nonneg (by omega) (by omega), ?_⟩; conv => whnf))
      try refine goS_run tab 1000 _ _ _ _ ?_
      conv => whnf
      repeat (first | (refine And.intro (by omega) ?_; (try intro _); conv => whnf) | (refine And.intro ?_ (by omega); (try intro _); conv => whnf) | (refine ⟨_, RemV.nonneg (by omega) (by omega), ?_⟩; conv => whnf))
      refine EffR.callV (fun Ez Hz Az Sz K => ratio_fn true 1 2) (by (conv => whnf); (repeat (refine And.intro (by (conv => whnf); first | rfl | exact trivial) ?_; conv => whnf)); exact trivial) ?_
      conv => whnf
      try refine goR_run tab _ _ _ _ _ _ ?_
      conv => whnf
      repeat (first | (refine And.intro (by omega) ?_; (try intro _); conv => whnf) | (refine And.intro ?_ (by omega); (try intro _); conv => whnf) | (refine And.intro (by (conv => whnf); (repeat (refine And.intro (by (conv => whnf); first | rfl | exact trivial) ?_; conv => whnf)); exact trivial) ?_; conv => whnf) | (refine ⟨_, RemV.nonneg (by omega) (by omega), ?_⟩; conv => whnf))
      try refine goS_run tab 1000 _ _ _ _ ?_
      conv => whnf
      repeat (first | (refine And.intro (by omega) ?_; (try intro _); conv => whnf) | (refine And.intro ?_ (by omega); (try intro _); conv => whnf) | (refine ⟨_, RemV.nonneg (by omega) (by omega), ?_⟩; conv => whnf))
      refine And.intro (fun _ => ?_) (fun hn => absurd (⟨rfl, rfl, rfl⟩) hn)
      conv => whnf
      try refine goR_run tab _ _ _ _ _ _ ?_
      conv => whnf
      repeat (first | (refine And.intro (by omega) ?_; (try intro _); conv => whnf) | (refine And.intro ?_ (by omega); (try intro _); conv => whnf) | (refine And.intro (by (conv => whnf); (repeat (refine And.intro (by (conv => whnf); first | rfl | exact trivial) ?_; conv => whnf)); exact trivial) ?_; conv => whnf) | (refine ⟨_, RemV.nonneg (by omega) (by omega), ?_⟩; conv => whnf))
      try refine goS_run tab 1000 _ _ _ _ ?_
      conv => whnf
      repeat (first | (refine And.intro (by omega) ?_; (try intro _); conv => whnf) | (refine And.intro ?_ (by omega); (try intro _); conv => whnf) | (refine ⟨_, RemV.nonneg (by omega) (by omega), ?_⟩; conv => whnf))
      refine EffR.callV (fun Ez Hz Az Sz K => ratio_fn true 3 4) (by (conv => whnf); (repeat (refine And.intro (by (conv => whnf); first | rfl | exact trivial) ?_; conv => whnf)); exact trivial) ?_
      conv => whnf
      try refine goR_run tab _ _ _ _ _ _ ?_
      conv => whnf
      repeat (first | (refine And.intro (by omega) ?_; (try intro _); conv => whnf) | (refine And.intro ?_ (by omega); (try intro _); conv => whnf) | (refine And.intro (by (conv => whnf); (repeat (refine And.intro (by (conv => whnf); first | rfl | exact trivial) ?_; conv => whnf)); exact trivial) ?_; conv => whnf) | (refine ⟨_, RemV.nonneg (by omega) (by omega), ?_⟩; conv => whnf))
      try refine goS_run tab 1000 _ _ _ _ ?_
      conv => whnf
      repeat (first | (refine And.intro (by omega) ?_; (try intro _); conv => whnf) | (refine And.intro ?_ (by omega); (try intro _); conv => whnf) | (refine ⟨_, RemV.nonneg (by omega) (by omega), ?_⟩; conv => whnf))
      refine And.intro (fun _ => ?_) (fun hn => absurd (⟨rfl, rfl, rfl⟩) hn)
      conv => whnf
      try refine goR_run tab _ _ _ _ _ _ ?_
      conv => whnf
      repeat (first | (refine And.intro (by omega) ?_; (try intro _); conv => whnf) | (refine And.intro ?_ (by omega); (try intro _); conv => whnf) | (refine And.intro (by (conv => whnf); (repeat (refine And.intro (by (conv => whnf); first | rfl | exact trivial) ?_; conv => whnf)); exact trivial) ?_; conv => whnf) | (refine ⟨_, RemV.nonneg (by omega) (by omega), ?_⟩; conv => whnf))
      try refine goS_run tab 1000 _ _ _ _ ?_
      conv => whnf
      repeat (first | (refine And.intro (by omega) ?_; (try intro _); conv => whnf) | (refine And.intro ?_ (by omega); (try intro _); conv => whnf) | (refine ⟨_, RemV.nonneg (by omega) (by omega), ?_⟩; conv => whnf))
      refine RunsS.retU (UnwS.ret tab Tryd.func9 rfl fun Ez Hz Az Sz K => ⟨_, rfl, ?_, K.keeps⟩)
      exact congrArg Value.bool (decide_eq_true ⟨rfl, rfl, rfl⟩)
end Go.Proofs.YtccfjcmolfbjdaaDoor

namespace Go.Proofs.YtccfjcmolfbjdaaDoor
open Go Go.Fw Go.ChangeShapes Go.WideShapes Go.ChangeAt Go.RowKit

theorem own : ownKnob Tryd.prog.godebug = none := by kernel_rfl
theorem gTab : Tryd.prog.globalNamed "math/bits.deBruijn64tab" = some 2 := by kernel_rfl
theorem gTabType : (Tryd.prog.globals[2]?).map (·.type) = some 116 := by kernel_rfl
theorem cellsTab : Tryd.prog.cellsOf 116 = 64 := by kernel_rfl
theorem cellsByte : Tryd.prog.cellsOf 5 = 1 := by kernel_rfl

theorem table {W : World} (h : laidMetH Tryd.prog [("math/bits.deBruijn64tab", Rows.laid_math_bits_deBruijn64tab)] W) : TabH W.heap := by
  have h1 : Lib.TabIs Tryd.prog W "math/bits.deBruijn64tab" .u8 (Go.Lib.deBruijn64tab.map fun (x : Nat) => (x : Int)) :=
    Lib.tabIs_of_head (rest := []) gTab gTabType Tryd.underlying116 Tryd.underlying5 cellsByte cellsTab h
  intro j hj
  have h2 := cellH_of (h1.cell gTab j (by simpa [Go.Lib.deBruijn64tab] using hj))
  have hl : j < Go.Lib.deBruijn64tab.length := by simpa [Go.Lib.deBruijn64tab] using hj
  have hd : (Go.Lib.deBruijn64tab.map fun (x : Nat) => (x : Int)).getD j 0 = ((Go.Lib.deBruijn64tab.getD j 0 : Nat) : Int) := by
    simp [List.getD_eq_getElem?_getD, List.getElem?_map, List.getElem?_eq_getElem hl]
  rw [hd] at h2
  exact h2

/-- The settled world, the table holding what its initialiser lays. -/
noncomputable def laidWorld (os : Os) : World :=
  { World.holding Tryd.prog os ⟨#[], #[], []⟩ with heap := (World.holding Tryd.prog os ⟨#[], #[], []⟩).heap.modify 2 fun
      | .cells _ t frozen => .cells (Go.Lib.deBruijn64tab.map fun (x : Nat) => Value.int .u8 (x : Int)).toArray t frozen
      | o => o }
end Go.Proofs.YtccfjcmolfbjdaaDoor

namespace Go.Fw
open Go Go.ChangeShapes Go.ChangeMaps Go.WideShapes Go.RowKit
section
variable {H : Type} {enc : TypeId × Value → H} {P : Program} {w : World} {base : Nat} {sp : Nat → Bool} {held : Bool} {t : TypeId} {f0 f1 f2 : Field}

/-- the type of such a struct -/
structure Bss (P : Program) (t : TypeId) (f0 f1 f2 : Field) : Prop where
  ht : P.underlying t = some (.struct #[f0, f1, f2])
  h0 : P.underlying f0.type = some .bool
  h1 : P.underlying f1.type = some .string
  h2 : P.underlying f2.type = some .string
  hc : P.cellsOf t = 3
  c0 : P.cellsOf f0.type = 1
  c1 : P.cellsOf f1.type = 1
  c2 : P.cellsOf f2.type = 1
  o0 : f0.offset = 0
  o1 : f1.offset = 1
  o2 : f2.offset = 2

theorem trod_bss (B : Bss P t f0 f1 f2) {fuel : Nat} {cs : List Value} {x : DataW H × List MemPlace} (h : DataW.trod enc P w base sp held fuel t cs = some x) :
    ∃ b s u, cs = [.bool b, .string s, .string u] ∧ x = (.agg [.lit (.bool b), .lit (.string s.data.toList), .lit (.string u.data.toList)], []) ∧ s.size ≤ maxLen ∧ u.size ≤ maxLen := by
  obtain ⟨xs, n, _, rfl, hl, hlen, hf⟩ := DataW.trod_struct B.ht h
  rw [B.hc] at hl
  match xs, hlen with
  | [y0, y1, y2], _ =>
    have g0 := hf 0 f0 rfl
    have g1 := hf 1 f1 rfl
    have g2 := hf 2 f2 rfl
    rw [B.c0, B.o0] at g0
    rw [B.c1, B.o1] at g1
    rw [B.c2, B.o2] at g2
    match cs, hl with
    | [a0, a1, a2], _ =>
      obtain ⟨b, e0, q0⟩ := DataW.trod_bool B.h0 g0
      obtain ⟨s, e1, q1, m1⟩ := DataW.trod_string B.h1 g1
      obtain ⟨u, e2, q2, m2⟩ := DataW.trod_string B.h2 g2
      simp at e0 e1 e2
      subst e0 e1 e2
      refine ⟨b, s, u, rfl, ?_, m1, m2⟩
      have r0 : y0 = (.lit (.bool b), []) := by simpa using q0
      have r1 : y1 = (.lit (.string s.data.toList), []) := by simpa using q1
      have r2 : y2 = (.lit (.string u.data.toList), []) := by simpa using q2
      subst r0 r1 r2
      simp

theorem trod_bss_mk (B : Bss P t f0 f1 f2) (m : Nat) (b : Bool) {s u : ByteArray} (hs : s.size ≤ maxLen) (hu : u.size ≤ maxLen) :
    DataW.trod enc P w base sp held (m + 2) t [.bool b, .string s, .string u] = some (.agg [.lit (.bool b), .lit (.string s.data.toList), .lit (.string u.data.toList)], []) := by
  have h := trod_struct_mk (enc := enc) (w := w) (base := base) (spare := sp) (held := held) (n := m + 1) (cs := [.bool b, .string s, .string u])
    (xs := [(.lit (.bool b), []), (.lit (.string s.data.toList), []), (.lit (.string u.data.toList), [])]) B.ht (by rw [B.hc]; rfl) (by
      simp [B.c0, B.c1, B.c2, B.o0, B.o1, B.o2, DataW.trod, B.h0, B.h1, B.h2, hs, hu])
  simpa using h

theorem open_bss (B : Bss P t f0 f1 f2) {r : Reach} {b0 : Nat} {v : Value} {d : DataW H} {ps : List MemPlace} (hval : Value.okWide P w r b0 t v) (hd : DataW.Trod enc P w base sp held t v d ps) :
    ∃ b s u, v = .agg #[.bool b, .string s, .string u] ∧ d = .agg [.lit (.bool b), .lit (.string s.data.toList), .lit (.string u.data.toList)] ∧ ps = [] ∧ s.size ≤ maxLen ∧ u.size ≤ maxLen := by
  obtain ⟨cs, rfl, _⟩ := okWide_struct B.ht hval
  obtain ⟨fuel, hf⟩ := hd
  obtain ⟨b, s, u, h1, h2, h3, h4⟩ := trod_bss B hf
  simp only [Prod.mk.injEq] at h2
  refine ⟨b, s, u, ?_, h2.1, h2.2, h3, h4⟩
  have : cs.toList = [.bool b, .string s, .string u] := h1
  rw [show cs = cs.toList.toArray by simp, this]

theorem shut_bss (B : Bss P t f0 f1 f2) (b : Bool) {s u : ByteArray} (hs : s.size ≤ maxLen) (hu : u.size ≤ maxLen) :
    DataW.Trod enc P w base sp held t (.agg #[.bool b, .string s, .string u]) (.agg [.lit (.bool b), .lit (.string s.data.toList), .lit (.string u.data.toList)]) [] :=
  ⟨2, trod_bss_mk B 0 b hs hu⟩
end
end Go.Fw

namespace Go.Proofs.YtccfjcmolfbjdaaDoor
open Go Go.Fw Go.ChangeShapes Go.WideShapes Go.ChangeAt Go.RowKit

theorem ratioB : ∃ f0 f1 f2, Bss Tryd.prog 23 f0 f1 f2 :=
  ⟨_, _, _, { ht := Tryd.underlying23, h0 := Tryd.underlying4, h1 := Tryd.underlying9, h2 := Tryd.underlying9, hc := by kernel_rfl, c0 := by kernel_rfl, c1 := by kernel_rfl, c2 := by kernel_rfl, o0 := rfl, o1 := rfl, o2 := rfl }⟩
theorem int32_wf {n : Int} (h : (Lit.int .i32 n).wf = true) : -2147483648 ≤ n ∧ n ≤ 2147483647 := by
  have h1 : IntKind.i32.min ≤ n ∧ n ≤ IntKind.i32.max := by simpa [Lit.wf] using h
  have e : IntKind.i32.min = -2147483648 := rfl
  have e2 : IntKind.i32.max = 2147483647 := rfl
  omega
end Go.Proofs.YtccfjcmolfbjdaaDoor
