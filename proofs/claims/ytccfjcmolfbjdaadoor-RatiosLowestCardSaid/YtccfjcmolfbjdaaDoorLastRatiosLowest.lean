/- RatiosLowest: for every input the law returns true, and each argument reads behind the call as it read before; the table math/bits.deBruijn64tab holds, when the call begins, what the program's text lays (the card ties it). The statement RatiosLowest. The statement RatiosRound. The statement RatiosInts. The statement RatiosOrder. The statement RatiosField. -/
import Derived.Test.YtccfjcmolfbjdaaDoorJoinE
set_option linter.unusedVariables false
set_option linter.unusedSimpArgs false
namespace Go.Proofs.YtccfjcmolfbjdaaDoor
open Go Go.Fw Go.NatM Go.RatM
set_option maxRecDepth 100000
set_option maxHeartbeats 32000000

theorem okV {a : Rt} (h : okR a ∧ (a.n.size : Int) ≤ 20 ∧ (a.d.size : Int) ≤ 20) : ∃ A, a = encQ A ∧ A.Ok ∧ A.le 20 := by
  obtain ⟨h1, h2, h3⟩ := h
  have c1 := chk_zero h1.1 (s := a.n) (by simp)
  have c2 := chk_zero h1.2.1 (s := a.d) (by simp)
  obtain ⟨e, ok, _⟩ := okR_q h1
  refine ⟨decQ a, e, ok, ?_, ?_⟩
  · show nb (natv a.n) ≤ 20
    rw [nb_natv c1.1]; omega
  · show nb (natv a.d) ≤ 20
    rw [nb_natv c2.1]; omega
theorem rzero : ratioV false 0 1 = encQ zq := by decide +kernel
theorem rone : ratioV false 1 1 = encQ oq := by decide +kernel

theorem encQ_cells {A B : Q} (h : A.neg = B.neg ∧ enc A.n = enc B.n ∧ enc A.d = enc B.d) : A = B := by
  obtain ⟨s, n, d⟩ := A
  obtain ⟨t, m, e⟩ := B
  obtain ⟨h1, h2, h3⟩ := h
  have h1 : s = t := h1
  have h2 : n = m := enc_inj h2
  have h3 : d = e := enc_inj h3
  rw [h1, h2, h3]

theorem field_fn {h : Array Obj} (a b c : Rt) (hT : TabH h) : FnV Tryd.prog 4 #[a.v, b.v, c.v] h fun r h' => r = .bool true ∧ Keeps h.size h h' := by
  by_cases hv : ∀ x ∈ [a, b, c], okR x ∧ (x.n.size : Int) ≤ 20 ∧ (x.d.size : Int) ≤ 20
  rotate_left
  · obtain ⟨s, n, d⟩ := a
    obtain ⟨t, m, e⟩ := b
    obtain ⟨u, k, f⟩ := c
    refine Fn.ofS (args := [.agg #[.bool s, .string n, .string d], .agg #[.bool t, .string m, .string e], .agg #[.bool u, .string k, .string f]]) Tryd.func4 (by kernel_rfl) rfl Tryd.ntmps4 rfl fun w0 cs => ?_
    conv => whnf
    refine goS_run tab 1000 _ _ _ _ ?_
    conv => whnf
    repeat (first | (refine And.intro (by omega) ?_; (try intro _); conv => whnf) | (refine And.intro ?_ (by omega); (try intro _); conv => whnf) | (refine ⟨_, RemV.nonneg (by omega) (by omega), ?_⟩; conv => whnf))
    refine RunsS.callV (fun Ez Hz Az Sz K => sane_fn (hT.keeps K.keeps)) ?_
    conv => whnf
    try refine goS_run tab 1000 _ _ _ _ ?_
    conv => whnf
    repeat (first | (refine And.intro (by omega) ?_; (try intro _); conv => whnf) | (refine And.intro ?_ (by omega); (try intro _); conv => whnf) | (refine ⟨_, RemV.nonneg (by omega) (by omega), ?_⟩; conv => whnf))
    refine RunsS.callV (fun Ez Hz Az Sz K => valid_fn [⟨s, n, d⟩, ⟨t, m, e⟩, ⟨u, k, f⟩] (Sz.ro (b := 3) rfl) (hT.keeps K.keeps)) ?_
    conv => whnf
    rw [decide_eq_false hv]
    try dsimp only
    try refine goS_run tab 1000 _ _ _ _ ?_
    conv => whnf
    repeat (first | (refine And.intro (by omega) ?_; (try intro _); conv => whnf) | (refine And.intro ?_ (by omega); (try intro _); conv => whnf) | (refine ⟨_, RemV.nonneg (by omega) (by omega), ?_⟩; conv => whnf))
    refine RunsS.retU (UnwS.ret tab Tryd.func4 rfl fun Ez Hz Az Sz K => ⟨_, rfl, rfl, K.keeps⟩)
  obtain ⟨A, rfl, oA, lA⟩ := okV (hv a (by simp))
  obtain ⟨B, rfl, oB, lB⟩ := okV (hv b (by simp))
  obtain ⟨C, rfl, oC, lC⟩ := okV (hv c (by simp))
  obtain ⟨AB, e1, o1, l1, v1⟩ := addR_ok oA oB lA lB (by omega)
  obtain ⟨BA, e2, o2, l2, v2⟩ := addR_ok oB oA lB lA (by omega)
  obtain ⟨ABC, e3, o3, l3, v3⟩ := addR_ok o1 oC l1 lC (by omega)
  obtain ⟨BC, e4, o4, l4, v4⟩ := addR_ok oB oC lB lC (by omega)
  obtain ⟨ACB, e5, o5, l5, v5⟩ := addR_ok oA o4 lA l4 (by omega)
  have q1 : BA = AB := Q.inj o2 o1 (by rw [v1, v2]; grind)
  have q2 : ACB = ABC := Q.inj o5 o3 (by rw [v5, v3, v1, v4]; grind)
  subst q1 q2
  obtain ⟨P, f1, p1, k1, w1⟩ := mulR_ok oA oB lA lB (by omega)
  obtain ⟨QQ, f2, p2, k2, w2⟩ := mulR_ok oB oA lB lA (by omega)
  obtain ⟨PC, f3, p3, k3, w3⟩ := mulR_ok p1 oC k1 lC (by omega)
  obtain ⟨R, f4, p4, k4, w4⟩ := mulR_ok oB oC lB lC (by omega)
  obtain ⟨AR, f5, p5, k5, w5⟩ := mulR_ok oA p4 lA k4 (by omega)
  have q3 : QQ = P := Q.inj p2 p1 (by rw [w1, w2]; grind)
  have q4 : AR = PC := Q.inj p5 p3 (by rw [w5, w3, w1, w4]; grind)
  subst q3 q4
  obtain ⟨S, g1, s1, m1, x1⟩ := mulR_ok oA o4 lA l4 (by omega)
  obtain ⟨AC, g2, s2, m2, x2⟩ := mulR_ok oA oC lA lC (by omega)
  obtain ⟨T, g3, s3, m3, x3⟩ := addR_ok p2 s2 k2 m2 (by omega)
  obtain ⟨BK, g4, s4, m4, x4⟩ := subR_ok o2 oB l2 lB (by omega)
  obtain ⟨SM, g5, s5, m5, x5⟩ := addR_ok oA zq_ok lA zq_le (by omega)
  obtain ⟨WH, g6, s6, m6, x6⟩ := mulR_ok oA oq_ok lA oq_le (by omega)
  have q5 : T = S := Q.inj s3 s1 (by rw [x1, x3, x2, w2, v4]; grind)
  have q6 : BK = A := Q.inj s4 oA (by rw [x4, v2]; grind)
  have q7 : SM = A := Q.inj s5 oA (by rw [x5, zq_val]; grind)
  have q8 : WH = A := Q.inj s6 oA (by rw [x6, oq_val]; grind)
  rw [q5] at g3
  rw [q6] at g4
  rw [q7] at g5
  rw [q8] at g6
  refine Fn.ofS (args := [.agg #[.bool A.neg, .string (enc A.n), .string (enc A.d)], .agg #[.bool B.neg, .string (enc B.n), .string (enc B.d)], .agg #[.bool C.neg, .string (enc C.n), .string (enc C.d)]]) Tryd.func4 (by kernel_rfl) rfl Tryd.ntmps4 rfl fun w0 cs => ?_
  conv => whnf
  refine goS_run tab 1000 _ _ _ _ ?_
  conv => whnf
  repeat (first | (refine And.intro (by omega) ?_; (try intro _); conv => whnf) | (refine And.intro ?_ (by omega); (try intro _); conv => whnf) | (refine ⟨_, RemV.nonneg (by omega) (by omega), ?_⟩; conv => whnf))
  refine RunsS.callV (fun Ez Hz Az Sz K => sane_fn (hT.keeps K.keeps)) ?_
  conv => whnf
  try refine goS_run tab 1000 _ _ _ _ ?_
  conv => whnf
  repeat (first | (refine And.intro (by omega) ?_; (try intro _); conv => whnf) | (refine And.intro ?_ (by omega); (try intro _); conv => whnf) | (refine ⟨_, RemV.nonneg (by omega) (by omega), ?_⟩; conv => whnf))
  refine RunsS.callV (fun Ez Hz Az Sz K => valid_fn [encQ A, encQ B, encQ C] (Sz.ro (b := 3) rfl) (hT.keeps K.keeps)) ?_
  conv => whnf
  rw [decide_eq_true hv]
  try dsimp only
  try refine goS_run tab 1000 _ _ _ _ ?_
  conv => whnf
  repeat (first | (refine And.intro (by omega) ?_; (try intro _); conv => whnf) | (refine And.intro ?_ (by omega); (try intro _); conv => whnf) | (refine ⟨_, RemV.nonneg (by omega) (by omega), ?_⟩; conv => whnf))
  refine RunsS.callV (fun Ez Hz Az Sz K => ratio_fn false 0 1) ?_
  conv => whnf
  rw [rzero]
  try dsimp only
  try refine goS_run tab 1000 _ _ _ _ ?_
  conv => whnf
  repeat (first | (refine And.intro (by omega) ?_; (try intro _); conv => whnf) | (refine And.intro ?_ (by omega); (try intro _); conv => whnf) | (refine ⟨_, RemV.nonneg (by omega) (by omega), ?_⟩; conv => whnf))
  refine RunsS.callV (fun Ez Hz Az Sz K => ratio_fn false 1 1) ?_
  conv => whnf
  rw [rone]
  try dsimp only
  try refine goS_run tab 1000 _ _ _ _ ?_
  conv => whnf
  repeat (first | (refine And.intro (by omega) ?_; (try intro _); conv => whnf) | (refine And.intro ?_ (by omega); (try intro _); conv => whnf) | (refine ⟨_, RemV.nonneg (by omega) (by omega), ?_⟩; conv => whnf))
  refine RunsS.callV (fun Ez Hz Az Sz K => qAdd_fn (encQ A) (encQ B) (hT.keeps K.keeps)) ?_
  conv => whnf
  rw [e1]
  try dsimp only
  try refine goS_run tab 1000 _ _ _ _ ?_
  conv => whnf
  repeat (first | (refine And.intro (by omega) ?_; (try intro _); conv => whnf) | (refine And.intro ?_ (by omega); (try intro _); conv => whnf) | (refine ⟨_, RemV.nonneg (by omega) (by omega), ?_⟩; conv => whnf))
  refine RunsS.callV (fun Ez Hz Az Sz K => qAdd_fn (encQ B) (encQ A) (hT.keeps K.keeps)) ?_
  conv => whnf
  rw [e2]
  try dsimp only
  try refine goS_run tab 1000 _ _ _ _ ?_
  conv => whnf
  repeat (first | (refine And.intro (by omega) ?_; (try intro _); conv => whnf) | (refine And.intro ?_ (by omega); (try intro _); conv => whnf) | (refine ⟨_, RemV.nonneg (by omega) (by omega), ?_⟩; conv => whnf))
  refine RunsS.callV (fun Ez Hz Az Sz K => qAdd_fn (encQ BA) (encQ C) (hT.keeps K.keeps)) ?_
  conv => whnf
  rw [e3]
  try dsimp only
  try refine goS_run tab 1000 _ _ _ _ ?_
  conv => whnf
  repeat (first | (refine And.intro (by omega) ?_; (try intro _); conv => whnf) | (refine And.intro ?_ (by omega); (try intro _); conv => whnf) | (refine ⟨_, RemV.nonneg (by omega) (by omega), ?_⟩; conv => whnf))
  refine RunsS.callV (fun Ez Hz Az Sz K => qAdd_fn (encQ B) (encQ C) (hT.keeps K.keeps)) ?_
  conv => whnf
  rw [e4]
  try dsimp only
  try refine goS_run tab 1000 _ _ _ _ ?_
  conv => whnf
  repeat (first | (refine And.intro (by omega) ?_; (try intro _); conv => whnf) | (refine And.intro ?_ (by omega); (try intro _); conv => whnf) | (refine ⟨_, RemV.nonneg (by omega) (by omega), ?_⟩; conv => whnf))
  refine RunsS.callV (fun Ez Hz Az Sz K => qAdd_fn (encQ A) (encQ BC) (hT.keeps K.keeps)) ?_
  conv => whnf
  rw [e5]
  try dsimp only
  try refine goS_run tab 1000 _ _ _ _ ?_
  conv => whnf
  repeat (first | (refine And.intro (by omega) ?_; (try intro _); conv => whnf) | (refine And.intro ?_ (by omega); (try intro _); conv => whnf) | (refine ⟨_, RemV.nonneg (by omega) (by omega), ?_⟩; conv => whnf))
  refine And.intro (fun _ => ?_) (fun hn => absurd (⟨rfl, rfl, rfl⟩) hn)
  conv => whnf
  conv => whnf
  repeat (first | (refine And.intro (by omega) ?_; (try intro _); conv => whnf) | (refine And.intro ?_ (by omega); (try intro _); conv => whnf) | (refine ⟨_, RemV.nonneg (by omega) (by omega), ?_⟩; conv => whnf))
  refine And.intro (fun _ => ?_) (fun hn => absurd (⟨rfl, rfl, rfl⟩) hn)
  conv => whnf
  conv => whnf
  repeat (first | (refine And.intro (by omega) ?_; (try intro _); conv => whnf) | (refine And.intro ?_ (by omega); (try intro _); conv => whnf) | (refine ⟨_, RemV.nonneg (by omega) (by omega), ?_⟩; conv => whnf))
  refine RunsS.callV (fun Ez Hz Az Sz K => qMul_fn (encQ A) (encQ B) (hT.keeps K.keeps)) ?_
  conv => whnf
  rw [f1]
  try dsimp only
  try refine goS_run tab 1000 _ _ _ _ ?_
  conv => whnf
  repeat (first | (refine And.intro (by omega) ?_; (try intro _); conv => whnf) | (refine And.intro ?_ (by omega); (try intro _); conv => whnf) | (refine ⟨_, RemV.nonneg (by omega) (by omega), ?_⟩; conv => whnf))
  refine RunsS.callV (fun Ez Hz Az Sz K => qMul_fn (encQ B) (encQ A) (hT.keeps K.keeps)) ?_
  conv => whnf
  rw [f2]
  try dsimp only
  try refine goS_run tab 1000 _ _ _ _ ?_
  conv => whnf
  repeat (first | (refine And.intro (by omega) ?_; (try intro _); conv => whnf) | (refine And.intro ?_ (by omega); (try intro _); conv => whnf) | (refine ⟨_, RemV.nonneg (by omega) (by omega), ?_⟩; conv => whnf))
  refine RunsS.callV (fun Ez Hz Az Sz K => qMul_fn (encQ QQ) (encQ C) (hT.keeps K.keeps)) ?_
  conv => whnf
  rw [f3]
  try dsimp only
  try refine goS_run tab 1000 _ _ _ _ ?_
  conv => whnf
  repeat (first | (refine And.intro (by omega) ?_; (try intro _); conv => whnf) | (refine And.intro ?_ (by omega); (try intro _); conv => whnf) | (refine ⟨_, RemV.nonneg (by omega) (by omega), ?_⟩; conv => whnf))
  refine RunsS.callV (fun Ez Hz Az Sz K => qMul_fn (encQ B) (encQ C) (hT.keeps K.keeps)) ?_
  conv => whnf
  rw [f4]
  try dsimp only
  try refine goS_run tab 1000 _ _ _ _ ?_
  conv => whnf
  repeat (first | (refine And.intro (by omega) ?_; (try intro _); conv => whnf) | (refine And.intro ?_ (by omega); (try intro _); conv => whnf) | (refine ⟨_, RemV.nonneg (by omega) (by omega), ?_⟩; conv => whnf))
  refine RunsS.callV (fun Ez Hz Az Sz K => qMul_fn (encQ A) (encQ R) (hT.keeps K.keeps)) ?_
  conv => whnf
  rw [f5]
  try dsimp only
  try refine goS_run tab 1000 _ _ _ _ ?_
  conv => whnf
  repeat (first | (refine And.intro (by omega) ?_; (try intro _); conv => whnf) | (refine And.intro ?_ (by omega); (try intro _); conv => whnf) | (refine ⟨_, RemV.nonneg (by omega) (by omega), ?_⟩; conv => whnf))
  refine And.intro (fun _ => ?_) (fun hn => absurd (⟨rfl, rfl, rfl⟩) hn)
  conv => whnf
  conv => whnf
  repeat (first | (refine And.intro (by omega) ?_; (try intro _); conv => whnf) | (refine And.intro ?_ (by omega); (try intro _); conv => whnf) | (refine ⟨_, RemV.nonneg (by omega) (by omega), ?_⟩; conv => whnf))
  refine And.intro (fun _ => ?_) (fun hn => absurd (⟨rfl, rfl, rfl⟩) hn)
  conv => whnf
  conv => whnf
  repeat (first | (refine And.intro (by omega) ?_; (try intro _); conv => whnf) | (refine And.intro ?_ (by omega); (try intro _); conv => whnf) | (refine ⟨_, RemV.nonneg (by omega) (by omega), ?_⟩; conv => whnf))
  refine RunsS.callV (fun Ez Hz Az Sz K => qMul_fn (encQ A) (encQ BC) (hT.keeps K.keeps)) ?_
  conv => whnf
  rw [g1]
  try dsimp only
  try refine goS_run tab 1000 _ _ _ _ ?_
  conv => whnf
  repeat (first | (refine And.intro (by omega) ?_; (try intro _); conv => whnf) | (refine And.intro ?_ (by omega); (try intro _); conv => whnf) | (refine ⟨_, RemV.nonneg (by omega) (by omega), ?_⟩; conv => whnf))
  refine RunsS.callV (fun Ez Hz Az Sz K => qMul_fn (encQ A) (encQ C) (hT.keeps K.keeps)) ?_
  conv => whnf
  rw [g2]
  try dsimp only
  try refine goS_run tab 1000 _ _ _ _ ?_
  conv => whnf
  repeat (first | (refine And.intro (by omega) ?_; (try intro _); conv => whnf) | (refine And.intro ?_ (by omega); (try intro _); conv => whnf) | (refine ⟨_, RemV.nonneg (by omega) (by omega), ?_⟩; conv => whnf))
  refine RunsS.callV (fun Ez Hz Az Sz K => qAdd_fn (encQ QQ) (encQ AC) (hT.keeps K.keeps)) ?_
  conv => whnf
  rw [g3]
  try dsimp only
  try refine goS_run tab 1000 _ _ _ _ ?_
  conv => whnf
  repeat (first | (refine And.intro (by omega) ?_; (try intro _); conv => whnf) | (refine And.intro ?_ (by omega); (try intro _); conv => whnf) | (refine ⟨_, RemV.nonneg (by omega) (by omega), ?_⟩; conv => whnf))
  refine RunsS.callV (fun Ez Hz Az Sz K => qSub_fn (encQ BA) (encQ B) (hT.keeps K.keeps)) ?_
  conv => whnf
  rw [g4]
  try dsimp only
  try refine goS_run tab 1000 _ _ _ _ ?_
  conv => whnf
  repeat (first | (refine And.intro (by omega) ?_; (try intro _); conv => whnf) | (refine And.intro ?_ (by omega); (try intro _); conv => whnf) | (refine ⟨_, RemV.nonneg (by omega) (by omega), ?_⟩; conv => whnf))
  refine RunsS.callV (fun Ez Hz Az Sz K => qAdd_fn (encQ A) (encQ zq) (hT.keeps K.keeps)) ?_
  conv => whnf
  rw [g5]
  try dsimp only
  try refine goS_run tab 1000 _ _ _ _ ?_
  conv => whnf
  repeat (first | (refine And.intro (by omega) ?_; (try intro _); conv => whnf) | (refine And.intro ?_ (by omega); (try intro _); conv => whnf) | (refine ⟨_, RemV.nonneg (by omega) (by omega), ?_⟩; conv => whnf))
  refine RunsS.callV (fun Ez Hz Az Sz K => qMul_fn (encQ A) (encQ oq) (hT.keeps K.keeps)) ?_
  conv => whnf
  rw [g6]
  try dsimp only
  try refine goS_run tab 1000 _ _ _ _ ?_
  conv => whnf
  repeat (first | (refine And.intro (by omega) ?_; (try intro _); conv => whnf) | (refine And.intro ?_ (by omega); (try intro _); conv => whnf) | (refine ⟨_, RemV.nonneg (by omega) (by omega), ?_⟩; conv => whnf))
  refine And.intro (fun _ => ?_) (fun hn => absurd (⟨rfl, rfl, rfl⟩) hn)
  conv => whnf
  conv => whnf
  repeat (first | (refine And.intro (by omega) ?_; (try intro _); conv => whnf) | (refine And.intro ?_ (by omega); (try intro _); conv => whnf) | (refine ⟨_, RemV.nonneg (by omega) (by omega), ?_⟩; conv => whnf))
  refine And.intro (fun _ => ?_) (fun hn => absurd (⟨rfl, rfl, rfl⟩) hn)
  conv => whnf
  conv => whnf
  repeat (first | (refine And.intro (by omega) ?_; (try intro _); conv => whnf) | (refine And.intro ?_ (by omega); (try intro _); conv => whnf) | (refine ⟨_, RemV.nonneg (by omega) (by omega), ?_⟩; conv => whnf))
  refine And.intro (fun _ => ?_) (fun hn => absurd (⟨rfl, rfl, rfl⟩) hn)
  conv => whnf
  conv => whnf
  repeat (first | (refine And.intro (by omega) ?_; (try intro _); conv => whnf) | (refine And.intro ?_ (by omega); (try intro _); conv => whnf) | (refine ⟨_, RemV.nonneg (by omega) (by omega), ?_⟩; conv => whnf))
  refine And.intro (fun _ => ?_) (fun hn => absurd (⟨rfl, rfl, rfl⟩) hn)
  conv => whnf
  conv => whnf
  repeat (first | (refine And.intro (by omega) ?_; (try intro _); conv => whnf) | (refine And.intro ?_ (by omega); (try intro _); conv => whnf) | (refine ⟨_, RemV.nonneg (by omega) (by omega), ?_⟩; conv => whnf))
  refine ⟨fun hz => ?_, fun hz => ?_⟩ <;> conv => whnf
  · have hz := encQ_cells hz
    conv => whnf
    repeat (first | (refine And.intro (by omega) ?_; (try intro _); conv => whnf) | (refine And.intro ?_ (by omega); (try intro _); conv => whnf) | (refine ⟨_, RemV.nonneg (by omega) (by omega), ?_⟩; conv => whnf))
    refine RunsS.callV (fun Ez Hz Az Sz K => qDiv_fn (encQ A) (encQ B) (hT.keeps K.keeps)) ?_
    conv => whnf
    rw [divR_z oA oB lA lB (by omega) hz]
    try dsimp only
    try refine goS_run tab 1000 _ _ _ _ ?_
    conv => whnf
    repeat (first | (refine And.intro (by omega) ?_; (try intro _); conv => whnf) | (refine And.intro ?_ (by omega); (try intro _); conv => whnf) | (refine ⟨_, RemV.nonneg (by omega) (by omega), ?_⟩; conv => whnf))
    refine RunsS.retU (UnwS.ret tab Tryd.func4 rfl fun Ez Hz Az Sz K => ⟨_, rfl, rfl, K.keeps⟩)
  · have hz : B ≠ zq := fun e => hz (by rw [e]; exact ⟨rfl, rfl, rfl⟩)
    obtain ⟨U, r1, r2, r3, r4⟩ := divR_ok p2 oB k2 lB (by omega) hz
    have hb : B.val ≠ 0 := fun e => hz ((val_zero oB).1 e)
    have q9 : U = A := Q.inj r2 oA (by rw [r4, w2]; grind)
    rw [q9] at r1
    conv => whnf
    repeat (first | (refine And.intro (by omega) ?_; (try intro _); conv => whnf) | (refine And.intro ?_ (by omega); (try intro _); conv => whnf) | (refine ⟨_, RemV.nonneg (by omega) (by omega), ?_⟩; conv => whnf))
    refine RunsS.callV (fun Ez Hz Az Sz K => qDiv_fn (encQ QQ) (encQ B) (hT.keeps K.keeps)) ?_
    conv => whnf
    rw [r1]
    try dsimp only
    try refine goS_run tab 1000 _ _ _ _ ?_
    conv => whnf
    repeat (first | (refine And.intro (by omega) ?_; (try intro _); conv => whnf) | (refine And.intro ?_ (by omega); (try intro _); conv => whnf) | (refine ⟨_, RemV.nonneg (by omega) (by omega), ?_⟩; conv => whnf))
    refine RunsS.retU (UnwS.ret tab Tryd.func4 rfl fun Ez Hz Az Sz K => ⟨_, rfl, ?_, K.keeps⟩)
    exact congrArg Value.bool (decide_eq_true ⟨rfl, rfl, rfl⟩)
end Go.Proofs.YtccfjcmolfbjdaaDoor

namespace Go.Proofs.YtccfjcmolfbjdaaDoor
open Go Go.Fw Go.NatM Go.RatM
set_option maxRecDepth 100000
set_option maxHeartbeats 32000000

theorem cmpQ_self {A : Q} (hA : A.Ok) : cmpQ A A = 0 := by
  have h := cmpQ_lt hA hA
  have : ¬ A.val < A.val := by grind
  rcases h.2.2 with h1 | h1 | h1
  · exact absurd (h.1.1 h1) this
  · exact h1
  · exact absurd (h.2.1.1 h1) this
theorem cmpQ_zero {A B : Q} (hA : A.Ok) (hB : B.Ok) : cmpQ A B = 0 ↔ A = B := by
  constructor
  · intro h0
    have h := cmpQ_lt hA hB
    refine Q.inj hA hB ?_
    have h1 : ¬ A.val < B.val := fun e => by have := h.1.2 e; omega
    have h2 : ¬ B.val < A.val := fun e => by have := h.2.1.2 e; omega
    grind
  · intro e; rw [e]; exact cmpQ_self hB
theorem cmpQ_flip {A B : Q} (hA : A.Ok) (hB : B.Ok) : cmpQ B A = 0 - cmpQ A B := by
  have h := cmpQ_lt hA hB
  have k := cmpQ_lt hB hA
  by_cases h1 : A.val < B.val
  · rw [h.1.2 h1, k.2.1.2 h1]; rfl
  · by_cases h2 : B.val < A.val
    · rw [h.2.1.2 h2, k.1.2 h2]; rfl
    · have a1 : cmpQ A B ≠ -1 := fun e => h1 (h.1.1 e)
      have a2 : cmpQ A B ≠ 1 := fun e => h2 (h.2.1.1 e)
      have a3 : cmpQ B A ≠ -1 := fun e => h2 (k.1.1 e)
      have a4 : cmpQ B A ≠ 1 := fun e => h1 (k.2.1.1 e)
      omega
theorem cmpQ_eq {A B C D : Q} (hA : A.Ok) (hB : B.Ok) (hC : C.Ok) (hD : D.Ok) (h1 : A.val < B.val ↔ C.val < D.val) (h2 : B.val < A.val ↔ D.val < C.val) : cmpQ A B = cmpQ C D := by
  have h := cmpQ_lt hA hB
  have k := cmpQ_lt hC hD
  by_cases c1 : A.val < B.val
  · rw [h.1.2 c1, k.1.2 (h1.1 c1)]
  · by_cases c2 : B.val < A.val
    · rw [h.2.1.2 c2, k.2.1.2 (h2.1 c2)]
    · have a1 : cmpQ A B ≠ -1 := fun e => c1 (h.1.1 e)
      have a2 : cmpQ A B ≠ 1 := fun e => c2 (h.2.1.1 e)
      have a3 : cmpQ C D ≠ -1 := fun e => c1 (h1.2 (k.1.1 e))
      have a4 : cmpQ C D ≠ 1 := fun e => c2 (h2.2 (k.2.1.1 e))
      omega
theorem sgn_pos {D : Q} (h : D.Ok) : 0 < D.val ↔ D.neg = false ∧ D.n ≠ 0 := by
  have h1 := val_lt zq_ok h
  rw [zq_val] at h1
  rw [h1]
  show (sg false 0 : Int) * (D.d : Int) < sg D.neg D.n * ((1 : Nat) : Int) ↔ _
  rw [sg_zero]
  cases hn : D.neg <;> simp [sg] <;> omega

theorem order_fn {h : Array Obj} (a b c : Rt) (hT : TabH h) : FnV Tryd.prog 5 #[a.v, b.v, c.v] h fun r h' => r = .bool true ∧ Keeps h.size h h' := by
  by_cases hv : ∀ x ∈ [a, b, c], okR x ∧ (x.n.size : Int) ≤ 20 ∧ (x.d.size : Int) ≤ 20
  rotate_left
  · obtain ⟨s, n, d⟩ := a
    obtain ⟨t, m, e⟩ := b
    obtain ⟨u, k, f⟩ := c
    refine Fn.ofS (args := [.agg #[.bool s, .string n, .string d], .agg #[.bool t, .string m, .string e], .agg #[.bool u, .string k, .string f]]) Tryd.func5 (by kernel_rfl) rfl Tryd.ntmps5 rfl fun w0 cs => ?_
    conv => whnf
    refine goS_run tab 1000 _ _ _ _ ?_
    conv => whnf
    repeat (first | (refine And.intro (by omega) ?_; (try intro _); conv => whnf) | (refine And.intro ?_ (by omega); (try intro _); conv => whnf) | (refine ⟨_, RemV.nonneg (by omega) (by omega), ?_⟩; conv => whnf))
    refine RunsS.callV (fun Ez Hz Az Sz K => sane_fn (hT.keeps K.keeps)) ?_
    conv => whnf
    try refine goS_run tab 1000 _ _ _ _ ?_
    conv => whnf
    repeat (first | (refine And.intro (by omega) ?_; (try intro _); conv => whnf) | (refine And.intro ?_ (by omega); (try intro _); conv => whnf) | (refine ⟨_, RemV.nonneg (by omega) (by omega), ?_⟩; conv => whnf))
    refine RunsS.callV (fun Ez Hz Az Sz K => valid_fn [⟨s, n, d⟩, ⟨t, m, e⟩, ⟨u, k, f⟩] (Sz.ro (b := 3) rfl) (hT.keeps K.keeps)) ?_
    conv => whnf
    rw [decide_eq_false hv]
    try dsimp only
    try refine goS_run tab 1000 _ _ _ _ ?_
    conv => whnf
    repeat (first | (refine And.intro (by omega) ?_; (try intro _); conv => whnf) | (refine And.intro ?_ (by omega); (try intro _); conv => whnf) | (refine ⟨_, RemV.nonneg (by omega) (by omega), ?_⟩; conv => whnf))
    refine RunsS.retU (UnwS.ret tab Tryd.func5 rfl fun Ez Hz Az Sz K => ⟨_, rfl, rfl, K.keeps⟩)
  obtain ⟨A, rfl, oA, lA⟩ := okV (hv a (by simp))
  obtain ⟨B, rfl, oB, lB⟩ := okV (hv b (by simp))
  obtain ⟨C, rfl, oC, lC⟩ := okV (hv c (by simp))
  obtain ⟨D, e1, o1, l1, v1⟩ := subR_ok oB oA lB lA (by omega)
  obtain ⟨X, e2, o2, l2, v2⟩ := addR_ok oA oC lA lC (by omega)
  obtain ⟨Y, e3, o3, l3, v3⟩ := addR_ok oB oC lB lC (by omega)
  obtain ⟨U, e4, o4, l4, v4⟩ := mulR_ok oA oC lA lC (by omega)
  obtain ⟨V, e5, o5, l5, v5⟩ := mulR_ok oB oC lB lC (by omega)
  have hab := cmpQ_lt oA oB
  have hbc := cmpQ_lt oB oC
  have hac := cmpQ_lt oA oC
  have hba := cmpQ_flip oA oB
  have hxy : cmpQ X Y = cmpQ A B := cmpQ_eq o2 o3 oA oB (by rw [v2, v3]; constructor <;> intro <;> grind) (by rw [v2, v3]; constructor <;> intro <;> grind)
  have htr : cmpQ A B ≤ 0 → cmpQ B C ≤ 0 → cmpQ A C ≤ 0 := fun h1 h2 => by
    have n1 : ¬ B.val < A.val := fun e => by have := hab.2.1.2 e; omega
    have n2 : ¬ C.val < B.val := fun e => by have := hbc.2.1.2 e; omega
    have n3 : ¬ C.val < A.val := by grind
    have : cmpQ A C ≠ 1 := fun e => n3 (hac.2.1.1 e)
    omega
  have hD := sgn_pos o1
  have hz := cmpQ_zero oA oB
  have c1 := cmpR_ok oA oB lA lB (by omega)
  have c2 := cmpR_ok oB oA lB lA (by omega)
  have c3 := cmpR_ok oB oC lB lC (by omega)
  have c4 := cmpR_ok oA oC lA lC (by omega)
  have c5 := cmpR_ok o2 o3 l2 l3 (by omega)
  have c6 := cmpR_ok o4 o5 l4 l5 (by omega)
  have hUV : C.neg = false → C.n ≠ 0 → cmpQ U V = cmpQ A B := fun h1 h2 => by
    have hc := (sgn_pos oC).2 ⟨h1, h2⟩
    refine cmpQ_eq o4 o5 oA oB ?_ ?_
    · rw [v4, v5]
      exact ⟨fun hh => by
        have : ¬ B.val ≤ A.val := fun hle => by
          have := Rat.mul_le_mul_of_nonneg_right hle (Rat.le_of_lt hc)
          grind
        grind, fun hh => Rat.mul_lt_mul_of_pos_right hh hc⟩
    · rw [v4, v5]
      exact ⟨fun hh => by
        have : ¬ A.val ≤ B.val := fun hle => by
          have := Rat.mul_le_mul_of_nonneg_right hle (Rat.le_of_lt hc)
          grind
        grind, fun hh => Rat.mul_lt_mul_of_pos_right hh hc⟩
  have hDv : 0 < D.val ↔ A.val < B.val := by rw [v1]; constructor <;> intro <;> grind
  rw [hDv] at hD
  rw [hba] at c2
  rw [hxy] at c5
  obtain ⟨N, hN⟩ : ∃ N, N = cmpQ A B := ⟨_, rfl⟩
  obtain ⟨KK, hK⟩ : ∃ KK, KK = cmpQ B C := ⟨_, rfl⟩
  obtain ⟨L, hL⟩ : ∃ L, L = cmpQ A C := ⟨_, rfl⟩
  rw [← hN] at c1 c2 c5 htr hab hz hUV
  rw [← hK] at c3 htr hbc
  rw [← hL] at c4 htr hac
  rw [← hab.1] at hD
  obtain ⟨W, hW⟩ : ∃ W, W = cmpQ U V := ⟨_, rfl⟩
  rw [← hW] at c6 hUV
  have bN : N = -1 ∨ N = 0 ∨ N = 1 := hab.2.2
  have bK : KK = -1 ∨ KK = 0 ∨ KK = 1 := hbc.2.2
  have bL : L = -1 ∨ L = 0 ∨ L = 1 := hac.2.2
  clear hab hbc hac hxy hba hDv v1 v2 v3 v4 v5 hN hK hL hW
  obtain ⟨cc, Cn, Cd⟩ := C
  refine Fn.ofS (args := [.agg #[.bool A.neg, .string (enc A.n), .string (enc A.d)], .agg #[.bool B.neg, .string (enc B.n), .string (enc B.d)], .agg #[.bool cc, .string (enc Cn), .string (enc Cd)]]) Tryd.func5 (by kernel_rfl) rfl Tryd.ntmps5 rfl fun w0 cs => ?_
  conv => whnf
  refine goS_run tab 1000 _ _ _ _ ?_
  conv => whnf
  repeat (first | (refine And.intro (by omega) ?_; (try intro _); conv => whnf) | (refine And.intro ?_ (by omega); (try intro _); conv => whnf) | (refine ⟨_, RemV.nonneg (by omega) (by omega), ?_⟩; conv => whnf))
  refine RunsS.callV (fun Ez Hz Az Sz K => sane_fn (hT.keeps K.keeps)) ?_
  conv => whnf
  try refine goS_run tab 1000 _ _ _ _ ?_
  conv => whnf
  repeat (first | (refine And.intro (by omega) ?_; (try intro _); conv => whnf) | (refine And.intro ?_ (by omega); (try intro _); conv => whnf) | (refine ⟨_, RemV.nonneg (by omega) (by omega), ?_⟩; conv => whnf))
  refine RunsS.callV (fun Ez Hz Az Sz K => valid_fn [encQ A, encQ B, encQ ⟨cc, Cn, Cd⟩] (Sz.ro (b := 3) rfl) (hT.keeps K.keeps)) ?_
  conv => whnf
  rw [decide_eq_true hv]
  try dsimp only
  try refine goS_run tab 1000 _ _ _ _ ?_
  conv => whnf
  repeat (first | (refine And.intro (by omega) ?_; (try intro _); conv => whnf) | (refine And.intro ?_ (by omega); (try intro _); conv => whnf) | (refine ⟨_, RemV.nonneg (by omega) (by omega), ?_⟩; conv => whnf))
  refine RunsS.callV (fun Ez Hz Az Sz K => qCompare_fn (encQ A) (encQ B) (hT.keeps K.keeps)) ?_
  conv => whnf
  rw [c1]
  try dsimp only
  try refine goS_run tab 1000 _ _ _ _ ?_
  conv => whnf
  repeat (first | (refine And.intro (by omega) ?_; (try intro _); conv => whnf) | (refine And.intro ?_ (by omega); (try intro _); conv => whnf) | (refine ⟨_, RemV.nonneg (by omega) (by omega), ?_⟩; conv => whnf))
  refine RunsS.callV (fun Ez Hz Az Sz K => qCompare_fn (encQ B) (encQ A) (hT.keeps K.keeps)) ?_
  conv => whnf
  rw [c2]
  try dsimp only
  try refine goS_run tab 1000 _ _ _ _ ?_
  conv => whnf
  repeat (first | (refine And.intro (by omega) ?_; (try intro _); conv => whnf) | (refine And.intro ?_ (by omega); (try intro _); conv => whnf) | (refine ⟨_, RemV.nonneg (by omega) (by omega), ?_⟩; conv => whnf))
  refine RunsS.callV (fun Ez Hz Az Sz K => qCompare_fn (encQ B) (encQ ⟨cc, Cn, Cd⟩) (hT.keeps K.keeps)) ?_
  conv => whnf
  rw [c3]
  try dsimp only
  try refine goS_run tab 1000 _ _ _ _ ?_
  conv => whnf
  repeat (first | (refine And.intro (by omega) ?_; (try intro _); conv => whnf) | (refine And.intro ?_ (by omega); (try intro _); conv => whnf) | (refine ⟨_, RemV.nonneg (by omega) (by omega), ?_⟩; conv => whnf))
  refine RunsS.callV (fun Ez Hz Az Sz K => qCompare_fn (encQ A) (encQ ⟨cc, Cn, Cd⟩) (hT.keeps K.keeps)) ?_
  conv => whnf
  rw [c4]
  try dsimp only
  try refine goS_run tab 1000 _ _ _ _ ?_
  conv => whnf
  repeat (first | (refine And.intro (by omega) ?_; (try intro _); conv => whnf) | (refine And.intro ?_ (by omega); (try intro _); conv => whnf) | (refine ⟨_, RemV.nonneg (by omega) (by omega), ?_⟩; conv => whnf))
  refine RunsS.callV (fun Ez Hz Az Sz K => qSub_fn (encQ B) (encQ A) (hT.keeps K.keeps)) ?_
  conv => whnf
  rw [e1]
  try dsimp only
  try refine goS_run tab 1000 _ _ _ _ ?_
  conv => whnf
  repeat (first | (refine And.intro (by omega) ?_; (try intro _); conv => whnf) | (refine And.intro ?_ (by omega); (try intro _); conv => whnf) | (refine ⟨_, RemV.nonneg (by omega) (by omega), ?_⟩; conv => whnf))
  refine RunsS.callV (fun Ez Hz Az Sz K => qAdd_fn (encQ A) (encQ ⟨cc, Cn, Cd⟩) (hT.keeps K.keeps)) ?_
  conv => whnf
  rw [e2]
  try dsimp only
  try refine goS_run tab 1000 _ _ _ _ ?_
  conv => whnf
  repeat (first | (refine And.intro (by omega) ?_; (try intro _); conv => whnf) | (refine And.intro ?_ (by omega); (try intro _); conv => whnf) | (refine ⟨_, RemV.nonneg (by omega) (by omega), ?_⟩; conv => whnf))
  refine RunsS.callV (fun Ez Hz Az Sz K => qAdd_fn (encQ B) (encQ ⟨cc, Cn, Cd⟩) (hT.keeps K.keeps)) ?_
  conv => whnf
  rw [e3]
  try dsimp only
  try refine goS_run tab 1000 _ _ _ _ ?_
  conv => whnf
  repeat (first | (refine And.intro (by omega) ?_; (try intro _); conv => whnf) | (refine And.intro ?_ (by omega); (try intro _); conv => whnf) | (refine ⟨_, RemV.nonneg (by omega) (by omega), ?_⟩; conv => whnf))
  refine RunsS.callV (fun Ez Hz Az Sz K => qCompare_fn (encQ X) (encQ Y) (hT.keeps K.keeps)) ?_
  conv => whnf
  rw [c5]
  try dsimp only
  try refine goS_run tab 1000 _ _ _ _ ?_
  conv => whnf
  repeat (first | (refine And.intro (by omega) ?_; (try intro _); conv => whnf) | (refine And.intro ?_ (by omega); (try intro _); conv => whnf) | (refine ⟨_, RemV.nonneg (by omega) (by omega), ?_⟩; conv => whnf))
  have hb : ∀ (i : Decidable (N = 0)) (j : Decidable (A.neg = B.neg ∧ enc A.n = enc B.n ∧ enc A.d = enc B.d)), (@decide (N = 0) i == @decide (A.neg = B.neg ∧ enc A.n = enc B.n ∧ enc A.d = enc B.d) j) = true := fun i j => by
    rw [beq_iff_eq, decide_eq_decide, hz]
    exact ⟨fun e => by rw [e]; exact ⟨rfl, rfl, rfl⟩, encQ_cells⟩
  rw [hb]
  conv => whnf
  repeat (first | (refine And.intro (by omega) ?_; (try intro _); conv => whnf) | (refine And.intro ?_ (by omega); (try intro _); conv => whnf) | (refine ⟨_, RemV.nonneg (by omega) (by omega), ?_⟩; conv => whnf))
  have bD : D.neg = true ∨ D.neg = false := by cases D.neg <;> simp
  refine ⟨fun n1 => ?_, fun n1 => ?_⟩ <;> conv => whnf
  · conv => whnf
    repeat (first | (refine And.intro (by omega) ?_; (try intro _); conv => whnf) | (refine And.intro ?_ (by omega); (try intro _); conv => whnf) | (refine ⟨_, RemV.nonneg (by omega) (by omega), ?_⟩; conv => whnf))
    refine ⟨fun n2 => ?_, fun n2 => ?_⟩ <;> conv => whnf
    · have n3 := htr n1 n2
      conv => whnf
      repeat (first | (refine And.intro (by omega) ?_; (try intro _); conv => whnf) | (refine And.intro ?_ (by omega); (try intro _); conv => whnf) | (refine ⟨_, RemV.nonneg (by omega) (by omega), ?_⟩; conv => whnf))
      rcases bD with hd | hd
      · rw [show (encQ D).neg = true from hd]
        have hN : ¬ N < 0 := fun e => by have := (hD.1 (by omega)).1; rw [hd] at this; cases this
        conv => whnf
        repeat (first | (refine And.intro (by omega) ?_; (try intro _); conv => whnf) | (refine And.intro ?_ (by omega); (try intro _); conv => whnf) | (refine ⟨_, RemV.nonneg (by omega) (by omega), ?_⟩; conv => whnf))
        rw [show ∀ i : Decidable (N < 0), (@decide (N < 0) i == false) = true from fun i => by rw [decide_eq_false hN]; rfl]
        conv => whnf
        repeat (first | (refine And.intro (by omega) ?_; (try intro _); conv => whnf) | (refine And.intro ?_ (by omega); (try intro _); conv => whnf) | (refine ⟨_, RemV.nonneg (by omega) (by omega), ?_⟩; conv => whnf))
        cases cc
        · conv => whnf
          repeat (first | (refine And.intro (by omega) ?_; (try intro _); conv => whnf) | (refine And.intro ?_ (by omega); (try intro _); conv => whnf) | (refine ⟨_, RemV.nonneg (by omega) (by omega), ?_⟩; conv => whnf))
          refine ⟨fun hcn => ?_, fun hcn => ?_⟩ <;> conv => whnf
          · conv => whnf
            repeat (first | (refine And.intro (by omega) ?_; (try intro _); conv => whnf) | (refine And.intro ?_ (by omega); (try intro _); conv => whnf) | (refine ⟨_, RemV.nonneg (by omega) (by omega), ?_⟩; conv => whnf))
            refine RunsS.retU (UnwS.ret tab Tryd.func5 rfl fun Ez Hz Az Sz K => ⟨_, rfl, rfl, K.keeps⟩)
          · have hcn : Cn ≠ 0 := fun e => hcn (enc_mt.2 e)
            have hW := hUV rfl hcn
            conv => whnf
            repeat (first | (refine And.intro (by omega) ?_; (try intro _); conv => whnf) | (refine And.intro ?_ (by omega); (try intro _); conv => whnf) | (refine ⟨_, RemV.nonneg (by omega) (by omega), ?_⟩; conv => whnf))
            refine RunsS.callV (fun Ez Hz Az Sz K => qMul_fn (encQ A) (encQ ⟨false, Cn, Cd⟩) (hT.keeps K.keeps)) ?_
            conv => whnf
            rw [e4]
            try dsimp only
            try refine goS_run tab 1000 _ _ _ _ ?_
            conv => whnf
            repeat (first | (refine And.intro (by omega) ?_; (try intro _); conv => whnf) | (refine And.intro ?_ (by omega); (try intro _); conv => whnf) | (refine ⟨_, RemV.nonneg (by omega) (by omega), ?_⟩; conv => whnf))
            refine RunsS.callV (fun Ez Hz Az Sz K => qMul_fn (encQ B) (encQ ⟨false, Cn, Cd⟩) (hT.keeps K.keeps)) ?_
            conv => whnf
            rw [e5]
            try dsimp only
            try refine goS_run tab 1000 _ _ _ _ ?_
            conv => whnf
            repeat (first | (refine And.intro (by omega) ?_; (try intro _); conv => whnf) | (refine And.intro ?_ (by omega); (try intro _); conv => whnf) | (refine ⟨_, RemV.nonneg (by omega) (by omega), ?_⟩; conv => whnf))
            refine RunsS.callV (fun Ez Hz Az Sz K => qCompare_fn (encQ U) (encQ V) (hT.keeps K.keeps)) ?_
            conv => whnf
            rw [c6]
            try dsimp only
            try refine goS_run tab 1000 _ _ _ _ ?_
            conv => whnf
            repeat (first | (refine And.intro (by omega) ?_; (try intro _); conv => whnf) | (refine And.intro ?_ (by omega); (try intro _); conv => whnf) | (refine ⟨_, RemV.nonneg (by omega) (by omega), ?_⟩; conv => whnf))
            refine RunsS.retU (UnwS.ret tab Tryd.func5 rfl fun Ez Hz Az Sz K => ⟨_, rfl, ?_, K.keeps⟩)
            exact congrArg Value.bool (decide_eq_true hW)
        · conv => whnf
          repeat (first | (refine And.intro (by omega) ?_; (try intro _); conv => whnf) | (refine And.intro ?_ (by omega); (try intro _); conv => whnf) | (refine ⟨_, RemV.nonneg (by omega) (by omega), ?_⟩; conv => whnf))
          refine RunsS.retU (UnwS.ret tab Tryd.func5 rfl fun Ez Hz Az Sz K => ⟨_, rfl, rfl, K.keeps⟩)
      · rw [show (encQ D).neg = false from hd]
        conv => whnf
        repeat (first | (refine And.intro (by omega) ?_; (try intro _); conv => whnf) | (refine And.intro ?_ (by omega); (try intro _); conv => whnf) | (refine ⟨_, RemV.nonneg (by omega) (by omega), ?_⟩; conv => whnf))
        have hb2 : ∀ (i : Decidable (N < 0)) (j : Decidable (enc D.n = ⟨#[]⟩)), (@decide (N < 0) i == !@decide (enc D.n = ⟨#[]⟩) j) = true := fun i j => by
          by_cases hz : D.n = 0
          · have hN : ¬ N < 0 := fun e => (hD.1 (by omega)).2 hz
            rw [decide_eq_false hN, decide_eq_true (enc_mt.2 hz)]; rfl
          · have hN : N < 0 := by have := hD.2 ⟨hd, hz⟩; omega
            rw [decide_eq_true hN, decide_eq_false (fun e => hz (enc_mt.1 e))]; rfl
        rw [show ∀ (i : Decidable (N < 0)) (j : Decidable ((encQ D).n = ⟨#[]⟩)), (@decide (N < 0) i == !@decide ((encQ D).n = ⟨#[]⟩) j) = true from hb2]
        conv => whnf
        repeat (first | (refine And.intro (by omega) ?_; (try intro _); conv => whnf) | (refine And.intro ?_ (by omega); (try intro _); conv => whnf) | (refine ⟨_, RemV.nonneg (by omega) (by omega), ?_⟩; conv => whnf))
        cases cc
        · conv => whnf
          repeat (first | (refine And.intro (by omega) ?_; (try intro _); conv => whnf) | (refine And.intro ?_ (by omega); (try intro _); conv => whnf) | (refine ⟨_, RemV.nonneg (by omega) (by omega), ?_⟩; conv => whnf))
          refine ⟨fun hcn => ?_, fun hcn => ?_⟩ <;> conv => whnf
          · conv => whnf
            repeat (first | (refine And.intro (by omega) ?_; (try intro _); conv => whnf) | (refine And.intro ?_ (by omega); (try intro _); conv => whnf) | (refine ⟨_, RemV.nonneg (by omega) (by omega), ?_⟩; conv => whnf))
            refine RunsS.retU (UnwS.ret tab Tryd.func5 rfl fun Ez Hz Az Sz K => ⟨_, rfl, rfl, K.keeps⟩)
          · have hcn : Cn ≠ 0 := fun e => hcn (enc_mt.2 e)
            have hW := hUV rfl hcn
            conv => whnf
            repeat (first | (refine And.intro (by omega) ?_; (try intro _); conv => whnf) | (refine And.intro ?_ (by omega); (try intro _); conv => whnf) | (refine ⟨_, RemV.nonneg (by omega) (by omega), ?_⟩; conv => whnf))
            refine RunsS.callV (fun Ez Hz Az Sz K => qMul_fn (encQ A) (encQ ⟨false, Cn, Cd⟩) (hT.keeps K.keeps)) ?_
            conv => whnf
            rw [e4]
            try dsimp only
            try refine goS_run tab 1000 _ _ _ _ ?_
            conv => whnf
            repeat (first | (refine And.intro (by omega) ?_; (try intro _); conv => whnf) | (refine And.intro ?_ (by omega); (try intro _); conv => whnf) | (refine ⟨_, RemV.nonneg (by omega) (by omega), ?_⟩; conv => whnf))
            refine RunsS.callV (fun Ez Hz Az Sz K => qMul_fn (encQ B) (encQ ⟨false, Cn, Cd⟩) (hT.keeps K.keeps)) ?_
            conv => whnf
            rw [e5]
            try dsimp only
            try refine goS_run tab 1000 _ _ _ _ ?_
            conv => whnf
            repeat (first | (refine And.intro (by omega) ?_; (try intro _); conv => whnf) | (refine And.intro ?_ (by omega); (try intro _); conv => whnf) | (refine ⟨_, RemV.nonneg (by omega) (by omega), ?_⟩; conv => whnf))
            refine RunsS.callV (fun Ez Hz Az Sz K => qCompare_fn (encQ U) (encQ V) (hT.keeps K.keeps)) ?_
            conv => whnf
            rw [c6]
            try dsimp only
            try refine goS_run tab 1000 _ _ _ _ ?_
            conv => whnf
            repeat (first | (refine And.intro (by omega) ?_; (try intro _); conv => whnf) | (refine And.intro ?_ (by omega); (try intro _); conv => whnf) | (refine ⟨_, RemV.nonneg (by omega) (by omega), ?_⟩; conv => whnf))
            refine RunsS.retU (UnwS.ret tab Tryd.func5 rfl fun Ez Hz Az Sz K => ⟨_, rfl, ?_, K.keeps⟩)
            exact congrArg Value.bool (decide_eq_true hW)
        · conv => whnf
          repeat (first | (refine And.intro (by omega) ?_; (try intro _); conv => whnf) | (refine And.intro ?_ (by omega); (try intro _); conv => whnf) | (refine ⟨_, RemV.nonneg (by omega) (by omega), ?_⟩; conv => whnf))
          refine RunsS.retU (UnwS.ret tab Tryd.func5 rfl fun Ez Hz Az Sz K => ⟨_, rfl, rfl, K.keeps⟩)
    · conv => whnf
      repeat (first | (refine And.intro (by omega) ?_; (try intro _); conv => whnf) | (refine And.intro ?_ (by omega); (try intro _); conv => whnf) | (refine ⟨_, RemV.nonneg (by omega) (by omega), ?_⟩; conv => whnf))
      rcases bD with hd | hd
      · rw [show (encQ D).neg = true from hd]
        have hN : ¬ N < 0 := fun e => by have := (hD.1 (by omega)).1; rw [hd] at this; cases this
        conv => whnf
        repeat (first | (refine And.intro (by omega) ?_; (try intro _); conv => whnf) | (refine And.intro ?_ (by omega); (try intro _); conv => whnf) | (refine ⟨_, RemV.nonneg (by omega) (by omega), ?_⟩; conv => whnf))
        rw [show ∀ i : Decidable (N < 0), (@decide (N < 0) i == false) = true from fun i => by rw [decide_eq_false hN]; rfl]
        conv => whnf
        repeat (first | (refine And.intro (by omega) ?_; (try intro _); conv => whnf) | (refine And.intro ?_ (by omega); (try intro _); conv => whnf) | (refine ⟨_, RemV.nonneg (by omega) (by omega), ?_⟩; conv => whnf))
        cases cc
        · conv => whnf
          repeat (first | (refine And.intro (by omega) ?_; (try intro _); conv => whnf) | (refine And.intro ?_ (by omega); (try intro _); conv => whnf) | (refine ⟨_, RemV.nonneg (by omega) (by omega), ?_⟩; conv => whnf))
          refine ⟨fun hcn => ?_, fun hcn => ?_⟩ <;> conv => whnf
          · conv => whnf
            repeat (first | (refine And.intro (by omega) ?_; (try intro _); conv => whnf) | (refine And.intro ?_ (by omega); (try intro _); conv => whnf) | (refine ⟨_, RemV.nonneg (by omega) (by omega), ?_⟩; conv => whnf))
            refine RunsS.retU (UnwS.ret tab Tryd.func5 rfl fun Ez Hz Az Sz K => ⟨_, rfl, rfl, K.keeps⟩)
          · have hcn : Cn ≠ 0 := fun e => hcn (enc_mt.2 e)
            have hW := hUV rfl hcn
            conv => whnf
            repeat (first | (refine And.intro (by omega) ?_; (try intro _); conv => whnf) | (refine And.intro ?_ (by omega); (try intro _); conv => whnf) | (refine ⟨_, RemV.nonneg (by omega) (by omega), ?_⟩; conv => whnf))
            refine RunsS.callV (fun Ez Hz Az Sz K => qMul_fn (encQ A) (encQ ⟨false, Cn, Cd⟩) (hT.keeps K.keeps)) ?_
            conv => whnf
            rw [e4]
            try dsimp only
            try refine goS_run tab 1000 _ _ _ _ ?_
            conv => whnf
            repeat (first | (refine And.intro (by omega) ?_; (try intro _); conv => whnf) | (refine And.intro ?_ (by omega); (try intro _); conv => whnf) | (refine ⟨_, RemV.nonneg (by omega) (by omega), ?_⟩; conv => whnf))
            refine RunsS.callV (fun Ez Hz Az Sz K => qMul_fn (encQ B) (encQ ⟨false, Cn, Cd⟩) (hT.keeps K.keeps)) ?_
            conv => whnf
            rw [e5]
            try dsimp only
            try refine goS_run tab 1000 _ _ _ _ ?_
            conv => whnf
            repeat (first | (refine And.intro (by omega) ?_; (try intro _); conv => whnf) | (refine And.intro ?_ (by omega); (try intro _); conv => whnf) | (refine ⟨_, RemV.nonneg (by omega) (by omega), ?_⟩; conv => whnf))
            refine RunsS.callV (fun Ez Hz Az Sz K => qCompare_fn (encQ U) (encQ V) (hT.keeps K.keeps)) ?_
            conv => whnf
            rw [c6]
            try dsimp only
            try refine goS_run tab 1000 _ _ _ _ ?_
            conv => whnf
            repeat (first | (refine And.intro (by omega) ?_; (try intro _); conv => whnf) | (refine And.intro ?_ (by omega); (try intro _); conv => whnf) | (refine ⟨_, RemV.nonneg (by omega) (by omega), ?_⟩; conv => whnf))
            refine RunsS.retU (UnwS.ret tab Tryd.func5 rfl fun Ez Hz Az Sz K => ⟨_, rfl, ?_, K.keeps⟩)
            exact congrArg Value.bool (decide_eq_true hW)
        · conv => whnf
          repeat (first | (refine And.intro (by omega) ?_; (try intro _); conv => whnf) | (refine And.intro ?_ (by omega); (try intro _); conv => whnf) | (refine ⟨_, RemV.nonneg (by omega) (by omega), ?_⟩; conv => whnf))
          refine RunsS.retU (UnwS.ret tab Tryd.func5 rfl fun Ez Hz Az Sz K => ⟨_, rfl, rfl, K.keeps⟩)
      · rw [show (encQ D).neg = false from hd]
        conv => whnf
        repeat (first | (refine And.intro (by omega) ?_; (try intro _); conv => whnf) | (refine And.intro ?_ (by omega); (try intro _); conv => whnf) | (refine ⟨_, RemV.nonneg (by omega) (by omega), ?_⟩; conv => whnf))
        have hb2 : ∀ (i : Decidable (N < 0)) (j : Decidable (enc D.n = ⟨#[]⟩)), (@decide (N < 0) i == !@decide (enc D.n = ⟨#[]⟩) j) = true := fun i j => by
          by_cases hz : D.n = 0
          · have hN : ¬ N < 0 := fun e => (hD.1 (by omega)).2 hz
            rw [decide_eq_false hN, decide_eq_true (enc_mt.2 hz)]; rfl
          · have hN : N < 0 := by have := hD.2 ⟨hd, hz⟩; omega
            rw [decide_eq_true hN, decide_eq_false (fun e => hz (enc_mt.1 e))]; rfl
        rw [show ∀ (i : Decidable (N < 0)) (j : Decidable ((encQ D).n = ⟨#[]⟩)), (@decide (N < 0) i == !@decide ((encQ D).n = ⟨#[]⟩) j) = true from hb2]
        conv => whnf
        repeat (first | (refine And.intro (by omega) ?_; (try intro _); conv => whnf) | (refine And.intro ?_ (by omega); (try intro _); conv => whnf) | (refine ⟨_, RemV.nonneg (by omega) (by omega), ?_⟩; conv => whnf))
        cases cc
        · conv => whnf
          repeat (first | (refine And.intro (by omega) ?_; (try intro _); conv => whnf) | (refine And.intro ?_ (by omega); (try intro _); conv => whnf) | (refine ⟨_, RemV.nonneg (by omega) (by omega), ?_⟩; conv => whnf))
          refine ⟨fun hcn => ?_, fun hcn => ?_⟩ <;> conv => whnf
          · conv => whnf
            repeat (first | (refine And.intro (by omega) ?_; (try intro _); conv => whnf) | (refine And.intro ?_ (by omega); (try intro _); conv => whnf) | (refine ⟨_, RemV.nonneg (by omega) (by omega), ?_⟩; conv => whnf))
            refine RunsS.retU (UnwS.ret tab Tryd.func5 rfl fun Ez Hz Az Sz K => ⟨_, rfl, rfl, K.keeps⟩)
          · have hcn : Cn ≠ 0 := fun e => hcn (enc_mt.2 e)
            have hW := hUV rfl hcn
            conv => whnf
            repeat (first | (refine And.intro (by omega) ?_; (try intro _); conv => whnf) | (refine And.intro ?_ (by omega); (try intro _); conv => whnf) | (refine ⟨_, RemV.nonneg (by omega) (by omega), ?_⟩; conv => whnf))
            refine RunsS.callV (fun Ez Hz Az Sz K => qMul_fn (encQ A) (encQ ⟨false, Cn, Cd⟩) (hT.keeps K.keeps)) ?_
            conv => whnf
            rw [e4]
            try dsimp only
            try refine goS_run tab 1000 _ _ _ _ ?_
            conv => whnf
            repeat (first | (refine And.intro (by omega) ?_; (try intro _); conv => whnf) | (refine And.intro ?_ (by omega); (try intro _); conv => whnf) | (refine ⟨_, RemV.nonneg (by omega) (by omega), ?_⟩; conv => whnf))
            refine RunsS.callV (fun Ez Hz Az Sz K => qMul_fn (encQ B) (encQ ⟨false, Cn, Cd⟩) (hT.keeps K.keeps)) ?_
            conv => whnf
            rw [e5]
            try dsimp only
            try refine goS_run tab 1000 _ _ _ _ ?_
            conv => whnf
            repeat (first | (refine And.intro (by omega) ?_; (try intro _); conv => whnf) | (refine And.intro ?_ (by omega); (try intro _); conv => whnf) | (refine ⟨_, RemV.nonneg (by omega) (by omega), ?_⟩; conv => whnf))
            refine RunsS.callV (fun Ez Hz Az Sz K => qCompare_fn (encQ U) (encQ V) (hT.keeps K.keeps)) ?_
            conv => whnf
            rw [c6]
            try dsimp only
            try refine goS_run tab 1000 _ _ _ _ ?_
            conv => whnf
            repeat (first | (refine And.intro (by omega) ?_; (try intro _); conv => whnf) | (refine And.intro ?_ (by omega); (try intro _); conv => whnf) | (refine ⟨_, RemV.nonneg (by omega) (by omega), ?_⟩; conv => whnf))
            refine RunsS.retU (UnwS.ret tab Tryd.func5 rfl fun Ez Hz Az Sz K => ⟨_, rfl, ?_, K.keeps⟩)
            exact congrArg Value.bool (decide_eq_true hW)
        · conv => whnf
          repeat (first | (refine And.intro (by omega) ?_; (try intro _); conv => whnf) | (refine And.intro ?_ (by omega); (try intro _); conv => whnf) | (refine ⟨_, RemV.nonneg (by omega) (by omega), ?_⟩; conv => whnf))
          refine RunsS.retU (UnwS.ret tab Tryd.func5 rfl fun Ez Hz Az Sz K => ⟨_, rfl, rfl, K.keeps⟩)
  · conv => whnf
    repeat (first | (refine And.intro (by omega) ?_; (try intro _); conv => whnf) | (refine And.intro ?_ (by omega); (try intro _); conv => whnf) | (refine ⟨_, RemV.nonneg (by omega) (by omega), ?_⟩; conv => whnf))
    rcases bD with hd | hd
    · rw [show (encQ D).neg = true from hd]
      have hN : ¬ N < 0 := fun e => by have := (hD.1 (by omega)).1; rw [hd] at this; cases this
      conv => whnf
      repeat (first | (refine And.intro (by omega) ?_; (try intro _); conv => whnf) | (refine And.intro ?_ (by omega); (try intro _); conv => whnf) | (refine ⟨_, RemV.nonneg (by omega) (by omega), ?_⟩; conv => whnf))
      rw [show ∀ i : Decidable (N < 0), (@decide (N < 0) i == false) = true from fun i => by rw [decide_eq_false hN]; rfl]
      conv => whnf
      repeat (first | (refine And.intro (by omega) ?_; (try intro _); conv => whnf) | (refine And.intro ?_ (by omega); (try intro _); conv => whnf) | (refine ⟨_, RemV.nonneg (by omega) (by omega), ?_⟩; conv => whnf))
      cases cc
      · conv => whnf
        repeat (first | (refine And.intro (by omega) ?_; (try intro _); conv => whnf) | (refine And.intro ?_ (by omega); (try intro _); conv => whnf) | (refine ⟨_, RemV.nonneg (by omega) (by omega), ?_⟩; conv => whnf))
        refine ⟨fun hcn => ?_, fun hcn => ?_⟩ <;> conv => whnf
        · conv => whnf
          repeat (first | (refine And.intro (by omega) ?_; (try intro _); conv => whnf) | (refine And.intro ?_ (by omega); (try intro _); conv => whnf) | (refine ⟨_, RemV.nonneg (by omega) (by omega), ?_⟩; conv => whnf))
          refine RunsS.retU (UnwS.ret tab Tryd.func5 rfl fun Ez Hz Az Sz K => ⟨_, rfl, rfl, K.keeps⟩)
        · have hcn : Cn ≠ 0 := fun e => hcn (enc_mt.2 e)
          have hW := hUV rfl hcn
          conv => whnf
          repeat (first | (refine And.intro (by omega) ?_; (try intro _); conv => whnf) | (refine And.intro ?_ (by omega); (try intro _); conv => whnf) | (refine ⟨_, RemV.nonneg (by omega) (by omega), ?_⟩; conv => whnf))
          refine RunsS.callV (fun Ez Hz Az Sz K => qMul_fn (encQ A) (encQ ⟨false, Cn, Cd⟩) (hT.keeps K.keeps)) ?_
          conv => whnf
          rw [e4]
          try dsimp only
          try refine goS_run tab 1000 _ _ _ _ ?_
          conv => whnf
          repeat (first | (refine And.intro (by omega) ?_; (try intro _); conv => whnf) | (refine And.intro ?_ (by omega); (try intro _); conv => whnf) | (refine ⟨_, RemV.nonneg (by omega) (by omega), ?_⟩; conv => whnf))
          refine RunsS.callV (fun Ez Hz Az Sz K => qMul_fn (encQ B) (encQ ⟨false, Cn, Cd⟩) (hT.keeps K.keeps)) ?_
          conv => whnf
          rw [e5]
          try dsimp only
          try refine goS_run tab 1000 _ _ _ _ ?_
          conv => whnf
          repeat (first | (refine And.intro (by omega) ?_; (try intro _); conv => whnf) | (refine And.intro ?_ (by omega); (try intro _); conv => whnf) | (refine ⟨_, RemV.nonneg (by omega) (by omega), ?_⟩; conv => whnf))
          refine RunsS.callV (fun Ez Hz Az Sz K => qCompare_fn (encQ U) (encQ V) (hT.keeps K.keeps)) ?_
          conv => whnf
          rw [c6]
          try dsimp only
          try refine goS_run tab 1000 _ _ _ _ ?_
          conv => whnf
          repeat (first | (refine And.intro (by omega) ?_; (try intro _); conv => whnf) | (refine And.intro ?_ (by omega); (try intro _); conv => whnf) | (refine ⟨_, RemV.nonneg (by omega) (by omega), ?_⟩; conv => whnf))
          refine RunsS.retU (UnwS.ret tab Tryd.func5 rfl fun Ez Hz Az Sz K => ⟨_, rfl, ?_, K.keeps⟩)
          exact congrArg Value.bool (decide_eq_true hW)
      · conv => whnf
        repeat (first | (refine And.intro (by omega) ?_; (try intro _); conv => whnf) | (refine And.intro ?_ (by omega); (try intro _); conv => whnf) | (refine ⟨_, RemV.nonneg (by omega) (by omega), ?_⟩; conv => whnf))
        refine RunsS.retU (UnwS.ret tab Tryd.func5 rfl fun Ez Hz Az Sz K => ⟨_, rfl, rfl, K.keeps⟩)
    · rw [show (encQ D).neg = false from hd]
      conv => whnf
      repeat (first | (refine And.intro (by omega) ?_; (try intro _); conv => whnf) | (refine And.intro ?_ (by omega); (try intro _); conv => whnf) | (refine ⟨_, RemV.nonneg (by omega) (by omega), ?_⟩; conv => whnf))
      have hb2 : ∀ (i : Decidable (N < 0)) (j : Decidable (enc D.n = ⟨#[]⟩)), (@decide (N < 0) i == !@decide (enc D.n = ⟨#[]⟩) j) = true := fun i j => by
        by_cases hz : D.n = 0
        · have hN : ¬ N < 0 := fun e => (hD.1 (by omega)).2 hz
          rw [decide_eq_false hN, decide_eq_true (enc_mt.2 hz)]; rfl
        · have hN : N < 0 := by have := hD.2 ⟨hd, hz⟩; omega
          rw [decide_eq_true hN, decide_eq_false (fun e => hz (enc_mt.1 e))]; rfl
      rw [show ∀ (i : Decidable (N < 0)) (j : Decidable ((encQ D).n = ⟨#[]⟩)), (@decide (N < 0) i == !@decide ((encQ D).n = ⟨#[]⟩) j) = true from hb2]
      conv => whnf
      repeat (first | (refine And.intro (by omega) ?_; (try intro _); conv => whnf) | (refine And.intro ?_ (by omega); (try intro _); conv => whnf) | (refine ⟨_, RemV.nonneg (by omega) (by omega), ?_⟩; conv => whnf))
      cases cc
      · conv => whnf
        repeat (first | (refine And.intro (by omega) ?_; (try intro _); conv => whnf) | (refine And.intro ?_ (by omega); (try intro _); conv => whnf) | (refine ⟨_, RemV.nonneg (by omega) (by omega), ?_⟩; conv => whnf))
        refine ⟨fun hcn => ?_, fun hcn => ?_⟩ <;> conv => whnf
        · conv => whnf
          repeat (first | (refine And.intro (by omega) ?_; (try intro _); conv => whnf) | (refine And.intro ?_ (by omega); (try intro _); conv => whnf) | (refine ⟨_, RemV.nonneg (by omega) (by omega), ?_⟩; conv => whnf))
          refine RunsS.retU (UnwS.ret tab Tryd.func5 rfl fun Ez Hz Az Sz K => ⟨_, rfl, rfl, K.keeps⟩)
        · have hcn : Cn ≠ 0 := fun e => hcn (enc_mt.2 e)
          have hW := hUV rfl hcn
          conv => whnf
          repeat (first | (refine And.intro (by omega) ?_; (try intro _); conv => whnf) | (refine And.intro ?_ (by omega); (try intro _); conv => whnf) | (refine ⟨_, RemV.nonneg (by omega) (by omega), ?_⟩; conv => whnf))
          refine RunsS.callV (fun Ez Hz Az Sz K => qMul_fn (encQ A) (encQ ⟨false, Cn, Cd⟩) (hT.keeps K.keeps)) ?_
          conv => whnf
          rw [e4]
          try dsimp only
          try refine goS_run tab 1000 _ _ _ _ ?_
          conv => whnf
          repeat (first | (refine And.intro (by omega) ?_; (try intro _); conv => whnf) | (refine And.intro ?_ (by omega); (try intro _); conv => whnf) | (refine ⟨_, RemV.nonneg (by omega) (by omega), ?_⟩; conv => whnf))
          refine RunsS.callV (fun Ez Hz Az Sz K => qMul_fn (encQ B) (encQ ⟨false, Cn, Cd⟩) (hT.keeps K.keeps)) ?_
          conv => whnf
          rw [e5]
          try dsimp only
          try refine goS_run tab 1000 _ _ _ _ ?_
          conv => whnf
          repeat (first | (refine And.intro (by omega) ?_; (try intro _); conv => whnf) | (refine And.intro ?_ (by omega); (try intro _); conv => whnf) | (refine ⟨_, RemV.nonneg (by omega) (by omega), ?_⟩; conv => whnf))
          refine RunsS.callV (fun Ez Hz Az Sz K => qCompare_fn (encQ U) (encQ V) (hT.keeps K.keeps)) ?_
          conv => whnf
          rw [c6]
          try dsimp only
          try refine goS_run tab 1000 _ _ _ _ ?_
          conv => whnf
          repeat (first | (refine And.intro (by omega) ?_; (try intro _); conv => whnf) | (refine And.intro ?_ (by omega); (try intro _); conv => whnf) | (refine ⟨_, RemV.nonneg (by omega) (by omega), ?_⟩; conv => whnf))
          refine RunsS.retU (UnwS.ret tab Tryd.func5 rfl fun Ez Hz Az Sz K => ⟨_, rfl, ?_, K.keeps⟩)
          exact congrArg Value.bool (decide_eq_true hW)
      · conv => whnf
        repeat (first | (refine And.intro (by omega) ?_; (try intro _); conv => whnf) | (refine And.intro ?_ (by omega); (try intro _); conv => whnf) | (refine ⟨_, RemV.nonneg (by omega) (by omega), ?_⟩; conv => whnf))
        refine RunsS.retU (UnwS.ret tab Tryd.func5 rfl fun Ez Hz Az Sz K => ⟨_, rfl, rfl, K.keeps⟩)
end Go.Proofs.YtccfjcmolfbjdaaDoor

namespace Go.Proofs.YtccfjcmolfbjdaaDoor
open Go Go.Fw Go.NatM Go.RatM
set_option maxRecDepth 100000
set_option maxHeartbeats 32000000

theorem new_le {M : Int} (h : -4294967296 < M ∧ M < 4294967296) : (newQ M 1).le 4 := newQ_le (by omega) (by omega)
theorem new_le8 {M : Int} (h : -18446744073709551616 < M ∧ M < 18446744073709551616) : (newQ M 1).le 8 := newQ_le (by omega) (by omega)
theorem new_inj {A : Q} {M : Int} (hA : A.Ok) (h : A.val = (M : Rat)) : A = newQ M 1 := Q.inj hA (newQ_ok (by decide)) (by rw [h, newQ_int])

theorem ints_fn {h : Array Obj} (M N : Int) (hM : -2147483648 ≤ M ∧ M ≤ 2147483647) (hN : -2147483648 ≤ N ∧ N ≤ 2147483647) (hT : TabH h) : FnV Tryd.prog 6 #[.int .i32 M, .int .i32 N] h fun r h' => r = .bool true ∧ Keeps h.size h h' := by
  have oX : (newQ M 1).Ok := newQ_ok (by decide)
  have oY : (newQ N 1).Ok := newQ_ok (by decide)
  have lX : (newQ M 1).le 4 := new_le (by omega)
  have lY : (newQ N 1).le 4 := new_le (by omega)
  obtain ⟨S, e1, o1, l1, v1⟩ := addR_ok oX oY lX lY (by omega)
  obtain ⟨D, e2, o2, l2, v2⟩ := subR_ok oX oY lX lY (by omega)
  obtain ⟨P, e3, o3, l3, v3⟩ := mulR_ok oX oY lX lY (by omega)
  have q1 : S = newQ (M + N) 1 := new_inj o1 (by rw [v1, newQ_int, newQ_int, Rat.intCast_add])
  have q2 : D = newQ (M - N) 1 := new_inj o2 (by rw [v2, newQ_int, newQ_int, Rat.intCast_sub])
  have q3 : P = newQ (M * N) 1 := new_inj o3 (by rw [v3, newQ_int, newQ_int, Rat.intCast_mul])
  rw [q1] at e1
  rw [q2] at e2
  rw [q3] at e3
  have c1 := cmpR_ok oX oY lX lY (by omega)
  have hc := cmpQ_lt oX oY
  rw [newQ_int, newQ_int] at hc
  obtain ⟨c, hcc⟩ : ∃ c, c = cmpQ (newQ M 1) (newQ N 1) := ⟨_, rfl⟩
  rw [← hcc] at hc c1
  have hlt : ∀ x y : Int, ((x : Rat) < (y : Rat)) ↔ x < y := fun x y => by exact_mod_cast Iff.rfl
  rw [hlt, hlt] at hc
  have mn : -4611686018427387904 ≤ M * N ∧ M * N ≤ 4611686018427387904 := by
    have h1 : M.natAbs * N.natAbs ≤ 2147483648 * 2147483648 := Nat.mul_le_mul (by omega) (by omega)
    have h2 := Int.natAbs_mul M N
    omega
  have hb1 : ∀ (i : Decidable (c < 0)) (j : Decidable (M < N)), (@decide (c < 0) i == @decide (M < N) j) = true := fun i j => by rw [beq_iff_eq, decide_eq_decide]; omega
  have hb2 : ∀ (i : Decidable (0 < c)) (j : Decidable (N < M)), (@decide (0 < c) i == @decide (N < M) j) = true := fun i j => by rw [beq_iff_eq, decide_eq_decide]; omega
  refine Fn.ofS (args := [.int .i32 M, .int .i32 N]) Tryd.func6 (by kernel_rfl) rfl Tryd.ntmps6 rfl fun w0 cs => ?_
  conv => whnf
  refine goS_run tab 1000 _ _ _ _ ?_
  conv => whnf
  repeat (first | (refine And.intro (by omega) ?_; (try intro _); conv => whnf) | (refine And.intro ?_ (by omega); (try intro _); conv => whnf) | (refine ⟨_, RemV.nonneg (by omega) (by omega), ?_⟩; conv => whnf))
  refine RunsS.callV (fun Ez Hz Az Sz K => sane_fn (hT.keeps K.keeps)) ?_
  conv => whnf
  try refine goS_run tab 1000 _ _ _ _ ?_
  conv => whnf
  repeat (first | (refine And.intro (by omega) ?_; (try intro _); conv => whnf) | (refine And.intro ?_ (by omega); (try intro _); conv => whnf) | (refine ⟨_, RemV.nonneg (by omega) (by omega), ?_⟩; conv => whnf))
  refine RunsS.callV (fun Ez Hz Az Sz K => qNew_fn M 1 (by omega) (by omega) (hT.keeps K.keeps)) ?_
  conv => whnf
  rw [newR_ok (n := M) (d := 1) (by decide)]
  try dsimp only
  try refine goS_run tab 1000 _ _ _ _ ?_
  conv => whnf
  repeat (first | (refine And.intro (by omega) ?_; (try intro _); conv => whnf) | (refine And.intro ?_ (by omega); (try intro _); conv => whnf) | (refine ⟨_, RemV.nonneg (by omega) (by omega), ?_⟩; conv => whnf))
  refine RunsS.callV (fun Ez Hz Az Sz K => qNew_fn N 1 (by omega) (by omega) (hT.keeps K.keeps)) ?_
  conv => whnf
  rw [newR_ok (n := N) (d := 1) (by decide)]
  try dsimp only
  try refine goS_run tab 1000 _ _ _ _ ?_
  conv => whnf
  repeat (first | (refine And.intro (by omega) ?_; (try intro _); conv => whnf) | (refine And.intro ?_ (by omega); (try intro _); conv => whnf) | (refine ⟨_, RemV.nonneg (by omega) (by omega), ?_⟩; conv => whnf))
  refine RunsS.callV (fun Ez Hz Az Sz K => qAdd_fn (encQ (newQ M 1)) (encQ (newQ N 1)) (hT.keeps K.keeps)) ?_
  conv => whnf
  rw [e1]
  try dsimp only
  try refine goS_run tab 1000 _ _ _ _ ?_
  conv => whnf
  repeat (first | (refine And.intro (by omega) ?_; (try intro _); conv => whnf) | (refine And.intro ?_ (by omega); (try intro _); conv => whnf) | (refine ⟨_, RemV.nonneg (by omega) (by omega), ?_⟩; conv => whnf))
  refine RunsS.callV (fun Ez Hz Az Sz K => qSub_fn (encQ (newQ M 1)) (encQ (newQ N 1)) (hT.keeps K.keeps)) ?_
  conv => whnf
  rw [e2]
  try dsimp only
  try refine goS_run tab 1000 _ _ _ _ ?_
  conv => whnf
  repeat (first | (refine And.intro (by omega) ?_; (try intro _); conv => whnf) | (refine And.intro ?_ (by omega); (try intro _); conv => whnf) | (refine ⟨_, RemV.nonneg (by omega) (by omega), ?_⟩; conv => whnf))
  refine RunsS.callV (fun Ez Hz Az Sz K => qMul_fn (encQ (newQ M 1)) (encQ (newQ N 1)) (hT.keeps K.keeps)) ?_
  conv => whnf
  rw [e3]
  try dsimp only
  try refine goS_run tab 1000 _ _ _ _ ?_
  conv => whnf
  repeat (first | (refine And.intro (by omega) ?_; (try intro _); conv => whnf) | (refine And.intro ?_ (by omega); (try intro _); conv => whnf) | (refine ⟨_, RemV.nonneg (by omega) (by omega), ?_⟩; conv => whnf))
  refine RunsS.callV (fun Ez Hz Az Sz K => qNew_fn (M + N) 1 (by omega) (by omega) (hT.keeps K.keeps)) ?_
  conv => whnf
  rw [newR_ok (n := M + N) (d := 1) (by decide)]
  try dsimp only
  try refine goS_run tab 1000 _ _ _ _ ?_
  conv => whnf
  repeat (first | (refine And.intro (by omega) ?_; (try intro _); conv => whnf) | (refine And.intro ?_ (by omega); (try intro _); conv => whnf) | (refine ⟨_, RemV.nonneg (by omega) (by omega), ?_⟩; conv => whnf))
  refine RunsS.callV (fun Ez Hz Az Sz K => qNew_fn (M - N) 1 (by omega) (by omega) (hT.keeps K.keeps)) ?_
  conv => whnf
  rw [newR_ok (n := M - N) (d := 1) (by decide)]
  try dsimp only
  try refine goS_run tab 1000 _ _ _ _ ?_
  conv => whnf
  repeat (first | (refine And.intro (by omega) ?_; (try intro _); conv => whnf) | (refine And.intro ?_ (by omega); (try intro _); conv => whnf) | (refine ⟨_, RemV.nonneg (by omega) (by omega), ?_⟩; conv => whnf))
  refine RunsS.callV (fun Ez Hz Az Sz K => qNew_fn (M * N) 1 (by omega) (by omega) (hT.keeps K.keeps)) ?_
  conv => whnf
  rw [newR_ok (n := M * N) (d := 1) (by decide)]
  try dsimp only
  try refine goS_run tab 1000 _ _ _ _ ?_
  conv => whnf
  repeat (first | (refine And.intro (by omega) ?_; (try intro _); conv => whnf) | (refine And.intro ?_ (by omega); (try intro _); conv => whnf) | (refine ⟨_, RemV.nonneg (by omega) (by omega), ?_⟩; conv => whnf))
  refine RunsS.callV (fun Ez Hz Az Sz K => qCompare_fn (encQ (newQ M 1)) (encQ (newQ N 1)) (hT.keeps K.keeps)) ?_
  conv => whnf
  rw [c1]
  try dsimp only
  try refine goS_run tab 1000 _ _ _ _ ?_
  conv => whnf
  repeat (first | (refine And.intro (by omega) ?_; (try intro _); conv => whnf) | (refine And.intro ?_ (by omega); (try intro _); conv => whnf) | (refine ⟨_, RemV.nonneg (by omega) (by omega), ?_⟩; conv => whnf))
  refine And.intro (fun _ => ?_) (fun hn => absurd (⟨rfl, rfl, rfl⟩) hn)
  conv => whnf
  conv => whnf
  repeat (first | (refine And.intro (by omega) ?_; (try intro _); conv => whnf) | (refine And.intro ?_ (by omega); (try intro _); conv => whnf) | (refine ⟨_, RemV.nonneg (by omega) (by omega), ?_⟩; conv => whnf))
  refine And.intro (fun _ => ?_) (fun hn => absurd (⟨rfl, rfl, rfl⟩) hn)
  conv => whnf
  conv => whnf
  repeat (first | (refine And.intro (by omega) ?_; (try intro _); conv => whnf) | (refine And.intro ?_ (by omega); (try intro _); conv => whnf) | (refine ⟨_, RemV.nonneg (by omega) (by omega), ?_⟩; conv => whnf))
  refine And.intro (fun _ => ?_) (fun hn => absurd (⟨rfl, rfl, rfl⟩) hn)
  conv => whnf
  conv => whnf
  repeat (first | (refine And.intro (by omega) ?_; (try intro _); conv => whnf) | (refine And.intro ?_ (by omega); (try intro _); conv => whnf) | (refine ⟨_, RemV.nonneg (by omega) (by omega), ?_⟩; conv => whnf))
  rw [hb1]
  conv => whnf
  repeat (first | (refine And.intro (by omega) ?_; (try intro _); conv => whnf) | (refine And.intro ?_ (by omega); (try intro _); conv => whnf) | (refine ⟨_, RemV.nonneg (by omega) (by omega), ?_⟩; conv => whnf))
  rw [hb2]
  conv => whnf
  repeat (first | (refine And.intro (by omega) ?_; (try intro _); conv => whnf) | (refine And.intro ?_ (by omega); (try intro _); conv => whnf) | (refine ⟨_, RemV.nonneg (by omega) (by omega), ?_⟩; conv => whnf))
  by_cases hz : N = 0
  · subst hz
    refine RunsS.callV (fun Ez Hz Az Sz K => qNew_fn M 0 (by omega) (by omega) (hT.keeps K.keeps)) ?_
    conv => whnf
    rw [show newR M 0 = (zr, 71) from rfl]
    try dsimp only
    try refine goS_run tab 1000 _ _ _ _ ?_
    conv => whnf
    repeat (first | (refine And.intro (by omega) ?_; (try intro _); conv => whnf) | (refine And.intro ?_ (by omega); (try intro _); conv => whnf) | (refine ⟨_, RemV.nonneg (by omega) (by omega), ?_⟩; conv => whnf))
    refine RunsS.retU (UnwS.ret tab Tryd.func6 rfl fun Ez Hz Az Sz K => ⟨_, rfl, rfl, K.keeps⟩)
  have nz : newQ N 1 ≠ zq := fun e => by
    have := congrArg Q.val e
    rw [newQ_int, zq_val] at this
    exact hz (by exact_mod_cast this)
  obtain ⟨R, e4, o4, l4, v4⟩ := divR_ok oX oY lX lY (by omega) nz
  have q4 : R = newQ M N := Q.inj o4 (newQ_ok hz) (by rw [v4, newQ_int, newQ_int, newQ_val hz])
  rw [q4] at e4
  have lQ : (newQ M N).le 256 := newQ_le (Nat.lt_of_lt_of_le (show M.natAbs < 4294967296 by omega) (by decide +kernel)) (Nat.lt_of_lt_of_le (show N.natAbs < 4294967296 by omega) (by decide +kernel))
  have up0 := up_new (m := M) hz false
  have up1 := up_new (m := M) hz true
  have w0 := whole_ok (newQ_ok (n := M) hz) lQ false
  have w1 := whole_ok (newQ_ok (n := M) hz) lQ true
  rw [if_pos ⟨by omega, by omega⟩] at w0 w1
  have hfl := flo_new (m := M) hz
  have hce := cei_new (m := M) hz
  have w0 : wholeR (encQ (newQ M N)) false = (flo (newQ M N), 0) := w0
  have w1 : wholeR (encQ (newQ M N)) true = (cei (newQ M N), 0) := w1
  obtain ⟨u, hu⟩ : ∃ u, u = flo (newQ M N) := ⟨_, rfl⟩
  obtain ⟨v, hv⟩ : ∃ v, v = cei (newQ M N) := ⟨_, rfl⟩
  have bu : -4611686018427387904 ≤ u ∧ u ≤ 4611686018427387904 := by
    rw [hu]; unfold flo sg; split <;> omega
  rw [← hu] at w0 hfl hce
  rw [← hv] at w1 hce
  have hmod : Int.tmod M N = 0 ↔ M.natAbs % N.natAbs = 0 := by
    have := Int.natAbs_tmod M N
    omega
  refine RunsS.callV (fun Ez Hz Az Sz K => qNew_fn M N (by omega) (by omega) (hT.keeps K.keeps)) ?_
  conv => whnf
  rw [newR_ok (n := M) hz]
  try dsimp only
  try refine goS_run tab 1000 _ _ _ _ ?_
  conv => whnf
  repeat (first | (refine And.intro (by omega) ?_; (try intro _); conv => whnf) | (refine And.intro ?_ (by omega); (try intro _); conv => whnf) | (refine ⟨_, RemV.nonneg (by omega) (by omega), ?_⟩; conv => whnf))
  refine RunsS.callV (fun Ez Hz Az Sz K => qDiv_fn (encQ (newQ M 1)) (encQ (newQ N 1)) (hT.keeps K.keeps)) ?_
  conv => whnf
  rw [e4]
  try dsimp only
  try refine goS_run tab 1000 _ _ _ _ ?_
  conv => whnf
  repeat (first | (refine And.intro (by omega) ?_; (try intro _); conv => whnf) | (refine And.intro ?_ (by omega); (try intro _); conv => whnf) | (refine ⟨_, RemV.nonneg (by omega) (by omega), ?_⟩; conv => whnf))
  refine RunsS.callV (fun Ez Hz Az Sz K => Floor_fn (encQ (newQ M N)) (hT.keeps K.keeps)) ?_
  conv => whnf
  rw [w0]
  try dsimp only
  try refine goS_run tab 1000 _ _ _ _ ?_
  conv => whnf
  repeat (first | (refine And.intro (by omega) ?_; (try intro _); conv => whnf) | (refine And.intro ?_ (by omega); (try intro _); conv => whnf) | (refine ⟨_, RemV.nonneg (by omega) (by omega), ?_⟩; conv => whnf))
  refine RunsS.callV (fun Ez Hz Az Sz K => Ceil_fn (encQ (newQ M N)) (hT.keeps K.keeps)) ?_
  conv => whnf
  rw [w1]
  try dsimp only
  try refine goS_run tab 1000 _ _ _ _ ?_
  conv => whnf
  repeat (first | (refine And.intro (by omega) ?_; (try intro _); conv => whnf) | (refine And.intro ?_ (by omega); (try intro _); conv => whnf) | (refine ⟨_, RemV.nonneg (by omega) (by omega), ?_⟩; conv => whnf))
  refine And.intro (fun _ => ?_) (fun hn => absurd (⟨rfl, rfl, rfl⟩) hn)
  conv => whnf
  conv => whnf
  repeat (first | (refine And.intro (by omega) ?_; (try intro _); conv => whnf) | (refine And.intro ?_ (by omega); (try intro _); conv => whnf) | (refine ⟨_, RemV.nonneg (by omega) (by omega), ?_⟩; conv => whnf))
  have hvu : (v - u = 0 ↔ M.natAbs % N.natAbs = 0) ∧ u ≤ v ∧ v ≤ u + 1 := by split at hce <;> omega
  have hb3 : ∀ (i : Decidable (v - u = 0)) (j : Decidable (Int.tmod M N = 0)), (@decide (v - u = 0) i == @decide (Int.tmod M N = 0) j) = true := fun i j => by rw [beq_iff_eq, decide_eq_decide, hvu.1, hmod]
  refine ⟨_, ⟨by omega, rfl⟩, ?_⟩
  conv => whnf
  repeat (first | (refine And.intro (by omega) ?_; (try intro _); conv => whnf) | (refine And.intro ?_ (by omega); (try intro _); conv => whnf) | (refine ⟨_, RemV.nonneg (by omega) (by omega), ?_⟩; conv => whnf))
  rw [hb3]
  conv => whnf
  repeat (first | (refine And.intro (by omega) ?_; (try intro _); conv => whnf) | (refine And.intro ?_ (by omega); (try intro _); conv => whnf) | (refine ⟨_, RemV.nonneg (by omega) (by omega), ?_⟩; conv => whnf))
  have hle : (if N < 0 then -M else M) ≤ v * N.natAbs := by
    by_cases hm : M.natAbs % N.natAbs = 0
    · have h0 : v = u := by have := hvu.1.2 hm; omega
      rw [h0]
      have hd : (N.natAbs : Int) ∣ (if N < 0 then -M else M) := by
        have : N.natAbs ∣ M.natAbs := Nat.dvd_of_mod_eq_zero hm
        have h1 : (N.natAbs : Int) ∣ M := Int.ofNat_dvd_left.2 this
        split
        · exact Int.dvd_neg.2 h1
        · exact h1
      obtain ⟨w, hw⟩ := hd
      rw [hw] at hfl ⊢
      have h1 := hfl.2
      have hp : 0 < (N.natAbs : Int) := by omega
      have h2 : w < u + 1 := by
        have : w * (N.natAbs : Int) < (u + 1) * (N.natAbs : Int) := by rw [Int.mul_comm w]; exact h1
        exact Int.lt_of_mul_lt_mul_right this (Int.le_of_lt hp)
      have h3 : w ≤ u := by omega
      rw [Int.mul_comm]
      exact Int.mul_le_mul_of_nonneg_right h3 (Int.le_of_lt hp)
    · have h0 : v = u + 1 := by have := fun h => hm (hvu.1.1 h); omega
      rw [h0]; omega
  have hvn : v * (N.natAbs : Int) ≤ 4611686018427387904 ∧ -4611686018427387904 ≤ v * (N.natAbs : Int) := by
    have h1 : (u + 1) * (N.natAbs : Int) = u * N.natAbs + N.natAbs := by rw [Int.add_mul, Int.one_mul]
    rw [h1] at hfl
    have h2 : v * (N.natAbs : Int) ≤ u * N.natAbs + N.natAbs := by
      rw [← h1]; exact Int.mul_le_mul_of_nonneg_right (by omega) (by omega)
    split at hfl <;> split at hle <;> omega
  have hun : (u + 1) * (N.natAbs : Int) = u * N.natAbs + N.natAbs := by rw [Int.add_mul, Int.one_mul]
  rw [hun] at hfl
  refine ⟨fun hn => ?_, fun hn => ?_⟩ <;> conv => whnf
  · have eN : (N.natAbs : Int) = 0 - N := by omega
    rw [eN] at hle hvn hfl
    rw [if_pos hn] at hle hfl
    conv => whnf
    repeat (first | (refine And.intro (by omega) ?_; (try intro _); conv => whnf) | (refine And.intro ?_ (by omega); (try intro _); conv => whnf) | (refine ⟨_, RemV.nonneg (by omega) (by omega), ?_⟩; conv => whnf))
    dsimp only
    conv => whnf
    repeat (first | (refine And.intro (by omega) ?_; (try intro _); conv => whnf) | (refine And.intro ?_ (by omega); (try intro _); conv => whnf) | (refine ⟨_, RemV.nonneg (by omega) (by omega), ?_⟩; conv => whnf))
    refine RunsS.retU (UnwS.ret tab Tryd.func6 rfl fun Ez Hz Az Sz K => ⟨_, rfl, ?_, K.keeps⟩)
    exact congrArg Value.bool (decide_eq_true (show 0 - M ≤ v * (0 - N) by omega))
  · have eN : (N.natAbs : Int) = N := by omega
    rw [eN] at hle hvn hfl
    rw [if_neg hn] at hle hfl
    conv => whnf
    repeat (first | (refine And.intro (by omega) ?_; (try intro _); conv => whnf) | (refine And.intro ?_ (by omega); (try intro _); conv => whnf) | (refine ⟨_, RemV.nonneg (by omega) (by omega), ?_⟩; conv => whnf))
    dsimp only
    conv => whnf
    repeat (first | (refine And.intro (by omega) ?_; (try intro _); conv => whnf) | (refine And.intro ?_ (by omega); (try intro _); conv => whnf) | (refine ⟨_, RemV.nonneg (by omega) (by omega), ?_⟩; conv => whnf))
    refine RunsS.retU (UnwS.ret tab Tryd.func6 rfl fun Ez Hz Az Sz K => ⟨_, rfl, ?_, K.keeps⟩)
    exact congrArg Value.bool (decide_eq_true (show M ≤ v * N by omega))
end Go.Proofs.YtccfjcmolfbjdaaDoor

namespace Go.Proofs.YtccfjcmolfbjdaaDoor
open Go Go.Fw Go.NatM Go.RatM
set_option maxRecDepth 100000
set_option maxHeartbeats 32000000

theorem round_fn {h : Array Obj} (a : Rt) (hT : TabH h) : FnV Tryd.prog 7 #[a.v] h fun r h' => r = .bool true ∧ Keeps h.size h h' := by
  by_cases hv : ∀ x ∈ [a], okR x ∧ (x.n.size : Int) ≤ 20 ∧ (x.d.size : Int) ≤ 20
  rotate_left
  · obtain ⟨s, n, d⟩ := a
    refine Fn.ofS (args := [.agg #[.bool s, .string n, .string d]]) Tryd.func7 (by kernel_rfl) rfl Tryd.ntmps7 rfl fun w0 cs => ?_
    conv => whnf
    refine goS_run tab 1000 _ _ _ _ ?_
    conv => whnf
    repeat (first | (refine And.intro (by omega) ?_; (try intro _); conv => whnf) | (refine And.intro ?_ (by omega); (try intro _); conv => whnf) | (refine ⟨_, RemV.nonneg (by omega) (by omega), ?_⟩; conv => whnf))
    refine RunsS.callV (fun Ez Hz Az Sz K => sane_fn (hT.keeps K.keeps)) ?_
    conv => whnf
    try refine goS_run tab 1000 _ _ _ _ ?_
    conv => whnf
    repeat (first | (refine And.intro (by omega) ?_; (try intro _); conv => whnf) | (refine And.intro ?_ (by omega); (try intro _); conv => whnf) | (refine ⟨_, RemV.nonneg (by omega) (by omega), ?_⟩; conv => whnf))
    refine RunsS.callV (fun Ez Hz Az Sz K => valid_fn [⟨s, n, d⟩] (Sz.ro (b := 1) rfl) (hT.keeps K.keeps)) ?_
    conv => whnf
    rw [decide_eq_false hv]
    try dsimp only
    try refine goS_run tab 1000 _ _ _ _ ?_
    conv => whnf
    repeat (first | (refine And.intro (by omega) ?_; (try intro _); conv => whnf) | (refine And.intro ?_ (by omega); (try intro _); conv => whnf) | (refine ⟨_, RemV.nonneg (by omega) (by omega), ?_⟩; conv => whnf))
    refine RunsS.retU (UnwS.ret tab Tryd.func7 rfl fun Ez Hz Az Sz K => ⟨_, rfl, rfl, K.keeps⟩)
  obtain ⟨A, rfl, oA, lA⟩ := okV (hv a (by simp))
  obtain ⟨B, e1, o1, l1, v1⟩ := subR_ok zq_ok oA zq_le lA (by omega)
  have qB : B = negQ A := Q.inj o1 (negQ_ok oA) (by rw [v1, negQ_val, zq_val]; grind)
  have hfl := ceil_neg oA (lA.mono (by omega))
  have hw := whole_ok oA (lA.mono (by omega : 20 ≤ 256)) false
  rw [← qB] at hfl
  obtain ⟨w, hw0⟩ : ∃ w, w = flo A := ⟨_, rfl⟩
  have hfl2 := flo_le oA.1
  rw [← hw0] at hfl2
  rw [show sg A.neg (upQ A false) = w from hw0.symm] at hw
  by_cases hc : A.n / A.d ≤ 4611686018427387904 ∧ upQ A false ≤ 4611686018427387904
  rotate_left
  · rw [if_neg hc] at hw
    rw [hw] at hfl
    refine Fn.ofS (args := [.agg #[.bool A.neg, .string (enc A.n), .string (enc A.d)]]) Tryd.func7 (by kernel_rfl) rfl Tryd.ntmps7 rfl fun w0 cs => ?_
    conv => whnf
    refine goS_run tab 1000 _ _ _ _ ?_
    conv => whnf
    repeat (first | (refine And.intro (by omega) ?_; (try intro _); conv => whnf) | (refine And.intro ?_ (by omega); (try intro _); conv => whnf) | (refine ⟨_, RemV.nonneg (by omega) (by omega), ?_⟩; conv => whnf))
    refine RunsS.callV (fun Ez Hz Az Sz K => sane_fn (hT.keeps K.keeps)) ?_
    conv => whnf
    try refine goS_run tab 1000 _ _ _ _ ?_
    conv => whnf
    repeat (first | (refine And.intro (by omega) ?_; (try intro _); conv => whnf) | (refine And.intro ?_ (by omega); (try intro _); conv => whnf) | (refine ⟨_, RemV.nonneg (by omega) (by omega), ?_⟩; conv => whnf))
    refine RunsS.callV (fun Ez Hz Az Sz K => valid_fn [encQ A] (Sz.ro (b := 1) rfl) (hT.keeps K.keeps)) ?_
    conv => whnf
    rw [decide_eq_true hv]
    try dsimp only
    try refine goS_run tab 1000 _ _ _ _ ?_
    conv => whnf
    repeat (first | (refine And.intro (by omega) ?_; (try intro _); conv => whnf) | (refine And.intro ?_ (by omega); (try intro _); conv => whnf) | (refine ⟨_, RemV.nonneg (by omega) (by omega), ?_⟩; conv => whnf))
    refine RunsS.callV (fun Ez Hz Az Sz K => Floor_fn (encQ A) (hT.keeps K.keeps)) ?_
    conv => whnf
    rw [hw]
    try dsimp only
    try refine goS_run tab 1000 _ _ _ _ ?_
    conv => whnf
    repeat (first | (refine And.intro (by omega) ?_; (try intro _); conv => whnf) | (refine And.intro ?_ (by omega); (try intro _); conv => whnf) | (refine ⟨_, RemV.nonneg (by omega) (by omega), ?_⟩; conv => whnf))
    refine RunsS.callV (fun Ez Hz Az Sz K => ratio_fn false 0 1) ?_
    conv => whnf
    rw [rzero]
    try dsimp only
    try refine goS_run tab 1000 _ _ _ _ ?_
    conv => whnf
    repeat (first | (refine And.intro (by omega) ?_; (try intro _); conv => whnf) | (refine And.intro ?_ (by omega); (try intro _); conv => whnf) | (refine ⟨_, RemV.nonneg (by omega) (by omega), ?_⟩; conv => whnf))
    refine RunsS.callV (fun Ez Hz Az Sz K => qSub_fn (encQ zq) (encQ A) (hT.keeps K.keeps)) ?_
    conv => whnf
    rw [e1]
    try dsimp only
    try refine goS_run tab 1000 _ _ _ _ ?_
    conv => whnf
    repeat (first | (refine And.intro (by omega) ?_; (try intro _); conv => whnf) | (refine And.intro ?_ (by omega); (try intro _); conv => whnf) | (refine ⟨_, RemV.nonneg (by omega) (by omega), ?_⟩; conv => whnf))
    refine RunsS.callV (fun Ez Hz Az Sz K => Ceil_fn (encQ B) (hT.keeps K.keeps)) ?_
    conv => whnf
    rw [hfl]
    try dsimp only
    try refine goS_run tab 1000 _ _ _ _ ?_
    conv => whnf
    repeat (first | (refine And.intro (by omega) ?_; (try intro _); conv => whnf) | (refine And.intro ?_ (by omega); (try intro _); conv => whnf) | (refine ⟨_, RemV.nonneg (by omega) (by omega), ?_⟩; conv => whnf))
    refine RunsS.retU (UnwS.ret tab Tryd.func7 rfl fun Ez Hz Az Sz K => ⟨_, rfl, rfl, K.keeps⟩)
  rw [if_pos hc] at hw
  rw [hw] at hfl
  have bw : -4611686018427387904 ≤ w ∧ w ≤ 4611686018427387904 := by
    rw [hw0]; unfold flo sg; split <;> omega
  have oX : (newQ w 1).Ok := newQ_ok (by decide)
  have oY : (newQ (w + 1) 1).Ok := newQ_ok (by decide)
  have lX : (newQ w 1).le 8 := new_le8 (by omega)
  have lY : (newQ (w + 1) 1).le 8 := new_le8 (by omega)
  obtain ⟨S, e2, o2, l2, v2⟩ := addR_ok oX oq_ok lX oq_le (by omega)
  have q2 : S = newQ (w + 1) 1 := new_inj o2 (by rw [v2, newQ_int, oq_val, Rat.intCast_add]; rfl)
  rw [q2] at e2
  have c1 := cmpR_ok oX oA lX lA (by omega)
  have c2 := cmpR_ok oA oY lA lY (by omega)
  have k1 := (Go.RatM.cmp_int oA w).1.2 hfl2.1
  have k2 := (Go.RatM.cmp_int oA (w + 1)).2.2 hfl2.2
  have b1 := (cmpQ_lt oX oA).2.2
  have b2 := (cmpQ_lt oA oY).2.2
  obtain ⟨u, hu⟩ : ∃ u, u = cmpQ (newQ w 1) A := ⟨_, rfl⟩
  obtain ⟨v, hv'⟩ : ∃ v, v = cmpQ A (newQ (w + 1) 1) := ⟨_, rfl⟩
  rw [← hu] at c1 k1 b1
  rw [← hv'] at c2 k2 b2
  refine Fn.ofS (args := [.agg #[.bool A.neg, .string (enc A.n), .string (enc A.d)]]) Tryd.func7 (by kernel_rfl) rfl Tryd.ntmps7 rfl fun w0 cs => ?_
  conv => whnf
  refine goS_run tab 1000 _ _ _ _ ?_
  conv => whnf
  repeat (first | (refine And.intro (by omega) ?_; (try intro _); conv => whnf) | (refine And.intro ?_ (by omega); (try intro _); conv => whnf) | (refine ⟨_, RemV.nonneg (by omega) (by omega), ?_⟩; conv => whnf))
  refine RunsS.callV (fun Ez Hz Az Sz K => sane_fn (hT.keeps K.keeps)) ?_
  conv => whnf
  try refine goS_run tab 1000 _ _ _ _ ?_
  conv => whnf
  repeat (first | (refine And.intro (by omega) ?_; (try intro _); conv => whnf) | (refine And.intro ?_ (by omega); (try intro _); conv => whnf) | (refine ⟨_, RemV.nonneg (by omega) (by omega), ?_⟩; conv => whnf))
  refine RunsS.callV (fun Ez Hz Az Sz K => valid_fn [encQ A] (Sz.ro (b := 1) rfl) (hT.keeps K.keeps)) ?_
  conv => whnf
  rw [decide_eq_true hv]
  try dsimp only
  try refine goS_run tab 1000 _ _ _ _ ?_
  conv => whnf
  repeat (first | (refine And.intro (by omega) ?_; (try intro _); conv => whnf) | (refine And.intro ?_ (by omega); (try intro _); conv => whnf) | (refine ⟨_, RemV.nonneg (by omega) (by omega), ?_⟩; conv => whnf))
  refine RunsS.callV (fun Ez Hz Az Sz K => Floor_fn (encQ A) (hT.keeps K.keeps)) ?_
  conv => whnf
  rw [hw]
  try dsimp only
  try refine goS_run tab 1000 _ _ _ _ ?_
  conv => whnf
  repeat (first | (refine And.intro (by omega) ?_; (try intro _); conv => whnf) | (refine And.intro ?_ (by omega); (try intro _); conv => whnf) | (refine ⟨_, RemV.nonneg (by omega) (by omega), ?_⟩; conv => whnf))
  refine RunsS.callV (fun Ez Hz Az Sz K => ratio_fn false 0 1) ?_
  conv => whnf
  rw [rzero]
  try dsimp only
  try refine goS_run tab 1000 _ _ _ _ ?_
  conv => whnf
  repeat (first | (refine And.intro (by omega) ?_; (try intro _); conv => whnf) | (refine And.intro ?_ (by omega); (try intro _); conv => whnf) | (refine ⟨_, RemV.nonneg (by omega) (by omega), ?_⟩; conv => whnf))
  refine RunsS.callV (fun Ez Hz Az Sz K => qSub_fn (encQ zq) (encQ A) (hT.keeps K.keeps)) ?_
  conv => whnf
  rw [e1]
  try dsimp only
  try refine goS_run tab 1000 _ _ _ _ ?_
  conv => whnf
  repeat (first | (refine And.intro (by omega) ?_; (try intro _); conv => whnf) | (refine And.intro ?_ (by omega); (try intro _); conv => whnf) | (refine ⟨_, RemV.nonneg (by omega) (by omega), ?_⟩; conv => whnf))
  refine RunsS.callV (fun Ez Hz Az Sz K => Ceil_fn (encQ B) (hT.keeps K.keeps)) ?_
  conv => whnf
  rw [hfl]
  try dsimp only
  try refine goS_run tab 1000 _ _ _ _ ?_
  conv => whnf
  repeat (first | (refine And.intro (by omega) ?_; (try intro _); conv => whnf) | (refine And.intro ?_ (by omega); (try intro _); conv => whnf) | (refine ⟨_, RemV.nonneg (by omega) (by omega), ?_⟩; conv => whnf))
  refine RunsS.callV (fun Ez Hz Az Sz K => qNew_fn w 1 (by omega) (by omega) (hT.keeps K.keeps)) ?_
  conv => whnf
  rw [newR_ok (n := w) (d := 1) (by decide)]
  try dsimp only
  try refine goS_run tab 1000 _ _ _ _ ?_
  conv => whnf
  repeat (first | (refine And.intro (by omega) ?_; (try intro _); conv => whnf) | (refine And.intro ?_ (by omega); (try intro _); conv => whnf) | (refine ⟨_, RemV.nonneg (by omega) (by omega), ?_⟩; conv => whnf))
  refine RunsS.join (fun (_ : Unit) => [(13, .v (.int .i64 0)), (12, .ptr 5 0), (11, .v (.int .i64 0)), (10, .ptr 4 0), (8, .v (.int .i64 (-w))), (4, .v (.int .i64 0)), (3, .v (.int .i64 w)), (2, .v (.bool false)), (1, .ptr 0 0)]) (fun (_ : Unit) => [(5, .cells 23 (rc (encQ (newQ (w + 1) 1)))), (4, .cells 23 (rc (encQ (newQ w 1)))), (0, .cells 23 (rc (encQ A)))]) 6 (fun (_ : Unit) => True) ?_ (fun meet => ?_)
  rotate_left
  · refine RunsS.held tab (.fl 0 (.e2 1 [0] (.e2 2 [] (.fl 3 (.fl 4 (.fl 5 (.e1 6 [0] (.e1 7 [] (.fl 8 .done)))))) 6 [0] (.e1 2 [] (.fl 3 (.fl 4 (.fl 5 (.e1 7 [] (.fl 8 .done))))))) 6 [0] (.e1 1 [0] (.e1 2 [] (.fl 3 (.fl 4 (.fl 5 (.e1 7 [] (.fl 8 .done))))))))) (by kernel_rfl) ?_
    conv => whnf
    try refine goR_run tab _ _ _ _ _ _ ?_
    conv => whnf
    repeat (first | (refine And.intro (by omega) ?_; (try intro _); conv => whnf) | (refine And.intro ?_ (by omega); (try intro _); conv => whnf) | (refine And.intro (by (conv => whnf); (repeat (refine And.intro (by (conv => whnf); first | rfl | exact trivial) ?_; conv => whnf)); exact trivial) ?_; conv => whnf) | (refine ⟨_, RemV.nonneg (by omega) (by omega), ?_⟩; conv => whnf))
    try refine goS_run tab 1000 _ _ _ _ ?_
    conv => whnf
    repeat (first | (refine And.intro (by omega) ?_; (try intro _); conv => whnf) | (refine And.intro ?_ (by omega); (try intro _); conv => whnf) | (refine ⟨_, RemV.nonneg (by omega) (by omega), ?_⟩; conv => whnf))
    refine ⟨?_, ?_⟩
    · try refine goR_run tab _ _ _ _ _ _ ?_
      conv => whnf
      repeat (first | (refine And.intro (by omega) ?_; (try intro _); conv => whnf) | (refine And.intro ?_ (by omega); (try intro _); conv => whnf) | (refine And.intro (by (conv => whnf); (repeat (refine And.intro (by (conv => whnf); first | rfl | exact trivial) ?_; conv => whnf)); exact trivial) ?_; conv => whnf) | (refine ⟨_, RemV.nonneg (by omega) (by omega), ?_⟩; conv => whnf))
      try refine goS_run tab 1000 _ _ _ _ ?_
      conv => whnf
      repeat (first | (refine And.intro (by omega) ?_; (try intro _); conv => whnf) | (refine And.intro ?_ (by omega); (try intro _); conv => whnf) | (refine ⟨_, RemV.nonneg (by omega) (by omega), ?_⟩; conv => whnf))
      refine EffR.callV (fun Ez Hz Az Sz K => ratio_fn false 1 1) (by (conv => whnf); (repeat (refine And.intro (by (conv => whnf); first | rfl | exact trivial) ?_; conv => whnf)); exact trivial) ?_
      conv => whnf
      rw [rone]
      try dsimp only
      try refine goR_run tab _ _ _ _ _ _ ?_
      conv => whnf
      repeat (first | (refine And.intro (by omega) ?_; (try intro _); conv => whnf) | (refine And.intro ?_ (by omega); (try intro _); conv => whnf) | (refine And.intro (by (conv => whnf); (repeat (refine And.intro (by (conv => whnf); first | rfl | exact trivial) ?_; conv => whnf)); exact trivial) ?_; conv => whnf) | (refine ⟨_, RemV.nonneg (by omega) (by omega), ?_⟩; conv => whnf))
      try refine goS_run tab 1000 _ _ _ _ ?_
      conv => whnf
      repeat (first | (refine And.intro (by omega) ?_; (try intro _); conv => whnf) | (refine And.intro ?_ (by omega); (try intro _); conv => whnf) | (refine ⟨_, RemV.nonneg (by omega) (by omega), ?_⟩; conv => whnf))
      refine ⟨?_, ?_⟩
      · try refine goR_run tab _ _ _ _ _ _ ?_
        conv => whnf
        repeat (first | (refine And.intro (by omega) ?_; (try intro _); conv => whnf) | (refine And.intro ?_ (by omega); (try intro _); conv => whnf) | (refine And.intro (by (conv => whnf); (repeat (refine And.intro (by (conv => whnf); first | rfl | exact trivial) ?_; conv => whnf)); exact trivial) ?_; conv => whnf) | (refine ⟨_, RemV.nonneg (by omega) (by omega), ?_⟩; conv => whnf))
        try refine goS_run tab 1000 _ _ _ _ ?_
        conv => whnf
        repeat (first | (refine And.intro (by omega) ?_; (try intro _); conv => whnf) | (refine And.intro ?_ (by omega); (try intro _); conv => whnf) | (refine ⟨_, RemV.nonneg (by omega) (by omega), ?_⟩; conv => whnf))
        refine EffR.callV (fun Ez Hz Az Sz K => qAdd_fn (encQ (newQ w 1)) (encQ oq) (hT.keeps K.keeps)) (by (conv => whnf); (repeat (refine And.intro (by (conv => whnf); first | rfl | exact trivial) ?_; conv => whnf)); exact trivial) ?_
        conv => whnf
        rw [e2]
        try dsimp only
        try refine goR_run tab _ _ _ _ _ _ ?_
        conv => whnf
        repeat (first | (refine And.intro (by omega) ?_; (try intro _); conv => whnf) | (refine And.intro ?_ (by omega); (try intro _); conv => whnf) | (refine And.intro (by (conv => whnf); (repeat (refine And.intro (by (conv => whnf); first | rfl | exact trivial) ?_; conv => whnf)); exact trivial) ?_; conv => whnf) | (refine ⟨_, RemV.nonneg (by omega) (by omega), ?_⟩; conv => whnf))
        try refine goS_run tab 1000 _ _ _ _ ?_
        conv => whnf
        repeat (first | (refine And.intro (by omega) ?_; (try intro _); conv => whnf) | (refine And.intro ?_ (by omega); (try intro _); conv => whnf) | (refine ⟨_, RemV.nonneg (by omega) (by omega), ?_⟩; conv => whnf))
        refine RunsS.subR [] (meet (()) ?BJ1) ?SS1 ?HH1
        case BJ1 => first | trivial | omega | ((try dsimp only); omega)
        case SS1 => repeat (first | exact trivial | refine ⟨by rfl, ?_⟩)
        case HH1 => repeat (first | exact trivial | refine ⟨by rfl, ?_⟩)
      · try refine goR_run tab _ _ _ _ _ _ ?_
        conv => whnf
        repeat (first | (refine And.intro (by omega) ?_; (try intro _); conv => whnf) | (refine And.intro ?_ (by omega); (try intro _); conv => whnf) | (refine And.intro (by (conv => whnf); (repeat (refine And.intro (by (conv => whnf); first | rfl | exact trivial) ?_; conv => whnf)); exact trivial) ?_; conv => whnf) | (refine ⟨_, RemV.nonneg (by omega) (by omega), ?_⟩; conv => whnf))
        try refine goS_run tab 1000 _ _ _ _ ?_
        conv => whnf
        repeat (first | (refine And.intro (by omega) ?_; (try intro _); conv => whnf) | (refine And.intro ?_ (by omega); (try intro _); conv => whnf) | (refine ⟨_, RemV.nonneg (by omega) (by omega), ?_⟩; conv => whnf))
        refine EffR.callV (fun Ez Hz Az Sz K => qAdd_fn (encQ (newQ w 1)) (encQ oq) (hT.keeps K.keeps)) (by (conv => whnf); (repeat (refine And.intro (by (conv => whnf); first | rfl | exact trivial) ?_; conv => whnf)); exact trivial) ?_
        conv => whnf
        rw [e2]
        try dsimp only
        try refine goR_run tab _ _ _ _ _ _ ?_
        conv => whnf
        repeat (first | (refine And.intro (by omega) ?_; (try intro _); conv => whnf) | (refine And.intro ?_ (by omega); (try intro _); conv => whnf) | (refine And.intro (by (conv => whnf); (repeat (refine And.intro (by (conv => whnf); first | rfl | exact trivial) ?_; conv => whnf)); exact trivial) ?_; conv => whnf) | (refine ⟨_, RemV.nonneg (by omega) (by omega), ?_⟩; conv => whnf))
        try refine goS_run tab 1000 _ _ _ _ ?_
        conv => whnf
        repeat (first | (refine And.intro (by omega) ?_; (try intro _); conv => whnf) | (refine And.intro ?_ (by omega); (try intro _); conv => whnf) | (refine ⟨_, RemV.nonneg (by omega) (by omega), ?_⟩; conv => whnf))
        refine RunsS.subR [] (meet (()) ?BJ2) ?SS2 ?HH2
        case BJ2 => first | trivial | omega | ((try dsimp only); omega)
        case SS2 => repeat (first | exact trivial | refine ⟨by rfl, ?_⟩)
        case HH2 => repeat (first | exact trivial | refine ⟨by rfl, ?_⟩)
    · try refine goR_run tab _ _ _ _ _ _ ?_
      conv => whnf
      repeat (first | (refine And.intro (by omega) ?_; (try intro _); conv => whnf) | (refine And.intro ?_ (by omega); (try intro _); conv => whnf) | (refine And.intro (by (conv => whnf); (repeat (refine And.intro (by (conv => whnf); first | rfl | exact trivial) ?_; conv => whnf)); exact trivial) ?_; conv => whnf) | (refine ⟨_, RemV.nonneg (by omega) (by omega), ?_⟩; conv => whnf))
      try refine goS_run tab 1000 _ _ _ _ ?_
      conv => whnf
      repeat (first | (refine And.intro (by omega) ?_; (try intro _); conv => whnf) | (refine And.intro ?_ (by omega); (try intro _); conv => whnf) | (refine ⟨_, RemV.nonneg (by omega) (by omega), ?_⟩; conv => whnf))
      refine EffR.callV (fun Ez Hz Az Sz K => ratio_fn false 1 1) (by (conv => whnf); (repeat (refine And.intro (by (conv => whnf); first | rfl | exact trivial) ?_; conv => whnf)); exact trivial) ?_
      conv => whnf
      rw [rone]
      try dsimp only
      try refine goR_run tab _ _ _ _ _ _ ?_
      conv => whnf
      repeat (first | (refine And.intro (by omega) ?_; (try intro _); conv => whnf) | (refine And.intro ?_ (by omega); (try intro _); conv => whnf) | (refine And.intro (by (conv => whnf); (repeat (refine And.intro (by (conv => whnf); first | rfl | exact trivial) ?_; conv => whnf)); exact trivial) ?_; conv => whnf) | (refine ⟨_, RemV.nonneg (by omega) (by omega), ?_⟩; conv => whnf))
      try refine goS_run tab 1000 _ _ _ _ ?_
      conv => whnf
      repeat (first | (refine And.intro (by omega) ?_; (try intro _); conv => whnf) | (refine And.intro ?_ (by omega); (try intro _); conv => whnf) | (refine ⟨_, RemV.nonneg (by omega) (by omega), ?_⟩; conv => whnf))
      refine EffR.callV (fun Ez Hz Az Sz K => qAdd_fn (encQ (newQ w 1)) (encQ oq) (hT.keeps K.keeps)) (by (conv => whnf); (repeat (refine And.intro (by (conv => whnf); first | rfl | exact trivial) ?_; conv => whnf)); exact trivial) ?_
      conv => whnf
      rw [e2]
      try dsimp only
      try refine goR_run tab _ _ _ _ _ _ ?_
      conv => whnf
      repeat (first | (refine And.intro (by omega) ?_; (try intro _); conv => whnf) | (refine And.intro ?_ (by omega); (try intro _); conv => whnf) | (refine And.intro (by (conv => whnf); (repeat (refine And.intro (by (conv => whnf); first | rfl | exact trivial) ?_; conv => whnf)); exact trivial) ?_; conv => whnf) | (refine ⟨_, RemV.nonneg (by omega) (by omega), ?_⟩; conv => whnf))
      try refine goS_run tab 1000 _ _ _ _ ?_
      conv => whnf
      repeat (first | (refine And.intro (by omega) ?_; (try intro _); conv => whnf) | (refine And.intro ?_ (by omega); (try intro _); conv => whnf) | (refine ⟨_, RemV.nonneg (by omega) (by omega), ?_⟩; conv => whnf))
      refine RunsS.subR [] (meet (()) ?BJ3) ?SS3 ?HH3
      case BJ3 => first | trivial | omega | ((try dsimp only); omega)
      case SS3 => repeat (first | exact trivial | refine ⟨by rfl, ?_⟩)
      case HH3 => repeat (first | exact trivial | refine ⟨by rfl, ?_⟩)
  · intro _ _
    try refine goS_run tab 1000 _ _ _ _ ?_
    conv => whnf
    repeat (first | (refine And.intro (by omega) ?_; (try intro _); conv => whnf) | (refine And.intro ?_ (by omega); (try intro _); conv => whnf) | (refine ⟨_, RemV.nonneg (by omega) (by omega), ?_⟩; conv => whnf))
    refine RunsS.callV (fun Ez Hz Az Sz K => qCompare_fn (encQ (newQ w 1)) (encQ A) (hT.keeps K.keeps)) ?_
    conv => whnf
    rw [c1]
    try dsimp only
    try refine goS_run tab 1000 _ _ _ _ ?_
    conv => whnf
    repeat (first | (refine And.intro (by omega) ?_; (try intro _); conv => whnf) | (refine And.intro ?_ (by omega); (try intro _); conv => whnf) | (refine ⟨_, RemV.nonneg (by omega) (by omega), ?_⟩; conv => whnf))
    refine RunsS.callV (fun Ez Hz Az Sz K => qCompare_fn (encQ A) (encQ (newQ (w + 1) 1)) (hT.keeps K.keeps)) ?_
    conv => whnf
    rw [c2]
    try dsimp only
    try refine goS_run tab 1000 _ _ _ _ ?_
    conv => whnf
    repeat (first | (refine And.intro (by omega) ?_; (try intro _); conv => whnf) | (refine And.intro ?_ (by omega); (try intro _); conv => whnf) | (refine ⟨_, RemV.nonneg (by omega) (by omega), ?_⟩; conv => whnf))
    refine RunsS.retU (UnwS.ret tab Tryd.func7 rfl fun Ez Hz Az Sz K => ⟨_, rfl, ?_, K.keeps⟩)
    exact congrArg Value.bool (decide_eq_true (by omega))
end Go.Proofs.YtccfjcmolfbjdaaDoor

namespace Go.Proofs.YtccfjcmolfbjdaaDoor
open Go Go.Fw Go.NatM Go.RatM
set_option maxRecDepth 100000
set_option maxHeartbeats 32000000

theorem eqc {A B : Q} : (A.neg = B.neg ∧ enc A.n = enc B.n ∧ enc A.d = enc B.d) ↔ A = B := ⟨encQ_cells, fun e => by rw [e]; exact ⟨rfl, rfl, rfl⟩⟩
theorem chk_ok {A : Q} {i : Nat} (h : A.Ok) (l : A.le i) (hi : i ≤ 256) : chkR (encQ A) = 0 := by
  unfold chkR
  rw [if_pos (okR_enc h (l.mono hi))]

theorem lowLaw_fn {h : Array Obj} (a b : Rt) (hT : TabH h) : FnV Tryd.prog 8 #[a.v, b.v] h fun r h' => r = .bool true ∧ Keeps h.size h h' := by
  by_cases hv : ∀ x ∈ [a, b], okR x ∧ (x.n.size : Int) ≤ 20 ∧ (x.d.size : Int) ≤ 20
  rotate_left
  · obtain ⟨s, n, d⟩ := a
    obtain ⟨t, m, e⟩ := b
    refine Fn.ofS (args := [.agg #[.bool s, .string n, .string d], .agg #[.bool t, .string m, .string e]]) Tryd.func8 (by kernel_rfl) rfl Tryd.ntmps8 rfl fun w0 cs => ?_
    conv => whnf
    refine goS_run tab 1000 _ _ _ _ ?_
    conv => whnf
    repeat (first | (refine And.intro (by omega) ?_; (try intro _); conv => whnf) | (refine And.intro ?_ (by omega); (try intro _); conv => whnf) | (refine ⟨_, RemV.nonneg (by omega) (by omega), ?_⟩; conv => whnf))
    refine RunsS.callV (fun Ez Hz Az Sz K => sane_fn (hT.keeps K.keeps)) ?_
    conv => whnf
    try refine goS_run tab 1000 _ _ _ _ ?_
    conv => whnf
    repeat (first | (refine And.intro (by omega) ?_; (try intro _); conv => whnf) | (refine And.intro ?_ (by omega); (try intro _); conv => whnf) | (refine ⟨_, RemV.nonneg (by omega) (by omega), ?_⟩; conv => whnf))
    refine RunsS.callV (fun Ez Hz Az Sz K => valid_fn [⟨s, n, d⟩, ⟨t, m, e⟩] (Sz.ro (b := 2) rfl) (hT.keeps K.keeps)) ?_
    conv => whnf
    rw [decide_eq_false hv]
    try dsimp only
    try refine goS_run tab 1000 _ _ _ _ ?_
    conv => whnf
    repeat (first | (refine And.intro (by omega) ?_; (try intro _); conv => whnf) | (refine And.intro ?_ (by omega); (try intro _); conv => whnf) | (refine ⟨_, RemV.nonneg (by omega) (by omega), ?_⟩; conv => whnf))
    refine RunsS.retU (UnwS.ret tab Tryd.func8 rfl fun Ez Hz Az Sz K => ⟨_, rfl, rfl, K.keeps⟩)
  obtain ⟨A, rfl, oA, lA⟩ := okV (hv a (by simp))
  obtain ⟨B, rfl, oB, lB⟩ := okV (hv b (by simp))
  obtain ⟨S, e1, o1, l1, v1⟩ := addR_ok oA oB lA lB (by omega)
  obtain ⟨D, e2, o2, l2, v2⟩ := subR_ok oA oB lA lB (by omega)
  obtain ⟨P, e3, o3, l3, v3⟩ := mulR_ok oA oB lA lB (by omega)
  obtain ⟨U, e4, o4, l4, v4⟩ := addR_ok o1 oA l1 lA (by omega)
  obtain ⟨Z, e5, o5, l5, v5⟩ := addR_ok zq_ok oA zq_le lA (by omega)
  have qZ : Z = A := Q.inj o5 oA (by rw [v5, zq_val]; grind)
  rw [qZ] at e5
  have hsum : sumR [encQ A, encQ B, encQ A] = (encQ U, 0) := by
    unfold sumR
    rw [if_pos (by
      intro x hx
      simp only [List.mem_cons, List.not_mem_nil, or_false] at hx
      rcases hx with hx | hx | hx <;> rw [hx]
      · exact okR_enc oA (lA.mono (by omega))
      · exact okR_enc oB (lB.mono (by omega))
      · exact okR_enc oA (lA.mono (by omega)))]
    have hz : oneR = encQ zq := rfl
    simp only [sumF, hz, e5, e1, e4, if_true]
  have k1 := chk_ok o1 l1 (by omega)
  have k2 := chk_ok o2 l2 (by omega)
  have k3 := chk_ok o3 l3 (by omega)
  have hD : D = zq ↔ A = B := by
    rw [← val_zero o2, v2]
    exact ⟨fun e => Q.inj oA oB (by grind), fun e => by rw [e]; grind⟩
  have hP : P = zq ↔ A = zq ∨ B = zq := by
    rw [← val_zero o3, v3, ← val_zero oA, ← val_zero oB, Rat.mul_eq_zero]
  have hb1 : ∀ (i : Decidable ((encQ D).neg = (encQ zq).neg ∧ (encQ D).n = (encQ zq).n ∧ (encQ D).d = (encQ zq).d)) (j : Decidable (A.neg = B.neg ∧ enc A.n = enc B.n ∧ enc A.d = enc B.d)), (@decide ((encQ D).neg = (encQ zq).neg ∧ (encQ D).n = (encQ zq).n ∧ (encQ D).d = (encQ zq).d) i == @decide (A.neg = B.neg ∧ enc A.n = enc B.n ∧ enc A.d = enc B.d) j) = true := fun i j => by
    rw [beq_iff_eq, decide_eq_decide]
    exact Iff.trans eqc (Iff.trans hD eqc.symm)
  refine Fn.ofS (args := [.agg #[.bool A.neg, .string (enc A.n), .string (enc A.d)], .agg #[.bool B.neg, .string (enc B.n), .string (enc B.d)]]) Tryd.func8 (by kernel_rfl) rfl Tryd.ntmps8 rfl fun w0 cs => ?_
  conv => whnf
  refine goS_run tab 1000 _ _ _ _ ?_
  conv => whnf
  repeat (first | (refine And.intro (by omega) ?_; (try intro _); conv => whnf) | (refine And.intro ?_ (by omega); (try intro _); conv => whnf) | (refine ⟨_, RemV.nonneg (by omega) (by omega), ?_⟩; conv => whnf))
  refine RunsS.callV (fun Ez Hz Az Sz K => sane_fn (hT.keeps K.keeps)) ?_
  conv => whnf
  try refine goS_run tab 1000 _ _ _ _ ?_
  conv => whnf
  repeat (first | (refine And.intro (by omega) ?_; (try intro _); conv => whnf) | (refine And.intro ?_ (by omega); (try intro _); conv => whnf) | (refine ⟨_, RemV.nonneg (by omega) (by omega), ?_⟩; conv => whnf))
  refine RunsS.callV (fun Ez Hz Az Sz K => valid_fn [encQ A, encQ B] (Sz.ro (b := 2) rfl) (hT.keeps K.keeps)) ?_
  conv => whnf
  rw [decide_eq_true hv]
  try dsimp only
  try refine goS_run tab 1000 _ _ _ _ ?_
  conv => whnf
  repeat (first | (refine And.intro (by omega) ?_; (try intro _); conv => whnf) | (refine And.intro ?_ (by omega); (try intro _); conv => whnf) | (refine ⟨_, RemV.nonneg (by omega) (by omega), ?_⟩; conv => whnf))
  refine RunsS.callV (fun Ez Hz Az Sz K => ratio_fn false 0 1) ?_
  conv => whnf
  rw [rzero]
  try dsimp only
  try refine goS_run tab 1000 _ _ _ _ ?_
  conv => whnf
  repeat (first | (refine And.intro (by omega) ?_; (try intro _); conv => whnf) | (refine And.intro ?_ (by omega); (try intro _); conv => whnf) | (refine ⟨_, RemV.nonneg (by omega) (by omega), ?_⟩; conv => whnf))
  refine RunsS.callV (fun Ez Hz Az Sz K => qAdd_fn (encQ A) (encQ B) (hT.keeps K.keeps)) ?_
  conv => whnf
  rw [e1]
  try dsimp only
  try refine goS_run tab 1000 _ _ _ _ ?_
  conv => whnf
  repeat (first | (refine And.intro (by omega) ?_; (try intro _); conv => whnf) | (refine And.intro ?_ (by omega); (try intro _); conv => whnf) | (refine ⟨_, RemV.nonneg (by omega) (by omega), ?_⟩; conv => whnf))
  refine RunsS.callV (fun Ez Hz Az Sz K => qSub_fn (encQ A) (encQ B) (hT.keeps K.keeps)) ?_
  conv => whnf
  rw [e2]
  try dsimp only
  try refine goS_run tab 1000 _ _ _ _ ?_
  conv => whnf
  repeat (first | (refine And.intro (by omega) ?_; (try intro _); conv => whnf) | (refine And.intro ?_ (by omega); (try intro _); conv => whnf) | (refine ⟨_, RemV.nonneg (by omega) (by omega), ?_⟩; conv => whnf))
  refine RunsS.callV (fun Ez Hz Az Sz K => qMul_fn (encQ A) (encQ B) (hT.keeps K.keeps)) ?_
  conv => whnf
  rw [e3]
  try dsimp only
  try refine goS_run tab 1000 _ _ _ _ ?_
  conv => whnf
  repeat (first | (refine And.intro (by omega) ?_; (try intro _); conv => whnf) | (refine And.intro ?_ (by omega); (try intro _); conv => whnf) | (refine ⟨_, RemV.nonneg (by omega) (by omega), ?_⟩; conv => whnf))
  refine RunsS.callV (fun Ez Hz Az Sz K => Sum_fn [encQ A, encQ B, encQ A] (Sz.ro (b := 7) rfl) (hT.keeps K.keeps)) ?_
  conv => whnf
  rw [hsum]
  try dsimp only
  try refine goS_run tab 1000 _ _ _ _ ?_
  conv => whnf
  repeat (first | (refine And.intro (by omega) ?_; (try intro _); conv => whnf) | (refine And.intro ?_ (by omega); (try intro _); conv => whnf) | (refine ⟨_, RemV.nonneg (by omega) (by omega), ?_⟩; conv => whnf))
  refine RunsS.callV (fun Ez Hz Az Sz K => qAdd_fn (encQ S) (encQ A) (hT.keeps K.keeps)) ?_
  conv => whnf
  rw [e4]
  try dsimp only
  try refine goS_run tab 1000 _ _ _ _ ?_
  conv => whnf
  repeat (first | (refine And.intro (by omega) ?_; (try intro _); conv => whnf) | (refine And.intro ?_ (by omega); (try intro _); conv => whnf) | (refine ⟨_, RemV.nonneg (by omega) (by omega), ?_⟩; conv => whnf))
  refine And.intro (fun _ => ?_) (fun hn => absurd (⟨rfl, rfl, rfl⟩) hn)
  conv => whnf
  conv => whnf
  repeat (first | (refine And.intro (by omega) ?_; (try intro _); conv => whnf) | (refine And.intro ?_ (by omega); (try intro _); conv => whnf) | (refine ⟨_, RemV.nonneg (by omega) (by omega), ?_⟩; conv => whnf))
  refine RunsS.callV (fun Ez Hz Az Sz K => rtCheck_fn (encQ S) (hT.keeps K.keeps)) ?_
  conv => whnf
  rw [k1]
  try dsimp only
  try refine goS_run tab 1000 _ _ _ _ ?_
  conv => whnf
  repeat (first | (refine And.intro (by omega) ?_; (try intro _); conv => whnf) | (refine And.intro ?_ (by omega); (try intro _); conv => whnf) | (refine ⟨_, RemV.nonneg (by omega) (by omega), ?_⟩; conv => whnf))
  refine RunsS.callV (fun Ez Hz Az Sz K => rtCheck_fn (encQ D) (hT.keeps K.keeps)) ?_
  conv => whnf
  rw [k2]
  try dsimp only
  try refine goS_run tab 1000 _ _ _ _ ?_
  conv => whnf
  repeat (first | (refine And.intro (by omega) ?_; (try intro _); conv => whnf) | (refine And.intro ?_ (by omega); (try intro _); conv => whnf) | (refine ⟨_, RemV.nonneg (by omega) (by omega), ?_⟩; conv => whnf))
  refine RunsS.callV (fun Ez Hz Az Sz K => rtCheck_fn (encQ P) (hT.keeps K.keeps)) ?_
  conv => whnf
  rw [k3]
  try dsimp only
  try refine goS_run tab 1000 _ _ _ _ ?_
  conv => whnf
  repeat (first | (refine And.intro (by omega) ?_; (try intro _); conv => whnf) | (refine And.intro ?_ (by omega); (try intro _); conv => whnf) | (refine ⟨_, RemV.nonneg (by omega) (by omega), ?_⟩; conv => whnf))
  refine RunsS.held tab (.fl 0 (.fl 1 (.fl 2 (.fl 3 (.fl 4 (.fl 5 (.fl 6 (.fl 7 (.fl 8 (.fl 9 (.fl 10 (.fl 11 (.fl 12 (.fl 13 (.fl 14 (.fl 15 (.fl 16 (.fl 17 (.fl 18 (.fl 19 (.fl 20 (.fl 21 .done)))))))))))))))))))))) (by kernel_rfl) ?_
  conv => whnf
  try refine goR_run tab _ _ _ _ _ _ ?_
  conv => whnf
  repeat (first | (refine And.intro (by omega) ?_; (try intro _); conv => whnf) | (refine And.intro ?_ (by omega); (try intro _); conv => whnf) | (refine And.intro (by (conv => whnf); (repeat (refine And.intro (by (conv => whnf); first | rfl | exact trivial) ?_; conv => whnf)); exact trivial) ?_; conv => whnf) | (refine ⟨_, RemV.nonneg (by omega) (by omega), ?_⟩; conv => whnf))
  try refine goS_run tab 1000 _ _ _ _ ?_
  conv => whnf
  repeat (first | (refine And.intro (by omega) ?_; (try intro _); conv => whnf) | (refine And.intro ?_ (by omega); (try intro _); conv => whnf) | (refine ⟨_, RemV.nonneg (by omega) (by omega), ?_⟩; conv => whnf))
  rw [hb1]
  try refine goR_run tab _ _ _ _ _ _ ?_
  conv => whnf
  repeat (first | (refine And.intro (by omega) ?_; (try intro _); conv => whnf) | (refine And.intro ?_ (by omega); (try intro _); conv => whnf) | (refine And.intro (by (conv => whnf); (repeat (refine And.intro (by (conv => whnf); first | rfl | exact trivial) ?_; conv => whnf)); exact trivial) ?_; conv => whnf) | (refine ⟨_, RemV.nonneg (by omega) (by omega), ?_⟩; conv => whnf))
  try refine goS_run tab 1000 _ _ _ _ ?_
  conv => whnf
  repeat (first | (refine And.intro (by omega) ?_; (try intro _); conv => whnf) | (refine And.intro ?_ (by omega); (try intro _); conv => whnf) | (refine ⟨_, RemV.nonneg (by omega) (by omega), ?_⟩; conv => whnf))
  refine ⟨fun hA => ?_, fun hA => ?_⟩ <;> conv => whnf
  · try refine goR_run tab _ _ _ _ _ _ ?_
    conv => whnf
    repeat (first | (refine And.intro (by omega) ?_; (try intro _); conv => whnf) | (refine And.intro ?_ (by omega); (try intro _); conv => whnf) | (refine And.intro (by (conv => whnf); (repeat (refine And.intro (by (conv => whnf); first | rfl | exact trivial) ?_; conv => whnf)); exact trivial) ?_; conv => whnf) | (refine ⟨_, RemV.nonneg (by omega) (by omega), ?_⟩; conv => whnf))
    try refine goS_run tab 1000 _ _ _ _ ?_
    conv => whnf
    repeat (first | (refine And.intro (by omega) ?_; (try intro _); conv => whnf) | (refine And.intro ?_ (by omega); (try intro _); conv => whnf) | (refine ⟨_, RemV.nonneg (by omega) (by omega), ?_⟩; conv => whnf))
    have hb2 : ∀ i : Decidable ((encQ P).neg = (encQ zq).neg ∧ (encQ P).n = (encQ zq).n ∧ (encQ P).d = (encQ zq).d), (@decide ((encQ P).neg = (encQ zq).neg ∧ (encQ P).n = (encQ zq).n ∧ (encQ P).d = (encQ zq).d) i == true) = true := fun i => by
      rw [beq_iff_eq, decide_eq_true_iff]
      exact eqc.2 (hP.2 (Or.inl (eqc.1 hA)))
    rw [hb2]
    try refine goR_run tab _ _ _ _ _ _ ?_
    conv => whnf
    repeat (first | (refine And.intro (by omega) ?_; (try intro _); conv => whnf) | (refine And.intro ?_ (by omega); (try intro _); conv => whnf) | (refine And.intro (by (conv => whnf); (repeat (refine And.intro (by (conv => whnf); first | rfl | exact trivial) ?_; conv => whnf)); exact trivial) ?_; conv => whnf) | (refine ⟨_, RemV.nonneg (by omega) (by omega), ?_⟩; conv => whnf))
    try refine goS_run tab 1000 _ _ _ _ ?_
    conv => whnf
    repeat (first | (refine And.intro (by omega) ?_; (try intro _); conv => whnf) | (refine And.intro ?_ (by omega); (try intro _); conv => whnf) | (refine ⟨_, RemV.nonneg (by omega) (by omega), ?_⟩; conv => whnf))
    refine RunsS.retU (UnwS.ret tab Tryd.func8 rfl fun Ez Hz Az Sz K => ⟨_, rfl, rfl, K.keeps⟩)
  · try refine goR_run tab _ _ _ _ _ _ ?_
    conv => whnf
    repeat (first | (refine And.intro (by omega) ?_; (try intro _); conv => whnf) | (refine And.intro ?_ (by omega); (try intro _); conv => whnf) | (refine And.intro (by (conv => whnf); (repeat (refine And.intro (by (conv => whnf); first | rfl | exact trivial) ?_; conv => whnf)); exact trivial) ?_; conv => whnf) | (refine ⟨_, RemV.nonneg (by omega) (by omega), ?_⟩; conv => whnf))
    try refine goS_run tab 1000 _ _ _ _ ?_
    conv => whnf
    repeat (first | (refine And.intro (by omega) ?_; (try intro _); conv => whnf) | (refine And.intro ?_ (by omega); (try intro _); conv => whnf) | (refine ⟨_, RemV.nonneg (by omega) (by omega), ?_⟩; conv => whnf))
    have hA : ¬ A = zq := fun e => hA (eqc.2 e)
    have hb2 : ∀ (i : Decidable ((encQ P).neg = (encQ zq).neg ∧ (encQ P).n = (encQ zq).n ∧ (encQ P).d = (encQ zq).d)) (j : Decidable (B.neg = (encQ zq).neg ∧ enc B.n = (encQ zq).n ∧ enc B.d = (encQ zq).d)), (@decide ((encQ P).neg = (encQ zq).neg ∧ (encQ P).n = (encQ zq).n ∧ (encQ P).d = (encQ zq).d) i == @decide (B.neg = (encQ zq).neg ∧ enc B.n = (encQ zq).n ∧ enc B.d = (encQ zq).d) j) = true := fun i j => by
      rw [beq_iff_eq, decide_eq_decide]
      refine Iff.trans eqc (Iff.trans hP (Iff.trans ?_ eqc.symm))
      exact ⟨fun e => e.resolve_left hA, Or.inr⟩
    rw [hb2]
    try refine goR_run tab _ _ _ _ _ _ ?_
    conv => whnf
    repeat (first | (refine And.intro (by omega) ?_; (try intro _); conv => whnf) | (refine And.intro ?_ (by omega); (try intro _); conv => whnf) | (refine And.intro (by (conv => whnf); (repeat (refine And.intro (by (conv => whnf); first | rfl | exact trivial) ?_; conv => whnf)); exact trivial) ?_; conv => whnf) | (refine ⟨_, RemV.nonneg (by omega) (by omega), ?_⟩; conv => whnf))
    try refine goS_run tab 1000 _ _ _ _ ?_
    conv => whnf
    repeat (first | (refine And.intro (by omega) ?_; (try intro _); conv => whnf) | (refine And.intro ?_ (by omega); (try intro _); conv => whnf) | (refine ⟨_, RemV.nonneg (by omega) (by omega), ?_⟩; conv => whnf))
    refine RunsS.retU (UnwS.ret tab Tryd.func8 rfl fun Ez Hz Az Sz K => ⟨_, rfl, rfl, K.keeps⟩)
end Go.Proofs.YtccfjcmolfbjdaaDoor

namespace Go.Proofs.YtccfjcmolfbjdaaDoor.ratiosLowest
open Go Go.Fw Go.ChangeShapes Go.ChangeMaps Go.WideShapes Go.ChangeAt Go.RowKit
set_option maxRecDepth 100000

theorem int_wf {n : Int} (h : (Lit.int .i64 n).wf = true) : -9223372036854775808 ≤ n ∧ n ≤ 9223372036854775807 := by
  have h1 : IntKind.i64.min ≤ n ∧ n ≤ 9223372036854775807 := by simpa [Lit.wf] using h
  have e : IntKind.i64.min = -9223372036854775808 := rfl
  omega

/-- WHAT THE WALK GIVES, FOR EVERY ARGUMENT AND EVERY WORLD THAT HOLDS THE TABLE. -/
theorem contract (H : Type) (enc : TypeId × Value → H) (W : World) (base : Nat) (args : Array Value) (ds gs : List (DataW H)) (before : List MemPlace)
    (hval : ∀ (j : Nat) t v, Tryd.f8.params[j]? = some t → args[j]? = some v → Value.okWide Tryd.prog W .any base t v)
    (hW : DataW.Whole enc Tryd.prog Tryd.f8.params.toList Rows.ratiosLowestSpec.vars false W args.toList ds gs before) (hL : laidMetH Tryd.prog Rows.ratiosLowestRow.laid W) :
    Calls Tryd.prog 8 args W fun e W' => ∃ v, e = .returned v ∧ Rows.ratiosLowestSpec.post enc Tryd.prog Tryd.f8 false true false false W args v W' := by
  have hW' := hW
  obtain ⟨p, q, hA0, hV, rfl, hfz, hnd⟩ := hW
  have hA : DataW.TrodAll enc Tryd.prog W 0 (fun _ => true) true Tryd.f8.params.toList args.toList ds p := hA0
  rw [Tryd.params8] at hA hval
  obtain ⟨v0, vs0, d0, ds0, p0, q0, hargs, rfl, rfl, h0, r0⟩ := trodAll_cons hA
  obtain ⟨v1, vs1, d1, ds1, p1, q1, rfl, rfl, rfl, h1, r1⟩ := trodAll_cons r0
  obtain ⟨rfl, rfl, rfl⟩ := trodAll_nil r1
  obtain rfl : args = #[v0, v1] := by cases args; simp_all
  obtain ⟨rfl, rfl⟩ := trodVars_none hV
  obtain ⟨f0, f1, f2, B⟩ := ratioB
  obtain ⟨b0, s0, u0, rfl, rfl, rfl, m0, k0⟩ := open_bss B (hval 0 23 v0 rfl rfl) h0
  obtain ⟨b1, s1, u1, rfl, rfl, rfl, m1, k1⟩ := open_bss B (hval 1 23 v1 rfl rfl) h1
  clear hA0
  simp only [List.append_nil] at hW'
  have walk := FnV.below (W := W) (R := fun r => r = .bool true) (lowLaw_fn ⟨b0, s0, u0⟩ ⟨b1, s1, u1⟩ (table hL))
  refine walk.mono fun e W' ⟨v, he, hv, hg⟩ => ?_
  subst he hv
  exact ⟨_, rfl, post_of_below (pa := []) (pv := []) hW' (fun _ _ _ => trodAll_cons_mk (shut_bool Tryd.underlying4 _) trodAll_mk0) (fun _ _ => trodAll_cons_mk (shut_bss B b0 m0 k0) (trodAll_cons_mk (shut_bss B b1 m1 k1) trodAll_mk0)) (fun _ _ => rfl) rfl
    hg (ok_one (by kernel_rfl) rfl (okWide_bool_mk Tryd.underlying4 _))⟩

theorem laid_met (os : Os) : laidMet Tryd.prog Rows.ratiosLowestRow.laid ((laidWorld os).forCall (fun _ _ => 0) ⟨#[], #[.agg #[.bool false, .string ⟨#[]⟩, .string ⟨#[]⟩], .agg #[.bool false, .string ⟨#[]⟩, .string ⟨#[]⟩]], []⟩).memory :=
  laidMet_of_run' 8 (by kernel_rfl) (by kernel_rfl)
theorem reads (os : Os) {H : Type} (enc : TypeId × Value → H) : ∃ places, DataW.whole enc Tryd.prog ((laidWorld os).forCall (fun _ _ => 0) ⟨#[], #[.agg #[.bool false, .string ⟨#[]⟩, .string ⟨#[]⟩], .agg #[.bool false, .string ⟨#[]⟩, .string ⟨#[]⟩]], []⟩).memory Tryd.f8.params.toList Rows.ratiosLowestSpec.vars false (#[.agg #[.bool false, .string ⟨#[]⟩, .string ⟨#[]⟩], .agg #[.bool false, .string ⟨#[]⟩, .string ⟨#[]⟩]] : Array Value).toList 8 = some ([.agg [.lit (.bool false), .lit (.string []), .lit (.string [])], .agg [.lit (.bool false), .lit (.string []), .lit (.string [])]], [], places) :=
  ⟨[], by kernel_rfl⟩

theorem lifted (os : Os) (started : os.Started) (H : Type) (enc : TypeId × Value → H) (F : Stop.Interp) :
    ReturnsInHanded {} Tryd.checked os 8 .any ((OpenSpec.ofChange Rows.ratiosLowestSpec).preRow enc Tryd.prog Tryd.f8 Rows.ratiosLowestRow.domain false Rows.ratiosLowestRow.laid) (((OpenSpec.ofChange Rows.ratiosLowestSpec).at F).post enc Tryd.prog Tryd.f8 false true false false) := by
  obtain ⟨places, hx⟩ := reads os enc
  refine returnsInHanded_of_row (C := Tryd.checked) (s := OpenSpec.ofChange Rows.ratiosLowestSpec) own started (by kernel_rfl) Tryd.func8
    (witness_row_at (enc := enc) (C := Tryd.checked) false (laidWorld os) #[.agg #[.bool false, .string ⟨#[]⟩, .string ⟨#[]⟩], .agg #[.bool false, .string ⟨#[]⟩, .string ⟨#[]⟩]] rfl (by kernel_rfl) (by kernel_rfl) (by kernel_rfl)
      (OpenSpec.preRow_of_cond 8 hx (by kernel_rfl) (fun k hk => by cases hk) (by kernel_rfl) (laid_met os))) ?_
  intro W base args ds gs before hval hW _ _ _ hL _ _
  exact contract H enc W base args ds gs before hval hW hL

theorem said : Rows.RatiosLowestSaid :=
  OpenClaim.holds_of_cond 8 Tryd.f8 rfl rfl rfl rfl rfl rfl rfl ⟨rfl, rfl, rfl, rfl, rfl⟩ rfl rfl rfl rfl rfl (by kernel_rfl) Tryd.func8 (by kernel_rfl)
    (of_decide_eq_true (by kernel_rfl)) (by unfold Func.isWrapper; first | (rw [if_pos (by decide +kernel)]; kernel_rfl) | (rw [if_neg (by decide +kernel)]; exact ⟨rfl, rfl⟩))
    (fun os started H enc _ F => by rw [OpenClaim.pre_eq_preRow]; exact lifted os started H enc F)

/-- No parameter wants a stand-in; the program's own looks are off. -/
theorem plain (f : FuncId) (fn : Func) (hf : Tryd.pinned.checked.prog.funcNamed "backflush/backflushlaw07.RatiosLowest" = some f) (hfn : Tryd.pinned.checked.prog.funcs[f]? = some fn) :
    true = Tryd.pinned.checked.prog.looks [] ∧ ∀ (j : Nat) t, fn.params[j]? = some t → Tryd.pinned.checked.prog.wantsStandIn t = false := by
  obtain rfl : f = 8 := Option.some.inj ((show Tryd.prog.funcNamed "backflush/backflushlaw07.RatiosLowest" = some 8 by kernel_rfl).symm.trans hf) |>.symm
  obtain rfl : fn = Tryd.f8 := (Option.some.inj (Tryd.func8.symm.trans hfn)).symm
  refine ⟨by kernel_rfl, fun j t ht => ?_⟩
  rw [Tryd.params8] at ht
  have hm := Array.mem_of_getElem? ht
  simp only [List.mem_toArray, List.mem_cons, List.not_mem_nil, or_false] at hm
  rcases hm with rfl | rfl
  · exact (show Tryd.prog.wantsStandIn 23 = false by kernel_rfl)
  · exact (show Tryd.prog.wantsStandIn 23 = false by kernel_rfl)

/-- THE CARD -/
theorem card : Rows.RatiosLowestCardSaid :=
  Claim7.holds_tied_plain_at .later [] _ _ _ _ said (fun _ h => by cases h) (by kernel_rfl) (fun _ h => by cases h) ratiosLowest_row_tie rfl ⟨rfl, rfl⟩ (by kernel_rfl) rfl plain (by kernel_rfl)
end Go.Proofs.YtccfjcmolfbjdaaDoor.ratiosLowest
