/- RatiosOrder: for every input the law returns true, and each argument reads behind the call as it read before; the table math/bits.deBruijn64tab holds, when the call begins, what the program's text lays (the card ties it). The statement RatiosOrder. The statement RatiosField. -/
import Derived.Test.YtccfjcmolfbjdaaDoorJoinE
set_option linter.unusedVariables false
set_option linter.unusedSimpArgs false
namespace Go.Proofs.YtccfjcmolfbjdaaDoor
open Go Go.Fw Go.NatM Go.RatM
set_option maxRecDepth 100000
set_option maxHeartbeats 32000000

theorem okV {a : Rt} (h : okR a ∧ (a.n.size : Int) ≤ 20 ∧ (a.d.size : Int) ≤ 20) : ∃ A, a = encQ A ∧ A.Ok ∧ A.le 20 := by
  obtain ⟨h1, h2, h3⟩ := h
  have c1 := chk_zero h1.1 (s := a.n) (by simp)
  have c2 := chk_zero h1.2.1 (s := a.d) (by simp)
  obtain ⟨e, ok, _⟩ := okR_q h1
  refine ⟨decQ a, e, ok, ?_, ?_⟩
  · show nb (natv a.n) ≤ 20
    rw [nb_natv c1.1]; omega
  · show nb (natv a.d) ≤ 20
    rw [nb_natv c2.1]; omega
theorem rzero : ratioV false 0 1 = encQ zq := by decide +kernel
theorem rone : ratioV false 1 1 = encQ oq := by decide +kernel

theorem encQ_cells {A B : Q} (h : A.neg = B.neg ∧ enc A.n = enc B.n ∧ enc A.d = enc B.d) : A = B := by
  obtain ⟨s, n, d⟩ := A
  obtain ⟨t, m, e⟩ := B
  obtain ⟨h1, h2, h3⟩ := h
  have h1 : s = t := h1
  have h2 : n = m := enc_inj h2
  have h3 : d = e := enc_inj h3
  rw [h1, h2, h3]

theorem field_fn {h : Array Obj} (a b c : Rt) (hT : TabH h) : FnV Tryd.prog 4 #[a.v, b.v, c.v] h fun r h' => r = .bool true ∧ Keeps h.size h h' := by
  by_cases hv : ∀ x ∈ [a, b, c], okR x ∧ (x.n.size : Int) ≤ 20 ∧ (x.d.size : Int) ≤ 20
  rotate_left
  · obtain ⟨s, n, d⟩ := a
    obtain ⟨t, m, e⟩ := b
    obtain ⟨u, k, f⟩ := c
    refine Fn.ofS (args := [.agg #[.bool s, .string n, .string d], .agg #[.bool t, .string m, .string e], .agg #[.bool u, .string k, .string f]]) Tryd.func4 (by kernel_rfl) rfl Tryd.ntmps4 rfl fun w0 cs => ?_
    conv => whnf
    refine goS_run tab 1000 _ _ _ _ ?_
    conv => whnf
    repeat (first | (refine And.intro (by omega) ?_; (try intro _); conv => whnf) | (refine And.intro ?_ (by omega); (try intro _); conv => whnf) | (refine ⟨_, RemV.nonneg (by omega) (by omega), ?_⟩; conv => whnf))
    refine RunsS.callV (fun Ez Hz Az Sz K => sane_fn (hT.keeps K.keeps)) ?_
    conv => whnf
    try refine goS_run tab 1000 _ _ _ _ ?_
    conv => whnf
    repeat (first | (refine And.intro (by omega) ?_; (try intro _); conv => whnf) | (refine And.intro ?_ (by omega); (try intro _); conv => whnf) | (refine ⟨_, RemV.nonneg (by omega) (by omega), ?_⟩; conv => whnf))
    refine RunsS.callV (fun Ez Hz Az Sz K => valid_fn [⟨s, n, d⟩, ⟨t, m, e⟩, ⟨u, k, f⟩] (Sz.ro (b := 3) rfl) (hT.keeps K.keeps)) ?_
    conv => whnf
    rw [decide_eq_false hv]
    try dsimp only
    try refine goS_run tab 1000 _ _ _ _ ?_
    conv => whnf
    repeat (first | (refine And.intro (by omega) ?_; (try intro _); conv => whnf) | (refine And.intro ?_ (by omega); (try intro _); conv => whnf) | (refine ⟨_, RemV.nonneg (by omega) (by omega), ?_⟩; conv => whnf))
    refine RunsS.retU (UnwS.ret tab Tryd.func4 rfl fun Ez Hz Az Sz K => ⟨_, rfl, rfl, K.keeps⟩)
  obtain ⟨A, rfl, oA, lA⟩ := okV (hv a (by simp))
  obtain ⟨B, rfl, oB, lB⟩ := okV (hv b (by simp))
  obtain ⟨C, rfl, oC, lC⟩ := okV (hv c (by simp))
  obtain ⟨AB, e1, o1, l1, v1⟩ := addR_ok oA oB lA lB (by omega)
  obtain ⟨BA, e2, o2, l2, v2⟩ := addR_ok oB oA lB lA (by omega)
  obtain ⟨ABC, e3, o3, l3, v3⟩ := addR_ok o1 oC l1 lC (by omega)
  obtain ⟨BC, e4, o4, l4, v4⟩ := addR_ok oB oC lB lC (by omega)
  obtain ⟨ACB, e5, o5, l5, v5⟩ := addR_ok oA o4 lA l4 (by omega)
  have q1 : BA = AB := Q.inj o2 o1 (by rw [v1, v2]; grind)
  have q2 : ACB = ABC := Q.inj o5 o3 (by rw [v5, v3, v1, v4]; grind)
  subst q1 q2
  obtain ⟨P, f1, p1, k1, w1⟩ := mulR_ok oA oB lA lB (by omega)
  obtain ⟨QQ, f2, p2, k2, w2⟩ := mulR_ok oB oA lB lA (by omega)
  obtain ⟨PC, f3, p3, k3, w3⟩ := mulR_ok p1 oC k1 lC (by omega)
  obtain ⟨R, f4, p4, k4, w4⟩ := mulR_ok oB oC lB lC (by omega)
  obtain ⟨AR, f5, p5, k5, w5⟩ := mulR_ok oA p4 lA k4 (by omega)
  have q3 : QQ = P := Q.inj p2 p1 (by rw [w1, w2]; grind)
  have q4 : AR = PC := Q.inj p5 p3 (by rw [w5, w3, w1, w4]; grind)
  subst q3 q4
  obtain ⟨S, g1, s1, m1, x1⟩ := mulR_ok oA o4 lA l4 (by omega)
  obtain ⟨AC, g2, s2, m2, x2⟩ := mulR_ok oA oC lA lC (by omega)
  obtain ⟨T, g3, s3, m3, x3⟩ := addR_ok p2 s2 k2 m2 (by omega)
  obtain ⟨BK, g4, s4, m4, x4⟩ := subR_ok o2 oB l2 lB (by omega)
  obtain ⟨SM, g5, s5, m5, x5⟩ := addR_ok oA zq_ok lA zq_le (by omega)
  obtain ⟨WH, g6, s6, m6, x6⟩ := mulR_ok oA oq_ok lA oq_le (by omega)
  have q5 : T = S := Q.inj s3 s1 (by rw [x1, x3, x2, w2, v4]; grind)
  have q6 : BK = A := Q.inj s4 oA (by rw [x4, v2]; grind)
  have q7 : SM = A := Q.inj s5 oA (by rw [x5, zq_val]; grind)
  have q8 : WH = A := Q.inj s6 oA (by rw [x6, oq_val]; grind)
  rw [q5] at g3
  rw [q6] at g4
  rw [q7] at g5
  rw [q8] at g6
  refine Fn.ofS (args := [.agg #[.bool A.neg, .string (enc A.n), .string (enc A.d)], .agg #[.bool B.neg, .string (enc B.n), .string (enc B.d)], .agg #[.bool C.neg, .string (enc C.n), .string (enc C.d)]]) Tryd.func4 (by kernel_rfl) rfl Tryd.ntmps4 rfl fun w0 cs => ?_
  conv => whnf
  refine goS_run tab 1000 _ _ _ _ ?_
  conv => whnf
  repeat (first | (refine And.intro (by omega) ?_; (try intro _); conv => whnf) | (refine And.intro ?_ (by omega); (try intro _); conv => whnf) | (refine ⟨_, RemV.nonneg (by omega) (by omega), ?_⟩; conv => whnf))
  refine RunsS.callV (fun Ez Hz Az Sz K => sane_fn (hT.keeps K.keeps)) ?_
  conv => whnf
  try refine goS_run tab 1000 _ _ _ _ ?_
  conv => whnf
  repeat (first | (refine And.intro (by omega) ?_; (try intro _); conv => whnf) | (refine And.intro ?_ (by omega); (try intro _); conv => whnf) | (refine ⟨_, RemV.nonneg (by omega) (by omega), ?_⟩; conv => whnf))
  refine RunsS.callV (fun Ez Hz Az Sz K => valid_fn [encQ A, encQ B, encQ C] (Sz.ro (b := 3) rfl) (hT.keeps K.keeps)) ?_
  conv => whnf
  rw [decide_eq_true hv]
  try dsimp only
  try refine goS_run tab 1000 _ _ _ _ ?_
  conv => whnf
  repeat (first | (refine And.intro (by omega) ?_; (try intro _); conv => whnf) | (refine And.intro ?_ (by omega); (try intro _); conv => whnf) | (refine ⟨_, RemV.nonneg (by omega) (by omega), ?_⟩; conv => whnf))
  refine RunsS.callV (fun Ez Hz Az Sz K => ratio_fn false 0 1) ?_
  conv => whnf
  rw [rzero]
  try dsimp only
  try refine goS_run tab 1000 _ _ _ _ ?_
  conv => whnf
  repeat (first | (refine And.intro (by omega) ?_; (try intro _); conv => whnf) | (refine And.intro ?_ (by omega); (try intro _); conv => whnf) | (refine ⟨_, RemV.nonneg (by omega) (by omega), ?_⟩; conv => whnf))
  refine RunsS.callV (fun Ez Hz Az Sz K => ratio_fn false 1 1) ?_
  conv => whnf
  rw [rone]
  try dsimp only
  try refine goS_run tab 1000 _ _ _ _ ?_
  conv => whnf
  repeat (first | (refine And.intro (by omega) ?_; (try intro _); conv => whnf) | (refine And.intro ?_ (by omega); (try intro _); conv => whnf) | (refine ⟨_, RemV.nonneg (by omega) (by omega), ?_⟩; conv => whnf))
  refine RunsS.callV (fun Ez Hz Az Sz K => qAdd_fn (encQ A) (encQ B) (hT.keeps K.keeps)) ?_
  conv => whnf
  rw [e1]
  try dsimp only
  try refine goS_run tab 1000 _ _ _ _ ?_
  conv => whnf
  repeat (first | (refine And.intro (by omega) ?_; (try intro _); conv => whnf) | (refine And.intro ?_ (by omega); (try intro _); conv => whnf) | (refine ⟨_, RemV.nonneg (by omega) (by omega), ?_⟩; conv => whnf))
  refine RunsS.callV (fun Ez Hz Az Sz K => qAdd_fn (encQ B) (encQ A) (hT.keeps K.keeps)) ?_
  conv => whnf
  rw [e2]
  try dsimp only
  try refine goS_run tab 1000 _ _ _ _ ?_
  conv => whnf
  repeat (first | (refine And.intro (by omega) ?_; (try intro _); conv => whnf) | (refine And.intro ?_ (by omega); (try intro _); conv => whnf) | (refine ⟨_, RemV.nonneg (by omega) (by omega), ?_⟩; conv => whnf))
  refine RunsS.callV (fun Ez Hz Az Sz K => qAdd_fn (encQ BA) (encQ C) (hT.keeps K.keeps)) ?_
  conv => whnf
  rw [e3]
  try dsimp only
  try refine goS_run tab 1000 _ _ _ _ ?_
  conv => whnf
  repeat (first | (refine And.intro (by omega) ?_; (try intro _); conv => whnf) | (refine And.intro ?_ (by omega); (try intro _); conv => whnf) | (refine ⟨_, RemV.nonneg (by omega) (by omega), ?_⟩; conv => whnf))
  refine RunsS.callV (fun Ez Hz Az Sz K => qAdd_fn (encQ B) (encQ C) (hT.keeps K.keeps)) ?_
  conv => whnf
  rw [e4]
  try dsimp only
  try refine goS_run tab 1000 _ _ _ _ ?_
  conv => whnf
  repeat (first | (refine And.intro (by omega) ?_; (try intro _); conv => whnf) | (refine And.intro ?_ (by omega); (try intro _); conv => whnf) | (refine ⟨_, RemV.nonneg (by omega) (by omega), ?_⟩; conv => whnf))
  refine RunsS.callV (fun Ez Hz Az Sz K => qAdd_fn (encQ A) (encQ BC) (hT.keeps K.keeps)) ?_
  conv => whnf
  rw [e5]
  try dsimp only
  try refine goS_run tab 1000 _ _ _ _ ?_
  conv => whnf
  repeat (first | (refine And.intro (by omega) ?_; (try intro _); conv => whnf) | (refine And.intro ?_ (by omega); (try intro _); conv => whnf) | (refine ⟨_, RemV.nonneg (by omega) (by omega), ?_⟩; conv => whnf))
  refine And.intro (fun _ => ?_) (fun hn => absurd (⟨rfl, rfl, rfl⟩) hn)
  conv => whnf
  conv => whnf
  repeat (first | (refine And.intro (by omega) ?_; (try intro _); conv => whnf) | (refine And.intro ?_ (by omega); (try intro _); conv => whnf) | (refine ⟨_, RemV.nonneg (by omega) (by omega), ?_⟩; conv => whnf))
  refine And.intro (fun _ => ?_) (fun hn => absurd (⟨rfl, rfl, rfl⟩) hn)
  conv => whnf
  conv => whnf
  repeat (first | (refine And.intro (by omega) ?_; (try intro _); conv => whnf) | (refine And.intro ?_ (by omega); (try intro _); conv => whnf) | (refine ⟨_, RemV.nonneg (by omega) (by omega), ?_⟩; conv => whnf))
  refine RunsS.callV (fun Ez Hz Az Sz K => qMul_fn (encQ A) (encQ B) (hT.keeps K.keeps)) ?_
  conv => whnf
  rw [f1]
  try dsimp only
  try refine goS_run tab 1000 _ _ _ _ ?_
  conv => whnf
  repeat (first | (refine And.intro (by omega) ?_; (try intro _); conv => whnf) | (refine And.intro ?_ (by omega); (try intro _); conv => whnf) | (refine ⟨_, RemV.nonneg (by omega) (by omega), ?_⟩; conv => whnf))
  refine RunsS.callV (fun Ez Hz Az Sz K => qMul_fn (encQ B) (encQ A) (hT.keeps K.keeps)) ?_
  conv => whnf
  rw [f2]
  try dsimp only
  try refine goS_run tab 1000 _ _ _ _ ?_
  conv => whnf
  repeat (first | (refine And.intro (by omega) ?_; (try intro _); conv => whnf) | (refine And.intro ?_ (by omega); (try intro _); conv => whnf) | (refine ⟨_, RemV.nonneg (by omega) (by omega), ?_⟩; conv => whnf))
  refine RunsS.callV (fun Ez Hz Az Sz K => qMul_fn (encQ QQ) (encQ C) (hT.keeps K.keeps)) ?_
  conv => whnf
  rw [f3]
  try dsimp only
  try refine goS_run tab 1000 _ _ _ _ ?_
  conv => whnf
  repeat (first | (refine And.intro (by omega) ?_; (try intro _); conv => whnf) | (refine And.intro ?_ (by omega); (try intro _); conv => whnf) | (refine ⟨_, RemV.nonneg (by omega) (by omega), ?_⟩; conv => whnf))
  refine RunsS.callV (fun Ez Hz Az Sz K => qMul_fn (encQ B) (encQ C) (hT.keeps K.keeps)) ?_
  conv => whnf
  rw [f4]
  try dsimp only
  try refine goS_run tab 1000 _ _ _ _ ?_
  conv => whnf
  repeat (first | (refine And.intro (by omega) ?_; (try intro _); conv => whnf) | (refine And.intro ?_ (by omega); (try intro _); conv => whnf) | (refine ⟨_, RemV.nonneg (by omega) (by omega), ?_⟩; conv => whnf))
  refine RunsS.callV (fun Ez Hz Az Sz K => qMul_fn (encQ A) (encQ R) (hT.keeps K.keeps)) ?_
  conv => whnf
  rw [f5]
  try dsimp only
  try refine goS_run tab 1000 _ _ _ _ ?_
  conv => whnf
  repeat (first | (refine And.intro (by omega) ?_; (try intro _); conv => whnf) | (refine And.intro ?_ (by omega); (try intro _); conv => whnf) | (refine ⟨_, RemV.nonneg (by omega) (by omega), ?_⟩; conv => whnf))
  refine And.intro (fun _ => ?_) (fun hn => absurd (⟨rfl, rfl, rfl⟩) hn)
  conv => whnf
  conv => whnf
  repeat (first | (refine And.intro (by omega) ?_; (try intro _); conv => whnf) | (refine And.intro ?_ (by omega); (try intro _); conv => whnf) | (refine ⟨_, RemV.nonneg (by omega) (by omega), ?_⟩; conv => whnf))
  refine And.intro (fun _ => ?_) (fun hn => absurd (⟨rfl, rfl, rfl⟩) hn)
  conv => whnf
  conv => whnf
  repeat (first | (refine And.intro (by omega) ?_; (try intro _); conv => whnf) | (refine And.intro ?_ (by omega); (try intro _); conv => whnf) | (refine ⟨_, RemV.nonneg (by omega) (by omega), ?_⟩; conv => whnf))
  refine RunsS.callV (fun Ez Hz Az Sz K => qMul_fn (encQ A) (encQ BC) (hT.keeps K.keeps)) ?_
  conv => whnf
  rw [g1]
  try dsimp only
  try refine goS_run tab 1000 _ _ _ _ ?_
  conv => whnf
  repeat (first | (refine And.intro (by omega) ?_; (try intro _); conv => whnf) | (refine And.intro ?_ (by omega); (try intro _); conv => whnf) | (refine ⟨_, RemV.nonneg (by omega) (by omega), ?_⟩; conv => whnf))
  refine RunsS.callV (fun Ez Hz Az Sz K => qMul_fn (encQ A) (encQ C) (hT.keeps K.keeps)) ?_
  conv => whnf
  rw [g2]
  try dsimp only
  try refine goS_run tab 1000 _ _ _ _ ?_
  conv => whnf
  repeat (first | (refine And.intro (by omega) ?_; (try intro _); conv => whnf) | (refine And.intro ?_ (by omega); (try intro _); conv => whnf) | (refine ⟨_, RemV.nonneg (by omega) (by omega), ?_⟩; conv => whnf))
  refine RunsS.callV (fun Ez Hz Az Sz K => qAdd_fn (encQ QQ) (encQ AC) (hT.keeps K.keeps)) ?_
  conv => whnf
  rw [g3]
  try dsimp only
  try refine goS_run tab 1000 _ _ _ _ ?_
  conv => whnf
  repeat (first | (refine And.intro (by omega) ?_; (try intro _); conv => whnf) | (refine And.intro ?_ (by omega); (try intro _); conv => whnf) | (refine ⟨_, RemV.nonneg (by omega) (by omega), ?_⟩; conv => whnf))
  refine RunsS.callV (fun Ez Hz Az Sz K => qSub_fn (encQ BA) (encQ B) (hT.keeps K.keeps)) ?_
  conv => whnf
  rw [g4]
  try dsimp only
  try refine goS_run tab 1000 _ _ _ _ ?_
  conv => whnf
  repeat (first | (refine And.intro (by omega) ?_; (try intro _); conv => whnf) | (refine And.intro ?_ (by omega); (try intro _); conv => whnf) | (refine ⟨_, RemV.nonneg (by omega) (by omega), ?_⟩; conv => whnf))
  refine RunsS.callV (fun Ez Hz Az Sz K => qAdd_fn (encQ A) (encQ zq) (hT.keeps K.keeps)) ?_
  conv => whnf
  rw [g5]
  try dsimp only
  try refine goS_run tab 1000 _ _ _ _ ?_
  conv => whnf
  repeat (first | (refine And.intro (by omega) ?_; (try intro _); conv => whnf) | (refine And.intro ?_ (by omega); (try intro _); conv => whnf) | (refine ⟨_, RemV.nonneg (by omega) (by omega), ?_⟩; conv => whnf))
  refine RunsS.callV (fun Ez Hz Az Sz K => qMul_fn (encQ A) (encQ oq) (hT.keeps K.keeps)) ?_
  conv => whnf
  rw [g6]
  try dsimp only
  try refine goS_run tab 1000 _ _ _ _ ?_
  conv => whnf
  repeat (first | (refine And.intro (by omega) ?_; (try intro _); conv => whnf) | (refine And.intro ?_ (by omega); (try intro _); conv => whnf) | (refine ⟨_, RemV.nonneg (by omega) (by omega), ?_⟩; conv => whnf))
  refine And.intro (fun _ => ?_) (fun hn => absurd (⟨rfl, rfl, rfl⟩) hn)
  conv => whnf
  conv => whnf
  repeat (first | (refine And.intro (by omega) ?_; (try intro _); conv => whnf) | (refine And.intro ?_ (by omega); (try intro _); conv => whnf) | (refine ⟨_, RemV.nonneg (by omega) (by omega), ?_⟩; conv => whnf))
  refine And.intro (fun _ => ?_) (fun hn => absurd (⟨rfl, rfl, rfl⟩) hn)
  conv => whnf
  conv => whnf
  repeat (first | (refine And.intro (by omega) ?_; (try intro _); conv => whnf) | (refine And.intro ?_ (by omega); (try intro _); conv => whnf) | (refine ⟨_, RemV.nonneg (by omega) (by omega), ?_⟩; conv => whnf))
  refine And.intro (fun _ => ?_) (fun hn => absurd (⟨rfl, rfl, rfl⟩) hn)
  conv => whnf
  conv => whnf
  repeat (first | (refine And.intro (by omega) ?_; (try intro _); conv => whnf) | (refine And.intro ?_ (by omega); (try intro _); conv => whnf) | (refine ⟨_, RemV.nonneg (by omega) (by omega), ?_⟩; conv => whnf))
  refine And.intro (fun _ => ?_) (fun hn => absurd (⟨rfl, rfl, rfl⟩) hn)
  conv => whnf
  conv => whnf
  repeat (first | (refine And.intro (by omega) ?_; (try intro _); conv => whnf) | (refine And.intro ?_ (by omega); (try intro _); conv => whnf) | (refine ⟨_, RemV.nonneg (by omega) (by omega), ?_⟩; conv => whnf))
  refine ⟨fun hz => ?_, fun hz => ?_⟩ <;> conv => whnf
  · have hz := encQ_cells hz
    conv => whnf
    repeat (first | (refine And.intro (by omega) ?_; (try intro _); conv => whnf) | (refine And.intro ?_ (by omega); (try intro _); conv => whnf) | (refine ⟨_, RemV.nonneg (by omega) (by omega), ?_⟩; conv => whnf))
    refine RunsS.callV (fun Ez Hz Az Sz K => qDiv_fn (encQ A) (encQ B) (hT.keeps K.keeps)) ?_
    conv => whnf
    rw [divR_z oA oB lA lB (by omega) hz]
    try dsimp only
    try refine goS_run tab 1000 _ _ _ _ ?_
    conv => whnf
    repeat (first | (refine And.intro (by omega) ?_; (try intro _); conv => whnf) | (refine And.intro ?_ (by omega); (try intro _); conv => whnf) | (refine ⟨_, RemV.nonneg (by omega) (by omega), ?_⟩; conv => whnf))
    refine RunsS.retU (UnwS.ret tab Tryd.func4 rfl fun Ez Hz Az Sz K => ⟨_, rfl, rfl, K.keeps⟩)
  · have hz : B ≠ zq := fun e => hz (by rw [e]; exact ⟨rfl, rfl, rfl⟩)
    obtain ⟨U, r1, r2, r3, r4⟩ := divR_ok p2 oB k2 lB (by omega) hz
    have hb : B.val ≠ 0 := fun e => hz ((val_zero oB).1 e)
    have q9 : U = A := Q.inj r2 oA (by rw [r4, w2]; grind)
    rw [q9] at r1
    conv => whnf
    repeat (first | (refine And.intro (by omega) ?_; (try intro _); conv => whnf) | (refine And.intro ?_ (by omega); (try intro _); conv => whnf) | (refine ⟨_, RemV.nonneg (by omega) (by omega), ?_⟩; conv => whnf))
    refine RunsS.callV (fun Ez Hz Az Sz K => qDiv_fn (encQ QQ) (encQ B) (hT.keeps K.keeps)) ?_
    conv => whnf
    rw [r1]
    try dsimp only
    try refine goS_run tab 1000 _ _ _ _ ?_
    conv => whnf
    repeat (first | (refine And.intro (by omega) ?_; (try intro _); conv => whnf) | (refine And.intro ?_ (by omega); (try intro _); conv => whnf) | (refine ⟨_, RemV.nonneg (by omega) (by omega), ?_⟩; conv => whnf))
    refine RunsS.retU (UnwS.ret tab Tryd.func4 rfl fun Ez Hz Az Sz K => ⟨_, rfl, ?_, K.keeps⟩)
    exact congrArg Value.bool (decide_eq_true ⟨rfl, rfl, rfl⟩)
end Go.Proofs.YtccfjcmolfbjdaaDoor

namespace Go.Proofs.YtccfjcmolfbjdaaDoor
open Go Go.Fw Go.NatM Go.RatM
set_option maxRecDepth 100000
set_option maxHeartbeats 32000000

theorem cmpQ_self {A : Q} (hA : A.Ok) : cmpQ A A = 0 := by
  have h := cmpQ_lt hA hA
  have : ¬ A.val < A.val := by grind
  rcases h.2.2 with h1 | h1 | h1
  · exact absurd (h.1.1 h1) this
  · exact h1
  · exact absurd (h.2.1.1 h1) this
theorem cmpQ_zero {A B : Q} (hA : A.Ok) (hB : B.Ok) : cmpQ A B = 0 ↔ A = B := by
  constructor
  · intro h0
    have h := cmpQ_lt hA hB
    refine Q.inj hA hB ?_
    have h1 : ¬ A.val < B.val := fun e => by have := h.1.2 e; omega
    have h2 : ¬ B.val < A.val := fun e => by have := h.2.1.2 e; omega
    grind
  · intro e; rw [e]; exact cmpQ_self hB
theorem cmpQ_flip {A B : Q} (hA : A.Ok) (hB : B.Ok) : cmpQ B A = 0 - cmpQ A B := by
  have h := cmpQ_lt hA hB
  have k := cmpQ_lt hB hA
  by_cases h1 : A.val < B.val
  · rw [h.1.2 h1, k.2.1.2 h1]; rfl
  · by_cases h2 : B.val < A.val
    · rw [h.2.1.2 h2, k.1.2 h2]; rfl
    · have a1 : cmpQ A B ≠ -1 := fun e => h1 (h.1.1 e)
      have a2 : cmpQ A B ≠ 1 := fun e => h2 (h.2.1.1 e)
      have a3 : cmpQ B A ≠ -1 := fun e => h2 (k.1.1 e)
      have a4 : cmpQ B A ≠ 1 := fun e => h1 (k.2.1.1 e)
      omega
theorem cmpQ_eq {A B C D : Q} (hA : A.Ok) (hB : B.Ok) (hC : C.Ok) (hD : D.Ok) (h1 : A.val < B.val ↔ C.val < D.val) (h2 : B.val < A.val ↔ D.val < C.val) : cmpQ A B = cmpQ C D := by
  have h := cmpQ_lt hA hB
  have k := cmpQ_lt hC hD
  by_cases c1 : A.val < B.val
  · rw [h.1.2 c1, k.1.2 (h1.1 c1)]
  · by_cases c2 : B.val < A.val
    · rw [h.2.1.2 c2, k.2.1.2 (h2.1 c2)]
    · have a1 : cmpQ A B ≠ -1 := fun e => c1 (h.1.1 e)
      have a2 : cmpQ A B ≠ 1 := fun e => c2 (h.2.1.1 e)
      have a3 : cmpQ C D ≠ -1 := fun e => c1 (h1.2 (k.1.1 e))
      have a4 : cmpQ C D ≠ 1 := fun e => c2 (h2.2 (k.2.1.1 e))
      omega
theorem sgn_pos {D : Q} (h : D.Ok) : 0 < D.val ↔ D.neg = false ∧ D.n ≠ 0 := by
  have h1 := val_lt zq_ok h
  rw [zq_val] at h1
  rw [h1]
  show (sg false 0 : Int) * (D.d : Int) < sg D.neg D.n * ((1 : Nat) : Int) ↔ _
  rw [sg_zero]
  cases hn : D.neg <;> simp [sg] <;> omega

theorem order_fn {h : Array Obj} (a b c : Rt) (hT : TabH h) : FnV Tryd.prog 5 #[a.v, b.v, c.v] h fun r h' => r = .bool true ∧ Keeps h.size h h' := by
  by_cases hv : ∀ x ∈ [a, b, c], okR x ∧ (x.n.size : Int) ≤ 20 ∧ (x.d.size : Int) ≤ 20
  rotate_left
  · obtain ⟨s, n, d⟩ := a
    obtain ⟨t, m, e⟩ := b
    obtain ⟨u, k, f⟩ := c
    refine Fn.ofS (args := [.agg #[.bool s, .string n, .string d], .agg #[.bool t, .string m, .string e], .agg #[.bool u, .string k, .string f]]) Tryd.func5 (by kernel_rfl) rfl Tryd.ntmps5 rfl fun w0 cs => ?_
    conv => whnf
    refine goS_run tab 1000 _ _ _ _ ?_
    conv => whnf
    repeat (first | (refine And.intro (by omega) ?_; (try intro _); conv => whnf) | (refine And.intro ?_ (by omega); (try intro _); conv => whnf) | (refine ⟨_, RemV.nonneg (by omega) (by omega), ?_⟩; conv => whnf))
    refine RunsS.callV (fun Ez Hz Az Sz K => sane_fn (hT.keeps K.keeps)) ?_
    conv => whnf
    try refine goS_run tab 1000 _ _ _ _ ?_
    conv => whnf
    repeat (first | (refine And.intro (by omega) ?_; (try intro _); conv => whnf) | (refine And.intro ?_ (by omega); (try intro _); conv => whnf) | (refine ⟨_, RemV.nonneg (by omega) (by omega), ?_⟩; conv => whnf))
    refine RunsS.callV (fun Ez Hz Az Sz K => valid_fn [⟨s, n, d⟩, ⟨t, m, e⟩, ⟨u, k, f⟩] (Sz.ro (b := 3) rfl) (hT.keeps K.keeps)) ?_
    conv => whnf
    rw [decide_eq_false hv]
    try dsimp only
    try refine goS_run tab 1000 _ _ _ _ ?_
    conv => whnf
    repeat (first | (refine And.intro (by omega) ?_; (try intro _); conv => whnf) | (refine And.intro ?_ (by omega); (try intro _); conv => whnf) | (refine ⟨_, RemV.nonneg (by omega) (by omega), ?_⟩; conv => whnf))
    refine RunsS.retU (UnwS.ret tab Tryd.func5 rfl fun Ez Hz Az Sz K => ⟨_, rfl, rfl, K.keeps⟩)
  obtain ⟨A, rfl, oA, lA⟩ := okV (hv a (by simp))
  obtain ⟨B, rfl, oB, lB⟩ := okV (hv b (by simp))
  obtain ⟨C, rfl, oC, lC⟩ := okV (hv c (by simp))
  obtain ⟨D, e1, o1, l1, v1⟩ := subR_ok oB oA lB lA (by omega)
  obtain ⟨X, e2, o2, l2, v2⟩ := addR_ok oA oC lA lC (by omega)
  obtain ⟨Y, e3, o3, l3, v3⟩ := addR_ok oB oC lB lC (by omega)
  obtain ⟨U, e4, o4, l4, v4⟩ := mulR_ok oA oC lA lC (by omega)
  obtain ⟨V, e5, o5, l5, v5⟩ := mulR_ok oB oC lB lC (by omega)
  have hab := cmpQ_lt oA oB
  have hbc := cmpQ_lt oB oC
  have hac := cmpQ_lt oA oC
  have hba := cmpQ_flip oA oB
  have hxy : cmpQ X Y = cmpQ A B := cmpQ_eq o2 o3 oA oB (by rw [v2, v3]; constructor <;> intro <;> grind) (by rw [v2, v3]; constructor <;> intro <;> grind)
  have htr : cmpQ A B ≤ 0 → cmpQ B C ≤ 0 → cmpQ A C ≤ 0 := fun h1 h2 => by
    have n1 : ¬ B.val < A.val := fun e => by have := hab.2.1.2 e; omega
    have n2 : ¬ C.val < B.val := fun e => by have := hbc.2.1.2 e; omega
    have n3 : ¬ C.val < A.val := by grind
    have : cmpQ A C ≠ 1 := fun e => n3 (hac.2.1.1 e)
    omega
  have hD := sgn_pos o1
  have hz := cmpQ_zero oA oB
  have c1 := cmpR_ok oA oB lA lB (by omega)
  have c2 := cmpR_ok oB oA lB lA (by omega)
  have c3 := cmpR_ok oB oC lB lC (by omega)
  have c4 := cmpR_ok oA oC lA lC (by omega)
  have c5 := cmpR_ok o2 o3 l2 l3 (by omega)
  have c6 := cmpR_ok o4 o5 l4 l5 (by omega)
  have hUV : C.neg = false → C.n ≠ 0 → cmpQ U V = cmpQ A B := fun h1 h2 => by
    have hc := (sgn_pos oC).2 ⟨h1, h2⟩
    refine cmpQ_eq o4 o5 oA oB ?_ ?_
    · rw [v4, v5]
      exact ⟨fun hh => by
        have : ¬ B.val ≤ A.val := fun hle => by
          have := Rat.mul_le_mul_of_nonneg_right hle (Rat.le_of_lt hc)
          grind
        grind, fun hh => Rat.mul_lt_mul_of_pos_right hh hc⟩
    · rw [v4, v5]
      exact ⟨fun hh => by
        have : ¬ A.val ≤ B.val := fun hle => by
          have := Rat.mul_le_mul_of_nonneg_right hle (Rat.le_of_lt hc)
          grind
        grind, fun hh => Rat.mul_lt_mul_of_pos_right hh hc⟩
  have hDv : 0 < D.val ↔ A.val < B.val := by rw [v1]; constructor <;> intro <;> grind
  rw [hDv] at hD
  rw [hba] at c2
  rw [hxy] at c5
  obtain ⟨N, hN⟩ : ∃ N, N = cmpQ A B := ⟨_, rfl⟩
  obtain ⟨KK, hK⟩ : ∃ KK, KK = cmpQ B C := ⟨_, rfl⟩
  obtain ⟨L, hL⟩ : ∃ L, L = cmpQ A C := ⟨_, rfl⟩
  rw [← hN] at c1 c2 c5 htr hab hz hUV
  rw [← hK] at c3 htr hbc
  rw [← hL] at c4 htr hac
  rw [← hab.1] at hD
  obtain ⟨W, hW⟩ : ∃ W, W = cmpQ U V := ⟨_, rfl⟩
  rw [← hW] at c6 hUV
  have bN : N = -1 ∨ N = 0 ∨ N = 1 := hab.2.2
  have bK : KK = -1 ∨ KK = 0 ∨ KK = 1 := hbc.2.2
  have bL : L = -1 ∨ L = 0 ∨ L = 1 := hac.2.2
  clear hab hbc hac hxy hba hDv v1 v2 v3 v4 v5 hN hK hL hW
  obtain ⟨cc, Cn, Cd⟩ := C
  refine Fn.ofS (args := [.agg #[.bool A.neg, .string (enc A.n), .string (enc A.d)], .agg #[.bool B.neg, .string (enc B.n), .string (enc B.d)], .agg #[.bool cc, .string (enc Cn), .string (enc Cd)]]) Tryd.func5 (by kernel_rfl) rfl Tryd.ntmps5 rfl fun w0 cs => ?_
  conv => whnf
  refine goS_run tab 1000 _ _ _ _ ?_
  conv => whnf
  repeat (first | (refine And.intro (by omega) ?_; (try intro _); conv => whnf) | (refine And.intro ?_ (by omega); (try intro _); conv => whnf) | (refine ⟨_, RemV.nonneg (by omega) (by omega), ?_⟩; conv => whnf))
  refine RunsS.callV (fun Ez Hz Az Sz K => sane_fn (hT.keeps K.keeps)) ?_
  conv => whnf
  try refine goS_run tab 1000 _ _ _ _ ?_
  conv => whnf
  repeat (first | (refine And.intro (by omega) ?_; (try intro _); conv => whnf) | (refine And.intro ?_ (by omega); (try intro _); conv => whnf) | (refine ⟨_, RemV.nonneg (by omega) (by omega), ?_⟩; conv => whnf))
  refine RunsS.callV (fun Ez Hz Az Sz K => valid_fn [encQ A, encQ B, encQ ⟨cc, Cn, Cd⟩] (Sz.ro (b := 3) rfl) (hT.keeps K.keeps)) ?_
  conv => whnf
  rw [decide_eq_true hv]
  try dsimp only
  try refine goS_run tab 1000 _ _ _ _ ?_
  conv => whnf
  repeat (first | (refine And.intro (by omega) ?_; (try intro _); conv => whnf) | (refine And.intro ?_ (by omega); (try intro _); conv => whnf) | (refine ⟨_, RemV.nonneg (by omega) (by omega), ?_⟩; conv => whnf))
  refine RunsS.callV (fun Ez Hz Az Sz K => qCompare_fn (encQ A) (encQ B) (hT.keeps K.keeps)) ?_
  conv => whnf
  rw [c1]
  try dsimp only
  try refine goS_run tab 1000 _ _ _ _ ?_
  conv => whnf
  repeat (first | (refine And.intro (by omega) ?_; (try intro _); conv => whnf) | (refine And.intro ?_ (by omega); (try intro _); conv => whnf) | (refine ⟨_, RemV.nonneg (by omega) (by omega), ?_⟩; conv => whnf))
  refine RunsS.callV (fun Ez Hz Az Sz K => qCompare_fn (encQ B) (encQ A) (hT.keeps K.keeps)) ?_
  conv => whnf
  rw [c2]
  try dsimp only
  try refine goS_run tab 1000 _ _ _ _ ?_
  conv => whnf
  repeat (first | (refine And.intro (by omega) ?_; (try intro _); conv => whnf) | (refine And.intro ?_ (by omega); (try intro _); conv => whnf) | (refine ⟨_, RemV.nonneg (by omega) (by omega), ?_⟩; conv => whnf))
  refine RunsS.callV (fun Ez Hz Az Sz K => qCompare_fn (encQ B) (encQ ⟨cc, Cn, Cd⟩) (hT.keeps K.keeps)) ?_
  conv => whnf
  rw [c3]
  try dsimp only
  try refine goS_run tab 1000 _ _ _ _ ?_
  conv => whnf
  repeat (first | (refine And.intro (by omega) ?_; (try intro _); conv => whnf) | (refine And.intro ?_ (by omega); (try intro _); conv => whnf) | (refine ⟨_, RemV.nonneg (by omega) (by omega), ?_⟩; conv => whnf))
  refine RunsS.callV (fun Ez Hz Az Sz K => qCompare_fn (encQ A) (encQ ⟨cc, Cn, Cd⟩) (hT.keeps K.keeps)) ?_
  conv => whnf
  rw [c4]
  try dsimp only
  try refine goS_run tab 1000 _ _ _ _ ?_
  conv => whnf
  repeat (first | (refine And.intro (by omega) ?_; (try intro _); conv => whnf) | (refine And.intro ?_ (by omega); (try intro _); conv => whnf) | (refine ⟨_, RemV.nonneg (by omega) (by omega), ?_⟩; conv => whnf))
  refine RunsS.callV (fun Ez Hz Az Sz K => qSub_fn (encQ B) (encQ A) (hT.keeps K.keeps)) ?_
  conv => whnf
  rw [e1]
  try dsimp only
  try refine goS_run tab 1000 _ _ _ _ ?_
  conv => whnf
  repeat (first | (refine And.intro (by omega) ?_; (try intro _); conv => whnf) | (refine And.intro ?_ (by omega); (try intro _); conv => whnf) | (refine ⟨_, RemV.nonneg (by omega) (by omega), ?_⟩; conv => whnf))
  refine RunsS.callV (fun Ez Hz Az Sz K => qAdd_fn (encQ A) (encQ ⟨cc, Cn, Cd⟩) (hT.keeps K.keeps)) ?_
  conv => whnf
  rw [e2]
  try dsimp only
  try refine goS_run tab 1000 _ _ _ _ ?_
  conv => whnf
  repeat (first | (refine And.intro (by omega) ?_; (try intro _); conv => whnf) | (refine And.intro ?_ (by omega); (try intro _); conv => whnf) | (refine ⟨_, RemV.nonneg (by omega) (by omega), ?_⟩; conv => whnf))
  refine RunsS.callV (fun Ez Hz Az Sz K => qAdd_fn (encQ B) (encQ ⟨cc, Cn, Cd⟩) (hT.keeps K.keeps)) ?_
  conv => whnf
  rw [e3]
  try dsimp only
  try refine goS_run tab 1000 _ _ _ _ ?_
  conv => whnf
  repeat (first | (refine And.intro (by omega) ?_; (try intro _); conv => whnf) | (refine And.intro ?_ (by omega); (try intro _); conv => whnf) | (refine ⟨_, RemV.nonneg (by omega) (by omega), ?_⟩; conv => whnf))
  refine RunsS.callV (fun Ez Hz Az Sz K => qCompare_fn (encQ X) (encQ Y) (hT.keeps K.keeps)) ?_
  conv => whnf
  rw [c5]
  try dsimp only
  try refine goS_run tab 1000 _ _ _ _ ?_
  conv => whnf
  repeat (first | (refine And.intro (by omega) ?_; (try intro _); conv => whnf) | (refine And.intro ?_ (by omega); (try intro _); conv => whnf) | (refine ⟨_, RemV.nonneg (by omega) (by omega), ?_⟩; conv => whnf))
  have hb : ∀ (i : Decidable (N = 0)) (j : Decidable (A.neg = B.neg ∧ enc A.n = enc B.n ∧ enc A.d = enc B.d)), (@decide (N = 0) i == @decide (A.neg = B.neg ∧ enc A.n = enc B.n ∧ enc A.d = enc B.d) j) = true := fun i j => by
    rw [beq_iff_eq, decide_eq_decide, hz]
    exact ⟨fun e => by rw [e]; exact ⟨rfl, rfl, rfl⟩, encQ_cells⟩
  rw [hb]
  conv => whnf
  repeat (first | (refine And.intro (by omega) ?_; (try intro _); conv => whnf) | (refine And.intro ?_ (by omega); (try intro _); conv => whnf) | (refine ⟨_, RemV.nonneg (by omega) (by omega), ?_⟩; conv => whnf))
  have bD : D.neg = true ∨ D.neg = false := by cases D.neg <;> simp
  refine ⟨fun n1 => ?_, fun n1 => ?_⟩ <;> conv => whnf
  · conv => whnf
    repeat (first | (refine And.intro (by omega) ?_; (try intro _); conv => whnf) | (refine And.intro ?_ (by omega); (try intro _); conv => whnf) | (refine ⟨_, RemV.nonneg (by omega) (by omega), ?_⟩; conv => whnf))
    refine ⟨fun n2 => ?_, fun n2 => ?_⟩ <;> conv => whnf
    · have n3 := htr n1 n2
      conv => whnf
      repeat (first | (refine And.intro (by omega) ?_; (try intro _); conv => whnf) | (refine And.intro ?_ (by omega); (try intro _); conv => whnf) | (refine ⟨_, RemV.nonneg (by omega) (by omega), ?_⟩; conv => whnf))
      rcases bD with hd | hd
      · rw [show (encQ D).neg = true from hd]
        have hN : ¬ N < 0 := fun e => by have := (hD.1 (by omega)).1; rw [hd] at this; cases this
        conv => whnf
        repeat (first | (refine And.intro (by omega) ?_; (try intro _); conv => whnf) | (refine And.intro ?_ (by omega); (try intro _); conv => whnf) | (refine ⟨_, RemV.nonneg (by omega) (by omega), ?_⟩; conv => whnf))
        rw [show ∀ i : Decidable (N < 0), (@decide (N < 0) i == false) = true from fun i => by rw [decide_eq_false hN]; rfl]
        conv => whnf
        repeat (first | (refine And.intro (by omega) ?_; (try intro _); conv => whnf) | (refine And.intro ?_ (by omega); (try intro _); conv => whnf) | (refine ⟨_, RemV.nonneg (by omega) (by omega), ?_⟩; conv => whnf))
        cases cc
        · conv => whnf
          repeat (first | (refine And.intro (by omega) ?_; (try intro _); conv => whnf) | (refine And.intro ?_ (by omega); (try intro _); conv => whnf) | (refine ⟨_, RemV.nonneg (by omega) (by omega), ?_⟩; conv => whnf))
          refine ⟨fun hcn => ?_, fun hcn => ?_⟩ <;> conv => whnf
          · conv => whnf
            repeat (first | (refine And.intro (by omega) ?_; (try intro _); conv => whnf) | (refine And.intro ?_ (by omega); (try intro _); conv => whnf) | (refine ⟨_, RemV.nonneg (by omega) (by omega), ?_⟩; conv => whnf))
            refine RunsS.retU (UnwS.ret tab Tryd.func5 rfl fun Ez Hz Az Sz K => ⟨_, rfl, rfl, K.keeps⟩)
          · have hcn : Cn ≠ 0 := fun e => hcn (enc_mt.2 e)
            have hW := hUV rfl hcn
            conv => whnf
            repeat (first | (refine And.intro (by omega) ?_; (try intro _); conv => whnf) | (refine And.intro ?_ (by omega); (try intro _); conv => whnf) | (refine ⟨_, RemV.nonneg (by omega) (by omega), ?_⟩; conv => whnf))
            refine RunsS.callV (fun Ez Hz Az Sz K => qMul_fn (encQ A) (encQ ⟨false, Cn, Cd⟩) (hT.keeps K.keeps)) ?_
            conv => whnf
            rw [e4]
            try dsimp only
            try refine goS_run tab 1000 _ _ _ _ ?_
            conv => whnf
            repeat (first | (refine And.intro (by omega) ?_; (try intro _); conv => whnf) | (refine And.intro ?_ (by omega); (try intro _); conv => whnf) | (refine ⟨_, RemV.nonneg (by omega) (by omega), ?_⟩; conv => whnf))
            refine RunsS.callV (fun Ez Hz Az Sz K => qMul_fn (encQ B) (encQ ⟨false, Cn, Cd⟩) (hT.keeps K.keeps)) ?_
            conv => whnf
            rw [e5]
            try dsimp only
            try refine goS_run tab 1000 _ _ _ _ ?_
            conv => whnf
            repeat (first | (refine And.intro (by omega) ?_; (try intro _); conv => whnf) | (refine And.intro ?_ (by omega); (try intro _); conv => whnf) | (refine ⟨_, RemV.nonneg (by omega) (by omega), ?_⟩; conv => whnf))
            refine RunsS.callV (fun Ez Hz Az Sz K => qCompare_fn (encQ U) (encQ V) (hT.keeps K.keeps)) ?_
            conv => whnf
            rw [c6]
            try dsimp only
            try refine goS_run tab 1000 _ _ _ _ ?_
            conv => whnf
            repeat (first | (refine And.intro (by omega) ?_; (try intro _); conv => whnf) | (refine And.intro ?_ (by omega); (try intro _); conv => whnf) | (refine ⟨_, RemV.nonneg (by omega) (by omega), ?_⟩; conv => whnf))
            refine RunsS.retU (UnwS.ret tab Tryd.func5 rfl fun Ez Hz Az Sz K => ⟨_, rfl, ?_, K.keeps⟩)
            exact congrArg Value.bool (decide_eq_true hW)
        · conv => whnf
          repeat (first | (refine And.intro (by omega) ?_; (try intro _); conv => whnf) | (refine And.intro ?_ (by omega); (try intro _); conv => whnf) | (refine ⟨_, RemV.nonneg (by omega) (by omega), ?_⟩; conv => whnf))
          refine RunsS.retU (UnwS.ret tab Tryd.func5 rfl fun Ez Hz Az Sz K => ⟨_, rfl, rfl, K.keeps⟩)
      · rw [show (encQ D).neg = false from hd]
        conv => whnf
        repeat (first | (refine And.intro (by omega) ?_; (try intro _); conv => whnf) | (refine And.intro ?_ (by omega); (try intro _); conv => whnf) | (refine ⟨_, RemV.nonneg (by omega) (by omega), ?_⟩; conv => whnf))
        have hb2 : ∀ (i : Decidable (N < 0)) (j : Decidable (enc D.n = ⟨#[]⟩)), (@decide (N < 0) i == !@decide (enc D.n = ⟨#[]⟩) j) = true := fun i j => by
          by_cases hz : D.n = 0
          · have hN : ¬ N < 0 := fun e => (hD.1 (by omega)).2 hz
            rw [decide_eq_false hN, decide_eq_true (enc_mt.2 hz)]; rfl
          · have hN : N < 0 := by have := hD.2 ⟨hd, hz⟩; omega
            rw [decide_eq_true hN, decide_eq_false (fun e => hz (enc_mt.1 e))]; rfl
        rw [show ∀ (i : Decidable (N < 0)) (j : Decidable ((encQ D).n = ⟨#[]⟩)), (@decide (N < 0) i == !@decide ((encQ D).n = ⟨#[]⟩) j) = true from hb2]
        conv => whnf
        repeat (first | (refine And.intro (by omega) ?_; (try intro _); conv => whnf) | (refine And.intro ?_ (by omega); (try intro _); conv => whnf) | (refine ⟨_, RemV.nonneg (by omega) (by omega), ?_⟩; conv => whnf))
        cases cc
        · conv => whnf
          repeat (first | (refine And.intro (by omega) ?_; (try intro _); conv => whnf) | (refine And.intro ?_ (by omega); (try intro _); conv => whnf) | (refine ⟨_, RemV.nonneg (by omega) (by omega), ?_⟩; conv => whnf))
          refine ⟨fun hcn => ?_, fun hcn => ?_⟩ <;> conv => whnf
          · conv => whnf
            repeat (first | (refine And.intro (by omega) ?_; (try intro _); conv => whnf) | (refine And.intro ?_ (by omega); (try intro _); conv => whnf) | (refine ⟨_, RemV.nonneg (by omega) (by omega), ?_⟩; conv => whnf))
            refine RunsS.retU (UnwS.ret tab Tryd.func5 rfl fun Ez Hz Az Sz K => ⟨_, rfl, rfl, K.keeps⟩)
          · have hcn : Cn ≠ 0 := fun e => hcn (enc_mt.2 e)
            have hW := hUV rfl hcn
            conv => whnf
            repeat (first | (refine And.intro (by omega) ?_; (try intro _); conv => whnf) | (refine And.intro ?_ (by omega); (try intro _); conv => whnf) | (refine ⟨_, RemV.nonneg (by omega) (by omega), ?_⟩; conv => whnf))
            refine RunsS.callV (fun Ez Hz Az Sz K => qMul_fn (encQ A) (encQ ⟨false, Cn, Cd⟩) (hT.keeps K.keeps)) ?_
            conv => whnf
            rw [e4]
            try dsimp only
            try refine goS_run tab 1000 _ _ _ _ ?_
            conv => whnf
            repeat (first | (refine And.intro (by omega) ?_; (try intro _); conv => whnf) | (refine And.intro ?_ (by omega); (try intro _); conv => whnf) | (refine ⟨_, RemV.nonneg (by omega) (by omega), ?_⟩; conv => whnf))
            refine RunsS.callV (fun Ez Hz Az Sz K => qMul_fn (encQ B) (encQ ⟨false, Cn, Cd⟩) (hT.keeps K.keeps)) ?_
            conv => whnf
            rw [e5]
            try dsimp only
            try refine goS_run tab 1000 _ _ _ _ ?_
            conv => whnf
            repeat (first | (refine And.intro (by omega) ?_; (try intro _); conv => whnf) | (refine And.intro ?_ (by omega); (try intro _); conv => whnf) | (refine ⟨_, RemV.nonneg (by omega) (by omega), ?_⟩; conv => whnf))
            refine RunsS.callV (fun Ez Hz Az Sz K => qCompare_fn (encQ U) (encQ V) (hT.keeps K.keeps)) ?_
            conv => whnf
            rw [c6]
            try dsimp only
            try refine goS_run tab 1000 _ _ _ _ ?_
            conv => whnf
            repeat (first | (refine And.intro (by omega) ?_; (try intro _); conv => whnf) | (refine And.intro ?_ (by omega); (try intro _); conv => whnf) | (refine ⟨_, RemV.nonneg (by omega) (by omega), ?_⟩; conv => whnf))
            refine RunsS.retU (UnwS.ret tab Tryd.func5 rfl fun Ez Hz Az Sz K => ⟨_, rfl, ?_, K.keeps⟩)
            exact congrArg Value.bool (decide_eq_true hW)
        · conv => whnf
          repeat (first | (refine And.intro (by omega) ?_; (try intro _); conv => whnf) | (refine And.intro ?_ (by omega); (try intro _); conv => whnf) | (refine ⟨_, RemV.nonneg (by omega) (by omega), ?_⟩; conv => whnf))
          refine RunsS.retU (UnwS.ret tab Tryd.func5 rfl fun Ez Hz Az Sz K => ⟨_, rfl, rfl, K.keeps⟩)
    · conv => whnf
      repeat (first | (refine And.intro (by omega) ?_; (try intro _); conv => whnf) | (refine And.intro ?_ (by omega); (try intro _); conv => whnf) | (refine ⟨_, RemV.nonneg (by omega) (by omega), ?_⟩; conv => whnf))
      rcases bD with hd | hd
      · rw [show (encQ D).neg = true from hd]
        have hN : ¬ N < 0 := fun e => by have := (hD.1 (by omega)).1; rw [hd] at this; cases this
        conv => whnf
        repeat (first | (refine And.intro (by omega) ?_; (try intro _); conv => whnf) | (refine And.intro ?_ (by omega); (try intro _); conv => whnf) | (refine ⟨_, RemV.nonneg (by omega) (by omega), ?_⟩; conv => whnf))
        rw [show ∀ i : Decidable (N < 0), (@decide (N < 0) i == false) = true from fun i => by rw [decide_eq_false hN]; rfl]
        conv => whnf
        repeat (first | (refine And.intro (by omega) ?_; (try intro _); conv => whnf) | (refine And.intro ?_ (by omega); (try intro _); conv => whnf) | (refine ⟨_, RemV.nonneg (by omega) (by omega), ?_⟩; conv => whnf))
        cases cc
        · conv => whnf
          repeat (first | (refine And.intro (by omega) ?_; (try intro _); conv => whnf) | (refine And.intro ?_ (by omega); (try intro _); conv => whnf) | (refine ⟨_, RemV.nonneg (by omega) (by omega), ?_⟩; conv => whnf))
          refine ⟨fun hcn => ?_, fun hcn => ?_⟩ <;> conv => whnf
          · conv => whnf
            repeat (first | (refine And.intro (by omega) ?_; (try intro _); conv => whnf) | (refine And.intro ?_ (by omega); (try intro _); conv => whnf) | (refine ⟨_, RemV.nonneg (by omega) (by omega), ?_⟩; conv => whnf))
            refine RunsS.retU (UnwS.ret tab Tryd.func5 rfl fun Ez Hz Az Sz K => ⟨_, rfl, rfl, K.keeps⟩)
          · have hcn : Cn ≠ 0 := fun e => hcn (enc_mt.2 e)
            have hW := hUV rfl hcn
            conv => whnf
            repeat (first | (refine And.intro (by omega) ?_; (try intro _); conv => whnf) | (refine And.intro ?_ (by omega); (try intro _); conv => whnf) | (refine ⟨_, RemV.nonneg (by omega) (by omega), ?_⟩; conv => whnf))
            refine RunsS.callV (fun Ez Hz Az Sz K => qMul_fn (encQ A) (encQ ⟨false, Cn, Cd⟩) (hT.keeps K.keeps)) ?_
            conv => whnf
            rw [e4]
            try dsimp only
            try refine goS_run tab 1000 _ _ _ _ ?_
            conv => whnf
            repeat (first | (refine And.intro (by omega) ?_; (try intro _); conv => whnf) | (refine And.intro ?_ (by omega); (try intro _); conv => whnf) | (refine ⟨_, RemV.nonneg (by omega) (by omega), ?_⟩; conv => whnf))
            refine RunsS.callV (fun Ez Hz Az Sz K => qMul_fn (encQ B) (encQ ⟨false, Cn, Cd⟩) (hT.keeps K.keeps)) ?_
            conv => whnf
            rw [e5]
            try dsimp only
            try refine goS_run tab 1000 _ _ _ _ ?_
            conv => whnf
            repeat (first | (refine And.intro (by omega) ?_; (try intro _); conv => whnf) | (refine And.intro ?_ (by omega); (try intro _); conv => whnf) | (refine ⟨_, RemV.nonneg (by omega) (by omega), ?_⟩; conv => whnf))
            refine RunsS.callV (fun Ez Hz Az Sz K => qCompare_fn (encQ U) (encQ V) (hT.keeps K.keeps)) ?_
            conv => whnf
            rw [c6]
            try dsimp only
            try refine goS_run tab 1000 _ _ _ _ ?_
            conv => whnf
            repeat (first | (refine And.intro (by omega) ?_; (try intro _); conv => whnf) | (refine And.intro ?_ (by omega); (try intro _); conv => whnf) | (refine ⟨_, RemV.nonneg (by omega) (by omega), ?_⟩; conv => whnf))
            refine RunsS.retU (UnwS.ret tab Tryd.func5 rfl fun Ez Hz Az Sz K => ⟨_, rfl, ?_, K.keeps⟩)
            exact congrArg Value.bool (decide_eq_true hW)
        · conv => whnf
          repeat (first | (refine And.intro (by omega) ?_; (try intro _); conv => whnf) | (refine And.intro ?_ (by omega); (try intro _); conv => whnf) | (refine ⟨_, RemV.nonneg (by omega) (by omega), ?_⟩; conv => whnf))
          refine RunsS.retU (UnwS.ret tab Tryd.func5 rfl fun Ez Hz Az Sz K => ⟨_, rfl, rfl, K.keeps⟩)
      · rw [show (encQ D).neg = false from hd]
        conv => whnf
        repeat (first | (refine And.intro (by omega) ?_; (try intro _); conv => whnf) | (refine And.intro ?_ (by omega); (try intro _); conv => whnf) | (refine ⟨_, RemV.nonneg (by omega) (by omega), ?_⟩; conv => whnf))
        have hb2 : ∀ (i : Decidable (N < 0)) (j : Decidable (enc D.n = ⟨#[]⟩)), (@decide (N < 0) i == !@decide (enc D.n = ⟨#[]⟩) j) = true := fun i j => by
          by_cases hz : D.n = 0
          · have hN : ¬ N < 0 := fun e => (hD.1 (by omega)).2 hz
            rw [decide_eq_false hN, decide_eq_true (enc_mt.2 hz)]; rfl
          · have hN : N < 0 := by have := hD.2 ⟨hd, hz⟩; omega
            rw [decide_eq_true hN, decide_eq_false (fun e => hz (enc_mt.1 e))]; rfl
        rw [show ∀ (i : Decidable (N < 0)) (j : Decidable ((encQ D).n = ⟨#[]⟩)), (@decide (N < 0) i == !@decide ((encQ D).n = ⟨#[]⟩) j) = true from hb2]
        conv => whnf
        repeat (first | (refine And.intro (by omega) ?_; (try intro _); conv => whnf) | (refine And.intro ?_ (by omega); (try intro _); conv => whnf) | (refine ⟨_, RemV.nonneg (by omega) (by omega), ?_⟩; conv => whnf))
        cases cc
        · conv => whnf
          repeat (first | (refine And.intro (by omega) ?_; (try intro _); conv => whnf) | (refine And.intro ?_ (by omega); (try intro _); conv => whnf) | (refine ⟨_, RemV.nonneg (by omega) (by omega), ?_⟩; conv => whnf))
          refine ⟨fun hcn => ?_, fun hcn => ?_⟩ <;> conv => whnf
          · conv => whnf
            repeat (first | (refine And.intro (by omega) ?_; (try intro _); conv => whnf) | (refine And.intro ?_ (by omega); (try intro _); conv => whnf) | (refine ⟨_, RemV.nonneg (by omega) (by omega), ?_⟩; conv => whnf))
            refine RunsS.retU (UnwS.ret tab Tryd.func5 rfl fun Ez Hz Az Sz K => ⟨_, rfl, rfl, K.keeps⟩)
          · have hcn : Cn ≠ 0 := fun e => hcn (enc_mt.2 e)
            have hW := hUV rfl hcn
            conv => whnf
            repeat (first | (refine And.intro (by omega) ?_; (try intro _); conv => whnf) | (refine And.intro ?_ (by omega); (try intro _); conv => whnf) | (refine ⟨_, RemV.nonneg (by omega) (by omega), ?_⟩; conv => whnf))
            refine RunsS.callV (fun Ez Hz Az Sz K => qMul_fn (encQ A) (encQ ⟨false, Cn, Cd⟩) (hT.keeps K.keeps)) ?_
            conv => whnf
            rw [e4]
            try dsimp only
            try refine goS_run tab 1000 _ _ _ _ ?_
            conv => whnf
            repeat (first | (refine And.intro (by omega) ?_; (try intro _); conv => whnf) | (refine And.intro ?_ (by omega); (try intro _); conv => whnf) | (refine ⟨_, RemV.nonneg (by omega) (by omega), ?_⟩; conv => whnf))
            refine RunsS.callV (fun Ez Hz Az Sz K => qMul_fn (encQ B) (encQ ⟨false, Cn, Cd⟩) (hT.keeps K.keeps)) ?_
            conv => whnf
            rw [e5]
            try dsimp only
            try refine goS_run tab 1000 _ _ _ _ ?_
            conv => whnf
            repeat (first | (refine And.intro (by omega) ?_; (try intro _); conv => whnf) | (refine And.intro ?_ (by omega); (try intro _); conv => whnf) | (refine ⟨_, RemV.nonneg (by omega) (by omega), ?_⟩; conv => whnf))
            refine RunsS.callV (fun Ez Hz Az Sz K => qCompare_fn (encQ U) (encQ V) (hT.keeps K.keeps)) ?_
            conv => whnf
            rw [c6]
            try dsimp only
            try refine goS_run tab 1000 _ _ _ _ ?_
            conv => whnf
            repeat (first | (refine And.intro (by omega) ?_; (try intro _); conv => whnf) | (refine And.intro ?_ (by omega); (try intro _); conv => whnf) | (refine ⟨_, RemV.nonneg (by omega) (by omega), ?_⟩; conv => whnf))
            refine RunsS.retU (UnwS.ret tab Tryd.func5 rfl fun Ez Hz Az Sz K => ⟨_, rfl, ?_, K.keeps⟩)
            exact congrArg Value.bool (decide_eq_true hW)
        · conv => whnf
          repeat (first | (refine And.intro (by omega) ?_; (try intro _); conv => whnf) | (refine And.intro ?_ (by omega); (try intro _); conv => whnf) | (refine ⟨_, RemV.nonneg (by omega) (by omega), ?_⟩; conv => whnf))
          refine RunsS.retU (UnwS.ret tab Tryd.func5 rfl fun Ez Hz Az Sz K => ⟨_, rfl, rfl, K.keeps⟩)
  · conv => whnf
    repeat (first | (refine And.intro (by omega) ?_; (try intro _); conv => whnf) | (refine And.intro ?_ (by omega); (try intro _); conv => whnf) | (refine ⟨_, RemV.nonneg (by omega) (by omega), ?_⟩; conv => whnf))
    rcases bD with hd | hd
    · rw [show (encQ D).neg = true from hd]
      have hN : ¬ N < 0 := fun e => by have := (hD.1 (by omega)).1; rw [hd] at this; cases this
      conv => whnf
      repeat (first | (refine And.intro (by omega) ?_; (try intro _); conv => whnf) | (refine And.intro ?_ (by omega); (try intro _); conv => whnf) | (refine ⟨_, RemV.nonneg (by omega) (by omega), ?_⟩; conv => whnf))
      rw [show ∀ i : Decidable (N < 0), (@decide (N < 0) i == false) = true from fun i => by rw [decide_eq_false hN]; rfl]
      conv => whnf
      repeat (first | (refine And.intro (by omega) ?_; (try intro _); conv => whnf) | (refine And.intro ?_ (by omega); (try intro _); conv => whnf) | (refine ⟨_, RemV.nonneg (by omega) (by omega), ?_⟩; conv => whnf))
      cases cc
      · conv => whnf
        repeat (first | (refine And.intro (by omega) ?_; (try intro _); conv => whnf) | (refine And.intro ?_ (by omega); (try intro _); conv => whnf) | (refine ⟨_, RemV.nonneg (by omega) (by omega), ?_⟩; conv => whnf))
        refine ⟨fun hcn => ?_, fun hcn => ?_⟩ <;> conv => whnf
        · conv => whnf
          repeat (first | (refine And.intro (by omega) ?_; (try intro _); conv => whnf) | (refine And.intro ?_ (by omega); (try intro _); conv => whnf) | (refine ⟨_, RemV.nonneg (by omega) (by omega), ?_⟩; conv => whnf))
          refine RunsS.retU (UnwS.ret tab Tryd.func5 rfl fun Ez Hz Az Sz K => ⟨_, rfl, rfl, K.keeps⟩)
        · have hcn : Cn ≠ 0 := fun e => hcn (enc_mt.2 e)
          have hW := hUV rfl hcn
          conv => whnf
          repeat (first | (refine And.intro (by omega) ?_; (try intro _); conv => whnf) | (refine And.intro ?_ (by omega); (try intro _); conv => whnf) | (refine ⟨_, RemV.nonneg (by omega) (by omega), ?_⟩; conv => whnf))
          refine RunsS.callV (fun Ez Hz Az Sz K => qMul_fn (encQ A) (encQ ⟨false, Cn, Cd⟩) (hT.keeps K.keeps)) ?_
          conv => whnf
          rw [e4]
          try dsimp only
          try refine goS_run tab 1000 _ _ _ _ ?_
          conv => whnf
          repeat (first | (refine And.intro (by omega) ?_; (try intro _); conv => whnf) | (refine And.intro ?_ (by omega); (try intro _); conv => whnf) | (refine ⟨_, RemV.nonneg (by omega) (by omega), ?_⟩; conv => whnf))
          refine RunsS.callV (fun Ez Hz Az Sz K => qMul_fn (encQ B) (encQ ⟨false, Cn, Cd⟩) (hT.keeps K.keeps)) ?_
          conv => whnf
          rw [e5]
          try dsimp only
          try refine goS_run tab 1000 _ _ _ _ ?_
          conv => whnf
          repeat (first | (refine And.intro (by omega) ?_; (try intro _); conv => whnf) | (refine And.intro ?_ (by omega); (try intro _); conv => whnf) | (refine ⟨_, RemV.nonneg (by omega) (by omega), ?_⟩; conv => whnf))
          refine RunsS.callV (fun Ez Hz Az Sz K => qCompare_fn (encQ U) (encQ V) (hT.keeps K.keeps)) ?_
          conv => whnf
          rw [c6]
          try dsimp only
          try refine goS_run tab 1000 _ _ _ _ ?_
          conv => whnf
          repeat (first | (refine And.intro (by omega) ?_; (try intro _); conv => whnf) | (refine And.intro ?_ (by omega); (try intro _); conv => whnf) | (refine ⟨_, RemV.nonneg (by omega) (by omega), ?_⟩; conv => whnf))
          refine RunsS.retU (UnwS.ret tab Tryd.func5 rfl fun Ez Hz Az Sz K => ⟨_, rfl, ?_, K.keeps⟩)
          exact congrArg Value.bool (decide_eq_true hW)
      · conv => whnf
        repeat (first | (refine And.intro (by omega) ?_; (try intro _); conv => whnf) | (refine And.intro ?_ (by omega); (try intro _); conv => whnf) | (refine ⟨_, RemV.nonneg (by omega) (by omega), ?_⟩; conv => whnf))
        refine RunsS.retU (UnwS.ret tab Tryd.func5 rfl fun Ez Hz Az Sz K => ⟨_, rfl, rfl, K.keeps⟩)
    · rw [show (encQ D).neg = false from hd]
      conv => whnf
      repeat (first | (refine And.intro (by omega) ?_; (try intro _); conv => whnf) | (refine And.intro ?_ (by omega); (try intro _); conv => whnf) | (refine ⟨_, RemV.nonneg (by omega) (by omega), ?_⟩; conv => whnf))
      have hb2 : ∀ (i : Decidable (N < 0)) (j : Decidable (enc D.n = ⟨#[]⟩)), (@decide (N < 0) i == !@decide (enc D.n = ⟨#[]⟩) j) = true := fun i j => by
        by_cases hz : D.n = 0
        · have hN : ¬ N < 0 := fun e => (hD.1 (by omega)).2 hz
          rw [decide_eq_false hN, decide_eq_true (enc_mt.2 hz)]; rfl
        · have hN : N < 0 := by have := hD.2 ⟨hd, hz⟩; omega
          rw [decide_eq_true hN, decide_eq_false (fun e => hz (enc_mt.1 e))]; rfl
      rw [show ∀ (i : Decidable (N < 0)) (j : Decidable ((encQ D).n = ⟨#[]⟩)), (@decide (N < 0) i == !@decide ((encQ D).n = ⟨#[]⟩) j) = true from hb2]
      conv => whnf
      repeat (first | (refine And.intro (by omega) ?_; (try intro _); conv => whnf) | (refine And.intro ?_ (by omega); (try intro _); conv => whnf) | (refine ⟨_, RemV.nonneg (by omega) (by omega), ?_⟩; conv => whnf))
      cases cc
      · conv => whnf
        repeat (first | (refine And.intro (by omega) ?_; (try intro _); conv => whnf) | (refine And.intro ?_ (by omega); (try intro _); conv => whnf) | (refine ⟨_, RemV.nonneg (by omega) (by omega), ?_⟩; conv => whnf))
        refine ⟨fun hcn => ?_, fun hcn => ?_⟩ <;> conv => whnf
        · conv => whnf
          repeat (first | (refine And.intro (by omega) ?_; (try intro _); conv => whnf) | (refine And.intro ?_ (by omega); (try intro _); conv => whnf) | (refine ⟨_, RemV.nonneg (by omega) (by omega), ?_⟩; conv => whnf))
          refine RunsS.retU (UnwS.ret tab Tryd.func5 rfl fun Ez Hz Az Sz K => ⟨_, rfl, rfl, K.keeps⟩)
        · have hcn : Cn ≠ 0 := fun e => hcn (enc_mt.2 e)
          have hW := hUV rfl hcn
          conv => whnf
          repeat (first | (refine And.intro (by omega) ?_; (try intro _); conv => whnf) | (refine And.intro ?_ (by omega); (try intro _); conv => whnf) | (refine ⟨_, RemV.nonneg (by omega) (by omega), ?_⟩; conv => whnf))
          refine RunsS.callV (fun Ez Hz Az Sz K => qMul_fn (encQ A) (encQ ⟨false, Cn, Cd⟩) (hT.keeps K.keeps)) ?_
          conv => whnf
          rw [e4]
          try dsimp only
          try refine goS_run tab 1000 _ _ _ _ ?_
          conv => whnf
          repeat (first | (refine And.intro (by omega) ?_; (try intro _); conv => whnf) | (refine And.intro ?_ (by omega); (try intro _); conv => whnf) | (refine ⟨_, RemV.nonneg (by omega) (by omega), ?_⟩; conv => whnf))
          refine RunsS.callV (fun Ez Hz Az Sz K => qMul_fn (encQ B) (encQ ⟨false, Cn, Cd⟩) (hT.keeps K.keeps)) ?_
          conv => whnf
          rw [e5]
          try dsimp only
          try refine goS_run tab 1000 _ _ _ _ ?_
          conv => whnf
          repeat (first | (refine And.intro (by omega) ?_; (try intro _); conv => whnf) | (refine And.intro ?_ (by omega); (try intro _); conv => whnf) | (refine ⟨_, RemV.nonneg (by omega) (by omega), ?_⟩; conv => whnf))
          refine RunsS.callV (fun Ez Hz Az Sz K => qCompare_fn (encQ U) (encQ V) (hT.keeps K.keeps)) ?_
          conv => whnf
          rw [c6]
          try dsimp only
          try refine goS_run tab 1000 _ _ _ _ ?_
          conv => whnf
          repeat (first | (refine And.intro (by omega) ?_; (try intro _); conv => whnf) | (refine And.intro ?_ (by omega); (try intro _); conv => whnf) | (refine ⟨_, RemV.nonneg (by omega) (by omega), ?_⟩; conv => whnf))
          refine RunsS.retU (UnwS.ret tab Tryd.func5 rfl fun Ez Hz Az Sz K => ⟨_, rfl, ?_, K.keeps⟩)
          exact congrArg Value.bool (decide_eq_true hW)
      · conv => whnf
        repeat (first | (refine And.intro (by omega) ?_; (try intro _); conv => whnf) | (refine And.intro ?_ (by omega); (try intro _); conv => whnf) | (refine ⟨_, RemV.nonneg (by omega) (by omega), ?_⟩; conv => whnf))
        refine RunsS.retU (UnwS.ret tab Tryd.func5 rfl fun Ez Hz Az Sz K => ⟨_, rfl, rfl, K.keeps⟩)
end Go.Proofs.YtccfjcmolfbjdaaDoor

namespace Go.Proofs.YtccfjcmolfbjdaaDoor.ratiosOrder
open Go Go.Fw Go.ChangeShapes Go.ChangeMaps Go.WideShapes Go.ChangeAt Go.RowKit
set_option maxRecDepth 100000

theorem int_wf {n : Int} (h : (Lit.int .i64 n).wf = true) : -9223372036854775808 ≤ n ∧ n ≤ 9223372036854775807 := by
  have h1 : IntKind.i64.min ≤ n ∧ n ≤ 9223372036854775807 := by simpa [Lit.wf] using h
  have e : IntKind.i64.min = -9223372036854775808 := rfl
  omega

/-- WHAT THE WALK GIVES, FOR EVERY ARGUMENT AND EVERY WORLD THAT HOLDS THE TABLE. -/
theorem contract (H : Type) (enc : TypeId × Value → H) (W : World) (base : Nat) (args : Array Value) (ds gs : List (DataW H)) (before : List MemPlace)
    (hval : ∀ (j : Nat) t v, Tryd.f5.params[j]? = some t → args[j]? = some v → Value.okWide Tryd.prog W .any base t v)
    (hW : DataW.Whole enc Tryd.prog Tryd.f5.params.toList Rows.ratiosOrderSpec.vars false W args.toList ds gs before) (hL : laidMetH Tryd.prog Rows.ratiosOrderRow.laid W) :
    Calls Tryd.prog 5 args W fun e W' => ∃ v, e = .returned v ∧ Rows.ratiosOrderSpec.post enc Tryd.prog Tryd.f5 false true false false W args v W' := by
  have hW' := hW
  obtain ⟨p, q, hA0, hV, rfl, hfz, hnd⟩ := hW
  have hA : DataW.TrodAll enc Tryd.prog W 0 (fun _ => true) true Tryd.f5.params.toList args.toList ds p := hA0
  rw [Tryd.params5] at hA hval
  obtain ⟨v0, vs0, d0, ds0, p0, q0, hargs, rfl, rfl, h0, r0⟩ := trodAll_cons hA
  obtain ⟨v1, vs1, d1, ds1, p1, q1, rfl, rfl, rfl, h1, r1⟩ := trodAll_cons r0
  obtain ⟨v2, vs2, d2, ds2, p2, q2, rfl, rfl, rfl, h2, r2⟩ := trodAll_cons r1
  obtain ⟨rfl, rfl, rfl⟩ := trodAll_nil r2
  obtain rfl : args = #[v0, v1, v2] := by cases args; simp_all
  obtain ⟨rfl, rfl⟩ := trodVars_none hV
  obtain ⟨f0, f1, f2, B⟩ := ratioB
  obtain ⟨b0, s0, u0, rfl, rfl, rfl, m0, k0⟩ := open_bss B (hval 0 23 v0 rfl rfl) h0
  obtain ⟨b1, s1, u1, rfl, rfl, rfl, m1, k1⟩ := open_bss B (hval 1 23 v1 rfl rfl) h1
  obtain ⟨b2, s2, u2, rfl, rfl, rfl, m2, k2⟩ := open_bss B (hval 2 23 v2 rfl rfl) h2
  clear hA0
  simp only [List.append_nil] at hW'
  have walk := FnV.below (W := W) (R := fun r => r = .bool true) (order_fn ⟨b0, s0, u0⟩ ⟨b1, s1, u1⟩ ⟨b2, s2, u2⟩ (table hL))
  refine walk.mono fun e W' ⟨v, he, hv, hg⟩ => ?_
  subst he hv
  exact ⟨_, rfl, post_of_below (pa := []) (pv := []) hW' (fun _ _ _ => trodAll_cons_mk (shut_bool Tryd.underlying4 _) trodAll_mk0) (fun _ _ => trodAll_cons_mk (shut_bss B b0 m0 k0) (trodAll_cons_mk (shut_bss B b1 m1 k1) (trodAll_cons_mk (shut_bss B b2 m2 k2) trodAll_mk0))) (fun _ _ => rfl) rfl
    hg (ok_one (by kernel_rfl) rfl (okWide_bool_mk Tryd.underlying4 _))⟩

theorem laid_met (os : Os) : laidMet Tryd.prog Rows.ratiosOrderRow.laid ((laidWorld os).forCall (fun _ _ => 0) ⟨#[], #[.agg #[.bool false, .string ⟨#[]⟩, .string ⟨#[]⟩], .agg #[.bool false, .string ⟨#[]⟩, .string ⟨#[]⟩], .agg #[.bool false, .string ⟨#[]⟩, .string ⟨#[]⟩]], []⟩).memory :=
  laidMet_of_run' 8 (by kernel_rfl) (by kernel_rfl)
theorem reads (os : Os) {H : Type} (enc : TypeId × Value → H) : ∃ places, DataW.whole enc Tryd.prog ((laidWorld os).forCall (fun _ _ => 0) ⟨#[], #[.agg #[.bool false, .string ⟨#[]⟩, .string ⟨#[]⟩], .agg #[.bool false, .string ⟨#[]⟩, .string ⟨#[]⟩], .agg #[.bool false, .string ⟨#[]⟩, .string ⟨#[]⟩]], []⟩).memory Tryd.f5.params.toList Rows.ratiosOrderSpec.vars false (#[.agg #[.bool false, .string ⟨#[]⟩, .string ⟨#[]⟩], .agg #[.bool false, .string ⟨#[]⟩, .string ⟨#[]⟩], .agg #[.bool false, .string ⟨#[]⟩, .string ⟨#[]⟩]] : Array Value).toList 8 = some ([.agg [.lit (.bool false), .lit (.string []), .lit (.string [])], .agg [.lit (.bool false), .lit (.string []), .lit (.string [])], .agg [.lit (.bool false), .lit (.string []), .lit (.string [])]], [], places) :=
  ⟨[], by kernel_rfl⟩

theorem lifted (os : Os) (started : os.Started) (H : Type) (enc : TypeId × Value → H) (F : Stop.Interp) :
    ReturnsInHanded {} Tryd.checked os 5 .any ((OpenSpec.ofChange Rows.ratiosOrderSpec).preRow enc Tryd.prog Tryd.f5 Rows.ratiosOrderRow.domain false Rows.ratiosOrderRow.laid) (((OpenSpec.ofChange Rows.ratiosOrderSpec).at F).post enc Tryd.prog Tryd.f5 false true false false) := by
  obtain ⟨places, hx⟩ := reads os enc
  refine returnsInHanded_of_row (C := Tryd.checked) (s := OpenSpec.ofChange Rows.ratiosOrderSpec) own started (by kernel_rfl) Tryd.func5
    (witness_row_at (enc := enc) (C := Tryd.checked) false (laidWorld os) #[.agg #[.bool false, .string ⟨#[]⟩, .string ⟨#[]⟩], .agg #[.bool false, .string ⟨#[]⟩, .string ⟨#[]⟩], .agg #[.bool false, .string ⟨#[]⟩, .string ⟨#[]⟩]] rfl (by kernel_rfl) (by kernel_rfl) (by kernel_rfl)
      (OpenSpec.preRow_of_cond 8 hx (by kernel_rfl) (fun k hk => by cases hk) (by kernel_rfl) (laid_met os))) ?_
  intro W base args ds gs before hval hW _ _ _ hL _ _
  exact contract H enc W base args ds gs before hval hW hL

theorem said : Rows.RatiosOrderSaid :=
  OpenClaim.holds_of_cond 5 Tryd.f5 rfl rfl rfl rfl rfl rfl rfl ⟨rfl, rfl, rfl, rfl, rfl⟩ rfl rfl rfl rfl rfl (by kernel_rfl) Tryd.func5 (by kernel_rfl)
    (of_decide_eq_true (by kernel_rfl)) (by unfold Func.isWrapper; first | (rw [if_pos (by decide +kernel)]; kernel_rfl) | (rw [if_neg (by decide +kernel)]; exact ⟨rfl, rfl⟩))
    (fun os started H enc _ F => by rw [OpenClaim.pre_eq_preRow]; exact lifted os started H enc F)

/-- No parameter wants a stand-in; the program's own looks are off. -/
theorem plain (f : FuncId) (fn : Func) (hf : Tryd.pinned.checked.prog.funcNamed "backflush/backflushlaw07.RatiosOrder" = some f) (hfn : Tryd.pinned.checked.prog.funcs[f]? = some fn) :
    true = Tryd.pinned.checked.prog.looks [] ∧ ∀ (j : Nat) t, fn.params[j]? = some t → Tryd.pinned.checked.prog.wantsStandIn t = false := by
  obtain rfl : f = 5 := Option.some.inj ((show Tryd.prog.funcNamed "backflush/backflushlaw07.RatiosOrder" = some 5 by kernel_rfl).symm.trans hf) |>.symm
  obtain rfl : fn = Tryd.f5 := (Option.some.inj (Tryd.func5.symm.trans hfn)).symm
  refine ⟨by kernel_rfl, fun j t ht => ?_⟩
  rw [Tryd.params5] at ht
  have hm := Array.mem_of_getElem? ht
  simp only [List.mem_toArray, List.mem_cons, List.not_mem_nil, or_false] at hm
  rcases hm with rfl | rfl | rfl
  · exact (show Tryd.prog.wantsStandIn 23 = false by kernel_rfl)
  · exact (show Tryd.prog.wantsStandIn 23 = false by kernel_rfl)
  · exact (show Tryd.prog.wantsStandIn 23 = false by kernel_rfl)

/-- THE CARD -/
theorem card : Rows.RatiosOrderCardSaid :=
  Claim7.holds_tied_plain_at .later [] _ _ _ _ said (fun _ h => by cases h) (by kernel_rfl) (fun _ h => by cases h) ratiosOrder_row_tie rfl ⟨rfl, rfl⟩ (by kernel_rfl) rfl plain (by kernel_rfl)
end Go.Proofs.YtccfjcmolfbjdaaDoor.ratiosOrder
