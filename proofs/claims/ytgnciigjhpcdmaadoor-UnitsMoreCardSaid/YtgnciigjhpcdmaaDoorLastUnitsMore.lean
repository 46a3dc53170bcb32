/- UnitsMore: for every input the law returns true, and each argument reads behind the call as it read before; the listed tables hold, when the call begins, what the program's text lays (the card ties it). The statement UnitsMore. The statements UnitsBack and UnitsSums. -/
import Derived.Test.YtgnciigjhpcdmaaDoorJoinE
set_option linter.unusedVariables false
set_option linter.unusedSimpArgs false
namespace Go.Proofs.YtgnciigjhpcdmaaDoor
open Go Go.Fw Go.NatM Go.RatM
set_option maxRecDepth 100000
set_option maxHeartbeats 64000000

theorem okV40 {a : Rt} (h : okR a) (hs : FewS a) : ∃ A, a = encQ A ∧ A.Ok ∧ A.le 40 := by
  obtain ⟨h2, h3⟩ := hs
  have c1 := chk_zero h.1 (s := a.n) (by simp)
  have c2 := chk_zero h.2.1 (s := a.d) (by simp)
  obtain ⟨e, ok, _⟩ := okR_q h
  refine ⟨decQ a, e, ok, ?_, ?_⟩
  · show nb (natv a.n) ≤ 40
    rw [nb_natv c1.1]; omega
  · show nb (natv a.d) ≤ 40
    rw [nb_natv c2.1]; omega
theorem resdU_some {l x : List Un} {r : Rt} (h : resdU l r = some x) : FewS r ∧ l.length ≤ 8 ∧ resolveU l = .inl x := by
  unfold resdU at h
  split at h
  · rename_i hf
    split at h
    · rename_i hx
      cases h
      exact ⟨hf.2, hf.1.2, hx⟩
    · cases h
  · cases h
theorem resdOk {l x : List Un} {r : Rt} (hl : l.length ≤ 9223372036854775807) (hi : UnOk l) (hx : resdU l r = some x) : FnT Tryd.prog TabT 15 1 [.buf 0, rtS r] [(0, .ro 8 (rowsU l))] (fun _ : Unit => True) (fun _ => .ret (.tup [.buf 1, .v (.bool true)]) 2 [ownU 1 x]) := by
  have := resolved_fn l hl hi r
  rw [hx] at this
  exact this
theorem resdNo {l : List Un} {r : Rt} (hl : l.length ≤ 9223372036854775807) (hi : UnOk l) (hx : resdU l r = none) : FnT Tryd.prog TabT 15 1 [.buf 0, rtS r] [(0, .ro 8 (rowsU l))] (fun _ : Unit => True) (fun _ => .ret (.tup [.v (.slice none 0 0), .v (.bool false)]) 1 []) := by
  have := resolved_fn l hl hi r
  rw [hx] at this
  exact this
theorem chk_no {a : Rt} (h : ¬ okR a) : chkR a = 70 := if_neg h

theorem unitsBack_fn {h : Array Obj} (l : List Un) (a b c : Int) (r : Rt) {v : Value} (hv : Ro h v 8 (rowsU l)) (hi : UnOk l) (hT : TabH h) : FnV Tryd.prog 4 #[v, .int .i64 a, .int .i64 b, .int .i64 c, r.v] h fun r h' => r = .bool true ∧ Keeps h.size h h' := by
  have hl := rowsU_len l
  have hm := hv.len
  cases hx : resdU l r with
  | none =>
    refine Fn.ofG (envL [v]) 1 [.buf 0, .v (.int .i64 a), .v (.int .i64 b), .v (.int .i64 c), rtS r] [(0, .ro (8) (rowsU l))] (fun k => k < _) Tryd.func4 (by kernel_rfl) rfl Tryd.ntmps4 rfl (fun _ hk => hk) (Sat.ros (vs := [v]) (l := [(8, rowsU l)]) ⟨hv, trivial⟩) fun w0 cs => ?_
    conv => whnf
    refine goS_run tab 1000 _ _ _ _ ?_
    conv => whnf
    repeat (first | (refine And.intro (by omega) ?_; (try intro _); conv => whnf) | (refine And.intro ?_ (by omega); (try intro _); conv => whnf) | (refine ⟨_, RemV.nonneg (by omega) (by omega), ?_⟩; conv => whnf))
    refine RunsS.callV (fun Ez Hz Az Sz K => saneU_fn (hT.keeps ⟨K.size, K.same⟩)) ?_
    conv => whnf
    try refine goS_run tab 1000 _ _ _ _ ?_
    conv => whnf
    repeat (first | (refine And.intro (by omega) ?_; (try intro _); conv => whnf) | (refine And.intro ?_ (by omega); (try intro _); conv => whnf) | (refine ⟨_, RemV.nonneg (by omega) (by omega), ?_⟩; conv => whnf))
    refine RunsS.callT tabOk (hT.t) (resdNo (by omega) hi hx) [0] (by repeat (first | exact trivial | refine ⟨by rfl, ?_⟩)) ?CNa1 ?CNr1
    case CNa1 => rfl
    intro _ _
    conv => whnf
    try refine goS_run tab 1000 _ _ _ _ ?_
    conv => whnf
    repeat (first | (refine And.intro (by omega) ?_; (try intro _); conv => whnf) | (refine And.intro ?_ (by omega); (try intro _); conv => whnf) | (refine ⟨_, RemV.nonneg (by omega) (by omega), ?_⟩; conv => whnf))
    refine RunsS.retU (UnwS.ret tab Tryd.func4 rfl fun Ez Hz Az Sz K => ⟨_, rfl, rfl, K.keeps⟩)
  | some x =>
    obtain ⟨x1, x2, x3⟩ := resdU_some hx
    have x4 := (resolveU_inl.1 x3).2.2
    have hix := hi.res x4
    have hc := checkU_res x3
    have hsc := x4.sc (k := 25) (by omega) (by omega)
    by_cases ho : okR r
    · obtain ⟨R, rfl, oR, lR⟩ := okV40 ho x1
      rcases outU_or x a b with h1 | ⟨i, j, i1, j1, rfl, rfl, hb⟩
      · refine Fn.ofG (envL [v]) 1 [.buf 0, .v (.int .i64 a), .v (.int .i64 b), .v (.int .i64 c), rtS (encQ R)] [(0, .ro (8) (rowsU l))] (fun k => k < _) Tryd.func4 (by kernel_rfl) rfl Tryd.ntmps4 rfl (fun _ hk => hk) (Sat.ros (vs := [v]) (l := [(8, rowsU l)]) ⟨hv, trivial⟩) fun w0 cs => ?_
        conv => whnf
        refine goS_run tab 1000 _ _ _ _ ?_
        conv => whnf
        repeat (first | (refine And.intro (by omega) ?_; (try intro _); conv => whnf) | (refine And.intro ?_ (by omega); (try intro _); conv => whnf) | (refine ⟨_, RemV.nonneg (by omega) (by omega), ?_⟩; conv => whnf))
        refine RunsS.callV (fun Ez Hz Az Sz K => saneU_fn (hT.keeps ⟨K.size, K.same⟩)) ?_
        conv => whnf
        try refine goS_run tab 1000 _ _ _ _ ?_
        conv => whnf
        repeat (first | (refine And.intro (by omega) ?_; (try intro _); conv => whnf) | (refine And.intro ?_ (by omega); (try intro _); conv => whnf) | (refine ⟨_, RemV.nonneg (by omega) (by omega), ?_⟩; conv => whnf))
        refine RunsS.callT tabOk (hT.t) (resdOk (by omega) hi hx) [0] (by repeat (first | exact trivial | refine ⟨by rfl, ?_⟩)) ?CNa2 ?CNr2
        case CNa2 => rfl
        intro _ _
        conv => whnf
        try refine goS_run tab 1000 _ _ _ _ ?_
        conv => whnf
        repeat (first | (refine And.intro (by omega) ?_; (try intro _); conv => whnf) | (refine And.intro ?_ (by omega); (try intro _); conv => whnf) | (refine ⟨_, RemV.nonneg (by omega) (by omega), ?_⟩; conv => whnf))
        refine RunsS.callV (fun Ez Hz Az Sz K => rtCheck_fn (encQ R) (hT.keeps ⟨K.size, K.same⟩)) ?_
        conv => whnf
        rw [chkR_zero.2 ho]
        try dsimp only
        try refine goS_run tab 1000 _ _ _ _ ?_
        conv => whnf
        repeat (first | (refine And.intro (by omega) ?_; (try intro _); conv => whnf) | (refine And.intro ?_ (by omega); (try intro _); conv => whnf) | (refine ⟨_, RemV.nonneg (by omega) (by omega), ?_⟩; conv => whnf))
        refine RunsS.callV (fun Ez Hz Az Sz K => convert_fn x hix (Sz.ro (b := 2) rfl) a b (encQ R) (hT.keeps ⟨K.size, K.same⟩)) ?_
        conv => whnf
        rw [cvU_out hc h1]
        try dsimp only
        try refine goS_run tab 1000 _ _ _ _ ?_
        conv => whnf
        repeat (first | (refine And.intro (by omega) ?_; (try intro _); conv => whnf) | (refine And.intro ?_ (by omega); (try intro _); conv => whnf) | (refine ⟨_, RemV.nonneg (by omega) (by omega), ?_⟩; conv => whnf))
        refine RunsS.retU (UnwS.ret tab Tryd.func4 rfl fun Ez Hz Az Sz K => ⟨_, rfl, ?_, K.keeps⟩)
        rfl
      · obtain ⟨P, p1, p2, p3, p4⟩ := conv_ok hc hsc (by omega) i1 j1 hb oR lR
        obtain ⟨Q1, q1, q2, q3, q4⟩ := conv_ok hc hsc (by omega) j1 i1 hb.symm p2 p3
        obtain ⟨S, s1, s2, s3, s4⟩ := conv_ok hc hsc (by omega) i1 i1 rfl oR lR
        obtain ⟨_, _, _, _, _, ai⟩ := (hsc _ (List.getElem_mem i1)).sv
        obtain ⟨_, _, _, _, _, aj⟩ := (hsc _ (List.getElem_mem j1)).sv
        obtain rfl : Q1 = R := Q.inj q2 oR (by rw [q4, p4, conv_back ai aj])
        obtain rfl : S = Q1 := Q.inj s2 oR (by rw [s4, conv_self ai])
        obtain ⟨y, y1, y2⟩ : ∃ y, convU x j c (encQ P) = y ∧ convU x i c (encQ S) = y := by
          rcases outU_or x i c with h2 | ⟨i', k, i2, k1, e1, rfl, hb2⟩
          · refine ⟨_, cvU_out hc ?_, cvU_out hc h2⟩
            rcases h2 with h | h | h | h | ⟨i', k, i2, k1, e1, rfl, h⟩
            · omega
            · omega
            · exact .inr (.inr (.inl h))
            · exact .inr (.inr (.inr (.inl h)))
            · obtain rfl : i = i' := by omega
              exact .inr (.inr (.inr (.inr ⟨j, k, j1, k1, rfl, rfl, by rw [← hb]; exact h⟩)))
          · obtain rfl : i = i' := by omega
            obtain ⟨U, u1, u2, u3, u4⟩ := conv_ok hc hsc (by omega) j1 k1 (hb.symm.trans hb2) p2 p3
            obtain ⟨V, w1, w2, w3, w4⟩ := conv_ok hc hsc (by omega) i1 k1 hb2 oR lR
            obtain rfl : U = V := Q.inj u2 w2 (by rw [u4, w4, p4, conv_via aj])
            exact ⟨_, u1, w1⟩
        refine Fn.ofG (envL [v]) 1 [.buf 0, .v (.int .i64 i), .v (.int .i64 j), .v (.int .i64 c), rtS (encQ S)] [(0, .ro (8) (rowsU l))] (fun k => k < _) Tryd.func4 (by kernel_rfl) rfl Tryd.ntmps4 rfl (fun _ hk => hk) (Sat.ros (vs := [v]) (l := [(8, rowsU l)]) ⟨hv, trivial⟩) fun w0 cs => ?_
        conv => whnf
        refine goS_run tab 1000 _ _ _ _ ?_
        conv => whnf
        repeat (first | (refine And.intro (by omega) ?_; (try intro _); conv => whnf) | (refine And.intro ?_ (by omega); (try intro _); conv => whnf) | (refine ⟨_, RemV.nonneg (by omega) (by omega), ?_⟩; conv => whnf))
        refine RunsS.callV (fun Ez Hz Az Sz K => saneU_fn (hT.keeps ⟨K.size, K.same⟩)) ?_
        conv => whnf
        try refine goS_run tab 1000 _ _ _ _ ?_
        conv => whnf
        repeat (first | (refine And.intro (by omega) ?_; (try intro _); conv => whnf) | (refine And.intro ?_ (by omega); (try intro _); conv => whnf) | (refine ⟨_, RemV.nonneg (by omega) (by omega), ?_⟩; conv => whnf))
        refine RunsS.callT tabOk (hT.t) (resdOk (by omega) hi hx) [0] (by repeat (first | exact trivial | refine ⟨by rfl, ?_⟩)) ?CNa3 ?CNr3
        case CNa3 => rfl
        intro _ _
        conv => whnf
        try refine goS_run tab 1000 _ _ _ _ ?_
        conv => whnf
        repeat (first | (refine And.intro (by omega) ?_; (try intro _); conv => whnf) | (refine And.intro ?_ (by omega); (try intro _); conv => whnf) | (refine ⟨_, RemV.nonneg (by omega) (by omega), ?_⟩; conv => whnf))
        refine RunsS.callV (fun Ez Hz Az Sz K => rtCheck_fn (encQ S) (hT.keeps ⟨K.size, K.same⟩)) ?_
        conv => whnf
        rw [chkR_zero.2 ho]
        try dsimp only
        try refine goS_run tab 1000 _ _ _ _ ?_
        conv => whnf
        repeat (first | (refine And.intro (by omega) ?_; (try intro _); conv => whnf) | (refine And.intro ?_ (by omega); (try intro _); conv => whnf) | (refine ⟨_, RemV.nonneg (by omega) (by omega), ?_⟩; conv => whnf))
        refine RunsS.callV (fun Ez Hz Az Sz K => convert_fn x hix (Sz.ro (b := 2) rfl) i j (encQ S) (hT.keeps ⟨K.size, K.same⟩)) ?_
        conv => whnf
        rw [p1]
        try dsimp only
        try refine goS_run tab 1000 _ _ _ _ ?_
        conv => whnf
        repeat (first | (refine And.intro (by omega) ?_; (try intro _); conv => whnf) | (refine And.intro ?_ (by omega); (try intro _); conv => whnf) | (refine ⟨_, RemV.nonneg (by omega) (by omega), ?_⟩; conv => whnf))
        refine RunsS.callV (fun Ez Hz Az Sz K => convert_fn x hix (Sz.ro (b := 2) rfl) j i (encQ P) (hT.keeps ⟨K.size, K.same⟩)) ?_
        conv => whnf
        rw [q1]
        try dsimp only
        try refine goS_run tab 1000 _ _ _ _ ?_
        conv => whnf
        repeat (first | (refine And.intro (by omega) ?_; (try intro _); conv => whnf) | (refine And.intro ?_ (by omega); (try intro _); conv => whnf) | (refine ⟨_, RemV.nonneg (by omega) (by omega), ?_⟩; conv => whnf))
        refine RunsS.callV (fun Ez Hz Az Sz K => convert_fn x hix (Sz.ro (b := 2) rfl) i i (encQ S) (hT.keeps ⟨K.size, K.same⟩)) ?_
        conv => whnf
        rw [s1]
        try dsimp only
        try refine goS_run tab 1000 _ _ _ _ ?_
        conv => whnf
        repeat (first | (refine And.intro (by omega) ?_; (try intro _); conv => whnf) | (refine And.intro ?_ (by omega); (try intro _); conv => whnf) | (refine ⟨_, RemV.nonneg (by omega) (by omega), ?_⟩; conv => whnf))
        refine And.intro (fun _ => ?_) (fun hn => absurd (⟨rfl, rfl, rfl⟩) hn)
        conv => whnf
        try refine goS_run tab 1000 _ _ _ _ ?_
        conv => whnf
        repeat (first | (refine And.intro (by omega) ?_; (try intro _); conv => whnf) | (refine And.intro ?_ (by omega); (try intro _); conv => whnf) | (refine ⟨_, RemV.nonneg (by omega) (by omega), ?_⟩; conv => whnf))
        refine And.intro (fun _ => ?_) (fun hn => absurd (⟨rfl, rfl, rfl⟩) hn)
        conv => whnf
        try refine goS_run tab 1000 _ _ _ _ ?_
        conv => whnf
        repeat (first | (refine And.intro (by omega) ?_; (try intro _); conv => whnf) | (refine And.intro ?_ (by omega); (try intro _); conv => whnf) | (refine ⟨_, RemV.nonneg (by omega) (by omega), ?_⟩; conv => whnf))
        refine RunsS.callV (fun Ez Hz Az Sz K => convert_fn x hix (Sz.ro (b := 2) rfl) j c (encQ P) (hT.keeps ⟨K.size, K.same⟩)) ?_
        conv => whnf
        rw [y1]
        try dsimp only
        try refine goS_run tab 1000 _ _ _ _ ?_
        conv => whnf
        repeat (first | (refine And.intro (by omega) ?_; (try intro _); conv => whnf) | (refine And.intro ?_ (by omega); (try intro _); conv => whnf) | (refine ⟨_, RemV.nonneg (by omega) (by omega), ?_⟩; conv => whnf))
        refine RunsS.callV (fun Ez Hz Az Sz K => convert_fn x hix (Sz.ro (b := 2) rfl) i c (encQ S) (hT.keeps ⟨K.size, K.same⟩)) ?_
        conv => whnf
        rw [y2]
        try dsimp only
        try refine goS_run tab 1000 _ _ _ _ ?_
        conv => whnf
        repeat (first | (refine And.intro (by omega) ?_; (try intro _); conv => whnf) | (refine And.intro ?_ (by omega); (try intro _); conv => whnf) | (refine ⟨_, RemV.nonneg (by omega) (by omega), ?_⟩; conv => whnf))
        refine RunsS.retU (UnwS.ret tab Tryd.func4 rfl fun Ez Hz Az Sz K => ⟨_, rfl, ?_, K.keeps⟩)
        exact congrArg Value.bool (dec_t ⟨rfl, rfl, rfl⟩)
    · refine Fn.ofG (envL [v]) 1 [.buf 0, .v (.int .i64 a), .v (.int .i64 b), .v (.int .i64 c), rtS r] [(0, .ro (8) (rowsU l))] (fun k => k < _) Tryd.func4 (by kernel_rfl) rfl Tryd.ntmps4 rfl (fun _ hk => hk) (Sat.ros (vs := [v]) (l := [(8, rowsU l)]) ⟨hv, trivial⟩) fun w0 cs => ?_
      conv => whnf
      refine goS_run tab 1000 _ _ _ _ ?_
      conv => whnf
      repeat (first | (refine And.intro (by omega) ?_; (try intro _); conv => whnf) | (refine And.intro ?_ (by omega); (try intro _); conv => whnf) | (refine ⟨_, RemV.nonneg (by omega) (by omega), ?_⟩; conv => whnf))
      refine RunsS.callV (fun Ez Hz Az Sz K => saneU_fn (hT.keeps ⟨K.size, K.same⟩)) ?_
      conv => whnf
      try refine goS_run tab 1000 _ _ _ _ ?_
      conv => whnf
      repeat (first | (refine And.intro (by omega) ?_; (try intro _); conv => whnf) | (refine And.intro ?_ (by omega); (try intro _); conv => whnf) | (refine ⟨_, RemV.nonneg (by omega) (by omega), ?_⟩; conv => whnf))
      refine RunsS.callT tabOk (hT.t) (resdOk (by omega) hi hx) [0] (by repeat (first | exact trivial | refine ⟨by rfl, ?_⟩)) ?CNa4 ?CNr4
      case CNa4 => rfl
      intro _ _
      conv => whnf
      try refine goS_run tab 1000 _ _ _ _ ?_
      conv => whnf
      repeat (first | (refine And.intro (by omega) ?_; (try intro _); conv => whnf) | (refine And.intro ?_ (by omega); (try intro _); conv => whnf) | (refine ⟨_, RemV.nonneg (by omega) (by omega), ?_⟩; conv => whnf))
      refine RunsS.callV (fun Ez Hz Az Sz K => rtCheck_fn r (hT.keeps ⟨K.size, K.same⟩)) ?_
      conv => whnf
      rw [chk_no ho]
      try dsimp only
      try refine goS_run tab 1000 _ _ _ _ ?_
      conv => whnf
      repeat (first | (refine And.intro (by omega) ?_; (try intro _); conv => whnf) | (refine And.intro ?_ (by omega); (try intro _); conv => whnf) | (refine ⟨_, RemV.nonneg (by omega) (by omega), ?_⟩; conv => whnf))
      refine RunsS.retU (UnwS.ret tab Tryd.func4 rfl fun Ez Hz Az Sz K => ⟨_, rfl, rfl, K.keeps⟩)
theorem unitsSums_fn {h : Array Obj} (l : List Un) (a b : Int) (r s : Rt) {v : Value} (hv : Ro h v 8 (rowsU l)) (hi : UnOk l) (hT : TabH h) : FnV Tryd.prog 6 #[v, .int .i64 a, .int .i64 b, r.v, s.v] h fun r h' => r = .bool true ∧ Keeps h.size h h' := by
  have hl := rowsU_len l
  have hm := hv.len
  cases hx : resdU l r with
  | none =>
    refine Fn.ofG (envL [v]) 1 [.buf 0, .v (.int .i64 a), .v (.int .i64 b), rtS r, rtS s] [(0, .ro (8) (rowsU l))] (fun k => k < _) Tryd.func6 (by kernel_rfl) rfl Tryd.ntmps6 rfl (fun _ hk => hk) (Sat.ros (vs := [v]) (l := [(8, rowsU l)]) ⟨hv, trivial⟩) fun w0 cs => ?_
    conv => whnf
    refine goS_run tab 1000 _ _ _ _ ?_
    conv => whnf
    repeat (first | (refine And.intro (by omega) ?_; (try intro _); conv => whnf) | (refine And.intro ?_ (by omega); (try intro _); conv => whnf) | (refine ⟨_, RemV.nonneg (by omega) (by omega), ?_⟩; conv => whnf))
    refine RunsS.callV (fun Ez Hz Az Sz K => saneU_fn (hT.keeps ⟨K.size, K.same⟩)) ?_
    conv => whnf
    try refine goS_run tab 1000 _ _ _ _ ?_
    conv => whnf
    repeat (first | (refine And.intro (by omega) ?_; (try intro _); conv => whnf) | (refine And.intro ?_ (by omega); (try intro _); conv => whnf) | (refine ⟨_, RemV.nonneg (by omega) (by omega), ?_⟩; conv => whnf))
    refine RunsS.callT tabOk (hT.t) (resdNo (by omega) hi hx) [0] (by repeat (first | exact trivial | refine ⟨by rfl, ?_⟩)) ?CNa5 ?CNr5
    case CNa5 => rfl
    intro _ _
    conv => whnf
    try refine goS_run tab 1000 _ _ _ _ ?_
    conv => whnf
    repeat (first | (refine And.intro (by omega) ?_; (try intro _); conv => whnf) | (refine And.intro ?_ (by omega); (try intro _); conv => whnf) | (refine ⟨_, RemV.nonneg (by omega) (by omega), ?_⟩; conv => whnf))
    refine RunsS.retU (UnwS.ret tab Tryd.func6 rfl fun Ez Hz Az Sz K => ⟨_, rfl, rfl, K.keeps⟩)
  | some x =>
    obtain ⟨x1, x2, x3⟩ := resdU_some hx
    have x4 := (resolveU_inl.1 x3).2.2
    have hix := hi.res x4
    have hc := checkU_res x3
    have hsc := x4.sc (k := 25) (by omega) (by omega)
    by_cases ho : okR r ∧ okR s ∧ FewS s
    · obtain ⟨ho, hos, hfs⟩ := ho
      obtain ⟨R, rfl, oR, lR⟩ := okV40 ho x1
      obtain ⟨S, rfl, oS, lS⟩ := okV40 hos hfs
      have hf1 := hfs.1
      have hf2 := hfs.2
      rcases outU_or x a b with h1 | ⟨i, j, i1, j1, rfl, rfl, hb⟩
      · refine Fn.ofG (envL [v]) 1 [.buf 0, .v (.int .i64 a), .v (.int .i64 b), rtS (encQ R), rtS (encQ S)] [(0, .ro (8) (rowsU l))] (fun k => k < _) Tryd.func6 (by kernel_rfl) rfl Tryd.ntmps6 rfl (fun _ hk => hk) (Sat.ros (vs := [v]) (l := [(8, rowsU l)]) ⟨hv, trivial⟩) fun w0 cs => ?_
        conv => whnf
        refine goS_run tab 1000 _ _ _ _ ?_
        conv => whnf
        repeat (first | (refine And.intro (by omega) ?_; (try intro _); conv => whnf) | (refine And.intro ?_ (by omega); (try intro _); conv => whnf) | (refine ⟨_, RemV.nonneg (by omega) (by omega), ?_⟩; conv => whnf))
        refine RunsS.callV (fun Ez Hz Az Sz K => saneU_fn (hT.keeps ⟨K.size, K.same⟩)) ?_
        conv => whnf
        try refine goS_run tab 1000 _ _ _ _ ?_
        conv => whnf
        repeat (first | (refine And.intro (by omega) ?_; (try intro _); conv => whnf) | (refine And.intro ?_ (by omega); (try intro _); conv => whnf) | (refine ⟨_, RemV.nonneg (by omega) (by omega), ?_⟩; conv => whnf))
        refine RunsS.callT tabOk (hT.t) (resdOk (by omega) hi hx) [0] (by repeat (first | exact trivial | refine ⟨by rfl, ?_⟩)) ?CNa6 ?CNr6
        case CNa6 => rfl
        intro _ _
        conv => whnf
        try refine goS_run tab 1000 _ _ _ _ ?_
        conv => whnf
        repeat (first | (refine And.intro (by omega) ?_; (try intro _); conv => whnf) | (refine And.intro ?_ (by omega); (try intro _); conv => whnf) | (refine ⟨_, RemV.nonneg (by omega) (by omega), ?_⟩; conv => whnf))
        refine RunsS.callV (fun Ez Hz Az Sz K => rtCheck_fn (encQ R) (hT.keeps ⟨K.size, K.same⟩)) ?_
        conv => whnf
        rw [chkR_zero.2 ho]
        try dsimp only
        try refine goS_run tab 1000 _ _ _ _ ?_
        conv => whnf
        repeat (first | (refine And.intro (by omega) ?_; (try intro _); conv => whnf) | (refine And.intro ?_ (by omega); (try intro _); conv => whnf) | (refine ⟨_, RemV.nonneg (by omega) (by omega), ?_⟩; conv => whnf))
        refine RunsS.callV (fun Ez Hz Az Sz K => rtCheck_fn (encQ S) (hT.keeps ⟨K.size, K.same⟩)) ?_
        conv => whnf
        rw [chkR_zero.2 hos]
        try dsimp only
        try refine goS_run tab 1000 _ _ _ _ ?_
        conv => whnf
        repeat (first | (refine And.intro (by omega) ?_; (try intro _); conv => whnf) | (refine And.intro ?_ (by omega); (try intro _); conv => whnf) | (refine ⟨_, RemV.nonneg (by omega) (by omega), ?_⟩; conv => whnf))
        refine RunsS.callV (fun Ez Hz Az Sz K => convert_fn x hix (Sz.ro (b := 3) rfl) a b (encQ R) (hT.keeps ⟨K.size, K.same⟩)) ?_
        conv => whnf
        rw [cvU_out hc h1]
        try dsimp only
        try refine goS_run tab 1000 _ _ _ _ ?_
        conv => whnf
        repeat (first | (refine And.intro (by omega) ?_; (try intro _); conv => whnf) | (refine And.intro ?_ (by omega); (try intro _); conv => whnf) | (refine ⟨_, RemV.nonneg (by omega) (by omega), ?_⟩; conv => whnf))
        refine RunsS.callV (fun Ez Hz Az Sz K => convert_fn x hix (Sz.ro (b := 3) rfl) a b (encQ S) (hT.keeps ⟨K.size, K.same⟩)) ?_
        conv => whnf
        rw [cvU_out hc h1]
        try dsimp only
        try refine goS_run tab 1000 _ _ _ _ ?_
        conv => whnf
        repeat (first | (refine And.intro (by omega) ?_; (try intro _); conv => whnf) | (refine And.intro ?_ (by omega); (try intro _); conv => whnf) | (refine ⟨_, RemV.nonneg (by omega) (by omega), ?_⟩; conv => whnf))
        refine RunsS.retU (UnwS.ret tab Tryd.func6 rfl fun Ez Hz Az Sz K => ⟨_, rfl, ?_, K.keeps⟩)
        rfl
      · obtain ⟨P, p1, p2, p3, p4⟩ := conv_ok hc hsc (by omega) i1 j1 hb oR lR
        obtain ⟨Q1, q1, q2, q3, q4⟩ := conv_ok hc hsc (by omega) i1 j1 hb oS lS
        obtain ⟨_, _, _, _, _, ai⟩ := (hsc _ (List.getElem_mem i1)).sv
        obtain ⟨_, _, _, _, _, aj⟩ := (hsc _ (List.getElem_mem j1)).sv
        obtain ⟨T, t1, t2, t3, t4⟩ := addR_ok oR oS lR lS (by omega)
        obtain ⟨U, u1, u2, u3, u4⟩ := addR_ok p2 q2 p3 q3 (by omega)
        obtain ⟨V, w1, w2, w3, w4⟩ := conv_ok hc hsc (by omega) i1 j1 hb t2 t3
        obtain rfl : V = U := Q.inj w2 u2 (by rw [w4, u4, t4, p4, q4]; grind)
        have m1 := cmpR_ok oR oS lR lS (by omega)
        have m2 := cmpR_ok p2 q2 p3 q3 (by omega)
        have m3 : cmpQ P Q1 = cmpQ R S := cmpQ_eq' p2 q2 oR oS (by rw [p4, q4]; exact conv_lt ai aj) (by rw [p4, q4]; exact conv_lt ai aj)
        rw [m3] at m2
        refine Fn.ofG (envL [v]) 1 [.buf 0, .v (.int .i64 i), .v (.int .i64 j), rtS (encQ R), rtS (encQ S)] [(0, .ro (8) (rowsU l))] (fun k => k < _) Tryd.func6 (by kernel_rfl) rfl Tryd.ntmps6 rfl (fun _ hk => hk) (Sat.ros (vs := [v]) (l := [(8, rowsU l)]) ⟨hv, trivial⟩) fun w0 cs => ?_
        conv => whnf
        refine goS_run tab 1000 _ _ _ _ ?_
        conv => whnf
        repeat (first | (refine And.intro (by omega) ?_; (try intro _); conv => whnf) | (refine And.intro ?_ (by omega); (try intro _); conv => whnf) | (refine ⟨_, RemV.nonneg (by omega) (by omega), ?_⟩; conv => whnf))
        refine RunsS.callV (fun Ez Hz Az Sz K => saneU_fn (hT.keeps ⟨K.size, K.same⟩)) ?_
        conv => whnf
        try refine goS_run tab 1000 _ _ _ _ ?_
        conv => whnf
        repeat (first | (refine And.intro (by omega) ?_; (try intro _); conv => whnf) | (refine And.intro ?_ (by omega); (try intro _); conv => whnf) | (refine ⟨_, RemV.nonneg (by omega) (by omega), ?_⟩; conv => whnf))
        refine RunsS.callT tabOk (hT.t) (resdOk (by omega) hi hx) [0] (by repeat (first | exact trivial | refine ⟨by rfl, ?_⟩)) ?CNa7 ?CNr7
        case CNa7 => rfl
        intro _ _
        conv => whnf
        try refine goS_run tab 1000 _ _ _ _ ?_
        conv => whnf
        repeat (first | (refine And.intro (by omega) ?_; (try intro _); conv => whnf) | (refine And.intro ?_ (by omega); (try intro _); conv => whnf) | (refine ⟨_, RemV.nonneg (by omega) (by omega), ?_⟩; conv => whnf))
        refine RunsS.callV (fun Ez Hz Az Sz K => rtCheck_fn (encQ R) (hT.keeps ⟨K.size, K.same⟩)) ?_
        conv => whnf
        rw [chkR_zero.2 ho]
        try dsimp only
        try refine goS_run tab 1000 _ _ _ _ ?_
        conv => whnf
        repeat (first | (refine And.intro (by omega) ?_; (try intro _); conv => whnf) | (refine And.intro ?_ (by omega); (try intro _); conv => whnf) | (refine ⟨_, RemV.nonneg (by omega) (by omega), ?_⟩; conv => whnf))
        refine RunsS.callV (fun Ez Hz Az Sz K => rtCheck_fn (encQ S) (hT.keeps ⟨K.size, K.same⟩)) ?_
        conv => whnf
        rw [chkR_zero.2 hos]
        try dsimp only
        try refine goS_run tab 1000 _ _ _ _ ?_
        conv => whnf
        repeat (first | (refine And.intro (by omega) ?_; (try intro _); conv => whnf) | (refine And.intro ?_ (by omega); (try intro _); conv => whnf) | (refine ⟨_, RemV.nonneg (by omega) (by omega), ?_⟩; conv => whnf))
        refine RunsS.callV (fun Ez Hz Az Sz K => convert_fn x hix (Sz.ro (b := 3) rfl) i j (encQ R) (hT.keeps ⟨K.size, K.same⟩)) ?_
        conv => whnf
        rw [p1]
        try dsimp only
        try refine goS_run tab 1000 _ _ _ _ ?_
        conv => whnf
        repeat (first | (refine And.intro (by omega) ?_; (try intro _); conv => whnf) | (refine And.intro ?_ (by omega); (try intro _); conv => whnf) | (refine ⟨_, RemV.nonneg (by omega) (by omega), ?_⟩; conv => whnf))
        refine RunsS.callV (fun Ez Hz Az Sz K => convert_fn x hix (Sz.ro (b := 3) rfl) i j (encQ S) (hT.keeps ⟨K.size, K.same⟩)) ?_
        conv => whnf
        rw [q1]
        try dsimp only
        try refine goS_run tab 1000 _ _ _ _ ?_
        conv => whnf
        repeat (first | (refine And.intro (by omega) ?_; (try intro _); conv => whnf) | (refine And.intro ?_ (by omega); (try intro _); conv => whnf) | (refine ⟨_, RemV.nonneg (by omega) (by omega), ?_⟩; conv => whnf))
        refine RunsS.callV (fun Ez Hz Az Sz K => qAdd_fn (encQ R) (encQ S) (hT.keeps ⟨K.size, K.same⟩)) ?_
        conv => whnf
        rw [t1]
        try dsimp only
        try refine goS_run tab 1000 _ _ _ _ ?_
        conv => whnf
        repeat (first | (refine And.intro (by omega) ?_; (try intro _); conv => whnf) | (refine And.intro ?_ (by omega); (try intro _); conv => whnf) | (refine ⟨_, RemV.nonneg (by omega) (by omega), ?_⟩; conv => whnf))
        refine RunsS.callV (fun Ez Hz Az Sz K => qAdd_fn (encQ P) (encQ Q1) (hT.keeps ⟨K.size, K.same⟩)) ?_
        conv => whnf
        rw [u1]
        try dsimp only
        try refine goS_run tab 1000 _ _ _ _ ?_
        conv => whnf
        repeat (first | (refine And.intro (by omega) ?_; (try intro _); conv => whnf) | (refine And.intro ?_ (by omega); (try intro _); conv => whnf) | (refine ⟨_, RemV.nonneg (by omega) (by omega), ?_⟩; conv => whnf))
        refine RunsS.callV (fun Ez Hz Az Sz K => convert_fn x hix (Sz.ro (b := 3) rfl) i j (encQ T) (hT.keeps ⟨K.size, K.same⟩)) ?_
        conv => whnf
        rw [w1]
        try dsimp only
        try refine goS_run tab 1000 _ _ _ _ ?_
        conv => whnf
        repeat (first | (refine And.intro (by omega) ?_; (try intro _); conv => whnf) | (refine And.intro ?_ (by omega); (try intro _); conv => whnf) | (refine ⟨_, RemV.nonneg (by omega) (by omega), ?_⟩; conv => whnf))
        refine RunsS.callV (fun Ez Hz Az Sz K => qCompare_fn (encQ R) (encQ S) (hT.keeps ⟨K.size, K.same⟩)) ?_
        conv => whnf
        rw [m1]
        try dsimp only
        try refine goS_run tab 1000 _ _ _ _ ?_
        conv => whnf
        repeat (first | (refine And.intro (by omega) ?_; (try intro _); conv => whnf) | (refine And.intro ?_ (by omega); (try intro _); conv => whnf) | (refine ⟨_, RemV.nonneg (by omega) (by omega), ?_⟩; conv => whnf))
        refine RunsS.callV (fun Ez Hz Az Sz K => qCompare_fn (encQ P) (encQ Q1) (hT.keeps ⟨K.size, K.same⟩)) ?_
        conv => whnf
        rw [m2]
        try dsimp only
        try refine goS_run tab 1000 _ _ _ _ ?_
        conv => whnf
        repeat (first | (refine And.intro (by omega) ?_; (try intro _); conv => whnf) | (refine And.intro ?_ (by omega); (try intro _); conv => whnf) | (refine ⟨_, RemV.nonneg (by omega) (by omega), ?_⟩; conv => whnf))
        refine And.intro (fun _ => ?_) (fun hn => absurd (⟨rfl, rfl, rfl⟩) hn)
        conv => whnf
        try refine goS_run tab 1000 _ _ _ _ ?_
        conv => whnf
        repeat (first | (refine And.intro (by omega) ?_; (try intro _); conv => whnf) | (refine And.intro ?_ (by omega); (try intro _); conv => whnf) | (refine ⟨_, RemV.nonneg (by omega) (by omega), ?_⟩; conv => whnf))
        refine RunsS.retU (UnwS.ret tab Tryd.func6 rfl fun Ez Hz Az Sz K => ⟨_, rfl, ?_, K.keeps⟩)
        exact congrArg Value.bool (dec_t rfl)
    · refine Fn.ofG (envL [v]) 1 [.buf 0, .v (.int .i64 a), .v (.int .i64 b), rtS r, rtS s] [(0, .ro (8) (rowsU l))] (fun k => k < _) Tryd.func6 (by kernel_rfl) rfl Tryd.ntmps6 rfl (fun _ hk => hk) (Sat.ros (vs := [v]) (l := [(8, rowsU l)]) ⟨hv, trivial⟩) fun w0 cs => ?_
      conv => whnf
      refine goS_run tab 1000 _ _ _ _ ?_
      conv => whnf
      repeat (first | (refine And.intro (by omega) ?_; (try intro _); conv => whnf) | (refine And.intro ?_ (by omega); (try intro _); conv => whnf) | (refine ⟨_, RemV.nonneg (by omega) (by omega), ?_⟩; conv => whnf))
      refine RunsS.callV (fun Ez Hz Az Sz K => saneU_fn (hT.keeps ⟨K.size, K.same⟩)) ?_
      conv => whnf
      try refine goS_run tab 1000 _ _ _ _ ?_
      conv => whnf
      repeat (first | (refine And.intro (by omega) ?_; (try intro _); conv => whnf) | (refine And.intro ?_ (by omega); (try intro _); conv => whnf) | (refine ⟨_, RemV.nonneg (by omega) (by omega), ?_⟩; conv => whnf))
      refine RunsS.callT tabOk (hT.t) (resdOk (by omega) hi hx) [0] (by repeat (first | exact trivial | refine ⟨by rfl, ?_⟩)) ?CNa8 ?CNr8
      case CNa8 => rfl
      intro _ _
      conv => whnf
      try refine goS_run tab 1000 _ _ _ _ ?_
      conv => whnf
      repeat (first | (refine And.intro (by omega) ?_; (try intro _); conv => whnf) | (refine And.intro ?_ (by omega); (try intro _); conv => whnf) | (refine ⟨_, RemV.nonneg (by omega) (by omega), ?_⟩; conv => whnf))
      by_cases g1 : (s.n.size : Int) ≤ 40
      · by_cases g2 : (s.d.size : Int) ≤ 40
        · conv => whnf
          repeat (first | (refine And.intro (by omega) ?_; (try intro _); conv => whnf) | (refine And.intro ?_ (by omega); (try intro _); conv => whnf) | (refine ⟨_, RemV.nonneg (by omega) (by omega), ?_⟩; conv => whnf))
          by_cases g3 : okR r
          · refine RunsS.callV (fun Ez Hz Az Sz K => rtCheck_fn r (hT.keeps ⟨K.size, K.same⟩)) ?_
            conv => whnf
            rw [chkR_zero.2 g3]
            try dsimp only
            try refine goS_run tab 1000 _ _ _ _ ?_
            conv => whnf
            repeat (first | (refine And.intro (by omega) ?_; (try intro _); conv => whnf) | (refine And.intro ?_ (by omega); (try intro _); conv => whnf) | (refine ⟨_, RemV.nonneg (by omega) (by omega), ?_⟩; conv => whnf))
            refine RunsS.callV (fun Ez Hz Az Sz K => rtCheck_fn s (hT.keeps ⟨K.size, K.same⟩)) ?_
            conv => whnf
            rw [chk_no (fun e => ho ⟨g3, e, g1, g2⟩)]
            try dsimp only
            try refine goS_run tab 1000 _ _ _ _ ?_
            conv => whnf
            repeat (first | (refine And.intro (by omega) ?_; (try intro _); conv => whnf) | (refine And.intro ?_ (by omega); (try intro _); conv => whnf) | (refine ⟨_, RemV.nonneg (by omega) (by omega), ?_⟩; conv => whnf))
            refine RunsS.retU (UnwS.ret tab Tryd.func6 rfl fun Ez Hz Az Sz K => ⟨_, rfl, rfl, K.keeps⟩)
          · refine RunsS.callV (fun Ez Hz Az Sz K => rtCheck_fn r (hT.keeps ⟨K.size, K.same⟩)) ?_
            conv => whnf
            rw [chk_no g3]
            try dsimp only
            try refine goS_run tab 1000 _ _ _ _ ?_
            conv => whnf
            repeat (first | (refine And.intro (by omega) ?_; (try intro _); conv => whnf) | (refine And.intro ?_ (by omega); (try intro _); conv => whnf) | (refine ⟨_, RemV.nonneg (by omega) (by omega), ?_⟩; conv => whnf))
            refine RunsS.retU (UnwS.ret tab Tryd.func6 rfl fun Ez Hz Az Sz K => ⟨_, rfl, rfl, K.keeps⟩)
        · conv => whnf
          repeat (first | (refine And.intro (by omega) ?_; (try intro _); conv => whnf) | (refine And.intro ?_ (by omega); (try intro _); conv => whnf) | (refine ⟨_, RemV.nonneg (by omega) (by omega), ?_⟩; conv => whnf))
          refine RunsS.retU (UnwS.ret tab Tryd.func6 rfl fun Ez Hz Az Sz K => ⟨_, rfl, rfl, K.keeps⟩)
      · conv => whnf
        repeat (first | (refine And.intro (by omega) ?_; (try intro _); conv => whnf) | (refine And.intro ?_ (by omega); (try intro _); conv => whnf) | (refine ⟨_, RemV.nonneg (by omega) (by omega), ?_⟩; conv => whnf))
        refine RunsS.retU (UnwS.ret tab Tryd.func6 rfl fun Ez Hz Az Sz K => ⟨_, rfl, rfl, K.keeps⟩)
end Go.Proofs.YtgnciigjhpcdmaaDoor

namespace Go.Proofs.YtgnciigjhpcdmaaDoor
open Go Go.Fw Go.NatM Go.RatM
set_option maxRecDepth 100000
set_option maxHeartbeats 64000000

theorem more_take {l x y : List Un} {u : Un} (hx : ResP l x) (hy : ResP (l ++ [u]) y) : ∀ i, i ≤ x.length → y.take i = x.take i
  | 0, _ => by simp
  | i + 1, h => by
    have ih := more_take hx hy i (by omega)
    have h1 : i < x.length := by omega
    have h2 : i < l.length := by rw [← hx.1]; exact h1
    have h3 : i < y.length := by rw [hy.1, List.length_append]; simp; omega
    have h4 : i < (l ++ [u]).length := by rw [List.length_append]; omega
    have e1 := hx.2 i h2 h1
    have e2 := hy.2 i h4 h3
    rw [List.getElem_append_left h2, ih, e1] at e2
    have e2 := Sum.inl.inj e2
    rw [List.take_add_one, List.take_add_one, ih, List.getElem?_eq_getElem h1, List.getElem?_eq_getElem h3, e2]
theorem more_get {x y : List Un} (h : y.take x.length = x) {i : Nat} (hi : i < x.length) : y[i]? = x[i]? := by
  rw [← List.getElem?_take_of_lt (l := y) hi, h]
theorem conv_more {x y : List Un} {a b : Int} {r : Rt} (hx : checkU x = 0) (hy : checkU y = 0) (h : y.take x.length = x) (ha : a < x.length) (hb : b < x.length) : convU y a b r = convU x a b r := by
  by_cases h0 : a < 0 ∨ b < 0
  · rw [cvU_out hx (by unfold outU; omega), cvU_out hy (by unfold outU; omega)]
  · unfold convU
    rw [if_neg (fun e => e hy), if_neg (fun e => e hx), more_get h (i := a.toNat) (by omega), more_get h (i := b.toNat) (by omega)]
theorem unitsMore_fn {h : Array Obj} (l : List Un) (u : Un) (a b : Int) (r : Rt) {v : Value} (hv : Ro h v 8 (rowsU l)) (hi : UnOk l) (hu : UnOk [u]) (hT : TabH h) : FnV Tryd.prog 5 #[v, u.v, .int .i64 a, .int .i64 b, r.v] h fun r h' => r = .bool true ∧ Keeps h.size h h' := by
  have hl := rowsU_len l
  have hm := hv.len
  cases hx : resdU l r with
  | none =>
    refine Fn.ofG (envL [v]) 1 [.buf 0, .agg (toV u.row), .v (.int .i64 a), .v (.int .i64 b), rtS r] [(0, .ro (8) (rowsU l))] (fun k => k < _) Tryd.func5 (by kernel_rfl) rfl Tryd.ntmps5 rfl (fun _ hk => hk) (Sat.ros (vs := [v]) (l := [(8, rowsU l)]) ⟨hv, trivial⟩) fun w0 cs => ?_
    conv => whnf
    refine goS_run tab 1000 _ _ _ _ ?_
    conv => whnf
    repeat (first | (refine And.intro (by omega) ?_; (try intro _); conv => whnf) | (refine And.intro ?_ (by omega); (try intro _); conv => whnf) | (refine ⟨_, RemV.nonneg (by omega) (by omega), ?_⟩; conv => whnf))
    refine RunsS.callV (fun Ez Hz Az Sz K => saneU_fn (hT.keeps ⟨K.size, K.same⟩)) ?_
    conv => whnf
    try refine goS_run tab 1000 _ _ _ _ ?_
    conv => whnf
    repeat (first | (refine And.intro (by omega) ?_; (try intro _); conv => whnf) | (refine And.intro ?_ (by omega); (try intro _); conv => whnf) | (refine ⟨_, RemV.nonneg (by omega) (by omega), ?_⟩; conv => whnf))
    refine RunsS.callT tabOk (hT.t) (resdNo (by omega) hi hx) [0] (by repeat (first | exact trivial | refine ⟨by rfl, ?_⟩)) ?CNa1 ?CNr1
    case CNa1 => rfl
    intro _ _
    conv => whnf
    try refine goS_run tab 1000 _ _ _ _ ?_
    conv => whnf
    repeat (first | (refine And.intro (by omega) ?_; (try intro _); conv => whnf) | (refine And.intro ?_ (by omega); (try intro _); conv => whnf) | (refine ⟨_, RemV.nonneg (by omega) (by omega), ?_⟩; conv => whnf))
    refine RunsS.retU (UnwS.ret tab Tryd.func5 rfl fun Ez Hz Az Sz K => ⟨_, rfl, rfl, K.keeps⟩)
  | some x =>
    obtain ⟨x1, x2, x3⟩ := resdU_some hx
    have x4 := (resolveU_inl.1 x3).2.2
    have hix := hi.res x4
    have hc := checkU_res x3
    have hxr := rowsU_len x
    have hxl := x4.1
    have ap1 : ∀ n, n = 0 → n + (rowsU l).length ≤ 1000000 := fun n hn => by omega
    have ap2 : ∀ n m, n = (rowsU l).length → m = 1 → n + m ≤ 1000000 := fun n m hn hm => by omega
    refine Fn.ofG (envL [v]) 1 [.buf 0, .agg (toV u.row), .v (.int .i64 a), .v (.int .i64 b), rtS r] [(0, .ro (8) (rowsU l))] (fun k => k < _) Tryd.func5 (by kernel_rfl) rfl Tryd.ntmps5 rfl (fun _ hk => hk) (Sat.ros (vs := [v]) (l := [(8, rowsU l)]) ⟨hv, trivial⟩) fun w0 cs => ?_
    conv => whnf
    refine goS_run tab 1000 _ _ _ _ ?_
    conv => whnf
    repeat (first | (refine And.intro (by omega) ?_; (try intro _); conv => whnf) | (refine And.intro ?_ (by omega); (try intro _); conv => whnf) | (refine ⟨_, RemV.nonneg (by omega) (by omega), ?_⟩; conv => whnf))
    refine RunsS.callV (fun Ez Hz Az Sz K => saneU_fn (hT.keeps ⟨K.size, K.same⟩)) ?_
    conv => whnf
    try refine goS_run tab 1000 _ _ _ _ ?_
    conv => whnf
    repeat (first | (refine And.intro (by omega) ?_; (try intro _); conv => whnf) | (refine And.intro ?_ (by omega); (try intro _); conv => whnf) | (refine ⟨_, RemV.nonneg (by omega) (by omega), ?_⟩; conv => whnf))
    refine RunsS.callT tabOk (hT.t) (resdOk (by omega) hi hx) [0] (by repeat (first | exact trivial | refine ⟨by rfl, ?_⟩)) ?CNa2 ?CNr2
    case CNa2 => rfl
    intro _ _
    conv => whnf
    try refine goS_run tab 1000 _ _ _ _ ?_
    conv => whnf
    repeat (first | (refine And.intro (by omega) ?_; (try intro _); conv => whnf) | (refine And.intro ?_ (by omega); (try intro _); conv => whnf) | (refine ⟨_, RemV.nonneg (by omega) (by omega), ?_⟩; conv => whnf))
    refine ⟨fun g1 => ?_, fun g1 => ?_⟩ <;> conv => whnf
    · conv => whnf
      repeat (first | (refine And.intro (by omega) ?_; (try intro _); conv => whnf) | (refine And.intro ?_ (by omega); (try intro _); conv => whnf) | (refine ⟨_, RemV.nonneg (by omega) (by omega), ?_⟩; conv => whnf))
      refine RunsS.retU (UnwS.ret tab Tryd.func5 rfl fun Ez Hz Az Sz K => ⟨_, rfl, rfl, K.keeps⟩)
    conv => whnf
    repeat (first | (refine And.intro (by omega) ?_; (try intro _); conv => whnf) | (refine And.intro ?_ (by omega); (try intro _); conv => whnf) | (refine ⟨_, RemV.nonneg (by omega) (by omega), ?_⟩; conv => whnf))
    by_cases g2 : (u.scale.n.size : Int) ≤ 40
    rotate_left
    · conv => whnf
      repeat (first | (refine And.intro (by omega) ?_; (try intro _); conv => whnf) | (refine And.intro ?_ (by omega); (try intro _); conv => whnf) | (refine ⟨_, RemV.nonneg (by omega) (by omega), ?_⟩; conv => whnf))
      refine RunsS.retU (UnwS.ret tab Tryd.func5 rfl fun Ez Hz Az Sz K => ⟨_, rfl, rfl, K.keeps⟩)
    by_cases g3 : (u.scale.d.size : Int) ≤ 40
    rotate_left
    · conv => whnf
      repeat (first | (refine And.intro (by omega) ?_; (try intro _); conv => whnf) | (refine And.intro ?_ (by omega); (try intro _); conv => whnf) | (refine ⟨_, RemV.nonneg (by omega) (by omega), ?_⟩; conv => whnf))
      refine RunsS.retU (UnwS.ret tab Tryd.func5 rfl fun Ez Hz Az Sz K => ⟨_, rfl, rfl, K.keeps⟩)
    conv => whnf
    repeat (first | (refine And.intro (by omega) ?_; (try intro _); conv => whnf) | (refine And.intro ?_ (by omega); (try intro _); conv => whnf) | (refine ⟨_, RemV.nonneg (by omega) (by omega), ?_⟩; conv => whnf))
    have hil : UnOk (l ++ [u]) := fun w hw => (List.mem_append.1 hw).elim (hi w) (hu w)
    have hlen : (l ++ [u]).length = l.length + 1 := by simp
    refine RunsS.subR (nx' := 4) (l' := [(0, .buf 0), (2, .v (.int .i64 a)), (3, .v (.int .i64 b)), (6, .ptr 1 0), (9, .ptr 2 0), (11, .buf 3)]) (H' := [ownU 3 x, rtB 2 r, unB 1 u, (0, .ro 8 (rowsU l))]) [] ?_ (by repeat (first | exact trivial | refine ⟨by rfl, ?_⟩)) (by repeat (first | exact trivial | refine ⟨by rfl, ?_⟩))
    cases hy : resolveU (l ++ [u]) with
    | inr e =>
      have he := resolveU_err hy
      have C := resNoO (by omega) hil hy
      unfold ownU at C
      rw [← rowsU_app] at C
      refine RunsS.join (fun (_ : Unit) => [(14, .v (.int .i64 e)), (13, .v (.slice none 0 0))]) (fun (_ : Unit) => [(0, .ro 8 (rowsU l))]) 4 (fun (_ : Unit) => True) ?_ (fun meet => ?_)
      · intro _ _
        try refine goS_run tab 1000 _ _ _ _ ?_
        conv => whnf
        repeat (first | (refine And.intro (by omega) ?_; (try intro _); conv => whnf) | (refine And.intro ?_ (by omega); (try intro _); conv => whnf) | (refine ⟨_, RemV.nonneg (by omega) (by omega), ?_⟩; conv => whnf))
        refine RunsS.retU (UnwS.ret tab Tryd.func5 rfl fun Ez Hz Az Sz K => ⟨_, rfl, rfl, K.keeps⟩)
      · refine RunsS.held tab (.fl 1 (.fl 3 (.e2 0 [3] (.e2 2 [3] (.e1 4 [] (.e1 5 [] (.e1 6 [] (.fl 7 (.fl 8 (.fl 9 (.fl 10 (.fl 11 .done)))))))) 4 [] (.e1 2 [3] (.e1 5 [] (.e1 6 [] (.fl 7 (.fl 8 (.fl 9 (.fl 10 (.fl 11 .done))))))))) 4 [] (.e1 0 [3] (.e1 2 [3] (.e1 5 [] (.e1 6 [] (.fl 7 (.fl 8 (.fl 9 (.fl 10 (.fl 11 .done)))))))))))) (by kernel_rfl) ?_
        conv => whnf
        try refine goR_run tab _ _ _ _ _ _ ?_
        conv => whnf
        repeat (first | (refine And.intro (by omega) ?_; (try intro _); conv => whnf) | (refine And.intro ?_ (by omega); (try intro _); conv => whnf) | (refine And.intro (by (conv => whnf); (repeat (refine And.intro (by (conv => whnf); first | rfl | exact trivial) ?_; conv => whnf)); exact trivial) ?_; conv => whnf) | (refine ⟨_, RemV.nonneg (by omega) (by omega), ?_⟩; conv => whnf))
        try refine goS_run tab 1000 _ _ _ _ ?_
        conv => whnf
        repeat (first | (refine And.intro (by omega) ?_; (try intro _); conv => whnf) | (refine And.intro ?_ (by omega); (try intro _); conv => whnf) | (refine ⟨_, RemV.nonneg (by omega) (by omega), ?_⟩; conv => whnf))
        refine ⟨?_, ?_⟩ <;> conv => whnf
        · try refine goR_run tab _ _ _ _ _ _ ?_
          conv => whnf
          repeat (first | (refine And.intro (by omega) ?_; (try intro _); conv => whnf) | (refine And.intro ?_ (by omega); (try intro _); conv => whnf) | (refine And.intro (by (conv => whnf); (repeat (refine And.intro (by (conv => whnf); first | rfl | exact trivial) ?_; conv => whnf)); exact trivial) ?_; conv => whnf) | (refine ⟨_, RemV.nonneg (by omega) (by omega), ?_⟩; conv => whnf))
          try refine goS_run tab 1000 _ _ _ _ ?_
          conv => whnf
          repeat (first | (refine And.intro (by omega) ?_; (try intro _); conv => whnf) | (refine And.intro ?_ (by omega); (try intro _); conv => whnf) | (refine ⟨_, RemV.nonneg (by omega) (by omega), ?_⟩; conv => whnf))
          refine ⟨?_, ?_⟩ <;> conv => whnf
          · refine And.intro (appOb2 (ap1 _ rfl)) ?_
            conv => whnf
            try refine goR_run tab _ _ _ _ _ _ ?_
            conv => whnf
            repeat (first | (refine And.intro (by omega) ?_; (try intro _); conv => whnf) | (refine And.intro ?_ (by omega); (try intro _); conv => whnf) | (refine And.intro (by (conv => whnf); (repeat (refine And.intro (by (conv => whnf); first | rfl | exact trivial) ?_; conv => whnf)); exact trivial) ?_; conv => whnf) | (refine ⟨_, RemV.nonneg (by omega) (by omega), ?_⟩; conv => whnf))
            try refine goS_run tab 1000 _ _ _ _ ?_
            conv => whnf
            repeat (first | (refine And.intro (by omega) ?_; (try intro _); conv => whnf) | (refine And.intro ?_ (by omega); (try intro _); conv => whnf) | (refine ⟨_, RemV.nonneg (by omega) (by omega), ?_⟩; conv => whnf))
            try refine goR_run tab _ _ _ _ _ _ ?_
            conv => whnf
            repeat (first | (refine And.intro (by omega) ?_; (try intro _); conv => whnf) | (refine And.intro ?_ (by omega); (try intro _); conv => whnf) | (refine And.intro (by (conv => whnf); (repeat (refine And.intro (by (conv => whnf); first | rfl | exact trivial) ?_; conv => whnf)); exact trivial) ?_; conv => whnf) | (refine ⟨_, RemV.nonneg (by omega) (by omega), ?_⟩; conv => whnf))
            try refine goS_run tab 1000 _ _ _ _ ?_
            conv => whnf
            repeat (first | (refine And.intro (by omega) ?_; (try intro _); conv => whnf) | (refine And.intro ?_ (by omega); (try intro _); conv => whnf) | (refine ⟨_, RemV.nonneg (by omega) (by omega), ?_⟩; conv => whnf))
            refine And.intro (appOb2 (ap2 _ _ rfl rfl)) ?_
            conv => whnf
            try refine goR_run tab _ _ _ _ _ _ ?_
            conv => whnf
            repeat (first | (refine And.intro (by omega) ?_; (try intro _); conv => whnf) | (refine And.intro ?_ (by omega); (try intro _); conv => whnf) | (refine And.intro (by (conv => whnf); (repeat (refine And.intro (by (conv => whnf); first | rfl | exact trivial) ?_; conv => whnf)); exact trivial) ?_; conv => whnf) | (refine ⟨_, RemV.nonneg (by omega) (by omega), ?_⟩; conv => whnf))
            try refine goS_run tab 1000 _ _ _ _ ?_
            conv => whnf
            repeat (first | (refine And.intro (by omega) ?_; (try intro _); conv => whnf) | (refine And.intro ?_ (by omega); (try intro _); conv => whnf) | (refine ⟨_, RemV.nonneg (by omega) (by omega), ?_⟩; conv => whnf))
            refine EffR.callT tabOk (hT.t) (C) [7] ?CNr3 (by repeat (first | exact trivial | refine ⟨by rfl, ?_⟩)) ?CNa3
            case CNa3 => rfl
            intro _ _
            conv => whnf
            try refine And.intro (by (conv => whnf); (repeat (refine And.intro (by (conv => whnf); first | rfl | exact trivial) ?_; conv => whnf)); exact trivial) ?_
            try refine goR_run tab _ _ _ _ _ _ ?_
            conv => whnf
            repeat (first | (refine And.intro (by omega) ?_; (try intro _); conv => whnf) | (refine And.intro ?_ (by omega); (try intro _); conv => whnf) | (refine And.intro (by (conv => whnf); (repeat (refine And.intro (by (conv => whnf); first | rfl | exact trivial) ?_; conv => whnf)); exact trivial) ?_; conv => whnf) | (refine ⟨_, RemV.nonneg (by omega) (by omega), ?_⟩; conv => whnf))
            try refine goS_run tab 1000 _ _ _ _ ?_
            conv => whnf
            repeat (first | (refine And.intro (by omega) ?_; (try intro _); conv => whnf) | (refine And.intro ?_ (by omega); (try intro _); conv => whnf) | (refine ⟨_, RemV.nonneg (by omega) (by omega), ?_⟩; conv => whnf))
            refine RunsS.subR [] (meet (()) ?BJ4) ?SS4 ?HH4
            case BJ4 => first | trivial | omega | ((try dsimp only); omega)
            case SS4 => repeat (first | exact trivial | refine ⟨by rfl, ?_⟩)
            case HH4 => repeat (first | exact trivial | refine ⟨by rfl, ?_⟩)
          · try refine goR_run tab _ _ _ _ _ _ ?_
            conv => whnf
            repeat (first | (refine And.intro (by omega) ?_; (try intro _); conv => whnf) | (refine And.intro ?_ (by omega); (try intro _); conv => whnf) | (refine And.intro (by (conv => whnf); (repeat (refine And.intro (by (conv => whnf); first | rfl | exact trivial) ?_; conv => whnf)); exact trivial) ?_; conv => whnf) | (refine ⟨_, RemV.nonneg (by omega) (by omega), ?_⟩; conv => whnf))
            try refine goS_run tab 1000 _ _ _ _ ?_
            conv => whnf
            repeat (first | (refine And.intro (by omega) ?_; (try intro _); conv => whnf) | (refine And.intro ?_ (by omega); (try intro _); conv => whnf) | (refine ⟨_, RemV.nonneg (by omega) (by omega), ?_⟩; conv => whnf))
            refine And.intro (appOb2 (ap1 _ rfl)) ?_
            conv => whnf
            try refine goR_run tab _ _ _ _ _ _ ?_
            conv => whnf
            repeat (first | (refine And.intro (by omega) ?_; (try intro _); conv => whnf) | (refine And.intro ?_ (by omega); (try intro _); conv => whnf) | (refine And.intro (by (conv => whnf); (repeat (refine And.intro (by (conv => whnf); first | rfl | exact trivial) ?_; conv => whnf)); exact trivial) ?_; conv => whnf) | (refine ⟨_, RemV.nonneg (by omega) (by omega), ?_⟩; conv => whnf))
            try refine goS_run tab 1000 _ _ _ _ ?_
            conv => whnf
            repeat (first | (refine And.intro (by omega) ?_; (try intro _); conv => whnf) | (refine And.intro ?_ (by omega); (try intro _); conv => whnf) | (refine ⟨_, RemV.nonneg (by omega) (by omega), ?_⟩; conv => whnf))
            refine And.intro (appOb2 (ap2 _ _ rfl rfl)) ?_
            conv => whnf
            try refine goR_run tab _ _ _ _ _ _ ?_
            conv => whnf
            repeat (first | (refine And.intro (by omega) ?_; (try intro _); conv => whnf) | (refine And.intro ?_ (by omega); (try intro _); conv => whnf) | (refine And.intro (by (conv => whnf); (repeat (refine And.intro (by (conv => whnf); first | rfl | exact trivial) ?_; conv => whnf)); exact trivial) ?_; conv => whnf) | (refine ⟨_, RemV.nonneg (by omega) (by omega), ?_⟩; conv => whnf))
            try refine goS_run tab 1000 _ _ _ _ ?_
            conv => whnf
            repeat (first | (refine And.intro (by omega) ?_; (try intro _); conv => whnf) | (refine And.intro ?_ (by omega); (try intro _); conv => whnf) | (refine ⟨_, RemV.nonneg (by omega) (by omega), ?_⟩; conv => whnf))
            refine EffR.callT tabOk (hT.t) (C) [7] ?CNr5 (by repeat (first | exact trivial | refine ⟨by rfl, ?_⟩)) ?CNa5
            case CNa5 => rfl
            intro _ _
            conv => whnf
            try refine And.intro (by (conv => whnf); (repeat (refine And.intro (by (conv => whnf); first | rfl | exact trivial) ?_; conv => whnf)); exact trivial) ?_
            try refine goR_run tab _ _ _ _ _ _ ?_
            conv => whnf
            repeat (first | (refine And.intro (by omega) ?_; (try intro _); conv => whnf) | (refine And.intro ?_ (by omega); (try intro _); conv => whnf) | (refine And.intro (by (conv => whnf); (repeat (refine And.intro (by (conv => whnf); first | rfl | exact trivial) ?_; conv => whnf)); exact trivial) ?_; conv => whnf) | (refine ⟨_, RemV.nonneg (by omega) (by omega), ?_⟩; conv => whnf))
            try refine goS_run tab 1000 _ _ _ _ ?_
            conv => whnf
            repeat (first | (refine And.intro (by omega) ?_; (try intro _); conv => whnf) | (refine And.intro ?_ (by omega); (try intro _); conv => whnf) | (refine ⟨_, RemV.nonneg (by omega) (by omega), ?_⟩; conv => whnf))
            refine RunsS.subR [] (meet (()) ?BJ6) ?SS6 ?HH6
            case BJ6 => first | trivial | omega | ((try dsimp only); omega)
            case SS6 => repeat (first | exact trivial | refine ⟨by rfl, ?_⟩)
            case HH6 => repeat (first | exact trivial | refine ⟨by rfl, ?_⟩)
        · try refine goR_run tab _ _ _ _ _ _ ?_
          conv => whnf
          repeat (first | (refine And.intro (by omega) ?_; (try intro _); conv => whnf) | (refine And.intro ?_ (by omega); (try intro _); conv => whnf) | (refine And.intro (by (conv => whnf); (repeat (refine And.intro (by (conv => whnf); first | rfl | exact trivial) ?_; conv => whnf)); exact trivial) ?_; conv => whnf) | (refine ⟨_, RemV.nonneg (by omega) (by omega), ?_⟩; conv => whnf))
          try refine goS_run tab 1000 _ _ _ _ ?_
          conv => whnf
          repeat (first | (refine And.intro (by omega) ?_; (try intro _); conv => whnf) | (refine And.intro ?_ (by omega); (try intro _); conv => whnf) | (refine ⟨_, RemV.nonneg (by omega) (by omega), ?_⟩; conv => whnf))
          refine And.intro (appOb2 (ap1 _ rfl)) ?_
          conv => whnf
          try refine goR_run tab _ _ _ _ _ _ ?_
          conv => whnf
          repeat (first | (refine And.intro (by omega) ?_; (try intro _); conv => whnf) | (refine And.intro ?_ (by omega); (try intro _); conv => whnf) | (refine And.intro (by (conv => whnf); (repeat (refine And.intro (by (conv => whnf); first | rfl | exact trivial) ?_; conv => whnf)); exact trivial) ?_; conv => whnf) | (refine ⟨_, RemV.nonneg (by omega) (by omega), ?_⟩; conv => whnf))
          try refine goS_run tab 1000 _ _ _ _ ?_
          conv => whnf
          repeat (first | (refine And.intro (by omega) ?_; (try intro _); conv => whnf) | (refine And.intro ?_ (by omega); (try intro _); conv => whnf) | (refine ⟨_, RemV.nonneg (by omega) (by omega), ?_⟩; conv => whnf))
          refine And.intro (appOb2 (ap2 _ _ rfl rfl)) ?_
          conv => whnf
          try refine goR_run tab _ _ _ _ _ _ ?_
          conv => whnf
          repeat (first | (refine And.intro (by omega) ?_; (try intro _); conv => whnf) | (refine And.intro ?_ (by omega); (try intro _); conv => whnf) | (refine And.intro (by (conv => whnf); (repeat (refine And.intro (by (conv => whnf); first | rfl | exact trivial) ?_; conv => whnf)); exact trivial) ?_; conv => whnf) | (refine ⟨_, RemV.nonneg (by omega) (by omega), ?_⟩; conv => whnf))
          try refine goS_run tab 1000 _ _ _ _ ?_
          conv => whnf
          repeat (first | (refine And.intro (by omega) ?_; (try intro _); conv => whnf) | (refine And.intro ?_ (by omega); (try intro _); conv => whnf) | (refine ⟨_, RemV.nonneg (by omega) (by omega), ?_⟩; conv => whnf))
          refine EffR.callT tabOk (hT.t) (C) [7] ?CNr7 (by repeat (first | exact trivial | refine ⟨by rfl, ?_⟩)) ?CNa7
          case CNa7 => rfl
          intro _ _
          conv => whnf
          try refine And.intro (by (conv => whnf); (repeat (refine And.intro (by (conv => whnf); first | rfl | exact trivial) ?_; conv => whnf)); exact trivial) ?_
          try refine goR_run tab _ _ _ _ _ _ ?_
          conv => whnf
          repeat (first | (refine And.intro (by omega) ?_; (try intro _); conv => whnf) | (refine And.intro ?_ (by omega); (try intro _); conv => whnf) | (refine And.intro (by (conv => whnf); (repeat (refine And.intro (by (conv => whnf); first | rfl | exact trivial) ?_; conv => whnf)); exact trivial) ?_; conv => whnf) | (refine ⟨_, RemV.nonneg (by omega) (by omega), ?_⟩; conv => whnf))
          try refine goS_run tab 1000 _ _ _ _ ?_
          conv => whnf
          repeat (first | (refine And.intro (by omega) ?_; (try intro _); conv => whnf) | (refine And.intro ?_ (by omega); (try intro _); conv => whnf) | (refine ⟨_, RemV.nonneg (by omega) (by omega), ?_⟩; conv => whnf))
          refine RunsS.subR [] (meet (()) ?BJ8) ?SS8 ?HH8
          case BJ8 => first | trivial | omega | ((try dsimp only); omega)
          case SS8 => repeat (first | exact trivial | refine ⟨by rfl, ?_⟩)
          case HH8 => repeat (first | exact trivial | refine ⟨by rfl, ?_⟩)
    | inl y =>
      obtain ⟨y1, y2, y3⟩ := resolveU_inl.1 hy
      have hcy := checkU_res hy
      have hiy := hil.res y3
      have hyr := rowsU_len y
      have hyl := y3.1
      have htk : y.take x.length = x := by rw [more_take x4 y3 x.length (Nat.le_refl _), List.take_length]
      have C := (resOk (by omega) hil hy).ofRo tabOk 33 (fun _ _ p hp => by rw [List.mem_singleton.1 hp]; rfl)
      rw [← rowsU_app] at C
      refine RunsS.join (fun (_ : Unit) => [(0, .buf 0), (2, .v (.int .i64 a)), (3, .v (.int .i64 b)), (9, .ptr 2 0), (11, .buf 3), (13, .buf 4), (14, .v (.int .i64 0))]) (fun (_ : Unit) => [ownU 4 y, ownU 3 x, rtB 2 r, (0, .ro 8 (rowsU l))]) 5 (fun (_ : Unit) => True) ?_ (fun meet => ?_)
      · intro _ _
        try refine goS_run tab 1000 _ _ _ _ ?_
        conv => whnf
        repeat (first | (refine And.intro (by omega) ?_; (try intro _); conv => whnf) | (refine And.intro ?_ (by omega); (try intro _); conv => whnf) | (refine ⟨_, RemV.nonneg (by omega) (by omega), ?_⟩; conv => whnf))
        refine RunsS.freeze 4 (fun F' h' conv hs K0 => ?_)
        have hT' : TabT F' h' := tabOk.mono _ _ _ hs (tabOk.keep _ _ _ hT.t K0)
        try refine goS_run tab 1000 _ _ _ _ ?_
        conv => whnf
        repeat (first | (refine And.intro (by omega) ?_; (try intro _); conv => whnf) | (refine And.intro ?_ (by omega); (try intro _); conv => whnf) | (refine ⟨_, RemV.nonneg (by omega) (by omega), ?_⟩; conv => whnf))
        refine RunsS.sliceTo tab (b := 4) (rows := rowsU y) (n := ((rowsU x).length : Int)) ?_ ⟨by omega, by omega⟩
        try refine goS_run tab 1000 _ _ _ _ ?_
        conv => whnf
        repeat (first | (refine And.intro (by omega) ?_; (try intro _); conv => whnf) | (refine And.intro ?_ (by omega); (try intro _); conv => whnf) | (refine ⟨_, RemV.nonneg (by omega) (by omega), ?_⟩; conv => whnf))
        have e5 : (rowsU y).take (((rowsU x).length : Int)).toNat = rowsU x := by rw [Int.toNat_natCast, hxr, ← rowsU_take, htk]
        refine RunsS.callV (fun Ez Hz Az Sz K => same_fn x x (e5 ▸ Sz.ro (b := 5) rfl) (Sz.ro (b := 3) rfl)) ?_
        conv => whnf
        rw [decide_eq_true rfl]
        try dsimp only
        try refine goS_run tab 1000 _ _ _ _ ?_
        conv => whnf
        repeat (first | (refine And.intro (by omega) ?_; (try intro _); conv => whnf) | (refine And.intro ?_ (by omega); (try intro _); conv => whnf) | (refine ⟨_, RemV.nonneg (by omega) (by omega), ?_⟩; conv => whnf))
        by_cases k1 : (x.length : Int) ≤ a
        · conv => whnf
          repeat (first | (refine And.intro (by omega) ?_; (try intro _); conv => whnf) | (refine And.intro ?_ (by omega); (try intro _); conv => whnf) | (refine ⟨_, RemV.nonneg (by omega) (by omega), ?_⟩; conv => whnf))
          refine RunsS.retU (UnwS.ret tab Tryd.func5 rfl fun Ez Hz Az Sz K => ⟨_, rfl, rfl, (conv Hz K).keeps⟩)
        by_cases k2 : (x.length : Int) ≤ b
        · conv => whnf
          repeat (first | (refine And.intro (by omega) ?_; (try intro _); conv => whnf) | (refine And.intro ?_ (by omega); (try intro _); conv => whnf) | (refine ⟨_, RemV.nonneg (by omega) (by omega), ?_⟩; conv => whnf))
          refine RunsS.retU (UnwS.ret tab Tryd.func5 rfl fun Ez Hz Az Sz K => ⟨_, rfl, rfl, (conv Hz K).keeps⟩)
        conv => whnf
        repeat (first | (refine And.intro (by omega) ?_; (try intro _); conv => whnf) | (refine And.intro ?_ (by omega); (try intro _); conv => whnf) | (refine ⟨_, RemV.nonneg (by omega) (by omega), ?_⟩; conv => whnf))
        refine RunsS.callV (fun Ez Hz Az Sz K => convert_fn x hix (Sz.ro (b := 3) rfl) a b r (tabOk.at hT' K).1) ?_
        conv => whnf
        try refine goS_run tab 1000 _ _ _ _ ?_
        conv => whnf
        repeat (first | (refine And.intro (by omega) ?_; (try intro _); conv => whnf) | (refine And.intro ?_ (by omega); (try intro _); conv => whnf) | (refine ⟨_, RemV.nonneg (by omega) (by omega), ?_⟩; conv => whnf))
        refine RunsS.callV (fun Ez Hz Az Sz K => convert_fn y hiy (Sz.ro (b := 4) rfl) a b r (tabOk.at hT' K).1) ?_
        conv => whnf
        rw [conv_more hc hcy htk (by omega) (by omega)]
        try dsimp only
        try refine goS_run tab 1000 _ _ _ _ ?_
        conv => whnf
        repeat (first | (refine And.intro (by omega) ?_; (try intro _); conv => whnf) | (refine And.intro ?_ (by omega); (try intro _); conv => whnf) | (refine ⟨_, RemV.nonneg (by omega) (by omega), ?_⟩; conv => whnf))
        refine And.intro (fun _ => ?_) (fun hn => absurd (⟨rfl, rfl, rfl⟩) hn)
        conv => whnf
        try refine goS_run tab 1000 _ _ _ _ ?_
        conv => whnf
        repeat (first | (refine And.intro (by omega) ?_; (try intro _); conv => whnf) | (refine And.intro ?_ (by omega); (try intro _); conv => whnf) | (refine ⟨_, RemV.nonneg (by omega) (by omega), ?_⟩; conv => whnf))
        refine RunsS.retU (UnwS.ret tab Tryd.func5 rfl fun Ez Hz Az Sz K => ⟨_, rfl, congrArg Value.bool (dec_t rfl), (conv Hz K).keeps⟩)
      · refine RunsS.held tab (.fl 1 (.fl 3 (.e2 0 [3] (.e2 2 [3] (.e1 4 [] (.e1 5 [] (.e1 6 [] (.fl 7 (.fl 8 (.fl 9 (.fl 10 (.fl 11 .done)))))))) 4 [] (.e1 2 [3] (.e1 5 [] (.e1 6 [] (.fl 7 (.fl 8 (.fl 9 (.fl 10 (.fl 11 .done))))))))) 4 [] (.e1 0 [3] (.e1 2 [3] (.e1 5 [] (.e1 6 [] (.fl 7 (.fl 8 (.fl 9 (.fl 10 (.fl 11 .done)))))))))))) (by kernel_rfl) ?_
        conv => whnf
        try refine goR_run tab _ _ _ _ _ _ ?_
        conv => whnf
        repeat (first | (refine And.intro (by omega) ?_; (try intro _); conv => whnf) | (refine And.intro ?_ (by omega); (try intro _); conv => whnf) | (refine And.intro (by (conv => whnf); (repeat (refine And.intro (by (conv => whnf); first | rfl | exact trivial) ?_; conv => whnf)); exact trivial) ?_; conv => whnf) | (refine ⟨_, RemV.nonneg (by omega) (by omega), ?_⟩; conv => whnf))
        try refine goS_run tab 1000 _ _ _ _ ?_
        conv => whnf
        repeat (first | (refine And.intro (by omega) ?_; (try intro _); conv => whnf) | (refine And.intro ?_ (by omega); (try intro _); conv => whnf) | (refine ⟨_, RemV.nonneg (by omega) (by omega), ?_⟩; conv => whnf))
        refine ⟨?_, ?_⟩ <;> conv => whnf
        · try refine goR_run tab _ _ _ _ _ _ ?_
          conv => whnf
          repeat (first | (refine And.intro (by omega) ?_; (try intro _); conv => whnf) | (refine And.intro ?_ (by omega); (try intro _); conv => whnf) | (refine And.intro (by (conv => whnf); (repeat (refine And.intro (by (conv => whnf); first | rfl | exact trivial) ?_; conv => whnf)); exact trivial) ?_; conv => whnf) | (refine ⟨_, RemV.nonneg (by omega) (by omega), ?_⟩; conv => whnf))
          try refine goS_run tab 1000 _ _ _ _ ?_
          conv => whnf
          repeat (first | (refine And.intro (by omega) ?_; (try intro _); conv => whnf) | (refine And.intro ?_ (by omega); (try intro _); conv => whnf) | (refine ⟨_, RemV.nonneg (by omega) (by omega), ?_⟩; conv => whnf))
          refine ⟨?_, ?_⟩ <;> conv => whnf
          · refine And.intro (appOb2 (ap1 _ rfl)) ?_
            conv => whnf
            try refine goR_run tab _ _ _ _ _ _ ?_
            conv => whnf
            repeat (first | (refine And.intro (by omega) ?_; (try intro _); conv => whnf) | (refine And.intro ?_ (by omega); (try intro _); conv => whnf) | (refine And.intro (by (conv => whnf); (repeat (refine And.intro (by (conv => whnf); first | rfl | exact trivial) ?_; conv => whnf)); exact trivial) ?_; conv => whnf) | (refine ⟨_, RemV.nonneg (by omega) (by omega), ?_⟩; conv => whnf))
            try refine goS_run tab 1000 _ _ _ _ ?_
            conv => whnf
            repeat (first | (refine And.intro (by omega) ?_; (try intro _); conv => whnf) | (refine And.intro ?_ (by omega); (try intro _); conv => whnf) | (refine ⟨_, RemV.nonneg (by omega) (by omega), ?_⟩; conv => whnf))
            try refine goR_run tab _ _ _ _ _ _ ?_
            conv => whnf
            repeat (first | (refine And.intro (by omega) ?_; (try intro _); conv => whnf) | (refine And.intro ?_ (by omega); (try intro _); conv => whnf) | (refine And.intro (by (conv => whnf); (repeat (refine And.intro (by (conv => whnf); first | rfl | exact trivial) ?_; conv => whnf)); exact trivial) ?_; conv => whnf) | (refine ⟨_, RemV.nonneg (by omega) (by omega), ?_⟩; conv => whnf))
            try refine goS_run tab 1000 _ _ _ _ ?_
            conv => whnf
            repeat (first | (refine And.intro (by omega) ?_; (try intro _); conv => whnf) | (refine And.intro ?_ (by omega); (try intro _); conv => whnf) | (refine ⟨_, RemV.nonneg (by omega) (by omega), ?_⟩; conv => whnf))
            refine And.intro (appOb2 (ap2 _ _ rfl rfl)) ?_
            conv => whnf
            try refine goR_run tab _ _ _ _ _ _ ?_
            conv => whnf
            repeat (first | (refine And.intro (by omega) ?_; (try intro _); conv => whnf) | (refine And.intro ?_ (by omega); (try intro _); conv => whnf) | (refine And.intro (by (conv => whnf); (repeat (refine And.intro (by (conv => whnf); first | rfl | exact trivial) ?_; conv => whnf)); exact trivial) ?_; conv => whnf) | (refine ⟨_, RemV.nonneg (by omega) (by omega), ?_⟩; conv => whnf))
            try refine goS_run tab 1000 _ _ _ _ ?_
            conv => whnf
            repeat (first | (refine And.intro (by omega) ?_; (try intro _); conv => whnf) | (refine And.intro ?_ (by omega); (try intro _); conv => whnf) | (refine ⟨_, RemV.nonneg (by omega) (by omega), ?_⟩; conv => whnf))
            refine EffR.callT tabOk (hT.t) (C) [7] ?CNr9 (by repeat (first | exact trivial | refine ⟨by rfl, ?_⟩)) ?CNa9
            case CNa9 => rfl
            intro _ _
            conv => whnf
            try refine And.intro (by (conv => whnf); (repeat (refine And.intro (by (conv => whnf); first | rfl | exact trivial) ?_; conv => whnf)); exact trivial) ?_
            try refine goR_run tab _ _ _ _ _ _ ?_
            conv => whnf
            repeat (first | (refine And.intro (by omega) ?_; (try intro _); conv => whnf) | (refine And.intro ?_ (by omega); (try intro _); conv => whnf) | (refine And.intro (by (conv => whnf); (repeat (refine And.intro (by (conv => whnf); first | rfl | exact trivial) ?_; conv => whnf)); exact trivial) ?_; conv => whnf) | (refine ⟨_, RemV.nonneg (by omega) (by omega), ?_⟩; conv => whnf))
            try refine goS_run tab 1000 _ _ _ _ ?_
            conv => whnf
            repeat (first | (refine And.intro (by omega) ?_; (try intro _); conv => whnf) | (refine And.intro ?_ (by omega); (try intro _); conv => whnf) | (refine ⟨_, RemV.nonneg (by omega) (by omega), ?_⟩; conv => whnf))
            refine RunsS.subR [(4, 8)] (meet (()) ?BJ10) ?SS10 ?HH10
            case BJ10 => first | trivial | omega | ((try dsimp only); omega)
            case SS10 => repeat (first | exact trivial | refine ⟨by rfl, ?_⟩)
            case HH10 => repeat (first | exact trivial | refine ⟨by rfl, ?_⟩)
          · try refine goR_run tab _ _ _ _ _ _ ?_
            conv => whnf
            repeat (first | (refine And.intro (by omega) ?_; (try intro _); conv => whnf) | (refine And.intro ?_ (by omega); (try intro _); conv => whnf) | (refine And.intro (by (conv => whnf); (repeat (refine And.intro (by (conv => whnf); first | rfl | exact trivial) ?_; conv => whnf)); exact trivial) ?_; conv => whnf) | (refine ⟨_, RemV.nonneg (by omega) (by omega), ?_⟩; conv => whnf))
            try refine goS_run tab 1000 _ _ _ _ ?_
            conv => whnf
            repeat (first | (refine And.intro (by omega) ?_; (try intro _); conv => whnf) | (refine And.intro ?_ (by omega); (try intro _); conv => whnf) | (refine ⟨_, RemV.nonneg (by omega) (by omega), ?_⟩; conv => whnf))
            refine And.intro (appOb2 (ap1 _ rfl)) ?_
            conv => whnf
            try refine goR_run tab _ _ _ _ _ _ ?_
            conv => whnf
            repeat (first | (refine And.intro (by omega) ?_; (try intro _); conv => whnf) | (refine And.intro ?_ (by omega); (try intro _); conv => whnf) | (refine And.intro (by (conv => whnf); (repeat (refine And.intro (by (conv => whnf); first | rfl | exact trivial) ?_; conv => whnf)); exact trivial) ?_; conv => whnf) | (refine ⟨_, RemV.nonneg (by omega) (by omega), ?_⟩; conv => whnf))
            try refine goS_run tab 1000 _ _ _ _ ?_
            conv => whnf
            repeat (first | (refine And.intro (by omega) ?_; (try intro _); conv => whnf) | (refine And.intro ?_ (by omega); (try intro _); conv => whnf) | (refine ⟨_, RemV.nonneg (by omega) (by omega), ?_⟩; conv => whnf))
            refine And.intro (appOb2 (ap2 _ _ rfl rfl)) ?_
            conv => whnf
            try refine goR_run tab _ _ _ _ _ _ ?_
            conv => whnf
            repeat (first | (refine And.intro (by omega) ?_; (try intro _); conv => whnf) | (refine And.intro ?_ (by omega); (try intro _); conv => whnf) | (refine And.intro (by (conv => whnf); (repeat (refine And.intro (by (conv => whnf); first | rfl | exact trivial) ?_; conv => whnf)); exact trivial) ?_; conv => whnf) | (refine ⟨_, RemV.nonneg (by omega) (by omega), ?_⟩; conv => whnf))
            try refine goS_run tab 1000 _ _ _ _ ?_
            conv => whnf
            repeat (first | (refine And.intro (by omega) ?_; (try intro _); conv => whnf) | (refine And.intro ?_ (by omega); (try intro _); conv => whnf) | (refine ⟨_, RemV.nonneg (by omega) (by omega), ?_⟩; conv => whnf))
            refine EffR.callT tabOk (hT.t) (C) [7] ?CNr11 (by repeat (first | exact trivial | refine ⟨by rfl, ?_⟩)) ?CNa11
            case CNa11 => rfl
            intro _ _
            conv => whnf
            try refine And.intro (by (conv => whnf); (repeat (refine And.intro (by (conv => whnf); first | rfl | exact trivial) ?_; conv => whnf)); exact trivial) ?_
            try refine goR_run tab _ _ _ _ _ _ ?_
            conv => whnf
            repeat (first | (refine And.intro (by omega) ?_; (try intro _); conv => whnf) | (refine And.intro ?_ (by omega); (try intro _); conv => whnf) | (refine And.intro (by (conv => whnf); (repeat (refine And.intro (by (conv => whnf); first | rfl | exact trivial) ?_; conv => whnf)); exact trivial) ?_; conv => whnf) | (refine ⟨_, RemV.nonneg (by omega) (by omega), ?_⟩; conv => whnf))
            try refine goS_run tab 1000 _ _ _ _ ?_
            conv => whnf
            repeat (first | (refine And.intro (by omega) ?_; (try intro _); conv => whnf) | (refine And.intro ?_ (by omega); (try intro _); conv => whnf) | (refine ⟨_, RemV.nonneg (by omega) (by omega), ?_⟩; conv => whnf))
            refine RunsS.subR [(4, 8)] (meet (()) ?BJ12) ?SS12 ?HH12
            case BJ12 => first | trivial | omega | ((try dsimp only); omega)
            case SS12 => repeat (first | exact trivial | refine ⟨by rfl, ?_⟩)
            case HH12 => repeat (first | exact trivial | refine ⟨by rfl, ?_⟩)
        · try refine goR_run tab _ _ _ _ _ _ ?_
          conv => whnf
          repeat (first | (refine And.intro (by omega) ?_; (try intro _); conv => whnf) | (refine And.intro ?_ (by omega); (try intro _); conv => whnf) | (refine And.intro (by (conv => whnf); (repeat (refine And.intro (by (conv => whnf); first | rfl | exact trivial) ?_; conv => whnf)); exact trivial) ?_; conv => whnf) | (refine ⟨_, RemV.nonneg (by omega) (by omega), ?_⟩; conv => whnf))
          try refine goS_run tab 1000 _ _ _ _ ?_
          conv => whnf
          repeat (first | (refine And.intro (by omega) ?_; (try intro _); conv => whnf) | (refine And.intro ?_ (by omega); (try intro _); conv => whnf) | (refine ⟨_, RemV.nonneg (by omega) (by omega), ?_⟩; conv => whnf))
          refine And.intro (appOb2 (ap1 _ rfl)) ?_
          conv => whnf
          try refine goR_run tab _ _ _ _ _ _ ?_
          conv => whnf
          repeat (first | (refine And.intro (by omega) ?_; (try intro _); conv => whnf) | (refine And.intro ?_ (by omega); (try intro _); conv => whnf) | (refine And.intro (by (conv => whnf); (repeat (refine And.intro (by (conv => whnf); first | rfl | exact trivial) ?_; conv => whnf)); exact trivial) ?_; conv => whnf) | (refine ⟨_, RemV.nonneg (by omega) (by omega), ?_⟩; conv => whnf))
          try refine goS_run tab 1000 _ _ _ _ ?_
          conv => whnf
          repeat (first | (refine And.intro (by omega) ?_; (try intro _); conv => whnf) | (refine And.intro ?_ (by omega); (try intro _); conv => whnf) | (refine ⟨_, RemV.nonneg (by omega) (by omega), ?_⟩; conv => whnf))
          refine And.intro (appOb2 (ap2 _ _ rfl rfl)) ?_
          conv => whnf
          try refine goR_run tab _ _ _ _ _ _ ?_
          conv => whnf
          repeat (first | (refine And.intro (by omega) ?_; (try intro _); conv => whnf) | (refine And.intro ?_ (by omega); (try intro _); conv => whnf) | (refine And.intro (by (conv => whnf); (repeat (refine And.intro (by (conv => whnf); first | rfl | exact trivial) ?_; conv => whnf)); exact trivial) ?_; conv => whnf) | (refine ⟨_, RemV.nonneg (by omega) (by omega), ?_⟩; conv => whnf))
          try refine goS_run tab 1000 _ _ _ _ ?_
          conv => whnf
          repeat (first | (refine And.intro (by omega) ?_; (try intro _); conv => whnf) | (refine And.intro ?_ (by omega); (try intro _); conv => whnf) | (refine ⟨_, RemV.nonneg (by omega) (by omega), ?_⟩; conv => whnf))
          refine EffR.callT tabOk (hT.t) (C) [7] ?CNr13 (by repeat (first | exact trivial | refine ⟨by rfl, ?_⟩)) ?CNa13
          case CNa13 => rfl
          intro _ _
          conv => whnf
          try refine And.intro (by (conv => whnf); (repeat (refine And.intro (by (conv => whnf); first | rfl | exact trivial) ?_; conv => whnf)); exact trivial) ?_
          try refine goR_run tab _ _ _ _ _ _ ?_
          conv => whnf
          repeat (first | (refine And.intro (by omega) ?_; (try intro _); conv => whnf) | (refine And.intro ?_ (by omega); (try intro _); conv => whnf) | (refine And.intro (by (conv => whnf); (repeat (refine And.intro (by (conv => whnf); first | rfl | exact trivial) ?_; conv => whnf)); exact trivial) ?_; conv => whnf) | (refine ⟨_, RemV.nonneg (by omega) (by omega), ?_⟩; conv => whnf))
          try refine goS_run tab 1000 _ _ _ _ ?_
          conv => whnf
          repeat (first | (refine And.intro (by omega) ?_; (try intro _); conv => whnf) | (refine And.intro ?_ (by omega); (try intro _); conv => whnf) | (refine ⟨_, RemV.nonneg (by omega) (by omega), ?_⟩; conv => whnf))
          refine RunsS.subR [(4, 8)] (meet (()) ?BJ14) ?SS14 ?HH14
          case BJ14 => first | trivial | omega | ((try dsimp only); omega)
          case SS14 => repeat (first | exact trivial | refine ⟨by rfl, ?_⟩)
          case HH14 => repeat (first | exact trivial | refine ⟨by rfl, ?_⟩)
end Go.Proofs.YtgnciigjhpcdmaaDoor

namespace Go.Proofs.YtgnciigjhpcdmaaDoor.unitsMore
open Go Go.Fw Go.ChangeShapes Go.ChangeMaps Go.WideShapes Go.ChangeAt Go.RowKit
set_option maxRecDepth 100000

theorem int_wf {n : Int} (h : (Lit.int .i64 n).wf = true) : -9223372036854775808 ≤ n ∧ n ≤ 9223372036854775807 := by
  have h1 : IntKind.i64.min ≤ n ∧ n ≤ 9223372036854775807 := by simpa [Lit.wf] using h
  have e : IntKind.i64.min = -9223372036854775808 := rfl
  omega

/-- WHAT THE WALK GIVES, FOR EVERY ARGUMENT AND EVERY WORLD THAT HOLDS THE TABLE. -/
theorem contract (H : Type) (enc : TypeId × Value → H) (W : World) (base : Nat) (args : Array Value) (ds gs : List (DataW H)) (before : List MemPlace)
    (hval : ∀ (j : Nat) t v, Tryd.f5.params[j]? = some t → args[j]? = some v → Value.okWide Tryd.prog W .any base t v)
    (hW : DataW.Whole enc Tryd.prog Tryd.f5.params.toList Rows.unitsMoreSpec.vars false W args.toList ds gs before) (hL : laidMetH Tryd.prog Rows.unitsMoreRow.laid W) :
    Calls Tryd.prog 5 args W fun e W' => ∃ v, e = .returned v ∧ Rows.unitsMoreSpec.post enc Tryd.prog Tryd.f5 false true false false W args v W' := by
  have hW' := hW
  obtain ⟨p, q, hA0, hV, rfl, hfz, hnd⟩ := hW
  have hA : DataW.TrodAll enc Tryd.prog W 0 (fun _ => true) true Tryd.f5.params.toList args.toList ds p := hA0
  rw [Tryd.params5] at hA hval
  obtain ⟨v0, vs0, d0, ds0, p0, q0, hargs, rfl, rfl, h0, r0⟩ := trodAll_cons hA
  obtain ⟨v1, vs1, d1, ds1, p1, q1, rfl, rfl, rfl, h1, r1⟩ := trodAll_cons r0
  obtain ⟨v2, vs2, d2, ds2, p2, q2, rfl, rfl, rfl, h2, r2⟩ := trodAll_cons r1
  obtain ⟨v3, vs3, d3, ds3, p3, q3, rfl, rfl, rfl, h3, r3⟩ := trodAll_cons r2
  obtain ⟨v4, vs4, d4, ds4, p4, q4, rfl, rfl, rfl, h4, r4⟩ := trodAll_cons r3
  obtain ⟨rfl, rfl, rfl⟩ := trodAll_nil r4
  obtain rfl : args = #[v0, v1, v2, v3, v4] := by cases args; simp_all
  obtain ⟨rfl, rfl⟩ := trodVars_none hV
  obtain ⟨l0, R0, U0⟩ := open_units (hval 0 22 v0 rfl rfl) h0
  obtain ⟨u1, rfl, U1⟩ := open_unit (hval 1 33 v1 rfl rfl) h1
  obtain ⟨x2, rfl, rfl, rfl, m2⟩ := open_int Tryd.underlying3 (hval 2 3 v2 rfl rfl) h2
  obtain ⟨x3, rfl, rfl, rfl, m3⟩ := open_int Tryd.underlying3 (hval 3 3 v3 rfl rfl) h3
  obtain ⟨f0, f1, f2, B⟩ := ratioB
  obtain ⟨b4, s4, u4, rfl, rfl, rfl, m4, k4⟩ := open_bss B (hval 4 31 v4 rfl rfl) h4
  clear hA0
  simp only [List.append_nil] at hW'
  have walk := FnV.below (W := W) (R := fun r => r = .bool true) (unitsMore_fn l0 u1 x2 x3 ⟨b4, s4, u4⟩ R0 U0 (fun w hw => by rw [List.mem_singleton.1 hw]; exact U1) (table hL))
  refine walk.mono fun e W' ⟨v, he, hv, hg⟩ => ?_
  subst he hv
  exact ⟨_, rfl, post_true laidOut (by kernel_rfl) Tryd.underlying4 rfl hW' rfl (fun _ _ => ⟨rfl, rfl, rfl⟩) hg⟩

theorem laid_met (os : Os) : laidMet Tryd.prog Rows.unitsMoreRow.laid ((laidWorld os).forCall (fun _ _ => 0) ⟨#[], #[.slice none 0 0, .agg #[.string ⟨#[]⟩, .string ⟨#[]⟩, .int .i64 0, .int .i64 0, .int .i64 0, .bool false, .string ⟨#[]⟩, .string ⟨#[]⟩], .int .i64 0, .int .i64 0, .agg #[.bool false, .string ⟨#[]⟩, .string ⟨#[]⟩]], []⟩).memory :=
  laidMet_of_run' 8 (by kernel_rfl) (by kernel_rfl)
theorem reads (os : Os) {H : Type} (enc : TypeId × Value → H) : ∃ places, DataW.whole enc Tryd.prog ((laidWorld os).forCall (fun _ _ => 0) ⟨#[], #[.slice none 0 0, .agg #[.string ⟨#[]⟩, .string ⟨#[]⟩, .int .i64 0, .int .i64 0, .int .i64 0, .bool false, .string ⟨#[]⟩, .string ⟨#[]⟩], .int .i64 0, .int .i64 0, .agg #[.bool false, .string ⟨#[]⟩, .string ⟨#[]⟩]], []⟩).memory Tryd.f5.params.toList Rows.unitsMoreSpec.vars false (#[.slice none 0 0, .agg #[.string ⟨#[]⟩, .string ⟨#[]⟩, .int .i64 0, .int .i64 0, .int .i64 0, .bool false, .string ⟨#[]⟩, .string ⟨#[]⟩], .int .i64 0, .int .i64 0, .agg #[.bool false, .string ⟨#[]⟩, .string ⟨#[]⟩]] : Array Value).toList 8 = some ([.nil, .agg [.lit (.string []), .lit (.string []), .lit (.int .i64 0), .lit (.int .i64 0), .lit (.int .i64 0), .agg [.lit (.bool false), .lit (.string []), .lit (.string [])]], .lit (.int .i64 0), .lit (.int .i64 0), .agg [.lit (.bool false), .lit (.string []), .lit (.string [])]], [], places) :=
  ⟨[], by kernel_rfl⟩

theorem lifted (os : Os) (started : os.Started) (H : Type) (enc : TypeId × Value → H) (F : Stop.Interp) :
    ReturnsInHanded {} Tryd.checked os 5 .any ((OpenSpec.ofChange Rows.unitsMoreSpec).preRow enc Tryd.prog Tryd.f5 Rows.unitsMoreRow.domain false Rows.unitsMoreRow.laid) (((OpenSpec.ofChange Rows.unitsMoreSpec).at F).post enc Tryd.prog Tryd.f5 false true false false) := by
  obtain ⟨places, hx⟩ := reads os enc
  refine returnsInHanded_of_row (C := Tryd.checked) (s := OpenSpec.ofChange Rows.unitsMoreSpec) own started (by kernel_rfl) Tryd.func5
    (witness_row_at (enc := enc) (C := Tryd.checked) false (laidWorld os) #[.slice none 0 0, .agg #[.string ⟨#[]⟩, .string ⟨#[]⟩, .int .i64 0, .int .i64 0, .int .i64 0, .bool false, .string ⟨#[]⟩, .string ⟨#[]⟩], .int .i64 0, .int .i64 0, .agg #[.bool false, .string ⟨#[]⟩, .string ⟨#[]⟩]] rfl (by kernel_rfl) (by kernel_rfl) (by kernel_rfl)
      (OpenSpec.preRow_of_cond 8 hx (by kernel_rfl) (fun k hk => by cases hk) (by kernel_rfl) (laid_met os))) ?_
  intro W base args ds gs before hval hW _ _ hS hL _ _
  exact contract H enc W base args ds gs before hval hW hL

theorem said : Rows.UnitsMoreSaid :=
  OpenClaim.holds_of_cond 5 Tryd.f5 rfl rfl rfl rfl rfl rfl rfl ⟨rfl, rfl, rfl, rfl, rfl⟩ rfl rfl rfl rfl rfl (by kernel_rfl) Tryd.func5 (by kernel_rfl)
    (of_decide_eq_true (by kernel_rfl)) (by unfold Func.isWrapper; first | (rw [if_pos (by decide +kernel)]; kernel_rfl) | (rw [if_neg (by decide +kernel)]; exact ⟨rfl, rfl⟩))
    (fun os started H enc _ F => by rw [OpenClaim.pre_eq_preRow]; exact lifted os started H enc F)

/-- No parameter wants a stand-in; the program's own looks are off. -/
theorem plain (f : FuncId) (fn : Func) (hf : Tryd.pinned.checked.prog.funcNamed "backflush/backflushlaw09.UnitsMore" = some f) (hfn : Tryd.pinned.checked.prog.funcs[f]? = some fn) :
    true = Tryd.pinned.checked.prog.looks [] ∧ ∀ (j : Nat) t, fn.params[j]? = some t → Tryd.pinned.checked.prog.wantsStandIn t = false := by
  obtain rfl : f = 5 := Option.some.inj ((show Tryd.prog.funcNamed "backflush/backflushlaw09.UnitsMore" = some 5 by kernel_rfl).symm.trans hf) |>.symm
  obtain rfl : fn = Tryd.f5 := (Option.some.inj (Tryd.func5.symm.trans hfn)).symm
  refine ⟨by kernel_rfl, fun j t ht => ?_⟩
  rw [Tryd.params5] at ht
  have hm := Array.mem_of_getElem? ht
  simp only [List.mem_toArray, List.mem_cons, List.not_mem_nil, or_false] at hm
  rcases hm with rfl | rfl | rfl | rfl | rfl
  · exact (show Tryd.prog.wantsStandIn 22 = false by kernel_rfl)
  · exact (show Tryd.prog.wantsStandIn 33 = false by kernel_rfl)
  · exact (show Tryd.prog.wantsStandIn 3 = false by kernel_rfl)
  · exact (show Tryd.prog.wantsStandIn 3 = false by kernel_rfl)
  · exact (show Tryd.prog.wantsStandIn 31 = false by kernel_rfl)

/-- THE CARD -/
theorem card : Rows.UnitsMoreCardSaid :=
  Claim7.holds_tied_plain_at .later [] _ _ _ _ said (fun _ h => by cases h) (by kernel_rfl) (fun _ h => by cases h) unitsMore_row_tie rfl ⟨rfl, rfl⟩ (by kernel_rfl) rfl plain (by kernel_rfl)
end Go.Proofs.YtgnciigjhpcdmaaDoor.unitsMore
